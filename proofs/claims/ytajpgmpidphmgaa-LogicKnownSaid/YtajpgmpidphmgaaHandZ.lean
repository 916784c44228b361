/- All hand contracts that the print takes as given. -/
import Derived.Test.YtajpgmpidphmgaaHandC
import Derived.Test.YtajpgmpidphmgaaHandD
import Derived.Test.YtajpgmpidphmgaaHandE
import Derived.Test.YtajpgmpidphmgaaHandF
import Derived.Test.YtajpgmpidphmgaaHandI
import Derived.Test.YtajpgmpidphmgaaHandJ
