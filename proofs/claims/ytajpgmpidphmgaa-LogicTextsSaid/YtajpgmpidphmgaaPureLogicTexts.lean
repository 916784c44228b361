/- Proved: Parse of the Text of a vector is the vector. -/
import Derived.Test.YtajpgmpidphmgaaPAllx4
import Derived.Test.YtajpgmpidphmgaaPuC
namespace Go.Proofs.Ytajpgmpidphmgaa.Pure
open Go.RowKit Go.Proofs.Ytajpgmpidphmgaa.PAll Go.Proofs.YtajpgmpidphmgaaW.PrintWords Go.Proofs.YtajpgmpidphmgaaW.PrintLast

theorem LogicTexts : netwrightlaw01_LogicTexts.Pure := texts_pure

end Go.Proofs.Ytajpgmpidphmgaa.Pure
