/- Proved: resolving any list of at most 200 bits with z changes nothing, with x gives x, three times a bit is the bit, and with a bit it is what it was, or the bit (where it was z), or x. -/
import Derived.Test.YtajpgmpidphmgaaPDrvx1
import Derived.Test.YtajpgmpidphmgaaPuD
namespace Go.Proofs.Ytajpgmpidphmgaa.Pure
open Go.RowKit Go.Proofs.Ytajpgmpidphmgaa.PDrv

theorem LogicDriven : netwrightlaw01_LogicDriven.Pure := driven_pure

end Go.Proofs.Ytajpgmpidphmgaa.Pure
