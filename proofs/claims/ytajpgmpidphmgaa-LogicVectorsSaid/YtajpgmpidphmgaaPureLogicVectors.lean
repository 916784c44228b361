/- Proved: the functions on vectors and their references say the same. -/
import Derived.Test.YtajpgmpidphmgaaPVecF12
import Derived.Test.YtajpgmpidphmgaaPvI
namespace Go.Proofs.Ytajpgmpidphmgaa.Pure
open Go.RowKit Go.Proofs.Ytajpgmpidphmgaa.PVec Go.Proofs.YtajpgmpidphmgaaW.PrintWords Go.Proofs.YtajpgmpidphmgaaW.PrintLast

theorem LogicVectors : netwrightlaw01_LogicVectors.Pure := fun a0 l1 l2 _ _ _ w1 _ _ w2 => vec_pure a0 l1 l2 (u8_list w1) (u8_list w2)

end Go.Proofs.Ytajpgmpidphmgaa.Pure
