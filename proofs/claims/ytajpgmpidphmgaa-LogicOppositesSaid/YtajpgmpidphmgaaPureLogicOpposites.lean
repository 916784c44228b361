/- Proved: nand, nor and xnor are the opposites, the two laws of De Morgan, and not of not. -/
import Derived.Test.YtajpgmpidphmgaaPOppx1
import Derived.Test.YtajpgmpidphmgaaPuE
namespace Go.Proofs.Ytajpgmpidphmgaa.Pure
open Go.RowKit Go.Proofs.Ytajpgmpidphmgaa.POpp Go.Proofs.YtajpgmpidphmgaaW.PrintWords Go.Proofs.YtajpgmpidphmgaaW.PrintLast

theorem LogicOpposites : netwrightlaw01_LogicOpposites.Pure := opp_pure

end Go.Proofs.Ytajpgmpidphmgaa.Pure
