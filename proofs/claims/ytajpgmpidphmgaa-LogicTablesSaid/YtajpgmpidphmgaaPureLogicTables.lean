/- Proved: Op, Not and Edge return what the reference's tables say, for any name and any two numbers of the kind uint8 (the name within the model's reach). -/
import Derived.Test.YtajpgmpidphmgaaPAllx3
import Derived.Test.YtajpgmpidphmgaaPuA
namespace Go.Proofs.Ytajpgmpidphmgaa.Pure
open Go.RowKit Go.Proofs.Ytajpgmpidphmgaa.PAll Go.Proofs.YtajpgmpidphmgaaW.PrintWords Go.Proofs.YtajpgmpidphmgaaW.PrintLast

theorem LogicTables : netwrightlaw01_LogicTables.Pure := tables_pure

end Go.Proofs.Ytajpgmpidphmgaa.Pure
