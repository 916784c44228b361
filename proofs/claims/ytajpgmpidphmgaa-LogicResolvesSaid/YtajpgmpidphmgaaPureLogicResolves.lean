/- Proved: Resolve returns what any list of at most 200 bits is resolved to, as the reference says; a longer list is only asked for the fixed calls. -/
import Derived.Test.YtajpgmpidphmgaaPAllx4
import Derived.Test.YtajpgmpidphmgaaPuB
namespace Go.Proofs.Ytajpgmpidphmgaa.Pure
open Go.RowKit Go.Proofs.Ytajpgmpidphmgaa.PAll Go.Proofs.YtajpgmpidphmgaaW.PrintWords Go.Proofs.YtajpgmpidphmgaaW.PrintLast

theorem LogicResolves : netwrightlaw01_LogicResolves.Pure := resolves_pure

end Go.Proofs.Ytajpgmpidphmgaa.Pure
