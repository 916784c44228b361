/- Proved: Parse returns the reference's vector of any string of at most 200 bytes, and Text of what was read is the string. -/
import Derived.Test.YtajpgmpidphmgaaPAllx4
import Derived.Test.YtajpgmpidphmgaaPuC
namespace Go.Proofs.Ytajpgmpidphmgaa.Pure
open Go.RowKit Go.Proofs.Ytajpgmpidphmgaa.PAll Go.Proofs.YtajpgmpidphmgaaW.PrintWords Go.Proofs.YtajpgmpidphmgaaW.PrintLast

theorem LogicReads : netwrightlaw01_LogicReads.Pure := reads_pure

end Go.Proofs.Ytajpgmpidphmgaa.Pure
