/- Lemmas for LawDriversInertial. -/
import Derived.Test.YtojankgmedccdaaYIPAwx1
import Derived.Test.YtojankgmedccdaaYIPAwx3
namespace Go.Proofs.Ytojankgmedccdaa.PGn
open Go.RowKit Own PTy Hand PIs PAw YtojankgmedccdaaW.PrintWords YtojankgmedccdaaW.PrintLast YtojankgmedccdaaW.PrintMore
attribute [local go_sem] BI BJ Bc Bd Av Ay BK BL
set_option linter.unusedVariables false
set_option linter.unusedSimpArgs false
def Gd : Option Int → Value
 | none => .nilIface
 | some c => .iface 0 (.int .i64 c)
theorem EJ : Gd none = .nilIface := rfl
theorem EK (c : Int) : Gd (some c) = .iface 0 (.int .i64 c) := rfl
theorem Gs : (Try.prog.info? 30).map (fun i => (i.zero, i.size, i.bytes)) = some (some (.agg #[(.int .i64 0), (.int .i64 0), (.slice none 0 0), (.slice none 0 0)]), 4, 64) := by kernel_rfl
theorem Fq : (Try.prog.info? 63).map (fun i => (i.zero, i.size, i.bytes)) = some (some (.agg #[(.int .i64 0), (.int .i64 0), (.int .i64 0), (.slice none 0 0), (.slice none 0 0)]), 5, 72) := by kernel_rfl
theorem Er : (Try.prog.info? 73).map (fun i => (i.zero, i.size, i.bytes)) = some (some (.int .u8 0), 1, 1) := by kernel_rfl
end Go.Proofs.Ytojankgmedccdaa.PGn
