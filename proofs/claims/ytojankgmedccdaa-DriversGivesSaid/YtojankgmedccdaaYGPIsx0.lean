/- Lemmas for LawDriversGives. -/
import Derived.Test.YtojankgmedccdaaYGHandD
namespace Go.Proofs.Ytojankgmedccdaa.PIs
open Go.RowKit Own PTy Hand YtojankgmedccdaaW.PrintWords YtojankgmedccdaaW.PrintLast YtojankgmedccdaaW.PrintMore
attribute [local go_sem] BI BJ Be Bf Ar Au BK BL
set_option linter.unusedVariables false
set_option linter.unusedSimpArgs false
def Gm : Option Int → Value
 | none => .nilIface
 | some c => .iface 0 (.int .i64 c)
theorem CQ : Gm none = .nilIface := rfl
theorem CR (c : Int) : Gm (some c) = .iface 0 (.int .i64 c) := rfl
theorem Ms : (Try.prog.info? 9).map (fun i => (i.zero, i.size, i.bytes)) = some (some (.string ⟨#[]⟩), 1, 16) := by kernel_rfl
theorem G6 : (Try.prog.info? 30).map (fun i => (i.zero, i.size, i.bytes)) = some (some (.agg #[(.int .i64 0), (.int .i64 0), (.slice none 0 0), (.slice none 0 0)]), 4, 64) := by kernel_rfl
