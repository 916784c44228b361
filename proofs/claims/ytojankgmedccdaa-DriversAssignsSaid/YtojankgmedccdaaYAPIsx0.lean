/- Lemmas. -/
import Derived.Test.YtojankgmedccdaaYAHandD
namespace Go.Proofs.Ytojankgmedccdaa.PIs
open Go.RowKit Own PTy Hand Wo
attribute [local go_sem] BK BL Ba Bc BD BF BM BN
set_option linter.unusedVariables false
set_option linter.unusedSimpArgs false
def Ho : Option Int → Value
 | none => .nilIface
 | some c => .iface 0 (.int .i64 c)
theorem DC : Ho none = .nilIface := rfl
theorem DD (c : Int) : Ho (some c) = .iface 0 (.int .i64 c) := rfl
theorem NM : (Try.prog.info? 9).map (fun i => (i.zero, i.size, i.bytes)) = some (some (.string ⟨#[]⟩), 1, 16) := by kernel_rfl
theorem H9 : (Try.prog.info? 30).map (fun i => (i.zero, i.size, i.bytes)) = some (some (.agg #[(.int .i64 0), (.int .i64 0), (.slice none 0 0), (.slice none 0 0)]), 4, 64) := by kernel_rfl
