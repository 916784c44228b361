/- Lemmas. -/
import Derived.Test.YtojankgmedccdaaYNHandD
namespace Go.Proofs.Ytojankgmedccdaa.PIs
open Go.RowKit Own PTy Hand Wo
attribute [local go_sem] BS BU Bf Bg BC BD BX BZ
set_option linter.unusedVariables false
set_option linter.unusedSimpArgs false
def H8 : Option Int → Value
 | none => .nilIface
 | some c => .iface 0 (.int .i64 c)
theorem DN : H8 none = .nilIface := rfl
theorem DR (c : Int) : H8 (some c) = .iface 0 (.int .i64 c) := rfl
theorem NN : (Try.prog.info? 9).map (fun i => (i.zero, i.size, i.bytes)) = some (some (.string ⟨#[]⟩), 1, 16) := by kernel_rfl
theorem IW : (Try.prog.info? 30).map (fun i => (i.zero, i.size, i.bytes)) = some (some (.agg #[(.int .i64 0), (.int .i64 0), (.slice none 0 0), (.slice none 0 0)]), 4, 64) := by kernel_rfl
