/- Lemmas. -/
import Derived.Test.YtojankgmedccdaaYLHandD
namespace Go.Proofs.Ytojankgmedccdaa.PIs
open Go.RowKit Own PTy Hand Wo
attribute [local go_sem] BO BR Bl Bn BC BD BS BU
set_option linter.unusedVariables false
set_option linter.unusedSimpArgs false
def G7 : Option Int → Value
 | none => .nilIface
 | some c => .iface 0 (.int .i64 c)
theorem Ee : G7 none = .nilIface := rfl
theorem Ef (c : Int) : G7 (some c) = .iface 0 (.int .i64 c) := rfl
theorem Mi : (Try.prog.info? 9).map (fun i => (i.zero, i.size, i.bytes)) = some (some (.string ⟨#[]⟩), 1, 16) := by kernel_rfl
theorem Hm : (Try.prog.info? 30).map (fun i => (i.zero, i.size, i.bytes)) = some (some (.agg #[(.int .i64 0), (.int .i64 0), (.slice none 0 0), (.slice none 0 0)]), 4, 64) := by kernel_rfl
