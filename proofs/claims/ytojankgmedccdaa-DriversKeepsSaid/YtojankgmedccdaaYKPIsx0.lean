/- Lemmas for LawDriversKeeps. -/
import Derived.Test.YtojankgmedccdaaYKHandD
namespace Go.Proofs.Ytojankgmedccdaa.PIs
open Go.RowKit Own PTy Hand YtojankgmedccdaaW.PrintWords YtojankgmedccdaaW.PrintLast YtojankgmedccdaaW.PrintMore
attribute [local go_sem] BN BO Be Bf BF BG BR BS
set_option linter.unusedVariables false
set_option linter.unusedSimpArgs false
def Gl : Option Int → Value
 | none => .nilIface
 | some c => .iface 0 (.int .i64 c)
theorem EP : Gl none = .nilIface := rfl
theorem EQ (c : Int) : Gl (some c) = .iface 0 (.int .i64 c) := rfl
theorem Mr : (Try.prog.info? 9).map (fun i => (i.zero, i.size, i.bytes)) = some (some (.string ⟨#[]⟩), 1, 16) := by kernel_rfl
theorem Gx : (Try.prog.info? 30).map (fun i => (i.zero, i.size, i.bytes)) = some (some (.agg #[(.int .i64 0), (.int .i64 0), (.slice none 0 0), (.slice none 0 0)]), 4, 64) := by kernel_rfl
