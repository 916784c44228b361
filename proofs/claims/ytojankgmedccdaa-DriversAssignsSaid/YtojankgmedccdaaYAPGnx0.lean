/- Lemmas. -/
import Derived.Test.YtojankgmedccdaaYAPAwx1
import Derived.Test.YtojankgmedccdaaYAPAwx3
import Derived.Test.YtojankgmedccdaaYAPIsx13
namespace Go.Proofs.Ytojankgmedccdaa.PGn
open Go.RowKit Own PTy Hand PIs PAw Wo
attribute [local go_sem] BK BL Ba Bc BD BF BM BN
set_option linter.unusedVariables false
set_option linter.unusedSimpArgs false
def Ho : Option Int → Value
 | none => .nilIface
 | some c => .iface 0 (.int .i64 c)
theorem DC : Ho none = .nilIface := rfl
theorem DD (c : Int) : Ho (some c) = .iface 0 (.int .i64 c) := rfl
theorem H9 : (Try.prog.info? 30).map (fun i => (i.zero, i.size, i.bytes)) = some (some (.agg #[(.int .i64 0), (.int .i64 0), (.slice none 0 0), (.slice none 0 0)]), 4, 64) := by kernel_rfl
theorem FW : (Try.prog.info? 63).map (fun i => (i.zero, i.size, i.bytes)) = some (some (.agg #[(.int .i64 0), (.int .i64 0), (.int .i64 0), (.slice none 0 0), (.slice none 0 0)]), 5, 72) := by kernel_rfl
theorem Fj : (Try.prog.info? 73).map (fun i => (i.zero, i.size, i.bytes)) = some (some (.int .u8 0), 1, 1) := by kernel_rfl
end Go.Proofs.Ytojankgmedccdaa.PGn
