/- Lemmas. -/
import Derived.Test.YtojankgmedccdaaYAAwB
section
namespace Go.Proofs.Ytojankgmedccdaa.PRs
open Go.RowKit Own PTy Hand PIs PAw Wo
attribute [local go_sem] BK BL Ba Bc BD BF BM BN
set_option linter.unusedVariables false
set_option linter.unusedSimpArgs false
def Ho : Option Int → Value
 | none => .nilIface
 | some c => .iface 0 (.int .i64 c)
theorem DC : Ho none = .nilIface := rfl
theorem DD (c : Int) : Ho (some c) = .iface 0 (.int .i64 c) := rfl
theorem Fj : (Try.prog.info? 73).map (fun i => (i.zero, i.size, i.bytes)) = some (some (.int .u8 0), 1, 1) := by kernel_rfl
end Go.Proofs.Ytojankgmedccdaa.PRs
end
section
namespace Go.Proofs.Ytojankgmedccdaa.PRs
open Go.RowKit Own PTy Hand PIs PAw Wo
attribute [local go_sem] BK BL Ba Bc BD BF BM BN
set_option linter.unusedVariables false
set_option linter.unusedSimpArgs false
end Go.Proofs.Ytojankgmedccdaa.PRs
end
section
namespace Go.Proofs.Ytojankgmedccdaa.PRs
open Go.RowKit Own PTy Hand PIs PAw Wo
attribute [local go_sem] BK BL Ba Bc BD BF BM BN
set_option linter.unusedVariables false
set_option linter.unusedSimpArgs false
end Go.Proofs.Ytojankgmedccdaa.PRs
end
section
namespace Go.Proofs.Ytojankgmedccdaa.PRs
open Go.RowKit Own PTy Hand PIs PAw Wo
attribute [local go_sem] BK BL Ba Bc BD BF BM BN
set_option linter.unusedVariables false
set_option linter.unusedSimpArgs false
end Go.Proofs.Ytojankgmedccdaa.PRs
end
section
namespace Go.Proofs.Ytojankgmedccdaa.PRs
open Go.RowKit Own PTy Hand PIs PAw Wo
attribute [local go_sem] BK BL Ba Bc BD BF BM BN
set_option linter.unusedVariables false
set_option linter.unusedSimpArgs false
end Go.Proofs.Ytojankgmedccdaa.PRs
end
section
namespace Go.Proofs.Ytojankgmedccdaa.PRs
open Go.RowKit Own PTy Hand PIs PAw Wo
attribute [local go_sem] BK BL Ba Bc BD BF BM BN
set_option linter.unusedVariables false
set_option linter.unusedSimpArgs false
end Go.Proofs.Ytojankgmedccdaa.PRs
end
