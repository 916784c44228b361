/- Lemmas. -/
import Derived.Test.YtojankgmedccdaaYOAwB
section
namespace Go.Proofs.Ytojankgmedccdaa.PRs
open Go.RowKit Own PTy Hand PIs PAw Wo
attribute [local go_sem] BI BJ Ba Bc Ao Ap BL BM
set_option linter.unusedVariables false
set_option linter.unusedSimpArgs false
def G9 : Option Int → Value
 | none => .nilIface
 | some c => .iface 0 (.int .i64 c)
theorem EN : G9 none = .nilIface := rfl
theorem EO (c : Int) : G9 (some c) = .iface 0 (.int .i64 c) := rfl
theorem Ei : (Try.prog.info? 73).map (fun i => (i.zero, i.size, i.bytes)) = some (some (.int .u8 0), 1, 1) := by kernel_rfl
end Go.Proofs.Ytojankgmedccdaa.PRs
end
section
namespace Go.Proofs.Ytojankgmedccdaa.PRs
open Go.RowKit Own PTy Hand PIs PAw Wo
attribute [local go_sem] BI BJ Ba Bc Ao Ap BL BM
set_option linter.unusedVariables false
set_option linter.unusedSimpArgs false
end Go.Proofs.Ytojankgmedccdaa.PRs
end
section
namespace Go.Proofs.Ytojankgmedccdaa.PRs
open Go.RowKit Own PTy Hand PIs PAw Wo
attribute [local go_sem] BI BJ Ba Bc Ao Ap BL BM
set_option linter.unusedVariables false
set_option linter.unusedSimpArgs false
end Go.Proofs.Ytojankgmedccdaa.PRs
end
section
namespace Go.Proofs.Ytojankgmedccdaa.PRs
open Go.RowKit Own PTy Hand PIs PAw Wo
attribute [local go_sem] BI BJ Ba Bc Ao Ap BL BM
set_option linter.unusedVariables false
set_option linter.unusedSimpArgs false
end Go.Proofs.Ytojankgmedccdaa.PRs
end
section
namespace Go.Proofs.Ytojankgmedccdaa.PRs
open Go.RowKit Own PTy Hand PIs PAw Wo
attribute [local go_sem] BI BJ Ba Bc Ao Ap BL BM
set_option linter.unusedVariables false
set_option linter.unusedSimpArgs false
end Go.Proofs.Ytojankgmedccdaa.PRs
end
section
namespace Go.Proofs.Ytojankgmedccdaa.PRs
open Go.RowKit Own PTy Hand PIs PAw Wo
attribute [local go_sem] BI BJ Ba Bc Ao Ap BL BM
set_option linter.unusedVariables false
set_option linter.unusedSimpArgs false
end Go.Proofs.Ytojankgmedccdaa.PRs
end
