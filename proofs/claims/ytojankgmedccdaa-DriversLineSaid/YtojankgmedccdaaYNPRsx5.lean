/- Lemmas. -/
import Derived.Test.YtojankgmedccdaaYNAwB
section
namespace Go.Proofs.Ytojankgmedccdaa.PRs
open Go.RowKit Own PTy Hand PIs PAw Wo
attribute [local go_sem] BS BU Bf Bg BC BD BX BZ
set_option linter.unusedVariables false
set_option linter.unusedSimpArgs false
def H8 : Option Int → Value
 | none => .nilIface
 | some c => .iface 0 (.int .i64 c)
theorem DN : H8 none = .nilIface := rfl
theorem DR (c : Int) : H8 (some c) = .iface 0 (.int .i64 c) := rfl
theorem Fz : (Try.prog.info? 73).map (fun i => (i.zero, i.size, i.bytes)) = some (some (.int .u8 0), 1, 1) := by kernel_rfl
end Go.Proofs.Ytojankgmedccdaa.PRs
end
section
namespace Go.Proofs.Ytojankgmedccdaa.PRs
open Go.RowKit Own PTy Hand PIs PAw Wo
attribute [local go_sem] BS BU Bf Bg BC BD BX BZ
set_option linter.unusedVariables false
set_option linter.unusedSimpArgs false
end Go.Proofs.Ytojankgmedccdaa.PRs
end
section
namespace Go.Proofs.Ytojankgmedccdaa.PRs
open Go.RowKit Own PTy Hand PIs PAw Wo
attribute [local go_sem] BS BU Bf Bg BC BD BX BZ
set_option linter.unusedVariables false
set_option linter.unusedSimpArgs false
end Go.Proofs.Ytojankgmedccdaa.PRs
end
section
namespace Go.Proofs.Ytojankgmedccdaa.PRs
open Go.RowKit Own PTy Hand PIs PAw Wo
attribute [local go_sem] BS BU Bf Bg BC BD BX BZ
set_option linter.unusedVariables false
set_option linter.unusedSimpArgs false
end Go.Proofs.Ytojankgmedccdaa.PRs
end
section
namespace Go.Proofs.Ytojankgmedccdaa.PRs
open Go.RowKit Own PTy Hand PIs PAw Wo
attribute [local go_sem] BS BU Bf Bg BC BD BX BZ
set_option linter.unusedVariables false
set_option linter.unusedSimpArgs false
end Go.Proofs.Ytojankgmedccdaa.PRs
end
section
namespace Go.Proofs.Ytojankgmedccdaa.PRs
open Go.RowKit Own PTy Hand PIs PAw Wo
attribute [local go_sem] BS BU Bf Bg BC BD BX BZ
set_option linter.unusedVariables false
set_option linter.unusedSimpArgs false
end Go.Proofs.Ytojankgmedccdaa.PRs
end
