/- Lemmas. -/
import Derived.Test.YtojankgmedccdaaYLAwB
section
namespace Go.Proofs.Ytojankgmedccdaa.PRs
open Go.RowKit Own PTy Hand PIs PAw Wo
attribute [local go_sem] BO BR Bl Bn BC BD BS BU
set_option linter.unusedVariables false
set_option linter.unusedSimpArgs false
def G7 : Option Int → Value
 | none => .nilIface
 | some c => .iface 0 (.int .i64 c)
theorem Ee : G7 none = .nilIface := rfl
theorem Ef (c : Int) : G7 (some c) = .iface 0 (.int .i64 c) := rfl
theorem FY : (Try.prog.info? 73).map (fun i => (i.zero, i.size, i.bytes)) = some (some (.int .u8 0), 1, 1) := by kernel_rfl
end Go.Proofs.Ytojankgmedccdaa.PRs
end
section
namespace Go.Proofs.Ytojankgmedccdaa.PRs
open Go.RowKit Own PTy Hand PIs PAw Wo
attribute [local go_sem] BO BR Bl Bn BC BD BS BU
set_option linter.unusedVariables false
set_option linter.unusedSimpArgs false
end Go.Proofs.Ytojankgmedccdaa.PRs
end
section
namespace Go.Proofs.Ytojankgmedccdaa.PRs
open Go.RowKit Own PTy Hand PIs PAw Wo
attribute [local go_sem] BO BR Bl Bn BC BD BS BU
set_option linter.unusedVariables false
set_option linter.unusedSimpArgs false
end Go.Proofs.Ytojankgmedccdaa.PRs
end
section
namespace Go.Proofs.Ytojankgmedccdaa.PRs
open Go.RowKit Own PTy Hand PIs PAw Wo
attribute [local go_sem] BO BR Bl Bn BC BD BS BU
set_option linter.unusedVariables false
set_option linter.unusedSimpArgs false
end Go.Proofs.Ytojankgmedccdaa.PRs
end
section
namespace Go.Proofs.Ytojankgmedccdaa.PRs
open Go.RowKit Own PTy Hand PIs PAw Wo
attribute [local go_sem] BO BR Bl Bn BC BD BS BU
set_option linter.unusedVariables false
set_option linter.unusedSimpArgs false
end Go.Proofs.Ytojankgmedccdaa.PRs
end
section
namespace Go.Proofs.Ytojankgmedccdaa.PRs
open Go.RowKit Own PTy Hand PIs PAw Wo
attribute [local go_sem] BO BR Bl Bn BC BD BS BU
set_option linter.unusedVariables false
set_option linter.unusedSimpArgs false
end Go.Proofs.Ytojankgmedccdaa.PRs
end
