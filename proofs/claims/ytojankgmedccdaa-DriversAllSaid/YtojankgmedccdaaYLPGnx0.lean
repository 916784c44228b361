/- Lemmas. -/
import Derived.Test.YtojankgmedccdaaYLPAwx1
import Derived.Test.YtojankgmedccdaaYLPAwx3
import Derived.Test.YtojankgmedccdaaYLPIsx13
namespace Go.Proofs.Ytojankgmedccdaa.PGn
open Go.RowKit Own PTy Hand PIs PAw Wo
attribute [local go_sem] BO BR Bl Bn BC BD BS BU
set_option linter.unusedVariables false
set_option linter.unusedSimpArgs false
def G7 : Option Int → Value
 | none => .nilIface
 | some c => .iface 0 (.int .i64 c)
theorem Ee : G7 none = .nilIface := rfl
theorem Ef (c : Int) : G7 (some c) = .iface 0 (.int .i64 c) := rfl
theorem Hm : (Try.prog.info? 30).map (fun i => (i.zero, i.size, i.bytes)) = some (some (.agg #[(.int .i64 0), (.int .i64 0), (.slice none 0 0), (.slice none 0 0)]), 4, 64) := by kernel_rfl
theorem FE : (Try.prog.info? 63).map (fun i => (i.zero, i.size, i.bytes)) = some (some (.agg #[(.int .i64 0), (.int .i64 0), (.int .i64 0), (.slice none 0 0), (.slice none 0 0)]), 5, 72) := by kernel_rfl
theorem FY : (Try.prog.info? 73).map (fun i => (i.zero, i.size, i.bytes)) = some (some (.int .u8 0), 1, 1) := by kernel_rfl
end Go.Proofs.Ytojankgmedccdaa.PGn
