/- Lemmas for LawDriversTakes. -/
import Derived.Test.YtojankgmedccdaaYTPAwx1
import Derived.Test.YtojankgmedccdaaYTPAwx3
import Derived.Test.YtojankgmedccdaaYTPIsx13
namespace Go.Proofs.Ytojankgmedccdaa.PGn
open Go.RowKit Own PTy Hand PIs PAw YtojankgmedccdaaW.PrintWords YtojankgmedccdaaW.PrintLast YtojankgmedccdaaW.PrintMore
attribute [local go_sem] BN BO Be Bf Az BA BR BS
set_option linter.unusedVariables false
set_option linter.unusedSimpArgs false
def Gz : Option Int → Value
 | none => .nilIface
 | some c => .iface 0 (.int .i64 c)
theorem DI : Gz none = .nilIface := rfl
theorem DJ (c : Int) : Gz (some c) = .iface 0 (.int .i64 c) := rfl
theorem He : (Try.prog.info? 30).map (fun i => (i.zero, i.size, i.bytes)) = some (some (.agg #[(.int .i64 0), (.int .i64 0), (.slice none 0 0), (.slice none 0 0)]), 4, 64) := by kernel_rfl
theorem Ff : (Try.prog.info? 63).map (fun i => (i.zero, i.size, i.bytes)) = some (some (.agg #[(.int .i64 0), (.int .i64 0), (.int .i64 0), (.slice none 0 0), (.slice none 0 0)]), 5, 72) := by kernel_rfl
theorem Fg : (Try.prog.info? 73).map (fun i => (i.zero, i.size, i.bytes)) = some (some (.int .u8 0), 1, 1) := by kernel_rfl
end Go.Proofs.Ytojankgmedccdaa.PGn
