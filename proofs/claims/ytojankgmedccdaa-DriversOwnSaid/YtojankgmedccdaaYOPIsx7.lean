/- Lemmas. -/
import Derived.Test.YtojankgmedccdaaYOPIsx0
namespace Go.Proofs.Ytojankgmedccdaa.PIs
open Go.RowKit Own PTy Hand Wo
attribute [local go_sem] BI BJ Ba Bc Ao Ap BL BM
set_option linter.unusedVariables false
set_option linter.unusedSimpArgs false
def Gd.f (a0 : Int) : Option (Bool) := if a0 ≥ 97 then (if a0 ≤ 122 then (some true) else (if a0 ≥ 65 then (some (decide (a0 ≤ 90))) else (some false))) else (if a0 ≥ 65 then (some (decide (a0 ≤ 90))) else (some false))
def KO.f (a0 : Int) : Option (Bool) := if a0 ≥ 48 then (some (decide (a0 ≤ 57))) else (some false)
def Iw.f (a0 : Int) : Option (Bool) := (Gd.f a0).bind fun a => (if a = true then (some true) else ((KO.f a0).bind fun t156 => (if t156 = true then (some true) else (some (a0 == 95)))))
end Go.Proofs.Ytojankgmedccdaa.PIs
