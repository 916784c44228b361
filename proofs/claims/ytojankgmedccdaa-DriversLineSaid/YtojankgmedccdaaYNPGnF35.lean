/- Lemmas. -/
import Derived.Test.YtojankgmedccdaaYNPGnF24
namespace Go.Proofs.Ytojankgmedccdaa.PGn
open Go.RowKit Own PTy Hand PIs PAw Wo
attribute [local go_sem] BS BU Bf Bg BC BD BX BZ
set_option linter.unusedVariables false
set_option linter.unusedSimpArgs false
def EN.f (k : Nat) (l0 : List (S63)) (l1 : List (S63)) : Option (Bool) := (CR.f k 0 0 ([] : List Int) ([] : List (S30)) l0 0 0 ([] : List Int) ([] : List (S30)) l1).bind fun a => (some a)
set_option maxHeartbeats 8000000 in
set_option maxRecDepth 100000 in
theorem EN.calls {k : Nat} {g : Option Addr} {p : Nat} {l0 : List (S63)} {i : Option Addr} {q : Nat} {l1 : List (S63)} {r : Bool} {w : World} (c : Kd.C k63 w g l0.length l0) (a : l0.length ≤ p) (d : Kd.C k63 w i l1.length l1) (b : l1.length ≤ q) (h : EN.f k l0 l1 = some r) :
  Calls Try.prog 35 #[.slice g l0.length p, .slice i l1.length q] w fun e w' => e = .returned (.bool r) ∧ Below w.heap.size w w' := by
 have s := Try.underlying33
 have n := mk0 c; have l := mk0 a; clear c a; have o := mk0 d; have m := mk0 b; clear d b
 have j := mk0 (Below.refl w.heap.size w)
 have H := h; unfold EN.f at H
 clear h
 replace H := bS H; obtain ⟨u, v, H⟩ := H; obtain rfl := sI H
 go_enter Try.func35, Try.ntmps35
 go_wp2_with ((with_reducible refine AJ (f := 24) rfl ?_); refine FQ Try.func24 #[.agg #[.int .i64 0, .int .i64 0, .slice none 0 0, .slice none 0 0, .slice g l0.length p], .agg #[.int .i64 0, .int .i64 0, .slice none 0 0, .slice none 0 0, .slice i l1.length q]] ?_; (refine (CR.calls ?side1 ?side2 ?side3 ?side4 ?side5 ?side6 ?side7 ?side8 ?side9 ?side10 ?side11 ?side12 v.out).mono ?_); (case side1 => exact Kd.GY _ _); (case side2 => exact Nat.le_refl _); (case side3 => exact Kd.GY _ _); (case side4 => exact Nat.le_refl _); (case side5 => exact Cr n.out); (case side6 => exact l.out); (case side7 => exact Kd.GY _ _); (case side8 => exact Nat.le_refl _); (case side9 => exact Kd.GY _ _); (case side10 => exact Nat.le_refl _); (case side11 => exact Cr o.out); (case side12 => exact m.out); rintro e y ⟨rfl, x⟩; refine ⟨_, rfl, ?_⟩; replace j := kh j x)
 go_ret
 exact ⟨rfl, be j⟩
end Go.Proofs.Ytojankgmedccdaa.PGn
