/- Lemmas. -/
import Derived.Test.YtojankgmedccdaaYOPGnF24
namespace Go.Proofs.Ytojankgmedccdaa.PGn
open Go.RowKit Own PTy Hand PIs PAw Wo
attribute [local go_sem] BI BJ Ba Bc Ao Ap BL BM
set_option linter.unusedVariables false
set_option linter.unusedSimpArgs false
def EP.f (k : Nat) (l0 : List (S63)) (l1 : List (S63)) : Option (Bool) := (Bt.f k 0 0 ([] : List Int) ([] : List (S30)) l0 0 0 ([] : List Int) ([] : List (S30)) l1).bind fun a => (some a)
set_option maxHeartbeats 8000000 in
set_option maxRecDepth 100000 in
theorem EP.calls {k : Nat} {j : Option Addr} {z : Nat} {l0 : List (S63)} {l : Option Addr} {B : Nat} {l1 : List (S63)} {r : Bool} {w : World} (c : Kd.C k63 w j l0.length l0) (a : l0.length ≤ z) (i : Kd.C k63 w l l1.length l1) (b : l1.length ≤ B) (h : EP.f k l0 l1 = some r) :
  Calls Try.prog 35 #[.slice j l0.length z, .slice l l1.length B] w fun e w' => e = .returned (.bool r) ∧ Below w.heap.size w w' := by
 have D := Try.underlying33
 have u := mk0 c; have q := mk0 a; clear c a; have v := mk0 i; have s := mk0 b; clear i b
 have o := mk0 (Below.refl w.heap.size w)
 have H := h; unfold EP.f at H
 clear h
 replace H := bS H; obtain ⟨G, I, H⟩ := H; obtain rfl := sI H
 go_enter Try.func35, Try.ntmps35
 go_wp2_with ((with_reducible refine AP (f := 24) rfl ?_); refine Hu Try.func24 #[.agg #[.int .i64 0, .int .i64 0, .slice none 0 0, .slice none 0 0, .slice j l0.length z], .agg #[.int .i64 0, .int .i64 0, .slice none 0 0, .slice none 0 0, .slice l l1.length B]] ?_; (refine (Bt.calls ?side1 ?side2 ?side3 ?side4 ?side5 ?side6 ?side7 ?side8 ?side9 ?side10 ?side11 ?side12 I.out).mono ?_); (case side1 => exact Kd.GD _ _); (case side2 => exact Nat.le_refl _); (case side3 => exact Kd.GD _ _); (case side4 => exact Nat.le_refl _); (case side5 => exact Cy u.out); (case side6 => exact q.out); (case side7 => exact Kd.GD _ _); (case side8 => exact Nat.le_refl _); (case side9 => exact Kd.GD _ _); (case side10 => exact Nat.le_refl _); (case side11 => exact Cy v.out); (case side12 => exact s.out); rintro e L ⟨rfl, J⟩; refine ⟨_, rfl, ?_⟩; replace o := kh o J)
 go_ret
 exact ⟨rfl, be o⟩
end Go.Proofs.Ytojankgmedccdaa.PGn
