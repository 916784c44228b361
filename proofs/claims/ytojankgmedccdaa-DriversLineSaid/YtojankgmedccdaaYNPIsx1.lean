/- Lemmas. -/
import Derived.Test.YtojankgmedccdaaYNPIsx0
namespace Go.Proofs.Ytojankgmedccdaa.PIs
open Go.RowKit Own PTy Hand Wo
attribute [local go_sem] BS BU Bf Bg BC BD BX BZ
set_option linter.unusedVariables false
set_option linter.unusedSimpArgs false
mutual
def CZ.l0 : Nat → Int → List (S30) → Int → Int → Option (Int)
 | 0, _, _, _, _ => none
 | k + 1, x1, b, g, a => if a < g then (if 0 ≤ a then (if a < (b.length : Int) then (if x1 < 0 then (some x1) else ((CZ.f k ((AB b a).f0) ((AB b a).f1) ((AB b a).f2) ((AB b a).f3) x1).bind fun e => (CZ.l0 k e b g (wrap64 (a + 1))))) else (none)) else (none)) else (some x1)
def CZ.f : Nat → Int → Int → List Int → List (S30) → Int → Option (Int)
 | 0, _, _, _, _, _ => none
 | k + 1, h, i, d, c, a1 => CZ.l0 k (wrap64 (a1 - (wrap64 (1 + (d.length : Int))))) c (c.length : Int) 0
end
set_option maxHeartbeats 8000000 in
set_option maxRecDepth 100000 in
theorem CZ.calls (k : Nat) : ∀ (X : Int) (Y : Int) (J : Option Addr) (Z : Nat) (x : List Int) (L : Option Addr) (aB : Nat) (b : List (S30)) (a1 : Int) (r : Int) (w : World) (dB : Kd.C (Kd.int .u8) w J x.length x) (bB : x.length ≤ Z) (eB : Kd.C k30 w L b.length b) (cB : b.length ≤ aB) (h : CZ.f k X Y x b a1 = some r),
  Calls Try.prog 62 #[.agg #[.int .i64 X, .int .i64 Y, .slice J x.length Z, .slice L b.length aB], .int .i64 a1] w fun e w' => e = .returned (.int .i64 r) ∧ Below w.heap.size w w' := by
 induction k using Nat.strongRecOn with
 | _ k ih =>
 intro X Y J Z x L aB b a1 r w dB bB eB cB h
 cases k with
 | zero => exact absurd h (by simp [CZ.f])
 | succ k =>
 simp only [CZ.f] at h
 have nC := Try.underlying30
 have gC := mk0 dB; have eC := mk0 bB; clear dB bB; have mB := mk0 eB; have fC := mk0 cB; clear eB cB
 have z := mk0 (Below.refl w.heap.size w)
 have H := h; unfold CZ.f at H
 clear h
 have H' := mk0 H
 clear H
 go_enter Try.func62, Try.ntmps62
 go_wp2_with ((with_reducible refine AQ rfl (N := 2) rfl (cs := #[.int .i64 X, .int .i64 Y, .slice J x.length Z, .slice L b.length aB]) (t := 30) ?hr ?_); (case hr => first | (go_simp; done) | (go_simp; rfl)); intro xB hg w3 B hb; have c := mk0 (B); have d := bs (be z) hg; replace z := kh z hb; clear hb B hg; have z4 := Ay c.out)
 go_loopg [1, 16] k (fun kq v1 v16 w' => ∃ (lB : Int) (a : Int), v1 = .int .i64 lB ∧ v16 = .int .i64 a ∧ Aside0 (CZ.l0 kq lB b (b.length : Int) a = some r) ∧ Aside0 (kq ≤ k) ∧ Aside0 (bk w' xB 30 #[.int .i64 X, .int .i64 Y, (.slice J x.length Z), (.slice L b.length aB)]) ∧ Aside0 (Below w.heap.size w w'))
 case atStart => exact ⟨(wrap64 (a1 - (wrap64 (1 + (x.length : Int))))), (0), rfl, rfl, H', ⟨Nat.le_refl _⟩, ⟨bu c⟩, ⟨be1 z d⟩⟩
 case round =>
  clear H'; obtain ⟨lB, a, rfl, rfl, HA, uB, c, z⟩ := hrel; cases gk with
  | zero => exact absurd HA.out (by simp [CZ.l0])
  | succ k1 =>
   have H := HA.out; clear HA; simp only [CZ.l0] at H; replace H := iD' H; obtain ⟨-, yB, H⟩ | ⟨-, yB, H⟩ := H
   ·obtain rfl := sI H; go_wp2; go_ret; exact ⟨rfl, be1 z d⟩
   replace H := iN H; obtain ⟨-, lC, H⟩ := H; replace H := iN H; obtain ⟨-, mC, H⟩ := H; replace H := iD H; obtain ⟨-, zB, H⟩ | ⟨-, zB, H⟩ := H
   ·obtain rfl := sI H; have G : 0 ≤ (a : Int) := od; have I : a < (b.length : Int) := od; obtain ⟨wB, fB, hB, gB, jB, qB, p, q, s, u, m, j, n, l⟩ := D8 mB.out a G I; cases qB; replace p := AP z.out p; replace q := AP z.out q; replace s := AP z.out s; replace u := AP z.out u; have U := mk0 j; have O := mk0 m; clear j m; have W := mk0 l; have T := mk0 n; clear l n; replace G := eq_true G; replace I := eq_true I; go_wp2_with ((with_reducible refine AQ rfl (N := 6) rfl (cs := #[.int .i64 0, .int .i64 0, .slice none 0 0, .slice none 0 0]) (t := 30) ?hr ?_); (case hr => first | (go_simp; done) | (go_simp; rfl)); intro sB hg w9 B hb; have D := mk0 (B); have y := bs (be1 z d) hg; replace z := kh1 z d hb; have ⟨i, v⟩ := nn c hg; replace c := kb c hb; clear hb B hg; have ⟨hC, jC⟩ := no v i; have sC := Ay D.out); go_ret; exact ⟨rfl, be2 z d y⟩
   replace H := bS H; obtain ⟨tB, cC, H⟩ := H; have H' := mk0 H; clear H; have G : 0 ≤ (a : Int) := od; have I : a < (b.length : Int) := od; obtain ⟨wB, fB, hB, gB, jB, qB, p, q, s, u, m, j, n, l⟩ := D8 mB.out a G I; cases qB; replace p := AP z.out p; replace q := AP z.out q; replace s := AP z.out s; replace u := AP z.out u; have U := mk0 j; have O := mk0 m; clear j m; have W := mk0 l; have T := mk0 n; clear l n; replace G := eq_true G; replace I := eq_true I; go_wp2_with (first | ((with_reducible refine AQ rfl (N := 6) rfl (cs := #[.int .i64 0, .int .i64 0, .slice none 0 0, .slice none 0 0]) (t := 30) ?hr ?_); (case hr => first | (go_simp; done) | (go_simp; rfl)); intro sB hg qC B hb; have D := mk0 (B); have y := bs (be1 z d) hg; replace z := kh1 z d hb; have ⟨i, v⟩ := nn c hg; replace c := kb c hb; clear hb B hg; have ⟨iC, kC⟩ := no v i; have tC := Ay D.out) | ((with_reducible refine AJ (f := 62) rfl ?_); refine CS Try.func62 (ih k1 (by have := uB.out; omega) ((AB b a).f0) ((AB b a).f1) _ _ ((AB b a).f2) _ _ ((AB b a).f3) lB tB _ (Kd.Ap U.out (be2 z d y)) O.out (Kd.Ap W.out (be2 z d y)) T.out cC.out) ?_; intro rC hb; replace c := kF i c hb; replace D := mk0 (AX (g := sB) (o := .cells #[.int .i64 ((AB b a).f0), .int .i64 ((AB b a).f1), .slice fB ((AB b a).f2).length hB, .slice gB ((AB b a).f3).length jB] 30 (0, 0)) (pB D) hb); replace z := kh2 z d y hb)); go_roundg k1
   case measure => have := uB.out; omega
   case rel => exact ⟨(tB), (wrap64 (a + 1)), rfl, rfl, H', ⟨by have := uB.out; omega⟩, ⟨bu c⟩, ⟨be2 z d y⟩⟩
end Go.Proofs.Ytojankgmedccdaa.PIs
