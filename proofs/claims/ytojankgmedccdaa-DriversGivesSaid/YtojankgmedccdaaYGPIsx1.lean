/- Lemmas for LawDriversGives. -/
import Derived.Test.YtojankgmedccdaaYGPIsx0
namespace Go.Proofs.Ytojankgmedccdaa.PIs
open Go.RowKit Own PTy Hand YtojankgmedccdaaW.PrintWords YtojankgmedccdaaW.PrintLast YtojankgmedccdaaW.PrintMore
attribute [local go_sem] BI BJ Be Bf Ar Au BK BL
set_option linter.unusedVariables false
set_option linter.unusedSimpArgs false
mutual
def CK.l0 : Nat → Int → List (S30) → Int → Int → Option (Int)
 | 0, _, _, _, _ => none
 | k + 1, x1, b, g, a => if a < g then (if 0 ≤ a then (if a < (b.length : Int) then (if x1 < 0 then (some x1) else ((CK.f k ((AC b a).f0) ((AC b a).f1) ((AC b a).f2) ((AC b a).f3) x1).bind fun e => (CK.l0 k e b g (wrap64 (a + 1))))) else (none)) else (none)) else (some x1)
def CK.f : Nat → Int → Int → List Int → List (S30) → Int → Option (Int)
 | 0, _, _, _, _, _ => none
 | k + 1, h, i, d, c, a1 => CK.l0 k (wrap64 (a1 - (wrap64 (1 + (d.length : Int))))) c (c.length : Int) 0
end
set_option maxHeartbeats 8000000 in
set_option maxRecDepth 100000 in
theorem CK.calls (k : Nat) : ∀ (X : Int) (Y : Int) (J : Option Addr) (Z : Nat) (x : List Int) (L : Option Addr) (aB : Nat) (b : List (S30)) (a1 : Int) (r : Int) (w : World) (dB : Kd.C (Kd.int .u8) w J x.length x) (bB : x.length ≤ Z) (eB : Kd.C k30 w L b.length b) (cB : b.length ≤ aB) (h : CK.f k X Y x b a1 = some r),
  Calls Try.prog 62 #[.agg #[.int .i64 X, .int .i64 Y, .slice J x.length Z, .slice L b.length aB], .int .i64 a1] w fun e w' => e = .returned (.int .i64 r) ∧ Below w.heap.size w w' := by
 induction k using Nat.strongRecOn with
 | _ k ih =>
 intro X Y J Z x L aB b a1 r w dB bB eB cB h
 cases k with
 | zero => exact absurd h (by simp [CK.f])
 | succ k =>
 simp only [CK.f] at h
 have mC := Try.underlying30
 have fC := mk0 dB; have dC := mk0 bB; clear dB bB; have mB := mk0 eB; have eC := mk0 cB; clear eB cB
 have z := mk0 (Below.refl w.heap.size w)
 have H := h; unfold CK.f at H
 clear h
 have H' := mk0 H
 clear H
 go_enter Try.func62, Try.ntmps62
 go_wp2_with ((with_reducible refine AP rfl (N := 2) rfl (cs := #[.int .i64 X, .int .i64 Y, .slice J x.length Z, .slice L b.length aB]) (t := 30) ?hr ?_); (case hr => first | (go_simp; done) | (go_simp; rfl)); intro wB hg w3 B hb; have c := mk0 (B); have d := bs (be z) hg; replace z := kh z hb; clear hb B hg; have z4 := BN c.out)
 go_loopg [1, 16] k (fun kq v1 v16 w' => ∃ (lB : Int) (a : Int), v1 = .int .i64 lB ∧ v16 = .int .i64 a ∧ Aside0 (CK.l0 kq lB b (b.length : Int) a = some r) ∧ Aside0 (kq ≤ k) ∧ Aside0 (w'.heap[wB]? = some (.cells #[.int .i64 X, .int .i64 Y, (.slice J x.length Z), (.slice L b.length aB)] 30 (0, 0))) ∧ Aside0 (Below w.heap.size w w'))
 case atStart => exact ⟨(wrap64 (a1 - (wrap64 (1 + (x.length : Int))))), (0), rfl, rfl, H', ⟨Nat.le_refl _⟩, ⟨bu c⟩, ⟨be1 z d⟩⟩
 case round =>
  clear H'
  obtain ⟨lB, a, rfl, rfl, HA, tB, c, z⟩ := hrel
  cases gk with
  | zero => exact absurd HA.out (by simp [CK.l0])
  | succ k1 =>
   have H := HA.out; clear HA
   simp only [CK.l0] at H
   replace H := iD' H; obtain ⟨-, xB, H⟩ | ⟨-, xB, H⟩ := H
   ·obtain rfl := sI H
    go_wp2
    go_ret
    exact ⟨rfl, be1 z d⟩
   replace H := iN H; obtain ⟨-, kC, H⟩ := H
   replace H := iN H; obtain ⟨-, lC, H⟩ := H
   replace H := iD H; obtain ⟨-, yB, H⟩ | ⟨-, yB, H⟩ := H
   ·obtain rfl := sI H
    have G : 0 ≤ (a : Int) := od
    have I : a < (b.length : Int) := od
    obtain ⟨uB, fB, hB, gB, jB, oB, p, q, s, u, m, j, n, l⟩ := Dy mB.out a G I
    cases oB
    replace p := Ae z.out p
    replace q := Ae z.out q
    replace s := Ae z.out s
    replace u := Ae z.out u
    have U := mk0 j; have O := mk0 m; clear j m; have W := mk0 l; have T := mk0 n; clear l n; replace G := eq_true G; replace I := eq_true I
    go_wp2_with ((with_reducible refine AP rfl (N := 6) rfl (cs := #[.int .i64 0, .int .i64 0, .slice none 0 0, .slice none 0 0]) (t := 30) ?hr ?_); (case hr => first | (go_simp; done) | (go_simp; rfl)); intro qB hg w9 B hb; have D := mk0 (B); have y := bs (be1 z d) hg; replace z := kh1 z d hb; have ⟨i, v⟩ := nn c hg; replace c := kb c hb; clear hb B hg; have ⟨gC, iC⟩ := no v i; have rC := BN D.out)
    go_ret
    exact ⟨rfl, be2 z d y⟩
   replace H := bS H; obtain ⟨sB, bC, H⟩ := H
   have H' := mk0 H
   clear H
   have G : 0 ≤ (a : Int) := od
   have I : a < (b.length : Int) := od
   obtain ⟨uB, fB, hB, gB, jB, oB, p, q, s, u, m, j, n, l⟩ := Dy mB.out a G I
   cases oB
   replace p := Ae z.out p
   replace q := Ae z.out q
   replace s := Ae z.out s
   replace u := Ae z.out u
   have U := mk0 j; have O := mk0 m; clear j m; have W := mk0 l; have T := mk0 n; clear l n; replace G := eq_true G; replace I := eq_true I
   go_wp2_with (first | ((with_reducible refine AP rfl (N := 6) rfl (cs := #[.int .i64 0, .int .i64 0, .slice none 0 0, .slice none 0 0]) (t := 30) ?hr ?_); (case hr => first | (go_simp; done) | (go_simp; rfl)); intro qB hg pC B hb; have D := mk0 (B); have y := bs (be1 z d) hg; replace z := kh1 z d hb; have ⟨i, v⟩ := nn c hg; replace c := kb c hb; clear hb B hg; have ⟨hC, jC⟩ := no v i; have sC := BN D.out) | ((with_reducible refine AR (f := 62) rfl ?_); refine CO Try.func62 (ih k1 (by have := tB.out; omega) ((AC b a).f0) ((AC b a).f1) _ _ ((AC b a).f2) _ _ ((AC b a).f3) lB sB _ (Kd.BR U.out (be2 z d y)) O.out (Kd.BR W.out (be2 z d y)) T.out bC.out) ?_; intro qC hb; replace c := kF i c hb; replace D := mk0 (Aa (g := qB) (o := .cells #[.int .i64 ((AC b a).f0), .int .i64 ((AC b a).f1), .slice fB ((AC b a).f2).length hB, .slice gB ((AC b a).f3).length jB] 30 (0, 0)) (pB D) hb); replace z := kh2 z d y hb))
   go_roundg k1
   case measure => have := tB.out; omega
   case rel => exact ⟨(sB), (wrap64 (a + 1)), rfl, rfl, H', ⟨by have := tB.out; omega⟩, ⟨bu c⟩, ⟨be2 z d y⟩⟩
end Go.Proofs.Ytojankgmedccdaa.PIs
