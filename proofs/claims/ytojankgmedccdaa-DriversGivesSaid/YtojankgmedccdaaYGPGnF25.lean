/- Lemmas for LawDriversGives. -/
import Derived.Test.YtojankgmedccdaaYGPGnx0
namespace Go.Proofs.Ytojankgmedccdaa.PGn
open Go.RowKit Own PTy Hand PIs PAw YtojankgmedccdaaW.PrintWords YtojankgmedccdaaW.PrintLast YtojankgmedccdaaW.PrintMore
attribute [local go_sem] BI BJ Be Bf Ar Au BK BL
set_option linter.unusedVariables false
set_option linter.unusedSimpArgs false
def CF.f (k : Nat) (b : Int) (c : Int) (d : ByteArray) (h : List ByteArray) (i : List (S26)) (e : Int) (g : Int) (j : List Int) (l : List (S30)) (a : List (S63)) : Option (Int × Int) := (Aq.f k b c d h i e g j l a).bind fun m => (if m = true then (if (a.length : Int) = 0 then (some (0, 4)) else (if 0 < (a.length : Int) then (some ((AA a 0).f0, 0)) else (none))) else (some (0, 2)))
set_option maxHeartbeats 8000000 in
set_option maxRecDepth 100000 in
theorem CF.calls (k : Nat) (z : Int) (B : Int) (D : ByteArray) (L : Option Addr) (X : Nat) (s : List ByteArray) (O : Option Addr) (Y : Nat) (u : List (S26)) (G : Int) (I : Int) (T : Option Addr) (Z : Nat) (v : List Int) (U : Option Addr) (aB : Nat) (x : List (S30)) (W : Option Addr) (bB : Nat) (m : List (S63)) (r1 : Int) (r2 : Int) (w : World) (hG : D8 w) (bC : Kd.C Kd.string w L s.length s) (wB : s.length ≤ X) (cC : Kd.C k26 w O u.length u) (xB : u.length ≤ Y) (dC : Kd.C (Kd.int .u8) w T v.length v) (yB : v.length ≤ Z) (eC : Kd.C k30 w U x.length x) (zB : x.length ≤ aB) (fC : Kd.C k63 w W m.length m) (aC : m.length ≤ bB) (h : CF.f k z B D s u G I v x m = some (r1, r2)) :
  Calls Try.prog 25 #[.agg #[.int .i64 z, .int .i64 B, .string D, .slice L s.length X, .slice O u.length Y], .agg #[.int .i64 G, .int .i64 I, .slice T v.length Z, .slice U x.length aB, .slice W m.length bB]] w fun e w' => e = .returned (.tuple #[.int .i64 r1, .int .i64 r2]) ∧ Below w.heap.size w w' := by
 have HG := mk0 hG; clear hG
 have jD := Try.underlying26
 have kD := Try.underlying33
 have mB := mk0 bC; have gB := mk0 wB; clear bC wB; have oB := mk0 cC; have hB := mk0 xB; clear cC xB; have qB := mk0 dC; have jB := mk0 yB; clear dC yB; have sB := mk0 eC; have kB := mk0 zB; clear eC zB; have J := mk0 fC; have lB := mk0 aC; clear fC aC
 have g := mk0 (Below.refl w.heap.size w)
 have H := h; unfold CF.f at H
 clear h
 replace H := bS H; obtain ⟨nD, A3, H⟩ := H
 replace H := iB' H; obtain ⟨rfl, H⟩ | ⟨rfl, H⟩ := H
 ·simp only [Option.some.injEq, Prod.mk.injEq] at H
  obtain ⟨rfl, rfl⟩ := H
  go_enter Try.func25, Try.ntmps25
  go_wp2_with (first | ((with_reducible refine AP rfl (N := 2) rfl (cs := #[.int .i64 z, .int .i64 B, .string D, .slice L s.length X, .slice O u.length Y]) (t := 26) ?hr ?_); (case hr => first | (go_simp; done) | (go_simp; rfl)); intro tB hg bE d y; have a := mk0 (d); have b := bs (be g) hg; replace g := kh g y; clear y d hg) | ((with_reducible refine AP rfl (N := 3) rfl (cs := #[.int .i64 G, .int .i64 I, .slice T v.length Z, .slice U x.length aB, .slice W m.length bB]) (t := 33) ?hr ?_); (case hr => first | (go_simp; done) | (go_simp; rfl)); intro uB hg cE d y; have c := mk0 (d); have i := bs (be1 g b) hg; replace g := kh1 g b y; have ⟨j, l⟩ := nn a hg; replace a := kb a y; clear y d hg; have ⟨aD, cD⟩ := no j l; have tD := cells5 a.out; have uD := cells5 c.out) | ((with_reducible refine AR (f := 19) rfl ?_); refine CO Try.func19 (Aq.calls k z B D _ _ s _ _ u G I _ _ v _ _ x _ _ m false _ (AZ HG.out (be2 g b i)) (cu mB g) gB.out (cu oB g) hB.out (cu qB g) jB.out (cu sB g) kB.out (cu J g) lB.out A3.out) ?_; intro dE y; obtain ⟨a, c⟩ := tb2 y a c; replace g := kh2 g b i y))
  go_ret2
  exact ⟨rfl, be2 g b i⟩
 replace H := iE H; obtain ⟨mC, nC, H⟩ | ⟨c5, mC, nC, H⟩ := H
 ·simp only [Option.some.injEq, Prod.mk.injEq] at H
  obtain ⟨rfl, rfl⟩ := H
  go_enter Try.func25, Try.ntmps25
  go_wp2_with (first | ((with_reducible refine AP rfl (N := 2) rfl (cs := #[.int .i64 z, .int .i64 B, .string D, .slice L s.length X, .slice O u.length Y]) (t := 26) ?hr ?_); (case hr => first | (go_simp; done) | (go_simp; rfl)); intro tB hg w6 d y; have a := mk0 (d); have b := bs (be g) hg; replace g := kh g y; clear y d hg) | ((with_reducible refine AP rfl (N := 3) rfl (cs := #[.int .i64 G, .int .i64 I, .slice T v.length Z, .slice U x.length aB, .slice W m.length bB]) (t := 33) ?hr ?_); (case hr => first | (go_simp; done) | (go_simp; rfl)); intro uB hg w7 d y; have c := mk0 (d); have i := bs (be1 g b) hg; replace g := kh1 g b y; have ⟨j, l⟩ := nn a hg; replace a := kb a y; clear y d hg; have ⟨gD, hD⟩ := no j l; have eE := cells5 a.out; have oD := cells5 c.out) | ((with_reducible refine AR (f := 19) rfl ?_); refine CO Try.func19 (Aq.calls k z B D _ _ s _ _ u G I _ _ v _ _ x _ _ m true _ (AZ HG.out (be2 g b i)) (cu mB g) gB.out (cu oB g) hB.out (cu qB g) jB.out (cu sB g) kB.out (cu J g) lB.out A3.out) ?_; intro xD y; obtain ⟨a, c⟩ := tb2 y a c; replace g := kh2 g b i y; have pD := cells5 c.out))
  go_ret2
  exact ⟨rfl, be2 g b i⟩
 have eD : ¬ (m = []) := fun h_ => c5 (by rw [h_]; rfl)
 replace H := iN H; obtain ⟨wC, xC, H⟩ := H
 have yC : decide (0 < m.length) = true := decide_eq_true (by omega)
 clear wC
 simp only [Option.some.injEq, Prod.mk.injEq] at H
 obtain ⟨rfl, rfl⟩ := H
 go_enter Try.func25, Try.ntmps25
 go_wp2_with (first | ((with_reducible refine AP rfl (N := 2) rfl (cs := #[.int .i64 z, .int .i64 B, .string D, .slice L s.length X, .slice O u.length Y]) (t := 26) ?hr ?_); (case hr => first | (go_simp; done) | (go_simp; rfl)); intro tB hg yD d y; have a := mk0 (d); have b := bs (be g) hg; replace g := kh g y; clear y d hg) | ((with_reducible refine AP rfl (N := 3) rfl (cs := #[.int .i64 G, .int .i64 I, .slice T v.length Z, .slice U x.length aB, .slice W m.length bB]) (t := 33) ?hr ?_); (case hr => first | (go_simp; done) | (go_simp; rfl)); intro uB hg zD d y; have c := mk0 (d); have i := bs (be1 g b) hg; replace g := kh1 g b y; have ⟨j, l⟩ := nn a hg; replace a := kb a y; clear y d hg; have ⟨zC, bD⟩ := no j l; have qD := cells5 a.out; have rD := cells5 c.out) | ((with_reducible refine AR (f := 19) rfl ?_); refine CO Try.func19 (Aq.calls k z B D _ _ s _ _ u G I _ _ v _ _ x _ _ m true _ (AZ HG.out (be2 g b i)) (cu mB g) gB.out (cu oB g) hB.out (cu qB g) jB.out (cu sB g) kB.out (cu J g) lB.out A3.out) ?_; intro aE y; obtain ⟨a, c⟩ := tb2 y a c; replace g := kh2 g b i y; have sD := cells5 c.out; have gC : 0 ≤ (0 : Int) := (by omega); have hC : 0 < (m.length : Int) := of_decide_eq_true (by assumption); obtain ⟨vC, pC, rC, qC, sC, oC, n, o, p, q, r, eB, cB, fB, dB⟩ := DV J.out 0 gC hC; cases oC; have dD : (0 < m.length) = True := eq_true (by omega); (try rw [show ((0 : Int)).toNat = 0 from rfl] at n); (try rw [show 0 * 5 = 0 from rfl] at n); (try rw [Addr.add_zero'] at n); (try rw [show ((0 : Int)).toNat = 0 from rfl] at o); (try rw [show 0 * 5 = 0 from rfl] at o); (try rw [Addr.add_zero'] at o); (try rw [show ((0 : Int)).toNat = 0 from rfl] at p); (try rw [show 0 * 5 = 0 from rfl] at p); (try rw [Addr.add_zero'] at p); (try rw [show ((0 : Int)).toNat = 0 from rfl] at q); (try rw [show 0 * 5 = 0 from rfl] at q); (try rw [Addr.add_zero'] at q); (try rw [show ((0 : Int)).toNat = 0 from rfl] at r); (try rw [show 0 * 5 = 0 from rfl] at r); (try rw [Addr.add_zero'] at r); replace n := Ae g.out n; replace o := Ae g.out o; replace p := Ae g.out p; replace q := Ae g.out q; replace r := Ae g.out r; have kC := mk0 cB; have iC := mk0 eB; clear cB eB; have lC := mk0 dB; have jC := mk0 fB; clear dB fB; replace gC := eq_true gC; replace hC := eq_true hC))
 go_ret2
 exact ⟨rfl, be2 g b i⟩
end Go.Proofs.Ytojankgmedccdaa.PGn
