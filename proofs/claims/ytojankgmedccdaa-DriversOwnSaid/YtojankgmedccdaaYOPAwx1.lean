/- Lemmas. -/
import Derived.Test.YtojankgmedccdaaYOPAwx7
set_option maxHeartbeats 8000000
set_option maxRecDepth 100000
namespace Go.Proofs.Ytojankgmedccdaa.PAw
open Go.RowKit Own PTy Hand PIs Wo
attribute [local go_sem] BI BJ Ba Bc Ao Ap BL BM
set_option linter.unusedVariables false
set_option linter.unusedSimpArgs false
def Dt.f (k : Nat) (b : Int) (c : Int) (e : ByteArray) (j : List ByteArray) (l : List (S26)) (h : Int) (i : Int) (o : List Int) (q : List (S30)) (a : List (S63)) : Option (Int × Int) := (Av.f k b c e j l h i o q a).bind fun r => (if r = true then (if (a.length : Int) = 0 then (none) else (if 0 < (a.length : Int) then (some ((AA a 0).f0, 0)) else (none))) else (none))
theorem Dt.calls (k : Nat) (W : Int) (X : Int) (Y : ByteArray) (bB : Option Addr) (hB : Nat) (r : List ByteArray) (cB : Option Addr) (jB : Nat) (s : List (S26)) (Z : Int) (aB : Int) (dB : Option Addr) (kB : Nat) (u : List Int) (eB : Option Addr) (lB : Nat) (v : List (S30)) (fB : Option Addr) (mB : Nat) (a : List (S63)) (r1 : Int) (r2 : Int) (w : World) (hG : Dk w) (xB : Kd.C Kd.string w bB r.length r) (qB : r.length ≤ hB) (yB : Kd.C k26 w cB s.length s) (sB : s.length ≤ jB) (zB : Kd.C (Kd.int .u8) w dB u.length u) (tB : u.length ≤ kB) (aC : Kd.C k30 w eB v.length v) (uB : v.length ≤ lB) (bC : Kd.C k63 w fB a.length a) (wB : a.length ≤ mB) (h : Dt.f k W X Y r s Z aB u v a = some (r1, r2)) :
  Calls Try.prog 25 #[.agg #[.int .i64 W, .int .i64 X, .string Y, .slice bB r.length hB, .slice cB s.length jB], .agg #[.int .i64 Z, .int .i64 aB, .slice dB u.length kB, .slice eB v.length lB, .slice fB a.length mB]] w fun e w' => e = .returned (.tuple #[.int .i64 r1, .int .i64 r2]) ∧ Below w.heap.size w w' := by
 have HG := mk0 hG; clear hG
 have kD := Try.underlying26
 have lD := Try.underlying33
 have kC := mk0 xB; have fC := mk0 qB; clear xB qB; have lC := mk0 yB; have gC := mk0 sB; clear yB sB; have mC := mk0 zB; have hC := mk0 tB; clear zB tB; have nC := mk0 aC; have iC := mk0 uB; clear aC uB; have gB := mk0 bC; have jC := mk0 wB; clear bC wB
 have z := mk0 (Below.refl w.heap.size w)
 have H := h; unfold Dt.f at H
 clear h
 replace H := bS H; obtain ⟨nD, A3, H⟩ := H
 replace H := iB' H; obtain ⟨rfl, H⟩ | ⟨rfl, H⟩ := H
 ·exact absurd H (by simp)
 by_cases c5 : (a.length : Int) = 0
 ·rw [if_pos c5] at H; exact absurd H (by simp)
 rw [if_neg c5] at H
 have bD : ((a.length : Int) == 0) = false := beq_eq_false_iff_ne.mpr c5
 have cD : ((a.length : Int) != 0) = true := bne_iff_ne.mpr c5
 have dD : ¬ (a = []) := fun h_ => c5 (by rw [h_]; rfl)
 replace H := iN H; obtain ⟨c6, eD, H⟩ := H
 have fD : decide (0 < a.length) = true := decide_eq_true (by omega)
 clear c6
 simp only [Option.some.injEq, Prod.mk.injEq] at H
 obtain ⟨rfl, rfl⟩ := H
 go_enter Try.func25, Try.ntmps25
 go_wp2_with (first | ((with_reducible refine AU rfl (N := 2) rfl (cs := #[.int .i64 W, .int .i64 X, .string Y, .slice bB r.length hB, .slice cB s.length jB]) (t := 26) ?hr ?_); (case hr => first | (go_simp; done) | (go_simp; rfl)); intro yC hg w7 D hb; have o := mk0 (D); have q := bs (be z) hg; replace z := kh z hb; clear hb D hg) | ((with_reducible refine AU rfl (N := 3) rfl (cs := #[.int .i64 Z, .int .i64 aB, .slice dB u.length kB, .slice eB v.length lB, .slice fB a.length mB]) (t := 33) ?hr ?_); (case hr => first | (go_simp; done) | (go_simp; rfl)); intro zC hg w8 D hb; have B := mk0 (D); have O := bs (be1 z q) hg; replace z := kh1 z q hb; have ⟨T, U⟩ := nn o hg; replace o := kb o hb; clear hb D hg; have ⟨hD, jD⟩ := no T U; have tD := cells5 o.out; have uD := cells5 B.out) | ((with_reducible refine AP (f := 19) rfl ?_); refine CS Try.func19 (Av.calls k W X Y _ _ r _ _ s Z aB _ _ u _ _ v _ _ a true _ (Ad HG.out (be2 z q O)) (cu kC z) fC.out (cu lC z) gC.out (cu mC z) hC.out (cu nC z) iC.out (cu gB z) jC.out A3.out) ?_; intro sD hb; obtain ⟨o, B⟩ := tb2 hb o B; replace z := kh2 z q O hb; have vD := cells5 B.out; have cC : 0 ≤ (0 : Int) := (by omega); have dC : 0 < (a.length : Int) := of_decide_eq_true (by assumption); obtain ⟨xC, tC, vC, uC, wC, sC, b, c, i, j, l, J, G, L, I⟩ := Cq gB.out 0 cC dC; cases sC; have aD : (0 < a.length) = True := eq_true (by omega); (try rw [show ((0 : Int)).toNat = 0 from rfl] at b); (try rw [show 0 * 5 = 0 from rfl] at b); (try rw [Addr.add_zero'] at b); (try rw [show ((0 : Int)).toNat = 0 from rfl] at c); (try rw [show 0 * 5 = 0 from rfl] at c); (try rw [Addr.add_zero'] at c); (try rw [show ((0 : Int)).toNat = 0 from rfl] at i); (try rw [show 0 * 5 = 0 from rfl] at i); (try rw [Addr.add_zero'] at i); (try rw [show ((0 : Int)).toNat = 0 from rfl] at j); (try rw [show 0 * 5 = 0 from rfl] at j); (try rw [Addr.add_zero'] at j); (try rw [show ((0 : Int)).toNat = 0 from rfl] at l); (try rw [show 0 * 5 = 0 from rfl] at l); (try rw [Addr.add_zero'] at l); replace b := AY z.out b; replace c := AY z.out c; replace i := AY z.out i; replace j := AY z.out j; replace l := AY z.out l; have qC := mk0 G; have oC := mk0 J; clear G J; have rC := mk0 I; have pC := mk0 L; clear I L; replace cC := eq_true cC; replace dC := eq_true dC))
 go_ret2
 exact ⟨rfl, be2 z q O⟩
def drivers_behind.f (b : Int) (c : Int) (e : List Int) (h : List (S30)) (a : List (S63)) (i : Int) : Option (Bool) := if (a.length : Int) > 0 then (if 0 < (a.length : Int) then (some (decide (((AA a 0).f0) < i))) else (none)) else (some false)
theorem drivers_behind.calls {L O : Int} {G : Option Addr} {T : Nat} {l : List Int} {I : Option Addr} {U : Nat} {o : List (S30)} {J : Option Addr} {W : Nat} {a : List (S63)} {a1 : Int} {r : Bool} {w : World} (bB : Kd.C (Kd.int .u8) w G l.length l) (Y : l.length ≤ T) (cB : Kd.C k30 w I o.length o) (Z : o.length ≤ U) (dB : Kd.C k63 w J a.length a) (aB : a.length ≤ W) (h : drivers_behind.f L O l o a a1 = some r) :
  Calls Try.prog 50 #[.agg #[.int .i64 L, .int .i64 O, .slice G l.length T, .slice I o.length U, .slice J a.length W], .int .i64 a1] w fun e w' => e = .returned (.bool r) ∧ Below w.heap.size w w' := by
 have kC := Try.underlying33
 have dC := mk0 bB; have aC := mk0 Y; clear bB Y; have eC := mk0 cB; have bC := mk0 Z; clear cB Z; have gB := mk0 dB; have cC := mk0 aB; clear dB aB
 have X := mk0 (Below.refl w.heap.size w)
 have H := h; unfold drivers_behind.f at H
 clear h
 by_cases c3 : (a.length : Int) > 0
 rotate_left
 ·rw [if_neg c3] at H; have qB : decide (0 < (a.length : Int)) = false := decide_eq_false c3; have sB : decide (0 < a.length) = false := decide_eq_false (by omega); clear c3; obtain rfl := sI H; go_enter Try.func50, Try.ntmps50; go_wp2_with ((with_reducible refine AU rfl (N := 2) rfl (cs := #[.int .i64 L, .int .i64 O, .slice G l.length T, .slice I o.length U, .slice J a.length W]) (t := 33) ?hr ?_); (case hr => first | (go_simp; done) | (go_simp; rfl)); intro hB hg w7 q hb; have B := mk0 (q); have D := bs (be X) hg; replace X := kh X hb; clear hb q hg; have z8 := cells5 B.out); go_ret; exact ⟨rfl, be1 X D⟩
 rw [if_pos c3] at H; have qB : decide (0 < (a.length : Int)) = true := decide_eq_true c3
 have sB : decide (0 < a.length) = true := decide_eq_true (by omega)
 clear c3
 replace H := iN H; obtain ⟨c4, iC, H⟩ := H
 have jC : decide (0 < a.length) = true := decide_eq_true (by omega)
 clear c4
 obtain rfl := sI H
 go_enter Try.func50, Try.ntmps50
 go_wp2_with ((with_reducible refine AU rfl (N := 2) rfl (cs := #[.int .i64 L, .int .i64 O, .slice G l.length T, .slice I o.length U, .slice J a.length W]) (t := 33) ?hr ?_); (case hr => first | (go_simp; done) | (go_simp; rfl)); intro hB hg w5 q hb; have B := mk0 (q); have D := bs (be X) hg; replace X := kh X hb; clear hb q hg; have z6 := cells5 B.out; have eB : 0 ≤ (0 : Int) := (by omega); have fB : 0 < (a.length : Int) := of_decide_eq_true (by assumption); obtain ⟨fC, wB, yB, xB, zB, tB, b, c, i, j, k, v, s, z, u⟩ := Cq gB.out 0 eB fB; cases tB; have gC : (0 < a.length) = True := eq_true (by omega); (try rw [show ((0 : Int)).toNat = 0 from rfl] at b); (try rw [show 0 * 5 = 0 from rfl] at b); (try rw [Addr.add_zero'] at b); (try rw [show ((0 : Int)).toNat = 0 from rfl] at c); (try rw [show 0 * 5 = 0 from rfl] at c); (try rw [Addr.add_zero'] at c); (try rw [show ((0 : Int)).toNat = 0 from rfl] at i); (try rw [show 0 * 5 = 0 from rfl] at i); (try rw [Addr.add_zero'] at i); (try rw [show ((0 : Int)).toNat = 0 from rfl] at j); (try rw [show 0 * 5 = 0 from rfl] at j); (try rw [Addr.add_zero'] at j); (try rw [show ((0 : Int)).toNat = 0 from rfl] at k); (try rw [show 0 * 5 = 0 from rfl] at k); (try rw [Addr.add_zero'] at k); replace b := AY X.out b; replace c := AY X.out c; replace i := AY X.out i; replace j := AY X.out j; replace k := AY X.out k; have lB := mk0 s; have jB := mk0 v; clear s v; have mB := mk0 u; have kB := mk0 z; clear u z; replace eB := eq_true eB; replace fB := eq_true fB)
 go_ret
 exact ⟨rfl, be1 X D⟩
def drivers_copied.f (a : Int) (b : Int) (c : List Int) (e : List (S30)) : Option (Int × Int × List Int × (List (S30))) := (EA.f c).bind fun t109 => (some (a, b, t109, e))
theorem drivers_copied.calls {o r : Int} {O : Option Addr} {T : Nat} {i : List Int} (J : Nat → Prop) {B : Option Addr} {D : Nat} {j : List (S30)} {r1 r2 : Int} {r3 : List Int} {r4 : List (S30)} {w : World} (Z : Kd.C (Kd.int .u8) w O i.length i) (Y : i.length ≤ T) (fB : Kd.V k30 30 w w.heap.size (fun z => J z) (.slice B j.length D) j) (h : drivers_copied.f o r i j = some (r1, r2, r3, r4)) :
  Calls Try.prog 51 #[.agg #[.int .i64 o, .int .i64 r, .slice O i.length T, .slice B j.length D]] w fun e w' => ∃ gB hB : Value, e = .returned (.agg #[.int .i64 r1, .int .i64 r2, gB, hB]) ∧ Kd.R (Kd.int .u8) 73 w' w.heap.size (fun z => (w.heap.size ≤ z)) gB r3 ∧ Kd.V k30 30 w' w.heap.size (fun z => (J z ∨ w.heap.size ≤ z) ∧ nw gB z) hB r4 ∧ Below w.heap.size w w' := by
 have mB := Try.underlying30
 have dB := mk0 Z; have cB := mk0 Y; clear Z Y
 have b := mk0 (show Kd.V k30 30 w w.heap.size (fun z => (J z ∨ w.heap.size ≤ z)) (.slice B j.length D) j from Kd.AR fB (fun z s => .inl s))
 have U := mk0 (Below.refl w.heap.size w)
 have H := h; unfold drivers_copied.f at H
 clear h
 replace H := bS H; obtain ⟨t109, A2, H⟩ := H
 simp only [Option.some.injEq, Prod.mk.injEq] at H
 obtain ⟨rfl, rfl, rfl, rfl⟩ := H
 go_enter Try.func51, Try.ntmps51
 go_wp2_with (first | ((with_reducible refine AU rfl (N := 1) rfl (cs := #[.int .i64 o, .int .i64 r, .slice O i.length T, .slice B j.length D]) (t := 30) ?hr ?_); (case hr => first | (go_simp; done) | (go_simp; rfl)); intro L hg w3 G W; replace b := vB b hg W; have a := mk0 (G); have c := bs (be U) hg; replace U := kh U W; clear W G hg) | ((with_reducible refine AU rfl (N := 2) rfl (cs := #[.int .i64 0, .int .i64 0, .slice none 0 0, .slice none 0 0]) (t := 30) ?hr ?_); (case hr => first | (go_simp; done) | (go_simp; rfl)); intro v hg w4 G W; replace b := vB b hg W; have k := mk0 (G); have u := bs (be1 U c) hg; replace U := kh1 U c W; have ⟨I, l⟩ := nn a hg; replace a := kb a W; clear W G hg; have ⟨kB, lB⟩ := no I l; have z6 := Ar a.out) | ((with_reducible refine AP (f := 68) rfl ?_); refine Hu Try.func68 #[.slice O i.length T] ?_; (with_reducible refine (EA.calls _ _ i t109 _ ?side1 ?side2 A2.out).mono ?_); (case side1 => exact cu dB U); (case side2 => exact cB.out); rintro e w7 ⟨v110, rfl, eB, W⟩; refine ⟨_, rfl, ?_⟩; replace b := mk0 (Kd.Au (Bl b.out) (Kd.Bp eB) W); have X := mk0 (Kd.Cc (Kd.EL (M := fun z => (w.heap.size ≤ z)) eB (AX (be2 U c u)) (fun z h_ => h_)) (AX (be2 U c u))); obtain ⟨a, k⟩ := tb2 W a k; replace U := kh2 U c u W; (try clear eB); obtain ⟨aB, bB, jB⟩ := Kd.Bo X.out; subst jB; have z9 := Ar a.out; have uB := Ar k.out))
 refine bodyPost_ret (results_cell_row rfl _ _ v 30 #[.int .i64 o, .int .i64 r, .slice aB t109.length bB, .slice B j.length D] (0, 0) _ rfl (by refine Dl ?_; refine CP (cs := #[.int .i64 o, .int .i64 r, .slice aB t109.length bB, .slice none 0 0]) ?_ 3 _ rfl; refine Dl ?_; refine CP (cs := #[.int .i64 o, .int .i64 r, .slice none 0 0, .slice none 0 0]) ?_ 2 _ rfl; refine Dl ?_; refine CP (cs := #[.int .i64 o, .int .i64 0, .slice none 0 0, .slice none 0 0]) ?_ 1 _ rfl; refine Dl ?_; refine CP (cs := #[.int .i64 0, .int .i64 0, .slice none 0 0, .slice none 0 0]) ?_ 0 _ rfl; refine Dl ?_; refine ED ?_ l.out _; refine Dl ?_; exact k.out) Try.underlying30 rfl (by kernel_rfl)) rfl ?_
 exact ⟨_, _, rfl, by exact DZ (Kd.BS (rI (q := v) (Kd.QU (p := ⟨L, 2, none⟩) (Kd.Bf (Kd.Bf X.out a.out (by decide)) k.out (by decide)) (fun _ s => s.1.2) (.slice aB t109.length bB)) (fun _ s => s.2)) (fun _ s => s.1.1.1)), by exact BB (Kd.AR (vI (q := v) (Kd.Qa (p := ⟨L, 2, none⟩) (Kd.AR (Kd.AR b.out (fun z s => (⟨s, s.1.1.2⟩ : _ ∧ z ≠ L))) (fun z s => (⟨s, s.1.1.2⟩ : _ ∧ z ≠ v))) (fun _ s => s.1.2) (.slice aB t109.length bB)) (fun _ s => s.2)) (fun _ s => ⟨s.1.1.1.1.1, s.1.1.2⟩)), be2 U c u⟩
def drivers_all.l0 : Nat → List (S63) → List (S63) → Int → Int → Option ((List (S63)))
 | 0, _, _, _, _ => none
 | k + 1, x3, c, e, b => if b < e then (if 0 ≤ b then (if b < (c.length : Int) then ((drivers_copied.f ((AA c b).f1.f0) ((AA c b).f1.f1) ((AA c b).f1.f2) ((AA c b).f1.f3)).bind fun a => (if x3.length < 1954687338268 then (drivers_all.l0 k (x3 ++ [(⟨(AA c b).f0, (⟨a.1, a.2.1, a.2.2.1, a.2.2.2⟩ : S30)⟩ : S63)]) c e (wrap64 (b + 1))) else (none))) else (none)) else (none)) else (some x3)
def drivers_all.f (k : Nat) (l0 : List (S63)) : Option ((List (S63))) := if 0 ≤ (l0.length : Int) then (if ((l0.length : Int) : Int).toNat ≤ 3909374676536 then (drivers_all.l0 k (([] : List (S63))) l0 (l0.length : Int) 0) else (none)) else (none)
def drivers_all.T5 : Bool × List (List Nat × List Nat) := (true, [([], []), ([], []), ([1], [1]), ([], []), ([3], [3]), ([4], [4]), ([2, 5], [2, 5]), ([6], [6]), ([0, 7, 5], [0, 7]), ([8, 8, 0, 1, 2, 3, 4, 5, 6, 7, 8], [0, 8])])
def drivers_all.B5 : List Nat := [0, 0, 2, 0, 8, 24, 62, 126, 255, 511]
theorem drivers_all.OB : Cm .any (opsOf Try.f52 5) = drivers_all.T5 := by kernel_rfl
theorem drivers_all.Ka : CX drivers_all.T5.2 drivers_all.B5 = true := by kernel_rfl
end Go.Proofs.Ytojankgmedccdaa.PAw
