/- Part of the proof of LawDriversShapes: every definition and lemma is one that it names. -/
import Derived.Test.YtojankgmedccdaaYSPGnx0
import Derived.Test.YtojankgmedccdaaYSPGnF49
namespace Go.Proofs.Ytojankgmedccdaa.PGn
open Go.RowKit Own PTy Hand PIs PAw YtojankgmedccdaaW.PrintWords YtojankgmedccdaaW.PrintLast YtojankgmedccdaaW.PrintMore
attribute [local go_sem] BR BS Bj Bl BH BI BU BX
set_option linter.unusedVariables false
set_option linter.unusedSimpArgs false
mutual
def Bc.j0 : Nat → Int → Int → Bool → Int → Int → List Int → List (S30) → List (S63) → Option ((List (S63)) × Int)
 | 0, _, _, _, _, _, _, _, _ => none
 | k + 1, x2, x3, q, d, e, g, h, b => if q = true then (some (([] : List (S63)), 2)) else ((EL.f d e g h b x2).bind fun o => (if o = true then (some (([] : List (S63)), 5)) else (Bc.l0 k x3 ([] : List (S63)) b (b.length : Int) 0 d e g h)))
def Bc.l0 : Nat → Int → List (S63) → List (S63) → Int → Int → Int → Int → List Int → List (S30) → Option ((List (S63)) × Int)
 | 0, _, _, _, _, _, _, _, _, _ => none
 | k + 1, x3, i, x40, x41, a, j, l, m, n => if a < x41 then (if 0 ≤ a then (if a < (x40.length : Int) then (if ((AA x40 a).f0) ≤ x3 then ((FY.f j l m n ((AA x40 a).f1.f0) ((AA x40 a).f1.f1) ((AA x40 a).f1.f2) ((AA x40 a).f1.f3)).bind fun p => (if p = true then (Bc.l0 k x3 i x40 x41 (wrap64 (a + 1)) ((AA x40 a).f1.f0) ((AA x40 a).f1.f1) ((AA x40 a).f1.f2) ((AA x40 a).f1.f3)) else ((Gz.f ((AA x40 a).f1.f0) ((AA x40 a).f1.f1) ((AA x40 a).f1.f2) ((AA x40 a).f1.f3)).bind fun c => (if i.length < 1954687338268 then (Bc.l0 k x3 (i ++ [(⟨(AA x40 a).f0, (⟨c.1, c.2.1, c.2.2.1, c.2.2.2⟩ : S30)⟩ : S63)]) x40 x41 (wrap64 (a + 1)) ((AA x40 a).f1.f0) ((AA x40 a).f1.f1) ((AA x40 a).f1.f2) ((AA x40 a).f1.f3)) else (none))))) else (Bc.l0 k x3 i x40 x41 (wrap64 (a + 1)) ((AA x40 a).f1.f0) ((AA x40 a).f1.f1) ((AA x40 a).f1.f2) ((AA x40 a).f1.f3))) else (none)) else (none)) else (some (i, 0))
end
def Bc.f (k : Nat) (h : Int) (i : Int) (j : ByteArray) (l : List ByteArray) (m : List (S26)) (a : Int) (b : Int) (c : List Int) (d : List (S30)) (e : List (S63)) (g : Int) (a3 : Int) : Option ((List (S63)) × Int) := (DK.f k h i j l m a b c d e).bind fun n => (if n = true then (if g < 0 then (Bc.j0 k g a3 true a b c d e) else (if g > 2000000 then (Bc.j0 k g a3 true a b c d e) else (if a3 < 0 then (Bc.j0 k g a3 true a b c d e) else (Bc.j0 k g a3 (decide (a3 > 2000000)) a b c d e)))) else (Bc.j0 k g a3 true a b c d e))
def Bc.T11 : Bool × List (List Nat × List Nat) := (true, [([], []), ([], []), ([1], [1]), ([], []), ([3], [3]), ([4], [4]), ([2, 5], [2, 5]), ([6], [6]), ([0, 7, 5], [0, 7]), ([8, 8, 0, 1, 2, 3, 4, 5, 6, 7, 8], [0, 8])])
def Bc.B11 : List Nat := [0, 0, 2, 0, 8, 24, 62, 126, 255, 511]
theorem Bc.P5 : C9 .any (opsOf Try.f34 11) = Bc.T11 := by kernel_rfl
theorem Bc.PI : Cm Bc.T11.2 Bc.B11 = true := by kernel_rfl
set_option maxHeartbeats 8000000 in
set_option maxRecDepth 100000 in
theorem Bc.calls {k : Nat} {qE rE : Int} {sE : ByteArray} {oE : Option Addr} {tE : Nat} {uD : List ByteArray} {pE : Option Addr} {uE : Nat} {vD : List (S26)} {xD yD : Int} (gB : Nat → Prop) {hD : Option Addr} {kD : Nat} {rC : List Int} (hB : Nat → Prop) {jD : Option Addr} {lD : Nat} {sC : List (S30)} (jB : Nat → Prop) {nD : Option Addr} {mD : Nat} {d : List (S63)} {a2 a3 : Int} {r1 : List (S63)} {r2 : Int} {w : World} (nG : Kd.C Kd.string w oE uD.length uD) (lG : uD.length ≤ tE) (oG : Kd.C k26 w pE vD.length vD) (mG : vD.length ≤ uE) (iH : Kd.V (Kd.int .u8) 73 w w.heap.size (fun l => gB l) (.slice hD rC.length kD) rC) (jH : Kd.V k30 30 w w.heap.size (fun l => hB l) (.slice jD sC.length lD) sC) (kH : Kd.V k63 63 w w.heap.size (fun l => jB l) (.slice nD d.length mD) d) (h : Bc.f k qE rE sE uD vD xD yD rC sC d a2 a3 = some (r1, r2)) :
  Calls Try.prog 34 #[.agg #[.int .i64 qE, .int .i64 rE, .string sE, .slice oE uD.length tE, .slice pE vD.length uE], .agg #[.int .i64 xD, .int .i64 yD, .slice hD rC.length kD, .slice jD sC.length lD, .slice nD d.length mD], .int .i64 a2, .int .i64 a3] w fun e w' => ∃ bI : Value, e = .returned (.tuple #[bI, .int .i64 r2]) ∧ Kd.R k63 63 w' w.heap.size (fun l => (w.heap.size ≤ l)) bI r1 ∧ Below w.heap.size w w' := by
 have kK := Try.underlying26
 have mK := Try.underlying33
 have lK := Try.underlying30
 have nK := Try.underlying63
 have fE := mk0 nG; have dE := mk0 lG; clear nG lG; have gE := mk0 oG; have eE := mk0 mG; clear oG mG
 have W := mk0 (show Kd.V (Kd.int .u8) 73 w w.heap.size (fun l => ((gB l ∨ hB l ∨ jB l) ∨ w.heap.size ≤ l)) (.slice hD rC.length kD) rC from Kd.AJ iH (fun l a => .inl (.inl a)))
 have X := mk0 (show Kd.V k30 30 w w.heap.size (fun l => ((gB l ∨ hB l ∨ jB l) ∨ w.heap.size ≤ l)) (.slice jD sC.length lD) sC from Kd.AJ jH (fun l a => .inl (.inr (.inl a))))
 have Y := mk0 (show Kd.V k63 63 w w.heap.size (fun l => ((gB l ∨ hB l ∨ jB l) ∨ w.heap.size ≤ l)) (.slice nD d.length mD) d from Kd.AJ kH (fun l a => .inl (.inr (.inr a))))
 have HB := mk0 (Below.refl w.heap.size w)
 have H := h; unfold Bc.f at H
 clear h; have yG := mk0 H; clear H
 go_enter Try.func34, Try.ntmps34
 go_upto_region 1 with (first | ((with_reducible refine AC rfl (N := 4) rfl (cs := #[.int .i64 qE, .int .i64 rE, .string sE, .slice oE uD.length tE, .slice pE vD.length uE]) (t := 26) ?hr ?_); (case hr => first | (go_simp; done) | (go_simp; rfl)); intro mB hg w6 mC U; obtain ⟨W, X, Y⟩ := tg3 hg U W X Y; have y := mk0 (mC); have J := bs (be HB) hg; replace HB := kh HB U; clear U mC hg) | ((with_reducible refine AC rfl (N := 5) rfl (cs := #[.int .i64 xD, .int .i64 yD, .slice hD rC.length kD, .slice jD sC.length lD, .slice nD d.length mD]) (t := 33) ?hr ?_); (case hr => first | (go_simp; done) | (go_simp; rfl)); intro oB hg w7 mC U; obtain ⟨W, X, Y⟩ := tg3 hg U W X Y; have x := mk0 (mC); have O := bs (be1 HB J) hg; replace HB := kh1 HB J U; have ⟨iC, jC⟩ := nn y hg; replace y := kb y U; clear U mC hg))
 (try simp only [Act.put, List.setIfInBounds_toArray, List.set_cons_zero, List.set_cons_succ])
 go_cut [33] (fun v33 wc => ∃ (kq : Nat) (dG : Bool), v33 = .bool dG ∧ Aside0 (Bc.j0 kq a2 a3 dG xD yD rC sC d = some (r1, r2)) ∧ Aside0 (kq ≤ k) ∧ Aside0 (Kd.V (Kd.int .u8) 73 wc w.heap.size (fun l => ((gB l ∨ hB l ∨ jB l) ∨ w.heap.size ≤ l) ∧ l ≠ mB ∧ l ≠ oB) (.slice hD rC.length kD) rC) ∧ Aside0 (Kd.V k30 30 wc w.heap.size (fun l => ((gB l ∨ hB l ∨ jB l) ∨ w.heap.size ≤ l) ∧ l ≠ mB ∧ l ≠ oB) (.slice jD sC.length lD) sC) ∧ Aside0 (Kd.V k63 63 wc w.heap.size (fun l => ((gB l ∨ hB l ∨ jB l) ∨ w.heap.size ≤ l) ∧ l ≠ mB ∧ l ≠ oB) (.slice nD d.length mD) d) ∧ Aside0 (wc.heap[mB]? = some (.cells #[.int .i64 qE, .int .i64 rE, .string sE, (.slice oE uD.length tE), (.slice pE vD.length uE)] 26 (0, 0))) ∧ Aside0 (wc.heap[oB]? = some (.cells #[.int .i64 xD, .int .i64 yD, (.slice hD rC.length kD), (.slice jD sC.length lD), (.slice nD d.length mD)] 33 (0, 0))) ∧ Aside0 (Below w.heap.size w wc))
 case first =>
  have H := yG.out; clear yG
  replace H := bS H; obtain ⟨oK, A8, H⟩ := H
  replace H := iB' H; obtain ⟨rfl, H⟩ | ⟨rfl, H⟩ := H
  ·have H' := mk0 H
   clear H; have ⟨jI, lJ⟩ := no iC jC
   have zK := cells5 y.out
   have bL := cells5 x.out
   go_wp2_with ((with_reducible refine AO (f := 20) rfl ?_); refine CU Try.func20 (DK.calls (cu fE HB) dE.out (cu gE HB) eE.out (DY (Kd.AP W.out).2.2) ((Kd.AP W.out).2.1) (DY (Kd.AP X.out).2.2) ((Kd.AP X.out).2.1) (DY (Kd.AP Y.out).2.2) ((Kd.AP Y.out).2.1) A8.out) ?_; intro aM U; replace W := vb W U; replace X := vb X U; replace Y := vb Y U; obtain ⟨y, x⟩ := tb2 U y x; replace HB := kh2 HB J O U)
   go_meet
   case rel => exact ⟨_, (true), rfl, H', ⟨by omega⟩, ⟨Ay (Kd.AJ W.out (fun _ a => ⟨a.1.1, ⟨a.1.2, a.2⟩⟩))⟩, ⟨Ay (Kd.AJ X.out (fun _ a => ⟨a.1.1, ⟨a.1.2, a.2⟩⟩))⟩, ⟨Ay (Kd.AJ Y.out (fun _ a => ⟨a.1.1, ⟨a.1.2, a.2⟩⟩))⟩, ⟨bu y⟩, ⟨bu x⟩, ⟨be2 HB J O⟩⟩
  replace H := iD H; obtain ⟨-, jE, H⟩ | ⟨-, jE, H⟩ := H
  ·(first | rw [jE] | (simp only [CF, DV]; rw [jE]) | skip)
   have H' := mk0 H
   clear H; have ⟨fI, hJ⟩ := no iC jC
   have rK := cells5 y.out
   have sK := cells5 x.out
   go_wp2_with ((with_reducible refine AO (f := 20) rfl ?_); refine CU Try.func20 (DK.calls (cu fE HB) dE.out (cu gE HB) eE.out (DY (Kd.AP W.out).2.2) ((Kd.AP W.out).2.1) (DY (Kd.AP X.out).2.2) ((Kd.AP X.out).2.1) (DY (Kd.AP Y.out).2.2) ((Kd.AP Y.out).2.1) A8.out) ?_; intro wL U; replace W := vb W U; replace X := vb X U; replace Y := vb Y U; obtain ⟨y, x⟩ := tb2 U y x; replace HB := kh2 HB J O U)
   go_meet
   case rel => exact ⟨_, (true), rfl, H', ⟨by omega⟩, ⟨Ay (Kd.AJ W.out (fun _ a => ⟨a.1.1, ⟨a.1.2, a.2⟩⟩))⟩, ⟨Ay (Kd.AJ X.out (fun _ a => ⟨a.1.1, ⟨a.1.2, a.2⟩⟩))⟩, ⟨Ay (Kd.AJ Y.out (fun _ a => ⟨a.1.1, ⟨a.1.2, a.2⟩⟩))⟩, ⟨bu y⟩, ⟨bu x⟩, ⟨be2 HB J O⟩⟩
  (first | rw [jE] | (simp only [CF, DV]; rw [jE]) | skip)
  by_cases c15 : a2 > 2000000
  ·rw [if_pos c15] at H
   have cH : decide (2000000 < a2) = true := decide_eq_true c15; clear c15
   have H' := mk0 H
   clear H; have ⟨gI, iJ⟩ := no iC jC
   have tK := cells5 y.out
   have uK := cells5 x.out
   go_wp2_with ((with_reducible refine AO (f := 20) rfl ?_); refine CU Try.func20 (DK.calls (cu fE HB) dE.out (cu gE HB) eE.out (DY (Kd.AP W.out).2.2) ((Kd.AP W.out).2.1) (DY (Kd.AP X.out).2.2) ((Kd.AP X.out).2.1) (DY (Kd.AP Y.out).2.2) ((Kd.AP Y.out).2.1) A8.out) ?_; intro xL U; replace W := vb W U; replace X := vb X U; replace Y := vb Y U; obtain ⟨y, x⟩ := tb2 U y x; replace HB := kh2 HB J O U)
   go_meet
   case rel => exact ⟨_, (true), rfl, H', ⟨by omega⟩, ⟨Ay (Kd.AJ W.out (fun _ a => ⟨a.1.1, ⟨a.1.2, a.2⟩⟩))⟩, ⟨Ay (Kd.AJ X.out (fun _ a => ⟨a.1.1, ⟨a.1.2, a.2⟩⟩))⟩, ⟨Ay (Kd.AJ Y.out (fun _ a => ⟨a.1.1, ⟨a.1.2, a.2⟩⟩))⟩, ⟨bu y⟩, ⟨bu x⟩, ⟨be2 HB J O⟩⟩
  rw [if_neg c15] at H; have cH : decide (2000000 < a2) = false := decide_eq_false c15; clear c15
  replace H := iD' H; obtain ⟨-, dH, H⟩ | ⟨-, dH, H⟩ := H
  ·have H' := mk0 H
   clear H; have ⟨iI, kJ⟩ := no iC jC
   have xK := cells5 y.out
   have yK := cells5 x.out
   go_wp2_with ((with_reducible refine AO (f := 20) rfl ?_); refine CU Try.func20 (DK.calls (cu fE HB) dE.out (cu gE HB) eE.out (DY (Kd.AP W.out).2.2) ((Kd.AP W.out).2.1) (DY (Kd.AP X.out).2.2) ((Kd.AP X.out).2.1) (DY (Kd.AP Y.out).2.2) ((Kd.AP Y.out).2.1) A8.out) ?_; intro zL U; replace W := vb W U; replace X := vb X U; replace Y := vb Y U; obtain ⟨y, x⟩ := tb2 U y x; replace HB := kh2 HB J O U)
   go_meet
   case rel => exact ⟨_, (decide (a3 > 2000000)), rfl, H', ⟨by omega⟩, ⟨Ay (Kd.AJ W.out (fun _ a => ⟨a.1.1, ⟨a.1.2, a.2⟩⟩))⟩, ⟨Ay (Kd.AJ X.out (fun _ a => ⟨a.1.1, ⟨a.1.2, a.2⟩⟩))⟩, ⟨Ay (Kd.AJ Y.out (fun _ a => ⟨a.1.1, ⟨a.1.2, a.2⟩⟩))⟩, ⟨bu y⟩, ⟨bu x⟩, ⟨be2 HB J O⟩⟩
  have H' := mk0 H
  clear H; have ⟨hI, jJ⟩ := no iC jC
  have vK := cells5 y.out
  have wK := cells5 x.out
  go_wp2_with ((with_reducible refine AO (f := 20) rfl ?_); refine CU Try.func20 (DK.calls (cu fE HB) dE.out (cu gE HB) eE.out (DY (Kd.AP W.out).2.2) ((Kd.AP W.out).2.1) (DY (Kd.AP X.out).2.2) ((Kd.AP X.out).2.1) (DY (Kd.AP Y.out).2.2) ((Kd.AP Y.out).2.1) A8.out) ?_; intro yL U; replace W := vb W U; replace X := vb X U; replace Y := vb Y U; obtain ⟨y, x⟩ := tb2 U y x; replace HB := kh2 HB J O U)
  go_meet
  case rel => exact ⟨_, (true), rfl, H', ⟨by omega⟩, ⟨Ay (Kd.AJ W.out (fun _ a => ⟨a.1.1, ⟨a.1.2, a.2⟩⟩))⟩, ⟨Ay (Kd.AJ X.out (fun _ a => ⟨a.1.1, ⟨a.1.2, a.2⟩⟩))⟩, ⟨Ay (Kd.AJ Y.out (fun _ a => ⟨a.1.1, ⟨a.1.2, a.2⟩⟩))⟩, ⟨bu y⟩, ⟨bu x⟩, ⟨be2 HB J O⟩⟩
 case rest =>
  clear yG
  obtain ⟨kq, dG, rfl, HA, gG, r, s, u, y, x, HB⟩ := hcut
  cases kq with
  | zero => exact absurd HA.out (by simp [Bc.j0])
  | succ aI =>
   have H := HA.out; clear HA
   simp only [Bc.j0] at H
   replace H := iB H; obtain ⟨rfl, H⟩ | ⟨rfl, H⟩ := H
   ·simp only [Option.some.injEq, Prod.mk.injEq] at H
    obtain ⟨rfl, rfl⟩ := H
    go_wp2
    go_ret2
    exact ⟨_, rfl, by first | exact Kd.EO _ _ _ _ _ | exact Kd.FJ _ _ _ _ _ | exact Kd.D8 _ _ _ _ _ | exact Kd.E5 _ _ _ _ _ | exact Kd.FC _ _ _ _ _, be2 HB J O⟩
   replace H := bS H; obtain ⟨pK, pH, H⟩ := H
   replace H := iB H; obtain ⟨rfl, H⟩ | ⟨rfl, H⟩ := H
   ·simp only [Option.some.injEq, Prod.mk.injEq] at H
    obtain ⟨rfl, rfl⟩ := H
    have ⟨kI, mJ⟩ := no jC iC
    have cL := cells5 x.out
    go_wp2_with ((with_reducible refine AO (f := 47) rfl ?_); refine CU Try.func47 (EL.calls (DY (Kd.AP r.out).2.2) ((Kd.AP r.out).2.1) (DY (Kd.AP s.out).2.2) ((Kd.AP s.out).2.1) (DY (Kd.AP u.out).2.2) ((Kd.AP u.out).2.1) pH.out) ?_; intro bM U; replace r := vb r U; replace s := vb s U; replace u := vb u U; obtain ⟨y, x⟩ := tb2 U y x; replace HB := kh2 HB J O U)
    go_ret2
    exact ⟨_, rfl, by first | exact Kd.EO _ _ _ _ _ | exact Kd.FJ _ _ _ _ _ | exact Kd.D8 _ _ _ _ _ | exact Kd.E5 _ _ _ _ _ | exact Kd.FC _ _ _ _ _, be2 HB J O⟩
   have H' := mk0 H
   clear H; have ⟨lI, nJ⟩ := no jC iC
   have dL := cells5 x.out
   go_wp2_with (first | ((with_reducible refine AO (f := 47) rfl ?_); refine CU Try.func47 (EL.calls (DY (Kd.AP r.out).2.2) ((Kd.AP r.out).2.1) (DY (Kd.AP s.out).2.2) ((Kd.AP s.out).2.1) (DY (Kd.AP u.out).2.2) ((Kd.AP u.out).2.1) pH.out) ?_; intro cM U; replace r := vb r U; replace s := vb s U; replace u := vb u U; obtain ⟨y, x⟩ := tb2 U y x; replace HB := kh2 HB J O U; have eL := cells5 x.out) | ((with_reducible refine AC rfl (N := 11) rfl (cs := #[.int .i64 0, .int .i64 0, .slice none 0 0, .slice none 0 0]) (t := 30) ?hr ?_); (case hr => first | (go_simp; done) | (go_simp; rfl)); intro m hg dM mC U; obtain ⟨r, s, u⟩ := tg3 hg U r s u; have L := mk0 (mC); have yB := bs (be2 HB J O) hg; replace HB := kh2 HB J O U; have ⟨qB, bD⟩ := nn y hg; have ⟨sB, cD⟩ := nn x hg; obtain ⟨y, x⟩ := tb2 U y x; clear U mC hg; have ⟨mI, oJ⟩ := no bD qB; have ⟨oI, pJ⟩ := no cD sB; have fL := AZ L.out; have gL := cells5 x.out))
   go_loopg [10, 42] aI (fun kq v10 v42 w' => ∃ (yC : List (S63)) (b : Int) (kC : Int) (eC : Int) (fC : List Int) (gC : List (S30)) (u554002 : Value) (u554003 : Value), v42 = .int .i64 b ∧ Aside0 (Bc.l0 kq a3 yC d (d.length : Int) b kC eC fC gC = some (r1, r2)) ∧ Aside0 (kq ≤ aI) ∧ Aside0 (Kd.R k63 63 w' w.heap.size (fun l => (w.heap.size ≤ l) ∧ l ≠ m) v10 yC) ∧ Aside0 (Kd.V k63 63 w' w.heap.size (fun l => ((gB l ∨ hB l ∨ jB l) ∨ w.heap.size ≤ l) ∧ some l ≠ (v10 : Value).ownBlock ∧ l ≠ mB ∧ l ≠ oB ∧ l ≠ m) (.slice nD d.length mD) d) ∧ Aside0 (Kd.V (Kd.int .u8) 73 w' w.heap.size (fun l => ((gB l ∨ hB l ∨ jB l) ∨ w.heap.size ≤ l) ∧ some l ≠ (v10 : Value).ownBlock ∧ l ≠ mB ∧ l ≠ oB ∧ l ≠ m) (.slice hD rC.length kD) rC) ∧ Aside0 (Kd.V k30 30 w' w.heap.size (fun l => ((gB l ∨ hB l ∨ jB l) ∨ w.heap.size ≤ l) ∧ some l ≠ (v10 : Value).ownBlock ∧ l ≠ mB ∧ l ≠ oB ∧ l ≠ m) (.slice jD sC.length lD) sC) ∧ Aside0 (Kd.V k63 63 w' w.heap.size (fun l => ((gB l ∨ hB l ∨ jB l) ∨ w.heap.size ≤ l) ∧ some l ≠ (v10 : Value).ownBlock ∧ l ≠ mB ∧ l ≠ oB ∧ l ≠ m) (.slice nD d.length mD) d) ∧ Aside0 (Kd.V (Kd.int .u8) 73 w' w.heap.size (fun l => ((gB l ∨ hB l ∨ jB l) ∨ w.heap.size ≤ l) ∧ some l ≠ (v10 : Value).ownBlock ∧ l ≠ mB ∧ l ≠ oB ∧ l ≠ m) u554002 fC) ∧ Aside0 (Kd.V k30 30 w' w.heap.size (fun l => ((gB l ∨ hB l ∨ jB l) ∨ w.heap.size ≤ l) ∧ some l ≠ (v10 : Value).ownBlock ∧ l ≠ mB ∧ l ≠ oB ∧ l ≠ m) u554003 gC) ∧ Aside0 (w'.heap[mB]? = some (.cells #[.int .i64 qE, .int .i64 rE, .string sE, (.slice oE uD.length tE), (.slice pE vD.length uE)] 26 (0, 0))) ∧ Aside0 (w'.heap[oB]? = some (.cells #[.int .i64 xD, .int .i64 yD, (.slice hD rC.length kD), (.slice jD sC.length lD), (.slice nD d.length mD)] 33 (0, 0))) ∧ Aside0 (w'.heap[m]? = some (.cells #[.int .i64 kC, .int .i64 eC, u554002, u554003] 30 (0, 0))) ∧ Aside0 (Below w.heap.size w w'))
   case atStart => exact ⟨(([] : List (S63))), (0), (xD), (yD), (rC), (sC), (.slice hD rC.length kD), (.slice jD sC.length lD), rfl, H', ⟨Nat.le_refl _⟩, ⟨by first | exact Kd.EO _ _ _ _ _ | exact Kd.FJ _ _ _ _ _ | exact Kd.D8 _ _ _ _ _ | exact Kd.E5 _ _ _ _ _ | exact Kd.FC _ _ _ _ _⟩, ⟨Ay (Kd.AJ (vI (q := m) (Kd.AJ u.out (fun l a => (⟨a, a.2⟩ : _ ∧ l ≠ m))) (fun _ a => a.2)) (fun _ a => ⟨a.1.1.1, ⟨(by simp [Value.ownBlock]), ⟨a.1.1.2.1, ⟨a.1.1.2.2, a.1.2⟩⟩⟩⟩))⟩, ⟨Ay (Kd.AJ (vI (q := m) (Kd.AJ r.out (fun l a => (⟨a, a.2⟩ : _ ∧ l ≠ m))) (fun _ a => a.2)) (fun _ a => ⟨a.1.1.1, ⟨(by simp [Value.ownBlock]), ⟨a.1.1.2.1, ⟨a.1.1.2.2, a.1.2⟩⟩⟩⟩))⟩, ⟨Ay (Kd.AJ (vI (q := m) (Kd.AJ s.out (fun l a => (⟨a, a.2⟩ : _ ∧ l ≠ m))) (fun _ a => a.2)) (fun _ a => ⟨a.1.1.1, ⟨(by simp [Value.ownBlock]), ⟨a.1.1.2.1, ⟨a.1.1.2.2, a.1.2⟩⟩⟩⟩))⟩, ⟨Ay (Kd.AJ (vI (q := m) (Kd.AJ u.out (fun l a => (⟨a, a.2⟩ : _ ∧ l ≠ m))) (fun _ a => a.2)) (fun _ a => ⟨a.1.1.1, ⟨(by simp [Value.ownBlock]), ⟨a.1.1.2.1, ⟨a.1.1.2.2, a.1.2⟩⟩⟩⟩))⟩, ⟨Ay (Kd.AJ (vI (q := m) (Kd.AJ r.out (fun l a => (⟨a, a.2⟩ : _ ∧ l ≠ m))) (fun _ a => a.2)) (fun _ a => ⟨a.1.1.1, ⟨(by simp [Value.ownBlock]), ⟨a.1.1.2.1, ⟨a.1.1.2.2, a.1.2⟩⟩⟩⟩))⟩, ⟨Ay (Kd.AJ (vI (q := m) (Kd.AJ s.out (fun l a => (⟨a, a.2⟩ : _ ∧ l ≠ m))) (fun _ a => a.2)) (fun _ a => ⟨a.1.1.1, ⟨(by simp [Value.ownBlock]), ⟨a.1.1.2.1, ⟨a.1.1.2.2, a.1.2⟩⟩⟩⟩))⟩, ⟨bF qB y⟩, ⟨bF sB x⟩, ⟨pB L⟩, ⟨be3 HB J O yB⟩⟩
   case round =>
    clear H'
    obtain ⟨yC, b, kC, eC, fC, gC, u554002, u554003, rfl, HA, hG, cB, T, r, s, u, z, B, y, x, L, HB⟩ := hrel
    cases gk with
    | zero => exact absurd HA.out (by simp [Bc.l0])
    | succ k2 =>
     have H := HA.out; clear HA
     simp only [Bc.l0] at H
     replace H := iD' H; obtain ⟨-, eH, H⟩ | ⟨-, eH, H⟩ := H
     ·simp only [Option.some.injEq, Prod.mk.injEq] at H
      obtain ⟨rfl, rfl⟩ := H
      go_wp2
      go_ret2
      exact ⟨_, rfl, by exact Df (Kd.BJ cB.out (fun _ a => a.1)), be3 HB J O yB⟩
     replace H := iN H; obtain ⟨-, dI, H⟩ := H
     replace H := iN H; obtain ⟨-, eI, H⟩ := H
     replace H := iD' H; obtain ⟨-, fH, H⟩ | ⟨-, fH, H⟩ := H
     ·have H' := mk0 H
      clear H
      have wC : 0 ≤ (b : Int) := od
      have xC : b < (d.length : Int) := od
      obtain ⟨cG, kB, lB, tB, uB, xE, yE, zE, cF, fD, gD, pC, nC, qC, oC⟩ := Cg (Kd.AP T.out).2.2 b wC xC
      cases xE
      obtain ⟨kG, tD, sD, lC⟩ := Kd.FM T.out z63 b wC (by first | exact xC | exact of_decide_eq_true (by assumption) | (have e_ := (Kd.AP T.out).1; omega))
      obtain ⟨wF, yF, xF, zF, rfl, cC, aC, dC, bC⟩ := Dy sD
      have wB := lC 3 _ rfl
      rw [Ba _ _ 3 (by omega)] at wB
      replace wB := Option.some.inj (wB.symm.trans fD)
      injection wB with hva_ hvn_ hvc_
      rw [hva_] at aC
      rw [hvc_] at cC
      have G := mk0 (show Kd.V (Kd.int .u8) 73 _ w.heap.size _ _ ((AA d b).f1.f2) from Kd.DN cC aC)
      clear hva_ hvn_ hvc_ aC cC
      have xB := lC 4 _ rfl
      rw [Ba _ _ 4 (by omega)] at xB
      replace xB := Option.some.inj (xB.symm.trans gD)
      injection xB with hva_ hvn_ hvc_
      rw [hva_] at bC
      rw [hvc_] at dC
      have I := mk0 (show Kd.V k30 30 _ w.heap.size _ _ ((AA d b).f1.f3) from Kd.DN dC bC)
      clear hva_ hvn_ hvc_ bC dC; clear lC tD; have Z := mk0 nC; have dD := mk0 pC; clear nC pC; have bB := mk0 oC; have eD := mk0 qC; clear oC qC; replace wC := eq_true wC; replace xC := eq_true xC
      go_wp2_with ((with_reducible refine AC rfl (N := 13) rfl (cs := #[.int .i64 0, .int .i64 0, .int .i64 0, .slice none 0 0, .slice none 0 0]) (t := 63) ?hr ?_); (case hr => first | (go_simp; done) | (go_simp; rfl)); intro j hg kM mC U; obtain ⟨cB, T, r, s, u, z, B, G, I⟩ := tg9 hg U cB T r s u z B G I; obtain ⟨Z, bB⟩ := tb2 U Z bB; have D := mk0 (mC); have hC := bs (be3 HB J O yB) hg; replace HB := kh3 HB J O yB U; have ⟨dB, tC⟩ := nn y hg; have ⟨eB, uC⟩ := nn x hg; have ⟨fB, vC⟩ := nn L hg; obtain ⟨y, x, L⟩ := tb3 U y x L; clear U mC hg; have ⟨cJ, aK⟩ := no tC dB; have ⟨dJ, bK⟩ := no uC eB; have ⟨eJ, cK⟩ := no vC fB; have pL := cells5 D.out; have ⟨fJ, dK⟩ := no bD qB; have ⟨gJ, eK⟩ := no cD sB; have qL := AZ L.out)
      go_roundg k2
      case measure => have := gG.out; have := hG.out; omega
      case rel => exact ⟨(yC), (wrap64 (b + 1)), ((AA d b).f1.f0), ((AA d b).f1.f1), ((AA d b).f1.f2), ((AA d b).f1.f3), (.slice kB ((AA d b).f1.f2).length lB), (.slice tB ((AA d b).f1.f3).length uB), rfl, H', ⟨by have := gG.out; have := hG.out; omega⟩, ⟨Df (Kd.BJ (rI (q := m) (Kd.IW (p := ⟨j, 4, none⟩) (Kd.IW (p := ⟨j, 3, none⟩) (Kd.IW (p := ⟨j, 2, none⟩) (Kd.IW (p := ⟨j, 1, none⟩) (Kd.IW (p := ⟨j, 0, none⟩) (Kd.BJ (Kd.BJ cB.out (fun l a => (⟨a, a.2⟩ : _ ∧ l ≠ j))) (fun l a => (⟨a, a.1.1.2⟩ : _ ∧ l ≠ m))) (fun _ a => a.1.2) (.int .i64 ((AA d b).f0))) (fun _ a => a.1.2) (.int .i64 ((AA d b).f1.f0))) (fun _ a => a.1.2) (.int .i64 ((AA d b).f1.f1))) (fun _ a => a.1.2) (.slice kB ((AA d b).f1.f2).length lB)) (fun _ a => a.1.2) (.slice tB ((AA d b).f1.f3).length uB)) (fun _ a => a.2)) (fun _ a => ⟨a.1.1.1.1, a.1.1.1.2⟩))⟩, ⟨Ay (Kd.AJ (vI (q := m) (Kd.DW (p := ⟨j, 4, none⟩) (Kd.DW (p := ⟨j, 3, none⟩) (Kd.DW (p := ⟨j, 2, none⟩) (Kd.DW (p := ⟨j, 1, none⟩) (Kd.DW (p := ⟨j, 0, none⟩) (Kd.AJ (Kd.AJ T.out (fun l a => (⟨a, a.2⟩ : _ ∧ l ≠ j))) (fun l a => (⟨a, a.1.1.2.2.2.2⟩ : _ ∧ l ≠ m))) (fun _ a => a.1.2) (.int .i64 ((AA d b).f0))) (fun _ a => a.1.2) (.int .i64 ((AA d b).f1.f0))) (fun _ a => a.1.2) (.int .i64 ((AA d b).f1.f1))) (fun _ a => a.1.2) (.slice kB ((AA d b).f1.f2).length lB)) (fun _ a => a.1.2) (.slice tB ((AA d b).f1.f3).length uB)) (fun _ a => a.2)) (fun _ a => ⟨a.1.1.1.1, ⟨a.1.1.1.2.1, ⟨a.1.1.1.2.2.1, ⟨a.1.1.1.2.2.2.1, a.1.1.1.2.2.2.2⟩⟩⟩⟩))⟩, ⟨Ay (Kd.AJ (vI (q := m) (Kd.DW (p := ⟨j, 4, none⟩) (Kd.DW (p := ⟨j, 3, none⟩) (Kd.DW (p := ⟨j, 2, none⟩) (Kd.DW (p := ⟨j, 1, none⟩) (Kd.DW (p := ⟨j, 0, none⟩) (Kd.AJ (Kd.AJ r.out (fun l a => (⟨a, a.2⟩ : _ ∧ l ≠ j))) (fun l a => (⟨a, a.1.1.2.2.2.2⟩ : _ ∧ l ≠ m))) (fun _ a => a.1.2) (.int .i64 ((AA d b).f0))) (fun _ a => a.1.2) (.int .i64 ((AA d b).f1.f0))) (fun _ a => a.1.2) (.int .i64 ((AA d b).f1.f1))) (fun _ a => a.1.2) (.slice kB ((AA d b).f1.f2).length lB)) (fun _ a => a.1.2) (.slice tB ((AA d b).f1.f3).length uB)) (fun _ a => a.2)) (fun _ a => ⟨a.1.1.1.1, ⟨a.1.1.1.2.1, ⟨a.1.1.1.2.2.1, ⟨a.1.1.1.2.2.2.1, a.1.1.1.2.2.2.2⟩⟩⟩⟩))⟩, ⟨Ay (Kd.AJ (vI (q := m) (Kd.DW (p := ⟨j, 4, none⟩) (Kd.DW (p := ⟨j, 3, none⟩) (Kd.DW (p := ⟨j, 2, none⟩) (Kd.DW (p := ⟨j, 1, none⟩) (Kd.DW (p := ⟨j, 0, none⟩) (Kd.AJ (Kd.AJ s.out (fun l a => (⟨a, a.2⟩ : _ ∧ l ≠ j))) (fun l a => (⟨a, a.1.1.2.2.2.2⟩ : _ ∧ l ≠ m))) (fun _ a => a.1.2) (.int .i64 ((AA d b).f0))) (fun _ a => a.1.2) (.int .i64 ((AA d b).f1.f0))) (fun _ a => a.1.2) (.int .i64 ((AA d b).f1.f1))) (fun _ a => a.1.2) (.slice kB ((AA d b).f1.f2).length lB)) (fun _ a => a.1.2) (.slice tB ((AA d b).f1.f3).length uB)) (fun _ a => a.2)) (fun _ a => ⟨a.1.1.1.1, ⟨a.1.1.1.2.1, ⟨a.1.1.1.2.2.1, ⟨a.1.1.1.2.2.2.1, a.1.1.1.2.2.2.2⟩⟩⟩⟩))⟩, ⟨Ay (Kd.AJ (vI (q := m) (Kd.DW (p := ⟨j, 4, none⟩) (Kd.DW (p := ⟨j, 3, none⟩) (Kd.DW (p := ⟨j, 2, none⟩) (Kd.DW (p := ⟨j, 1, none⟩) (Kd.DW (p := ⟨j, 0, none⟩) (Kd.AJ (Kd.AJ u.out (fun l a => (⟨a, a.2⟩ : _ ∧ l ≠ j))) (fun l a => (⟨a, a.1.1.2.2.2.2⟩ : _ ∧ l ≠ m))) (fun _ a => a.1.2) (.int .i64 ((AA d b).f0))) (fun _ a => a.1.2) (.int .i64 ((AA d b).f1.f0))) (fun _ a => a.1.2) (.int .i64 ((AA d b).f1.f1))) (fun _ a => a.1.2) (.slice kB ((AA d b).f1.f2).length lB)) (fun _ a => a.1.2) (.slice tB ((AA d b).f1.f3).length uB)) (fun _ a => a.2)) (fun _ a => ⟨a.1.1.1.1, ⟨a.1.1.1.2.1, ⟨a.1.1.1.2.2.1, ⟨a.1.1.1.2.2.2.1, a.1.1.1.2.2.2.2⟩⟩⟩⟩))⟩, ⟨Ay (Kd.AJ (vI (q := m) (Kd.DW (p := ⟨j, 4, none⟩) (Kd.DW (p := ⟨j, 3, none⟩) (Kd.DW (p := ⟨j, 2, none⟩) (Kd.DW (p := ⟨j, 1, none⟩) (Kd.DW (p := ⟨j, 0, none⟩) (Kd.AJ (Kd.AJ G.out (fun l a => (⟨a, a.2⟩ : _ ∧ l ≠ j))) (fun l a => (⟨a, a.1.1.2.2.2.2⟩ : _ ∧ l ≠ m))) (fun _ a => a.1.2) (.int .i64 ((AA d b).f0))) (fun _ a => a.1.2) (.int .i64 ((AA d b).f1.f0))) (fun _ a => a.1.2) (.int .i64 ((AA d b).f1.f1))) (fun _ a => a.1.2) (.slice kB ((AA d b).f1.f2).length lB)) (fun _ a => a.1.2) (.slice tB ((AA d b).f1.f3).length uB)) (fun _ a => a.2)) (fun _ a => ⟨a.1.1.1.1, ⟨a.1.1.1.2.1, ⟨a.1.1.1.2.2.1, ⟨a.1.1.1.2.2.2.1, a.1.1.1.2.2.2.2⟩⟩⟩⟩))⟩, ⟨Ay (Kd.AJ (vI (q := m) (Kd.DW (p := ⟨j, 4, none⟩) (Kd.DW (p := ⟨j, 3, none⟩) (Kd.DW (p := ⟨j, 2, none⟩) (Kd.DW (p := ⟨j, 1, none⟩) (Kd.DW (p := ⟨j, 0, none⟩) (Kd.AJ (Kd.AJ I.out (fun l a => (⟨a, a.2⟩ : _ ∧ l ≠ j))) (fun l a => (⟨a, a.1.1.2.2.2.2⟩ : _ ∧ l ≠ m))) (fun _ a => a.1.2) (.int .i64 ((AA d b).f0))) (fun _ a => a.1.2) (.int .i64 ((AA d b).f1.f0))) (fun _ a => a.1.2) (.int .i64 ((AA d b).f1.f1))) (fun _ a => a.1.2) (.slice kB ((AA d b).f1.f2).length lB)) (fun _ a => a.1.2) (.slice tB ((AA d b).f1.f3).length uB)) (fun _ a => a.2)) (fun _ a => ⟨a.1.1.1.1, ⟨a.1.1.1.2.1, ⟨a.1.1.1.2.2.1, ⟨a.1.1.1.2.2.2.1, a.1.1.1.2.2.2.2⟩⟩⟩⟩))⟩, ⟨by refine Bi ?_; refine CG ?_ qB.out _; refine Bi ?_; refine CG ?_ qB.out _; refine Bi ?_; refine CG ?_ qB.out _; refine Bi ?_; refine CG ?_ qB.out _; refine Bi ?_; refine CG ?_ dB.out _; refine Bi ?_; refine CG ?_ dB.out _; refine Bi ?_; refine CG ?_ dB.out _; refine Bi ?_; refine CG ?_ dB.out _; refine Bi ?_; refine CG ?_ dB.out _; refine Bi ?_; exact y.out⟩, ⟨by refine Bi ?_; refine CG ?_ sB.out _; refine Bi ?_; refine CG ?_ sB.out _; refine Bi ?_; refine CG ?_ sB.out _; refine Bi ?_; refine CG ?_ sB.out _; refine Bi ?_; refine CG ?_ eB.out _; refine Bi ?_; refine CG ?_ eB.out _; refine Bi ?_; refine CG ?_ eB.out _; refine Bi ?_; refine CG ?_ eB.out _; refine Bi ?_; refine CG ?_ eB.out _; refine Bi ?_; exact x.out⟩, ⟨by refine Bi ?_; refine CB (cs := #[.int .i64 ((AA d b).f1.f0), .int .i64 ((AA d b).f1.f1), .slice kB ((AA d b).f1.f2).length lB, u554003]) ?_ 3 _ rfl; refine Bi ?_; refine CB (cs := #[.int .i64 ((AA d b).f1.f0), .int .i64 ((AA d b).f1.f1), u554002, u554003]) ?_ 2 _ rfl; refine Bi ?_; refine CB (cs := #[.int .i64 ((AA d b).f1.f0), .int .i64 eC, u554002, u554003]) ?_ 1 _ rfl; refine Bi ?_; refine CB (cs := #[.int .i64 kC, .int .i64 eC, u554002, u554003]) ?_ 0 _ rfl; refine Bi ?_; refine CG ?_ fB.out _; refine Bi ?_; refine CG ?_ fB.out _; refine Bi ?_; refine CG ?_ fB.out _; refine Bi ?_; refine CG ?_ fB.out _; refine Bi ?_; refine CG ?_ fB.out _; refine Bi ?_; exact L.out⟩, ⟨be4 HB J O yB hC⟩⟩
     replace H := bS H; obtain ⟨qK, qH, H⟩ := H
     replace H := iB H; obtain ⟨rfl, H⟩ | ⟨rfl, H⟩ := H
     ·have H' := mk0 H
      clear H
      have wC : 0 ≤ (b : Int) := od
      have xC : b < (d.length : Int) := od
      obtain ⟨cG, kB, lB, tB, uB, xE, yE, zE, cF, fD, gD, pC, nC, qC, oC⟩ := Cg (Kd.AP T.out).2.2 b wC xC
      cases xE
      obtain ⟨kG, tD, sD, lC⟩ := Kd.FM T.out z63 b wC (by first | exact xC | exact of_decide_eq_true (by assumption) | (have e_ := (Kd.AP T.out).1; omega))
      obtain ⟨wF, yF, xF, zF, rfl, cC, aC, dC, bC⟩ := Dy sD
      have wB := lC 3 _ rfl
      rw [Ba _ _ 3 (by omega)] at wB
      replace wB := Option.some.inj (wB.symm.trans fD)
      injection wB with hva_ hvn_ hvc_
      rw [hva_] at aC
      rw [hvc_] at cC
      have G := mk0 (show Kd.V (Kd.int .u8) 73 _ w.heap.size _ _ ((AA d b).f1.f2) from Kd.DN cC aC)
      clear hva_ hvn_ hvc_ aC cC
      have xB := lC 4 _ rfl
      rw [Ba _ _ 4 (by omega)] at xB
      replace xB := Option.some.inj (xB.symm.trans gD)
      injection xB with hva_ hvn_ hvc_
      rw [hva_] at bC
      rw [hvc_] at dC
      have I := mk0 (show Kd.V k30 30 _ w.heap.size _ _ ((AA d b).f1.f3) from Kd.DN dC bC)
      clear hva_ hvn_ hvc_ bC dC; clear lC tD; have Z := mk0 nC; have dD := mk0 pC; clear nC pC; have bB := mk0 oC; have eD := mk0 qC; clear oC qC; replace wC := eq_true wC; replace xC := eq_true xC
      go_wp2_with (first | ((with_reducible refine AC rfl (N := 13) rfl (cs := #[.int .i64 0, .int .i64 0, .int .i64 0, .slice none 0 0, .slice none 0 0]) (t := 63) ?hr ?_); (case hr => first | (go_simp; done) | (go_simp; rfl)); intro j hg eM mC U; obtain ⟨cB, T, r, s, u, z, B, G, I⟩ := tg9 hg U cB T r s u z B G I; obtain ⟨Z, bB⟩ := tb2 U Z bB; have D := mk0 (mC); have hC := bs (be3 HB J O yB) hg; replace HB := kh3 HB J O yB U; have ⟨dB, tC⟩ := nn y hg; have ⟨eB, uC⟩ := nn x hg; have ⟨fB, vC⟩ := nn L hg; obtain ⟨y, x, L⟩ := tb3 U y x L; clear U mC hg; have ⟨pI, qJ⟩ := no tC dB; have ⟨qI, rJ⟩ := no uC eB; have ⟨tI, sJ⟩ := no vC fB; have hL := cells5 D.out; have ⟨uI, tJ⟩ := no bD qB; have ⟨wI, uJ⟩ := no cD sB; have iL := AZ L.out; obtain ⟨gK, tH, vH⟩ := Kd.DR z.out; subst vH; obtain ⟨iK, uH, wH⟩ := Kd.DR B.out; subst wH) | (go_at_call 48; (with_reducible refine (FY.calls ?side1 ?side2 ?side3 ?side4 ?side5 ?side6 ?side7 ?side8 qH.out).mono ?_); (case side1 => refine (Kd.AP (e := 73) (base := w.heap.size) (ok := fun l => ((((gB l ∨ hB l ∨ jB l) ∨ w.heap.size ≤ l) ∧ (some l ≠ (u10 : Value).ownBlock ∧ (l ≠ mB ∧ (l ≠ oB ∧ l ≠ m)))) ∧ l ≠ j)) (n := fC.length) (c := tH) ?_).2.2; exact (Ay ((vF (q := j) z (fun _ a => a.2))))); (case side2 => exact (Kd.AP z.out).2.1); (case side3 => refine (Kd.AP (e := 30) (base := w.heap.size) (ok := fun l => ((((gB l ∨ hB l ∨ jB l) ∨ w.heap.size ≤ l) ∧ (some l ≠ (u10 : Value).ownBlock ∧ (l ≠ mB ∧ (l ≠ oB ∧ l ≠ m)))) ∧ l ≠ j)) (n := gC.length) (c := uH) ?_).2.2; exact (Ay ((vF (q := j) B (fun _ a => a.2))))); (case side4 => exact (Kd.AP B.out).2.1); (case side5 => exact ((Kd.AP (by exact Ay ((vF (q := j) G (fun _ a => a.2))))).2.2)); (case side6 => exact dD.out); (case side7 => exact ((Kd.AP (by exact Ay ((vF (q := j) I (fun _ a => a.2))))).2.2)); (case side8 => exact eD.out); rintro e fM ⟨rfl, U⟩; replace cB := mk0 (Kd.ED (Df ((rF (q := j) cB (fun _ a => a.2)))) U); replace T := mk0 (Kd.BL (Ay ((vF (q := j) T (fun _ a => a.2)))) U); replace r := mk0 (Kd.BL (Ay ((vF (q := j) r (fun _ a => a.2)))) U); replace s := mk0 (Kd.BL (Ay ((vF (q := j) s (fun _ a => a.2)))) U); replace u := mk0 (Kd.BL (Ay ((vF (q := j) u (fun _ a => a.2)))) U); replace z := mk0 (Kd.BL (Ay ((vF (q := j) z (fun _ a => a.2)))) U); replace B := mk0 (Kd.BL (Ay ((vF (q := j) B (fun _ a => a.2)))) U); replace y := kF dB y U; replace x := kF eB x U; replace L := kF fB L U; replace Z := mk0 (Kd.BA ((Kd.AP (by exact Ay ((vF (q := j) G (fun _ a => a.2))))).2.2) U); replace G := mk0 (Kd.BL (Ay ((vF (q := j) G (fun _ a => a.2)))) U); replace bB := mk0 (Kd.BA ((Kd.AP (by exact Ay ((vF (q := j) I (fun _ a => a.2))))).2.2) U); replace I := mk0 (Kd.BL (Ay ((vF (q := j) I (fun _ a => a.2)))) U); replace D := mk0 (AU (g := j) (o := .cells #[.int .i64 ((AA d b).f0), .int .i64 ((AA d b).f1.f0), .int .i64 ((AA d b).f1.f1), .slice kB ((AA d b).f1.f2).length lB, .slice tB ((AA d b).f1.f3).length uB] 63 (0, 0)) (pB D) U); replace HB := kh4 HB J O yB hC U; have jL := cells5 D.out; have kL := AZ L.out))
      go_roundg k2
      case measure => have := gG.out; have := hG.out; omega
      case rel => exact ⟨(yC), (wrap64 (b + 1)), ((AA d b).f1.f0), ((AA d b).f1.f1), ((AA d b).f1.f2), ((AA d b).f1.f3), (.slice kB ((AA d b).f1.f2).length lB), (.slice tB ((AA d b).f1.f3).length uB), rfl, H', ⟨by have := gG.out; have := hG.out; omega⟩, ⟨Df (Kd.BJ (rI (q := m) (Kd.BJ cB.out (fun l a => (⟨a, a.1.2⟩ : _ ∧ l ≠ m))) (fun _ a => a.2)) (fun _ a => ⟨a.1.1.1, a.1.1.2⟩))⟩, ⟨Ay (Kd.AJ (vI (q := m) (Kd.AJ T.out (fun l a => (⟨a, a.1.2.2.2.2⟩ : _ ∧ l ≠ m))) (fun _ a => a.2)) (fun _ a => ⟨a.1.1.1, ⟨a.1.1.2.1, ⟨a.1.1.2.2.1, ⟨a.1.1.2.2.2.1, a.1.1.2.2.2.2⟩⟩⟩⟩))⟩, ⟨Ay (Kd.AJ (vI (q := m) (Kd.AJ r.out (fun l a => (⟨a, a.1.2.2.2.2⟩ : _ ∧ l ≠ m))) (fun _ a => a.2)) (fun _ a => ⟨a.1.1.1, ⟨a.1.1.2.1, ⟨a.1.1.2.2.1, ⟨a.1.1.2.2.2.1, a.1.1.2.2.2.2⟩⟩⟩⟩))⟩, ⟨Ay (Kd.AJ (vI (q := m) (Kd.AJ s.out (fun l a => (⟨a, a.1.2.2.2.2⟩ : _ ∧ l ≠ m))) (fun _ a => a.2)) (fun _ a => ⟨a.1.1.1, ⟨a.1.1.2.1, ⟨a.1.1.2.2.1, ⟨a.1.1.2.2.2.1, a.1.1.2.2.2.2⟩⟩⟩⟩))⟩, ⟨Ay (Kd.AJ (vI (q := m) (Kd.AJ u.out (fun l a => (⟨a, a.1.2.2.2.2⟩ : _ ∧ l ≠ m))) (fun _ a => a.2)) (fun _ a => ⟨a.1.1.1, ⟨a.1.1.2.1, ⟨a.1.1.2.2.1, ⟨a.1.1.2.2.2.1, a.1.1.2.2.2.2⟩⟩⟩⟩))⟩, ⟨Ay (Kd.AJ (vI (q := m) (Kd.AJ G.out (fun l a => (⟨a, a.1.2.2.2.2⟩ : _ ∧ l ≠ m))) (fun _ a => a.2)) (fun _ a => ⟨a.1.1.1, ⟨a.1.1.2.1, ⟨a.1.1.2.2.1, ⟨a.1.1.2.2.2.1, a.1.1.2.2.2.2⟩⟩⟩⟩))⟩, ⟨Ay (Kd.AJ (vI (q := m) (Kd.AJ I.out (fun l a => (⟨a, a.1.2.2.2.2⟩ : _ ∧ l ≠ m))) (fun _ a => a.2)) (fun _ a => ⟨a.1.1.1, ⟨a.1.1.2.1, ⟨a.1.1.2.2.1, ⟨a.1.1.2.2.2.1, a.1.1.2.2.2.2⟩⟩⟩⟩))⟩, ⟨bF qB y⟩, ⟨bF sB x⟩, ⟨pB L⟩, ⟨be4 HB J O yB hC⟩⟩
     replace H := Option.bind_eq_some_iff.mp H
     obtain ⟨⟨tF, uF, zC, aD⟩, pG, H⟩ := H
     replace H : (if yC.length < 1954687338268 then (Bc.l0 k2 a3 (yC ++ [(⟨(AA d b).f0, (⟨tF, uF, zC, aD⟩ : S30)⟩ : S63)]) d (d.length : Int) (wrap64 (b + 1)) ((AA d b).f1.f0) ((AA d b).f1.f1) ((AA d b).f1.f2) ((AA d b).f1.f3)) else (none)) = some (r1, r2) := H
     have cI := mk0 pG; clear pG
     by_cases c68 : yC.length < 1954687338268
     rotate_left
     ·rw [if_neg c68] at H
      exact absurd H (by simp)
     rw [if_pos c68] at H; have aH := mk0 c68; clear c68
     obtain ⟨vG, mE⟩ : ∃ y_ : List (S63), y_ = (yC ++ [(⟨(AA d b).f0, (⟨tF, uF, zC, aD⟩ : S30)⟩ : S63)]) := ⟨_, rfl⟩
     replace H : (Bc.l0 k2 a3 vG d (d.length : Int) (wrap64 (b + 1)) ((AA d b).f1.f0) ((AA d b).f1.f1) ((AA d b).f1.f2) ((AA d b).f1.f3)) = some (r1, r2) := by first | (rw [mE]; with_reducible exact H) | (have wG := (Option.bind_some _ _).symm.trans H; rw [mE]; with_reducible exact wG) | (have wG := (Option.bind_some _ _).symm.trans H; with_reducible exact wG) | with_reducible exact H | (rw [mE]; exact H) | exact H
     have bH := mk0 mE; clear mE
     have H' := mk0 H
     clear H
     have wC : 0 ≤ (b : Int) := od
     have xC : b < (d.length : Int) := od
     obtain ⟨cG, kB, lB, tB, uB, xE, yE, zE, cF, fD, gD, pC, nC, qC, oC⟩ := Cg (Kd.AP T.out).2.2 b wC xC
     cases xE
     obtain ⟨kG, tD, sD, lC⟩ := Kd.FM T.out z63 b wC (by first | exact xC | exact of_decide_eq_true (by assumption) | (have e_ := (Kd.AP T.out).1; omega))
     obtain ⟨wF, yF, xF, zF, rfl, cC, aC, dC, bC⟩ := Dy sD
     have wB := lC 3 _ rfl
     rw [Ba _ _ 3 (by omega)] at wB
     replace wB := Option.some.inj (wB.symm.trans fD)
     injection wB with hva_ hvn_ hvc_
     rw [hva_] at aC
     rw [hvc_] at cC
     have G := mk0 (show Kd.V (Kd.int .u8) 73 _ w.heap.size _ _ ((AA d b).f1.f2) from Kd.DN cC aC)
     clear hva_ hvn_ hvc_ aC cC
     have xB := lC 4 _ rfl
     rw [Ba _ _ 4 (by omega)] at xB
     replace xB := Option.some.inj (xB.symm.trans gD)
     injection xB with hva_ hvn_ hvc_
     rw [hva_] at bC
     rw [hvc_] at dC
     have I := mk0 (show Kd.V k30 30 _ w.heap.size _ _ ((AA d b).f1.f3) from Kd.DN dC bC)
     clear hva_ hvn_ hvc_ bC dC; clear lC tD; have Z := mk0 nC; have dD := mk0 pC; clear nC pC; have bB := mk0 oC; have eD := mk0 qC; clear oC qC; replace wC := eq_true wC; replace xC := eq_true xC
     try go_wp2_with (first | ((with_reducible refine AC rfl (N := 13) rfl (cs := #[.int .i64 0, .int .i64 0, .int .i64 0, .slice none 0 0, .slice none 0 0]) (t := 63) ?hr ?_); (case hr => first | (go_simp; done) | (go_simp; rfl)); intro j hg gM mC U; obtain ⟨cB, T, r, s, u, z, B, G, I⟩ := tg9 hg U cB T r s u z B G I; obtain ⟨Z, bB⟩ := tb2 U Z bB; have D := mk0 (mC); have hC := bs (be3 HB J O yB) hg; replace HB := kh3 HB J O yB U; have ⟨dB, tC⟩ := nn y hg; have ⟨eB, uC⟩ := nn x hg; have ⟨fB, vC⟩ := nn L hg; obtain ⟨y, x, L⟩ := tb3 U y x L; clear U mC hg; have ⟨xI, vJ⟩ := no tC dB; have ⟨yI, wJ⟩ := no uC eB; have ⟨zI, xJ⟩ := no vC fB; have lL := cells5 D.out; have ⟨aJ, yJ⟩ := no bD qB; have ⟨bJ, zJ⟩ := no cD sB; have mL := AZ L.out; obtain ⟨iG, eG, xH⟩ := Kd.DR z.out; subst xH; obtain ⟨jG, fG, yH⟩ := Kd.DR B.out; subst yH) | (go_at_call 48; (with_reducible refine (FY.calls ?side1 ?side2 ?side3 ?side4 ?side5 ?side6 ?side7 ?side8 qH.out).mono ?_); (case side1 => refine (Kd.AP (e := 73) (base := w.heap.size) (ok := fun l => ((((gB l ∨ hB l ∨ jB l) ∨ w.heap.size ≤ l) ∧ (some l ≠ (u10 : Value).ownBlock ∧ (l ≠ mB ∧ (l ≠ oB ∧ l ≠ m)))) ∧ l ≠ j)) (n := fC.length) (c := eG) ?_).2.2; exact (Ay ((vF (q := j) z (fun _ a => a.2))))); (case side2 => exact (Kd.AP z.out).2.1); (case side3 => refine (Kd.AP (e := 30) (base := w.heap.size) (ok := fun l => ((((gB l ∨ hB l ∨ jB l) ∨ w.heap.size ≤ l) ∧ (some l ≠ (u10 : Value).ownBlock ∧ (l ≠ mB ∧ (l ≠ oB ∧ l ≠ m)))) ∧ l ≠ j)) (n := gC.length) (c := fG) ?_).2.2; exact (Ay ((vF (q := j) B (fun _ a => a.2))))); (case side4 => exact (Kd.AP B.out).2.1); (case side5 => exact ((Kd.AP (by exact Ay ((vF (q := j) G (fun _ a => a.2))))).2.2)); (case side6 => exact dD.out); (case side7 => exact ((Kd.AP (by exact Ay ((vF (q := j) I (fun _ a => a.2))))).2.2)); (case side8 => exact eD.out); rintro e fK ⟨rfl, U⟩; replace cB := mk0 (Kd.ED (Df ((rF (q := j) cB (fun _ a => a.2)))) U); replace T := mk0 (Kd.BL (Ay ((vF (q := j) T (fun _ a => a.2)))) U); replace r := mk0 (Kd.BL (Ay ((vF (q := j) r (fun _ a => a.2)))) U); replace s := mk0 (Kd.BL (Ay ((vF (q := j) s (fun _ a => a.2)))) U); replace u := mk0 (Kd.BL (Ay ((vF (q := j) u (fun _ a => a.2)))) U); replace z := mk0 (Kd.BL (Ay ((vF (q := j) z (fun _ a => a.2)))) U); replace B := mk0 (Kd.BL (Ay ((vF (q := j) B (fun _ a => a.2)))) U); replace y := kF dB y U; replace x := kF eB x U; replace L := kF fB L U; replace Z := mk0 (Kd.BA ((Kd.AP (by exact Ay ((vF (q := j) G (fun _ a => a.2))))).2.2) U); replace G := mk0 (Kd.BL (Ay ((vF (q := j) G (fun _ a => a.2)))) U); replace bB := mk0 (Kd.BA ((Kd.AP (by exact Ay ((vF (q := j) I (fun _ a => a.2))))).2.2) U); replace I := mk0 (Kd.BL (Ay ((vF (q := j) I (fun _ a => a.2)))) U); replace D := mk0 (AU (g := j) (o := .cells #[.int .i64 ((AA d b).f0), .int .i64 ((AA d b).f1.f0), .int .i64 ((AA d b).f1.f1), .slice kB ((AA d b).f1.f2).length lB, .slice tB ((AA d b).f1.f3).length uB] 63 (0, 0)) (pB D) U); replace HB := kh4 HB J O yB hC U))
     have dF := mk0 (Kd.F5 cB.out)
     have gF := mk0 (Kd.Bn T.out)
     have hF := mk0 (Kd.Bn r.out)
     have jF := mk0 (Kd.Bn s.out)
     have lF := mk0 (Kd.Bn u.out)
     have mF := mk0 (Kd.Bn z.out)
     have oF := mk0 (Kd.Bn B.out)
     have pF := mk0 (Kd.Bn G.out)
     have qF := mk0 (Kd.Bn I.out)
     have sF := mk0 (AY y.out)
     have zD := mk0 (AY x.out)
     have aE := mk0 (AY L.out)
     have bE := mk0 (AY D.out)
     have cE := mk0 (Kd.Cv Z.out)
     have eF := mk0 (Kd.Cv bB.out)
     have fF := mk0 (Aa HB.out)
     clear cB; clear T; clear r; clear s; clear u; clear z; clear B; clear G; clear I; clear y; clear x; clear L; clear D; clear Z; clear bB; clear HB; have cB := dF; have T := gF; have r := hF; have s := jF; have u := lF; have z := mF; have B := oF; have G := pF; have I := qF; have y := sF; have x := zD; have L := aE; have D := bE; have Z := cE; have bB := eF; have HB := fF; clear dF gF hF jF lF mF oF pF qF sF zD aE bE cE eF fF
     refine DL (n := 10) (S := fun w' => w'.cell? ⟨j, 0, none⟩ = some (.int .i64 ((AA d b).f0)) ∧ w'.cell? ⟨j, 1, none⟩ = some (.int .i64 ((AA d b).f1.f0)) ∧ w'.cell? ⟨j, 2, none⟩ = some (.int .i64 ((AA d b).f1.f1)) ∧ w'.cell? ⟨j, 3, none⟩ = some (.slice kB ((AA d b).f1.f2).length lB) ∧ w'.cell? ⟨j, 4, none⟩ = some (.slice tB ((AA d b).f1.f3).length uB)) (ds := []) (tf 0 10) (by kernel_rfl) rfl rfl ⟨bc D 0, bc D 1, bc D 2, bc D 3, bc D 4⟩ (fun wD => ?_); refine CW Bc.P5 Bc.PI (fun hE sH => ?_)
     generalize fK.drew = hM at cB T r s u z B G I y x L D Z bB HB wD ⊢
     refine pv 0 57 (tf 1 9) hE ?_
     refine pv 1 58 (tf 2 8) hE ?_
     refine pv 3 60 #[true, true, false, true, false, false, false, false, false, false] hE ?_
     refine Br (i := 2) (N := some 59) (v := ?_) (a' := ?_) (tf 4 6) rfl rfl (BB hE.out sH.out (by kernel_rfl)) (fun _ _ _ h => h) (Or.inl ⟨by rfl, ?_⟩) wD ?_ ?_
     rotate_left
     ·rintro w' ⟨s0, s1, s2, s3, s4⟩
      go_simp
      with_reducible rfl
     rotate_left
     ·simp only [ps]
      rfl
     refine Br (i := 4) (N := some 61) (v := ?_) (a' := ?_) (tf 5 5) rfl rfl (BB hE.out sH.out (by kernel_rfl)) (fun _ _ _ h => h) (Or.inl ⟨by rfl, ?_⟩) wD ?_ ?_
     rotate_left
     ·rintro w' ⟨s0, s1, s2, s3, s4⟩
      go_simp
      with_reducible rfl
     rotate_left
     ·simp only [ps]
      rfl
     refine Dh (i := 5) (N := some 62) (tf 6 4) rfl rfl (CO hE.out (by kernel_rfl)) (by decide) (fun K hK => ?_)
     refine DC Try.func49 (by kernel_rfl) rfl #[.agg #[.int .i64 ((AA d b).f1.f0), .int .i64 ((AA d b).f1.f1), .slice kB ((AA d b).f1.f2).length lB, .slice tB ((AA d b).f1.f3).length uB]] (by rfl) rfl rfl (by (try simp only [List.map_toArray, List.map_cons, List.map_nil]); first | done | rfl | (simp only [List.length_drop, List.length_take]; rfl)) ?_
     with_reducible refine (Gz.calls ?side1 ?side2 ?side3 ?side4 cI.out).mono ?_
     (case side1 => repeat (first | exact (by repeat (first | (with_reducible exact Z.out) | (with_reducible refine Kd.Cn ?_ _) | (with_reducible refine Kd.Co ?_ _) | (with_reducible refine Kd.Cv ?_) | exact Z.out)) | (with_reducible refine Kd.Cn ?_ _) | (with_reducible refine Kd.Co ?_ _) | (with_reducible refine Kd.Cv ?_)))
     (case side2 => exact dD.out)
     (case side3 => repeat (first | exact (by repeat (first | (with_reducible exact bB.out) | (with_reducible refine Kd.Cn ?_ _) | (with_reducible refine Kd.Co ?_ _) | (with_reducible refine Kd.Cv ?_) | exact bB.out)) | (with_reducible refine Kd.Cn ?_ _) | (with_reducible refine Kd.Co ?_ _) | (with_reducible refine Kd.Cv ?_)))
     (case side4 => exact eD.out)
     rintro e iM ⟨v560, v563, rfl, kE, lE, U⟩
     refine ⟨_, rfl, ?_⟩
     have dF := mk0 (Kd.BJ (Kd.GM (Kd.GM (Kd.LK (DZ cB.out) U) (Kd.Bf kE)) (Kd.Bf lE)) (fun _ h_ => h_.1))
     have gF := mk0 (Kd.AJ (Kd.D6 (Kd.D6 (Kd.H9 (CK T.out) U) (Kd.Bf kE)) (Kd.Bf lE)) (fun _ h_ => h_.1))
     have hF := mk0 (Kd.AJ (Kd.D6 (Kd.D6 (Kd.H9 (CK r.out) U) (Kd.Bf kE)) (Kd.Bf lE)) (fun _ h_ => h_.1))
     have jF := mk0 (Kd.AJ (Kd.D6 (Kd.D6 (Kd.H9 (CK s.out) U) (Kd.Bf kE)) (Kd.Bf lE)) (fun _ h_ => h_.1))
     have lF := mk0 (Kd.AJ (Kd.D6 (Kd.D6 (Kd.H9 (CK u.out) U) (Kd.Bf kE)) (Kd.Bf lE)) (fun _ h_ => h_.1))
     have mF := mk0 (Kd.AJ (Kd.D6 (Kd.D6 (Kd.H9 (CK z.out) U) (Kd.Bf kE)) (Kd.Bf lE)) (fun _ h_ => h_.1))
     have oF := mk0 (Kd.AJ (Kd.D6 (Kd.D6 (Kd.H9 (CK B.out) U) (Kd.Bf kE)) (Kd.Bf lE)) (fun _ h_ => h_.1))
     have pF := mk0 (Kd.AJ (Kd.D6 (Kd.D6 (Kd.H9 (CK G.out) U) (Kd.Bf kE)) (Kd.Bf lE)) (fun _ h_ => h_.1))
     have qF := mk0 (Kd.AJ (Kd.D6 (Kd.D6 (Kd.H9 (CK I.out) U) (Kd.Bf kE)) (Kd.Bf lE)) (fun _ h_ => h_.1))
     have sF := mk0 (Kd.Cj (Kd.Ea (M := fun l => (w.heap.size ≤ l)) kE (AV (be4 HB J O yB hC)) (fun l h_ => h_)) (AV (be4 HB J O yB hC)))
     have zD := mk0 (Kd.Cj (Kd.Ib (Kd.Ea (M := fun l => (w.heap.size ≤ l)) lE (AV (be4 HB J O yB hC)) (fun l h_ => h_)) (g := m) (o := .cells #[.int .i64 kC, .int .i64 eC, .slice iG fC.length eG, .slice jG gC.length fG] 30 (0, 0)) (Ac L.out)) (AV (be4 HB J O yB hC)))
     have aE := kb y U
     have bE := kb x U
     have cE := kb L U
     have eF := cb Z U
     have fF := cb bB U
     have tG := kb D U
     have uG := kh4 HB J O yB hC U
     clear cB; clear T; clear r; clear s; clear u; clear z; clear B; clear G; clear I; clear y; clear x; clear L; clear Z; clear bB; clear D; clear HB; have cB := dF; have T := gF; have r := hF; have s := jF; have u := lF; have z := mF; have B := oF; have G := pF; have I := qF; have aG := sF; have bG := zD; have y := aE; have x := bE; have L := cE; have Z := eF; have bB := fF; have D := tG; have HB := uG; clear dF gF hF jF lF mF oF pF qF sF zD aE bE cE eF fF tG uG
     try clear U
     try clear a
     try clear kE
     try clear lE
     obtain ⟨oD, qD, qG⟩ := Kd.CJ bG.out
     (first | subst qG | (injection qG with f1_ f2_ f3_; have gH := f1_.symm; have hH := f3_.symm; clear f1_ f2_ f3_; subst gH; subst hH))
     obtain ⟨pD, rD, rG⟩ := Kd.CJ aG.out
     (first | subst rG | (injection rG with f1_ f2_ f3_; have gH := f1_.symm; have hH := f3_.symm; clear f1_ f2_ f3_; subst gH; subst hH))
     refine hK.out _ _ ⟨bc D 0, bc D 1, bc D 2, bc D 3, bc D 4⟩ (fun wD => ?_)
     clear hK K
     refine CQ (a' := ?_) ?_ ?_
     rotate_left
     ·show Act.put _ (some 62) _ = _
      simp only [ps]
      rfl
     refine pv 6 63 (tf 7 3) hE ?_
     refine Dh (i := 7) (N := some 64) (tf 8 2) rfl rfl (CO hE.out (by kernel_rfl)) (by decide) (fun K hK => ?_)
     refine CE (w1 := ?_) (v := ?_) (by rfl) rfl ?_ ?_
     rotate_left 2
     ·go_simp
      constructor
      ·rfl
      ·rfl
     refine hK.out _ _ ⟨(Ak (AX D.out _) 0).trans rfl, (Ak (AX D.out _) 1).trans rfl, (Ak (AX D.out _) 2).trans rfl, (Ak (AX D.out _) 3).trans rfl, (Ak (AX D.out _) 4).trans rfl⟩ (fun wD => ?_)
     clear hK K
     refine CQ (a' := ?_) ?_ ?_
     rotate_left
     ·show Act.put _ (some 64) _ = _
      simp only [ps]
      rfl
     refine Dh (i := 8) (N := some 65) (tf 9 1) rfl rfl (CO hE.out (by kernel_rfl)) (by decide) (fun K hK => ?_)
     refine Kd.Eg k63 (w0 := w) w.heap.size (by rfl) (.tmp 57) (.tmp 64) 31 63 (.agg #[(.int .i64 0), (.int .i64 0), (.int .i64 0), (.slice none 0 0), (.slice none 0 0)]) 72 rfl Try.underlying31 GA rfl (by decide) (by omega) u10 yC (⟨(AA d b).f0, (⟨tF, uF, zC, aD⟩ : S30)⟩ : S63) [.int .i64 ((AA d b).f0), .int .i64 tF, .int .i64 uF, .slice pD zC.length rD, .slice oD aD.length qD] (fun l => (w.heap.size ≤ l) ∧ l ≠ m ∧ l ≠ j) (fun l => ((fun l => (w.heap.size ≤ l) ∧ l ≠ m ∧ l ≠ j)) l ∧ some l ≠ (u10 : Value).ownBlock) rfl rfl ?aP (fun _ a => a) ?aF ?aO ?aB ?aS ?aL ?_
     (case aP => exact LU _ _ _ (⟨(AA d b).f0, (⟨tF, uF, zC, aD⟩ : S30)⟩ : S63) (Kd.BJ (Kd.BF (Kd.BF (Kd.Cr (aG.out) (Kd.EP cB.out) (by decide)) L.out (by decide)) D.out (by decide)) (fun l a => ⟨⟨a.1.1.1.1, ⟨a.1.2, a.2⟩⟩, a.1.1.2⟩)) (Kd.BJ (Kd.BF (Kd.Cr (bG.out) (Kd.EP cB.out) (by decide)) D.out (by decide)) (fun l a => ⟨⟨a.1.1.1.1, ⟨a.1.1.2, a.2⟩⟩, a.1.2⟩)))
     (case aB => exact (be4 HB J O yB hC))
     (case aF => exact (fun l a => ⟨(Nat.le_trans (AV (be4 HB J O yB hC)) a), Kd.BM (g := m) (o := .cells #[.int .i64 kC, .int .i64 eC, .slice iG fC.length eG, .slice jG gC.length fG] 30 (0, 0)) (Ac L.out) l a, Kd.BM (g := j) (o := .cells #[.int .i64 ((AA d b).f0), .int .i64 ((AA d b).f1.f0), .int .i64 ((AA d b).f1.f1), .slice kB ((AA d b).f1.f2).length lB, .slice tB ((AA d b).f1.f3).length uB] 63 (0, 0)) (Ac D.out) l a⟩))
     (case aO => exact (Df (Kd.BJ cB.out (fun _ a => ⟨a.1.1.1.1, ⟨a.1.1.1.2, a.1.1.2⟩⟩))))
     (case aS => exact (AV (be4 HB J O yB hC)))
     (case aL => have := aH.out; omega)
     intro v566 jM ho U hg vE
     rw [← bH.out] at ho
     have dF := mk0 (Kd.Bh (ok := (fun l => ((gB l ∨ hB l ∨ jB l) ∨ w.heap.size ≤ l) ∧ some l ≠ (.slice pD zC.length rD : Value).ownBlock ∧ some l ≠ (.slice oD aD.length qD : Value).ownBlock ∧ l ≠ mB ∧ l ≠ oB ∧ l ≠ m ∧ l ≠ j)) (Ay (Kd.AJ T.out (fun _ a => ⟨⟨a.1.1.1.1, ⟨a.1.2, ⟨a.2, ⟨a.1.1.1.2.2.1, ⟨a.1.1.1.2.2.2.1, ⟨a.1.1.1.2.2.2.2, a.1.1.2⟩⟩⟩⟩⟩⟩, a.1.1.1.2.1⟩))) hg vE)
     have gF := mk0 (Kd.Bh (ok := (fun l => ((gB l ∨ hB l ∨ jB l) ∨ w.heap.size ≤ l) ∧ some l ≠ (.slice pD zC.length rD : Value).ownBlock ∧ some l ≠ (.slice oD aD.length qD : Value).ownBlock ∧ l ≠ mB ∧ l ≠ oB ∧ l ≠ m ∧ l ≠ j)) (Ay (Kd.AJ r.out (fun _ a => ⟨⟨a.1.1.1.1, ⟨a.1.2, ⟨a.2, ⟨a.1.1.1.2.2.1, ⟨a.1.1.1.2.2.2.1, ⟨a.1.1.1.2.2.2.2, a.1.1.2⟩⟩⟩⟩⟩⟩, a.1.1.1.2.1⟩))) hg vE)
     have hF := mk0 (Kd.Bh (ok := (fun l => ((gB l ∨ hB l ∨ jB l) ∨ w.heap.size ≤ l) ∧ some l ≠ (.slice pD zC.length rD : Value).ownBlock ∧ some l ≠ (.slice oD aD.length qD : Value).ownBlock ∧ l ≠ mB ∧ l ≠ oB ∧ l ≠ m ∧ l ≠ j)) (Ay (Kd.AJ s.out (fun _ a => ⟨⟨a.1.1.1.1, ⟨a.1.2, ⟨a.2, ⟨a.1.1.1.2.2.1, ⟨a.1.1.1.2.2.2.1, ⟨a.1.1.1.2.2.2.2, a.1.1.2⟩⟩⟩⟩⟩⟩, a.1.1.1.2.1⟩))) hg vE)
     have jF := mk0 (Kd.Bh (ok := (fun l => ((gB l ∨ hB l ∨ jB l) ∨ w.heap.size ≤ l) ∧ some l ≠ (.slice pD zC.length rD : Value).ownBlock ∧ some l ≠ (.slice oD aD.length qD : Value).ownBlock ∧ l ≠ mB ∧ l ≠ oB ∧ l ≠ m ∧ l ≠ j)) (Ay (Kd.AJ u.out (fun _ a => ⟨⟨a.1.1.1.1, ⟨a.1.2, ⟨a.2, ⟨a.1.1.1.2.2.1, ⟨a.1.1.1.2.2.2.1, ⟨a.1.1.1.2.2.2.2, a.1.1.2⟩⟩⟩⟩⟩⟩, a.1.1.1.2.1⟩))) hg vE)
     have lF := mk0 (Kd.Bh (ok := (fun l => ((gB l ∨ hB l ∨ jB l) ∨ w.heap.size ≤ l) ∧ some l ≠ (.slice pD zC.length rD : Value).ownBlock ∧ some l ≠ (.slice oD aD.length qD : Value).ownBlock ∧ l ≠ mB ∧ l ≠ oB ∧ l ≠ m ∧ l ≠ j)) (Ay (Kd.AJ z.out (fun _ a => ⟨⟨a.1.1.1.1, ⟨a.1.2, ⟨a.2, ⟨a.1.1.1.2.2.1, ⟨a.1.1.1.2.2.2.1, ⟨a.1.1.1.2.2.2.2, a.1.1.2⟩⟩⟩⟩⟩⟩, a.1.1.1.2.1⟩))) hg vE)
     have mF := mk0 (Kd.Bh (ok := (fun l => ((gB l ∨ hB l ∨ jB l) ∨ w.heap.size ≤ l) ∧ some l ≠ (.slice pD zC.length rD : Value).ownBlock ∧ some l ≠ (.slice oD aD.length qD : Value).ownBlock ∧ l ≠ mB ∧ l ≠ oB ∧ l ≠ m ∧ l ≠ j)) (Ay (Kd.AJ B.out (fun _ a => ⟨⟨a.1.1.1.1, ⟨a.1.2, ⟨a.2, ⟨a.1.1.1.2.2.1, ⟨a.1.1.1.2.2.2.1, ⟨a.1.1.1.2.2.2.2, a.1.1.2⟩⟩⟩⟩⟩⟩, a.1.1.1.2.1⟩))) hg vE)
     have oF := mk0 (Bd (g := mB) (o := .cells #[.int .i64 qE, .int .i64 rE, .string sE, .slice oE uD.length tE, .slice pE vD.length uE] 26 (0, 0)) (Ac y.out) hg (Kd.GK cB.out y.out (by decide)))
     have pF := mk0 (Bd (g := oB) (o := .cells #[.int .i64 xD, .int .i64 yD, .slice hD rC.length kD, .slice jD sC.length lD, .slice (some cG) d.length mD] 33 (0, 0)) (Ac x.out) hg (Kd.GK cB.out x.out (by decide)))
     have qF := mk0 (Bd (g := m) (o := .cells #[.int .i64 kC, .int .i64 eC, .slice iG fC.length eG, .slice jG gC.length fG] 30 (0, 0)) (Ac L.out) hg (Kd.GK cB.out L.out (by decide)))
     have sF := mk0 (Kd.Bh (ok := (fun l => ((gB l ∨ hB l ∨ jB l) ∨ w.heap.size ≤ l) ∧ some l ≠ (.slice pD zC.length rD : Value).ownBlock ∧ some l ≠ (.slice oD aD.length qD : Value).ownBlock ∧ l ≠ mB ∧ l ≠ oB ∧ l ≠ m ∧ l ≠ j)) (Ay (Kd.AJ G.out (fun _ a => ⟨⟨a.1.1.1.1, ⟨a.1.2, ⟨a.2, ⟨a.1.1.1.2.2.1, ⟨a.1.1.1.2.2.2.1, ⟨a.1.1.1.2.2.2.2, a.1.1.2⟩⟩⟩⟩⟩⟩, a.1.1.1.2.1⟩))) hg vE)
     have zD := mk0 (Kd.Bh (ok := (fun l => ((gB l ∨ hB l ∨ jB l) ∨ w.heap.size ≤ l) ∧ some l ≠ (.slice pD zC.length rD : Value).ownBlock ∧ some l ≠ (.slice oD aD.length qD : Value).ownBlock ∧ l ≠ mB ∧ l ≠ oB ∧ l ≠ m ∧ l ≠ j)) (Ay (Kd.AJ I.out (fun _ a => ⟨⟨a.1.1.1.1, ⟨a.1.2, ⟨a.2, ⟨a.1.1.1.2.2.1, ⟨a.1.1.1.2.2.2.1, ⟨a.1.1.1.2.2.2.2, a.1.1.2⟩⟩⟩⟩⟩⟩, a.1.1.1.2.1⟩))) hg vE)
     have aE := mk0 (Bd (g := j) (o := .cells #[.int .i64 ((AA d b).f0), .int .i64 ((AA d b).f1.f0), .int .i64 ((AA d b).f1.f1), .slice kB ((AA d b).f1.f2).length lB, .slice tB ((AA d b).f1.f3).length uB] 63 (0, 0)) (Ac D.out) hg (Kd.Hq cB.out (fun _ a => a.1.1.2)))
     have bE := mk0 (U)
     have cE := mk0 (ho)
     clear T; clear r; clear s; clear u; clear z; clear B; clear y; clear x; clear L; clear G; clear I; clear D; clear HB; clear cB; clear aG; clear bG; have T := dF; have r := gF; have s := hF; have u := jF; have z := lF; have B := mF; have y := oF; have x := pF; have L := qF; have G := sF; have I := zD; have D := aE; have HB := bE; have zG := cE; clear dF gF hF jF lF mF oF pF qF sF zD aE bE cE; clear ho U hg vE
     refine hK.out _ _ ⟨bc D 0, bc D 1, bc D 2, bc D 3, bc D 4⟩ (fun wD => ?_)
     clear hK K
     refine CQ (a' := ?_) ?_ ?_
     rotate_left
     ·show Act.put _ (some 65) _ = _
      simp only [ps]
      rfl
     refine pv 9 10 (tf 10 0) hE ?_
     refine EQ (De hE.out (by kernel_rfl)) ?_
     have nL := cells5 D.out
     have oL := AZ L.out
     try go_wp2
     go_roundg k2
     case measure => have := gG.out; have := hG.out; omega
     case rel => exact ⟨(vG), (wrap64 (b + 1)), ((AA d b).f1.f0), ((AA d b).f1.f1), ((AA d b).f1.f2), ((AA d b).f1.f3), (.slice kB ((AA d b).f1.f2).length lB), (.slice tB ((AA d b).f1.f3).length uB), rfl, H', ⟨by have := gG.out; have := hG.out; omega⟩, ⟨Df (Kd.BJ (rI (q := m) (Kd.BJ zG.out (fun l a => (⟨a, a.2.1⟩ : _ ∧ l ≠ m))) (fun _ a => a.2)) (fun _ a => ⟨a.1.1, a.1.2.1⟩))⟩, ⟨Ay (Kd.AJ (vI (q := m) (Kd.AJ T.out (fun l a => (⟨a, a.1.2.2.2.2.2.1⟩ : _ ∧ l ≠ m))) (fun _ a => a.2)) (fun _ a => ⟨a.1.1.1, ⟨a.1.2, ⟨a.1.1.2.2.2.1, ⟨a.1.1.2.2.2.2.1, a.1.1.2.2.2.2.2.1⟩⟩⟩⟩))⟩, ⟨Ay (Kd.AJ (vI (q := m) (Kd.AJ r.out (fun l a => (⟨a, a.1.2.2.2.2.2.1⟩ : _ ∧ l ≠ m))) (fun _ a => a.2)) (fun _ a => ⟨a.1.1.1, ⟨a.1.2, ⟨a.1.1.2.2.2.1, ⟨a.1.1.2.2.2.2.1, a.1.1.2.2.2.2.2.1⟩⟩⟩⟩))⟩, ⟨Ay (Kd.AJ (vI (q := m) (Kd.AJ s.out (fun l a => (⟨a, a.1.2.2.2.2.2.1⟩ : _ ∧ l ≠ m))) (fun _ a => a.2)) (fun _ a => ⟨a.1.1.1, ⟨a.1.2, ⟨a.1.1.2.2.2.1, ⟨a.1.1.2.2.2.2.1, a.1.1.2.2.2.2.2.1⟩⟩⟩⟩))⟩, ⟨Ay (Kd.AJ (vI (q := m) (Kd.AJ u.out (fun l a => (⟨a, a.1.2.2.2.2.2.1⟩ : _ ∧ l ≠ m))) (fun _ a => a.2)) (fun _ a => ⟨a.1.1.1, ⟨a.1.2, ⟨a.1.1.2.2.2.1, ⟨a.1.1.2.2.2.2.1, a.1.1.2.2.2.2.2.1⟩⟩⟩⟩))⟩, ⟨Ay (Kd.AJ (vI (q := m) (Kd.AJ G.out (fun l a => (⟨a, a.1.2.2.2.2.2.1⟩ : _ ∧ l ≠ m))) (fun _ a => a.2)) (fun _ a => ⟨a.1.1.1, ⟨a.1.2, ⟨a.1.1.2.2.2.1, ⟨a.1.1.2.2.2.2.1, a.1.1.2.2.2.2.2.1⟩⟩⟩⟩))⟩, ⟨Ay (Kd.AJ (vI (q := m) (Kd.AJ I.out (fun l a => (⟨a, a.1.2.2.2.2.2.1⟩ : _ ∧ l ≠ m))) (fun _ a => a.2)) (fun _ a => ⟨a.1.1.1, ⟨a.1.2, ⟨a.1.1.2.2.2.1, ⟨a.1.1.2.2.2.2.1, a.1.1.2.2.2.2.2.1⟩⟩⟩⟩))⟩, ⟨bF qB y⟩, ⟨bF sB x⟩, ⟨pB L⟩, ⟨be4 HB J O yB hC⟩⟩
end Go.Proofs.Ytojankgmedccdaa.PGn
