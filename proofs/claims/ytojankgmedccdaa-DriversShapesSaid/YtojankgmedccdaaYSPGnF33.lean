/- Part of the proof of LawDriversShapes: every definition and lemma is one that it names. -/
import Derived.Test.YtojankgmedccdaaYSPGnx0
import Derived.Test.YtojankgmedccdaaYSPAwx1
import Derived.Test.YtojankgmedccdaaYSPGnF56
namespace Go.Proofs.Ytojankgmedccdaa.PGn
open Go.RowKit Own PTy Hand PIs PAw YtojankgmedccdaaW.PrintWords YtojankgmedccdaaW.PrintLast YtojankgmedccdaaW.PrintMore
attribute [local go_sem] BR BS Bj Bl BH BI BU BX
set_option linter.unusedVariables false
set_option linter.unusedSimpArgs false
mutual
def Ai.j0 : Nat → Int → Int → Bool → Int → Int → ByteArray → List ByteArray → List (S26) → Int → Int → List Int → List (S30) → List (S63) → Option ((List (S63)) × Int)
 | 0, _, _, _, _, _, _, _, _, _, _, _, _, _ => none
 | k + 1, x2, x3, x29, b, c, d, e, g, j, l, m, n, h => if x29 = true then (some (([] : List (S63)), 2)) else ((drivers_behind.f j l m n h x2).bind fun v => (if v = true then (some (([] : List (S63)), 5)) else (Ai.l0 k x3 ([] : List (S63)) h (h.length : Int) 0 b c d e g j l m n)))
def Ai.l0 : Nat → Int → List (S63) → List (S63) → Int → Int → Int → Int → ByteArray → List ByteArray → List (S26) → Int → Int → List Int → List (S30) → Option ((List (S63)) × Int)
 | 0, _, _, _, _, _, _, _, _, _, _, _, _, _, _ => none
 | k + 1, x3, o, a, u, x38, b, c, d, e, g, p, q, r, s => if x38 < u then (if 0 ≤ x38 then (if x38 < (a.length : Int) then (if ((AA a x38).f0) > x3 then (some (o, 0)) else ((CP.f k b c d e g p q r s ((AA a x38).f1.f0) ((AA a x38).f1.f1) ((AA a x38).f1.f2) ((AA a x38).f1.f3)).bind fun w => (if w = true then (Ai.l0 k x3 o a u (wrap64 (x38 + 1)) b c d e g ((AA a x38).f1.f0) ((AA a x38).f1.f1) ((AA a x38).f1.f2) ((AA a x38).f1.f3)) else ((drivers_copied.f ((AA a x38).f1.f0) ((AA a x38).f1.f1) ((AA a x38).f1.f2) ((AA a x38).f1.f3)).bind fun i => (if o.length < 1954687338268 then (Ai.l0 k x3 (o ++ [(⟨(AA a x38).f0, (⟨i.1, i.2.1, i.2.2.1, i.2.2.2⟩ : S30)⟩ : S63)]) a u (wrap64 (x38 + 1)) b c d e g ((AA a x38).f1.f0) ((AA a x38).f1.f1) ((AA a x38).f1.f2) ((AA a x38).f1.f3)) else (none)))))) else (none)) else (none)) else (some (o, 0))
end
def Ai.f (k : Nat) (a : Int) (b : Int) (c : ByteArray) (g : List ByteArray) (h : List (S26)) (d : Int) (e : Int) (i : List Int) (j : List (S30)) (l : List (S63)) (m : Int) (a3 : Int) : Option ((List (S63)) × Int) := (BO.f k a b c g h d e i j l).bind fun n => (if n = true then (if (mn m a3) < 0 then (Ai.j0 k m a3 true a b c g h d e i j l) else (Ai.j0 k m a3 (decide ((mx m a3) > 2000000)) a b c g h d e i j l)) else (Ai.j0 k m a3 true a b c g h d e i j l))
def Ai.T12 : Bool × List (List Nat × List Nat) := (true, [([], []), ([], []), ([1], [1]), ([], []), ([3], [3]), ([4], [4]), ([2, 5], [2, 5]), ([6], [6]), ([0, 7, 5], [0, 7]), ([8, 8, 0, 1, 2, 3, 4, 5, 6, 7, 8], [0, 8])])
def Ai.B12 : List Nat := [0, 0, 2, 0, 8, 24, 62, 126, 255, 511]
theorem Ai.Pk : C9 .any (opsOf Try.f33 12) = Ai.T12 := by kernel_rfl
theorem Ai.O4 : Cm Ai.T12.2 Ai.B12 = true := by kernel_rfl
set_option maxHeartbeats 8000000 in
set_option maxRecDepth 100000 in
theorem Ai.calls (k : Nat) (mC : Int) (nC : Int) (oC : ByteArray) (pD : Option Addr) (sD : Nat) (xB : List ByteArray) (qD : Option Addr) (tD : Nat) (yB : List (S26)) (qC : Int) (rC : Int) (O : Nat → Prop) (gD : Option Addr) (jD : Nat) (lB : List Int) (T : Nat → Prop) (hD : Option Addr) (kD : Nat) (mB : List (S30)) (U : Nat → Prop) (xD : Option Addr) (lD : Nat) (j : List (S63)) (a2 : Int) (a3 : Int) (r1 : List (S63)) (r2 : Int) (w : World) (hG : D9 w) (nG : Kd.C Kd.string w pD xB.length xB) (lG : xB.length ≤ sD) (oG : Kd.C k26 w qD yB.length yB) (mG : yB.length ≤ tD) (oH : Kd.V (Kd.int .u8) 73 w w.heap.size (fun d => O d) (.slice gD lB.length jD) lB) (pH : Kd.V k30 30 w w.heap.size (fun d => T d) (.slice hD mB.length kD) mB) (qH : Kd.V k63 63 w w.heap.size (fun d => U d) (.slice xD j.length lD) j) (h : Ai.f k mC nC oC xB yB qC rC lB mB j a2 a3 = some (r1, r2)) :
  Calls Try.prog 33 #[.agg #[.int .i64 mC, .int .i64 nC, .string oC, .slice pD xB.length sD, .slice qD yB.length tD], .agg #[.int .i64 qC, .int .i64 rC, .slice gD lB.length jD, .slice hD mB.length kD, .slice xD j.length lD], .int .i64 a2, .int .i64 a3] w fun e w' => ∃ hI : Value, e = .returned (.tuple #[hI, .int .i64 r2]) ∧ Kd.N k63 63 w' w.heap.size (fun d => ((O d ∨ T d ∨ U d) ∨ w.heap.size ≤ d)) hI r1 ∧ Below w.heap.size w w' := by
 have HG := mk0 hG; clear hG
 have pK := Try.underlying26
 have rK := Try.underlying33
 have qK := Try.underlying30
 have sK := Try.underlying63
 have lE := mk0 nG; have jE := mk0 lG; clear nG lG; have mE := mk0 oG; have kE := mk0 mG; clear oG mG
 have oB := mk0 (show Kd.V (Kd.int .u8) 73 w w.heap.size (fun d => ((O d ∨ T d ∨ U d) ∨ w.heap.size ≤ d)) (.slice gD lB.length jD) lB from Kd.AJ oH (fun d a => .inl (.inl a)))
 have qB := mk0 (show Kd.V k30 30 w w.heap.size (fun d => ((O d ∨ T d ∨ U d) ∨ w.heap.size ≤ d)) (.slice hD mB.length kD) mB from Kd.AJ pH (fun d a => .inl (.inr (.inl a))))
 have sB := mk0 (show Kd.V k63 63 w w.heap.size (fun d => ((O d ∨ T d ∨ U d) ∨ w.heap.size ≤ d)) (.slice xD j.length lD) j from Kd.AJ qH (fun d a => .inl (.inr (.inr a))))
 have HB := mk0 (Below.refl w.heap.size w)
 have H := h; unfold Ai.f at H
 clear h; have gH := mk0 H; clear H
 go_enter Try.func33, Try.ntmps33
 go_upto_region 1 with (first | ((with_reducible refine AC rfl (N := 4) rfl (cs := #[.int .i64 mC, .int .i64 nC, .string oC, .slice pD xB.length sD, .slice qD yB.length tD]) (t := 26) ?hr ?_); (case hr => first | (go_simp; done) | (go_simp; rfl)); intro W hg w6 uC hb; obtain ⟨oB, qB, sB⟩ := tg3 hg hb oB qB sB; have u := mk0 (uC); have D := bs (be HB) hg; replace HB := kh HB hb; clear hb uC hg) | ((with_reducible refine AC rfl (N := 5) rfl (cs := #[.int .i64 qC, .int .i64 rC, .slice gD lB.length jD, .slice hD mB.length kD, .slice xD j.length lD]) (t := 33) ?hr ?_); (case hr => first | (go_simp; done) | (go_simp; rfl)); intro X hg w7 uC hb; obtain ⟨oB, qB, sB⟩ := tg3 hg hb oB qB sB; have x := mk0 (uC); have J := bs (be1 HB D) hg; replace HB := kh1 HB D hb; have ⟨hC, jC⟩ := nn u hg; replace u := kb u hb; clear hb uC hg))
 (try simp only [Act.put, List.setIfInBounds_toArray, List.set_cons_zero, List.set_cons_succ])
 go_cut [29] (fun v29 wc => ∃ (kq : Nat) (fG : Bool), v29 = .bool fG ∧ Aside0 (Ai.j0 kq a2 a3 fG mC nC oC xB yB qC rC lB mB j = some (r1, r2)) ∧ Aside0 (kq ≤ k) ∧ Aside0 (Kd.V (Kd.int .u8) 73 wc w.heap.size (fun d => ((O d ∨ T d ∨ U d) ∨ w.heap.size ≤ d) ∧ d ≠ W ∧ d ≠ X) (.slice gD lB.length jD) lB) ∧ Aside0 (Kd.V k30 30 wc w.heap.size (fun d => ((O d ∨ T d ∨ U d) ∨ w.heap.size ≤ d) ∧ d ≠ W ∧ d ≠ X) (.slice hD mB.length kD) mB) ∧ Aside0 (Kd.V k63 63 wc w.heap.size (fun d => ((O d ∨ T d ∨ U d) ∨ w.heap.size ≤ d) ∧ d ≠ W ∧ d ≠ X) (.slice xD j.length lD) j) ∧ Aside0 (wc.heap[W]? = some (.cells #[.int .i64 mC, .int .i64 nC, .string oC, (.slice pD xB.length sD), (.slice qD yB.length tD)] 26 (0, 0))) ∧ Aside0 (wc.heap[X]? = some (.cells #[.int .i64 qC, .int .i64 rC, (.slice gD lB.length jD), (.slice hD mB.length kD), (.slice xD j.length lD)] 33 (0, 0))) ∧ Aside0 (Below w.heap.size w wc))
 case first =>
  have H := gH.out; clear gH
  replace H := bS H; obtain ⟨tK, A8, H⟩ := H
  replace H := iB' H; obtain ⟨rfl, H⟩ | ⟨rfl, H⟩ := H
  ·have H' := mk0 H
   clear H; have ⟨tI, qJ⟩ := no hC jC
   have bL := cells5 u.out
   have cL := cells5 x.out
   go_wp2_with ((with_reducible refine AO (f := 19) rfl ?_); refine CU Try.func19 (BO.calls k mC nC oC _ _ xB _ _ yB qC rC _ _ lB _ _ mB _ _ j false _ (Aj HG.out (be2 HB D J)) (cu lE HB) jE.out (cu mE HB) kE.out (DY (Kd.AP oB.out).2.2) ((Kd.AP oB.out).2.1) (DY (Kd.AP qB.out).2.2) ((Kd.AP qB.out).2.1) (DY (Kd.AP sB.out).2.2) ((Kd.AP sB.out).2.1) A8.out) ?_; intro bM hb; replace oB := vb oB hb; replace qB := vb qB hb; replace sB := vb sB hb; obtain ⟨u, x⟩ := tb2 hb u x; replace HB := kh2 HB D J hb)
   go_meet
   case rel => exact ⟨_, (true), rfl, H', ⟨by omega⟩, ⟨Ay (Kd.AJ oB.out (fun _ a => ⟨a.1.1, ⟨a.1.2, a.2⟩⟩))⟩, ⟨Ay (Kd.AJ qB.out (fun _ a => ⟨a.1.1, ⟨a.1.2, a.2⟩⟩))⟩, ⟨Ay (Kd.AJ sB.out (fun _ a => ⟨a.1.1, ⟨a.1.2, a.2⟩⟩))⟩, ⟨bu u⟩, ⟨bu x⟩, ⟨be2 HB D J⟩⟩
  obtain ⟨yG, cF⟩ : ∃ j_ : Int, (mn a2 a3) = j_ := ⟨_, rfl⟩
  replace H : (if (yG) < 0 then (Ai.j0 k a2 a3 true mC nC oC xB yB qC rC lB mB j) else (Ai.j0 k a2 a3 (decide ((mx a2 a3) > 2000000)) mC nC oC xB yB qC rC lB mB j)) = some (r1, r2) := by first | (rw [cF] at H; exact H) | (simp only [cF] at H ⊢; exact H)
  (try rw [cF] at A8)
  have iI : (if a3 < a2 then a3 else a2) = yG := cF
  replace H := iD H; obtain ⟨-, pE, H⟩ | ⟨-, pE, H⟩ := H
  ·(first | rw [pE] | (simp only [CF, DV]; rw [pE]) | skip)
   have H' := mk0 H
   clear H; have ⟨pI, oJ⟩ := no hC jC
   have wK := cells5 u.out
   have xK := cells5 x.out
   go_wp2_with ((with_reducible refine AO (f := 19) rfl ?_); refine CU Try.func19 (BO.calls k mC nC oC _ _ xB _ _ yB qC rC _ _ lB _ _ mB _ _ j true _ (Aj HG.out (be2 HB D J)) (cu lE HB) jE.out (cu mE HB) kE.out (DY (Kd.AP oB.out).2.2) ((Kd.AP oB.out).2.1) (DY (Kd.AP qB.out).2.2) ((Kd.AP qB.out).2.1) (DY (Kd.AP sB.out).2.2) ((Kd.AP sB.out).2.1) A8.out) ?_; intro zL hb; replace oB := vb oB hb; replace qB := vb qB hb; replace sB := vb sB hb; obtain ⟨u, x⟩ := tb2 hb u x; replace HB := kh2 HB D J hb)
   go_meet
   case rel => exact ⟨_, (true), rfl, H', ⟨by omega⟩, ⟨Ay (Kd.AJ oB.out (fun _ a => ⟨a.1.1, ⟨a.1.2, a.2⟩⟩))⟩, ⟨Ay (Kd.AJ qB.out (fun _ a => ⟨a.1.1, ⟨a.1.2, a.2⟩⟩))⟩, ⟨Ay (Kd.AJ sB.out (fun _ a => ⟨a.1.1, ⟨a.1.2, a.2⟩⟩))⟩, ⟨bu u⟩, ⟨bu x⟩, ⟨be2 HB D J⟩⟩
  (first | rw [pE] | (simp only [CF, DV]; rw [pE]) | skip)
  obtain ⟨pG, qE⟩ : ∃ j_ : Int, (mx a2 a3) = j_ := ⟨_, rfl⟩
  replace H : (Ai.j0 k a2 a3 (decide ((pG) > 2000000)) mC nC oC xB yB qC rC lB mB j) = some (r1, r2) := by first | (rw [qE] at H; exact H) | (simp only [qE] at H ⊢; exact H)
  (try rw [qE] at A8)
  have jI : (if a2 < a3 then a3 else a2) = pG := qE
  have H' := mk0 H
  clear H; have ⟨qI, pJ⟩ := no hC jC
  have yK := cells5 u.out
  have zK := cells5 x.out
  go_wp2_with ((with_reducible refine AO (f := 19) rfl ?_); refine CU Try.func19 (BO.calls k mC nC oC _ _ xB _ _ yB qC rC _ _ lB _ _ mB _ _ j true _ (Aj HG.out (be2 HB D J)) (cu lE HB) jE.out (cu mE HB) kE.out (DY (Kd.AP oB.out).2.2) ((Kd.AP oB.out).2.1) (DY (Kd.AP qB.out).2.2) ((Kd.AP qB.out).2.1) (DY (Kd.AP sB.out).2.2) ((Kd.AP sB.out).2.1) A8.out) ?_; intro aM hb; replace oB := vb oB hb; replace qB := vb qB hb; replace sB := vb sB hb; obtain ⟨u, x⟩ := tb2 hb u x; replace HB := kh2 HB D J hb)
  go_meet
  case rel => exact ⟨_, (decide ((pG) > 2000000)), (by first | rfl | (simp; done) | (simp only [← qE] <;> (first | rfl | simp)) | (simp [*]; done)), H', ⟨by omega⟩, ⟨Ay (Kd.AJ oB.out (fun _ a => ⟨a.1.1, ⟨a.1.2, a.2⟩⟩))⟩, ⟨Ay (Kd.AJ qB.out (fun _ a => ⟨a.1.1, ⟨a.1.2, a.2⟩⟩))⟩, ⟨Ay (Kd.AJ sB.out (fun _ a => ⟨a.1.1, ⟨a.1.2, a.2⟩⟩))⟩, ⟨bu u⟩, ⟨bu x⟩, ⟨be2 HB D J⟩⟩
 case rest =>
  clear gH
  obtain ⟨kq, fG, rfl, HA, qG, m, p, r, u, x, HB⟩ := hcut
  cases kq with
  | zero => exact absurd HA.out (by simp [Ai.j0])
  | succ gI =>
   have H := HA.out; clear HA
   simp only [Ai.j0] at H
   replace H := iB H; obtain ⟨rfl, H⟩ | ⟨rfl, H⟩ := H
   ·simp only [Option.some.injEq, Prod.mk.injEq] at H
    obtain ⟨rfl, rfl⟩ := H
    go_wp2
    go_ret2
    exact ⟨_, rfl, by first | exact Kd.EO _ _ _ _ _ | exact Kd.FJ _ _ _ _ _ | exact Kd.D8 _ _ _ _ _ | exact Kd.E5 _ _ _ _ _ | exact Kd.FC _ _ _ _ _, be2 HB D J⟩
   replace H := bS H; obtain ⟨uK, sH, H⟩ := H
   replace H := iB H; obtain ⟨rfl, H⟩ | ⟨rfl, H⟩ := H
   ·simp only [Option.some.injEq, Prod.mk.injEq] at H
    obtain ⟨rfl, rfl⟩ := H
    have ⟨uI, rJ⟩ := no jC hC
    have dL := cells5 x.out
    go_wp2_with ((with_reducible refine AO (f := 50) rfl ?_); refine CU Try.func50 (drivers_behind.calls qC rC _ _ lB _ _ mB _ _ j a2 true _ (DY (Kd.AP m.out).2.2) ((Kd.AP m.out).2.1) (DY (Kd.AP p.out).2.2) ((Kd.AP p.out).2.1) (DY (Kd.AP r.out).2.2) ((Kd.AP r.out).2.1) sH.out) ?_; intro cM hb; replace m := vb m hb; replace p := vb p hb; replace r := vb r hb; obtain ⟨u, x⟩ := tb2 hb u x; replace HB := kh2 HB D J hb)
    go_ret2
    exact ⟨_, rfl, by first | exact Kd.EO _ _ _ _ _ | exact Kd.FJ _ _ _ _ _ | exact Kd.D8 _ _ _ _ _ | exact Kd.E5 _ _ _ _ _ | exact Kd.FC _ _ _ _ _, be2 HB D J⟩
   have H' := mk0 H
   clear H; have ⟨wI, sJ⟩ := no jC hC
   have eL := cells5 x.out
   go_wp2_with (first | ((with_reducible refine AO (f := 50) rfl ?_); refine CU Try.func50 (drivers_behind.calls qC rC _ _ lB _ _ mB _ _ j a2 false _ (DY (Kd.AP m.out).2.2) ((Kd.AP m.out).2.1) (DY (Kd.AP p.out).2.2) ((Kd.AP p.out).2.1) (DY (Kd.AP r.out).2.2) ((Kd.AP r.out).2.1) sH.out) ?_; intro dM hb; replace m := vb m hb; replace p := vb p hb; replace r := vb r hb; obtain ⟨u, x⟩ := tb2 hb u x; replace HB := kh2 HB D J hb; have fL := cells5 x.out) | ((with_reducible refine AC rfl (N := 11) rfl (cs := #[.int .i64 0, .int .i64 0, .slice none 0 0, .slice none 0 0]) (t := 30) ?hr ?_); (case hr => first | (go_simp; done) | (go_simp; rfl)); intro l hg eM uC hb; obtain ⟨m, p, r⟩ := tg3 hg hb m p r; have L := mk0 (uC); have dB := bs (be2 HB D J) hg; replace HB := kh2 HB D J hb; have ⟨sC, vD⟩ := nn u hg; have ⟨tC, wD⟩ := nn x hg; obtain ⟨u, x⟩ := tb2 hb u x; clear hb uC hg; have ⟨xI, tJ⟩ := no vD sC; have ⟨yI, uJ⟩ := no wD tC; have gL := AZ L.out; have hL := cells5 x.out))
   go_loopg [10, 38] gI (fun kq v10 v38 w' => ∃ (fD : List (S63)) (b : Int) (bC : Int) (cC : Int) (jB : List Int) (kB : List (S30)) (u535002 : Value) (u535003 : Value), v38 = .int .i64 b ∧ Aside0 (Ai.l0 kq a3 fD j (j.length : Int) b mC nC oC xB yB bC cC jB kB = some (r1, r2)) ∧ Aside0 (kq ≤ gI) ∧ Aside0 (Kd.N k63 63 w' w.heap.size (fun d => ((O d ∨ T d ∨ U d) ∨ w.heap.size ≤ d) ∧ d ≠ W ∧ d ≠ X ∧ d ≠ l) v10 fD) ∧ Aside0 (Kd.V k63 63 w' w.heap.size (fun d => ((O d ∨ T d ∨ U d) ∨ w.heap.size ≤ d) ∧ some d ≠ (v10 : Value).ownBlock ∧ d ≠ W ∧ d ≠ X ∧ d ≠ l) (.slice xD j.length lD) j) ∧ Aside0 (Kd.V (Kd.int .u8) 73 w' w.heap.size (fun d => ((O d ∨ T d ∨ U d) ∨ w.heap.size ≤ d) ∧ some d ≠ (v10 : Value).ownBlock ∧ d ≠ W ∧ d ≠ X ∧ d ≠ l) (.slice gD lB.length jD) lB) ∧ Aside0 (Kd.V k30 30 w' w.heap.size (fun d => ((O d ∨ T d ∨ U d) ∨ w.heap.size ≤ d) ∧ some d ≠ (v10 : Value).ownBlock ∧ d ≠ W ∧ d ≠ X ∧ d ≠ l) (.slice hD mB.length kD) mB) ∧ Aside0 (Kd.V k63 63 w' w.heap.size (fun d => ((O d ∨ T d ∨ U d) ∨ w.heap.size ≤ d) ∧ some d ≠ (v10 : Value).ownBlock ∧ d ≠ W ∧ d ≠ X ∧ d ≠ l) (.slice xD j.length lD) j) ∧ Aside0 (Kd.V (Kd.int .u8) 73 w' w.heap.size (fun d => ((O d ∨ T d ∨ U d) ∨ w.heap.size ≤ d) ∧ some d ≠ (v10 : Value).ownBlock ∧ d ≠ W ∧ d ≠ X ∧ d ≠ l) u535002 jB) ∧ Aside0 (Kd.V k30 30 w' w.heap.size (fun d => ((O d ∨ T d ∨ U d) ∨ w.heap.size ≤ d) ∧ some d ≠ (v10 : Value).ownBlock ∧ d ≠ W ∧ d ≠ X ∧ d ≠ l) u535003 kB) ∧ Aside0 (w'.heap[W]? = some (.cells #[.int .i64 mC, .int .i64 nC, .string oC, (.slice pD xB.length sD), (.slice qD yB.length tD)] 26 (0, 0))) ∧ Aside0 (w'.heap[X]? = some (.cells #[.int .i64 qC, .int .i64 rC, (.slice gD lB.length jD), (.slice hD mB.length kD), (.slice xD j.length lD)] 33 (0, 0))) ∧ Aside0 (w'.heap[l]? = some (.cells #[.int .i64 bC, .int .i64 cC, u535002, u535003] 30 (0, 0))) ∧ Aside0 (Below w.heap.size w w'))
   case atStart => exact ⟨(([] : List (S63))), (0), (qC), (rC), (lB), (mB), (.slice gD lB.length jD), (.slice hD mB.length kD), rfl, H', ⟨Nat.le_refl _⟩, ⟨by first | exact Kd.EO _ _ _ _ _ | exact Kd.FJ _ _ _ _ _ | exact Kd.D8 _ _ _ _ _ | exact Kd.E5 _ _ _ _ _ | exact Kd.FC _ _ _ _ _⟩, ⟨Ay (Kd.AJ (vI (q := l) (Kd.AJ r.out (fun d a => (⟨a, a.2⟩ : _ ∧ d ≠ l))) (fun _ a => a.2)) (fun _ a => ⟨a.1.1.1, ⟨(by simp [Value.ownBlock]), ⟨a.1.1.2.1, ⟨a.1.1.2.2, a.1.2⟩⟩⟩⟩))⟩, ⟨Ay (Kd.AJ (vI (q := l) (Kd.AJ m.out (fun d a => (⟨a, a.2⟩ : _ ∧ d ≠ l))) (fun _ a => a.2)) (fun _ a => ⟨a.1.1.1, ⟨(by simp [Value.ownBlock]), ⟨a.1.1.2.1, ⟨a.1.1.2.2, a.1.2⟩⟩⟩⟩))⟩, ⟨Ay (Kd.AJ (vI (q := l) (Kd.AJ p.out (fun d a => (⟨a, a.2⟩ : _ ∧ d ≠ l))) (fun _ a => a.2)) (fun _ a => ⟨a.1.1.1, ⟨(by simp [Value.ownBlock]), ⟨a.1.1.2.1, ⟨a.1.1.2.2, a.1.2⟩⟩⟩⟩))⟩, ⟨Ay (Kd.AJ (vI (q := l) (Kd.AJ r.out (fun d a => (⟨a, a.2⟩ : _ ∧ d ≠ l))) (fun _ a => a.2)) (fun _ a => ⟨a.1.1.1, ⟨(by simp [Value.ownBlock]), ⟨a.1.1.2.1, ⟨a.1.1.2.2, a.1.2⟩⟩⟩⟩))⟩, ⟨Ay (Kd.AJ (vI (q := l) (Kd.AJ m.out (fun d a => (⟨a, a.2⟩ : _ ∧ d ≠ l))) (fun _ a => a.2)) (fun _ a => ⟨a.1.1.1, ⟨(by simp [Value.ownBlock]), ⟨a.1.1.2.1, ⟨a.1.1.2.2, a.1.2⟩⟩⟩⟩))⟩, ⟨Ay (Kd.AJ (vI (q := l) (Kd.AJ p.out (fun d a => (⟨a, a.2⟩ : _ ∧ d ≠ l))) (fun _ a => a.2)) (fun _ a => ⟨a.1.1.1, ⟨(by simp [Value.ownBlock]), ⟨a.1.1.2.1, ⟨a.1.1.2.2, a.1.2⟩⟩⟩⟩))⟩, ⟨bF sC u⟩, ⟨bF tC x⟩, ⟨pB L⟩, ⟨be3 HB D J dB⟩⟩
   case round =>
    clear H'
    obtain ⟨fD, b, bC, cC, jB, kB, u535002, u535003, rfl, HA, rG, Z, Y, m, p, r, y, z, u, x, L, HB⟩ := hrel
    cases gk with
    | zero => exact absurd HA.out (by simp [Ai.l0])
    | succ k2 =>
     have H := HA.out; clear HA
     simp only [Ai.l0] at H
     replace H := iD' H; obtain ⟨-, kH, H⟩ | ⟨-, kH, H⟩ := H
     ·simp only [Option.some.injEq, Prod.mk.injEq] at H
      obtain ⟨rfl, rfl⟩ := H
      go_wp2
      go_ret2
      exact ⟨_, rfl, by exact F9 (Kd.Ca Z.out (fun _ a => a.1)), be3 HB D J dB⟩
     replace H := iN H; obtain ⟨-, mI, H⟩ := H
     replace H := iN H; obtain ⟨-, oI, H⟩ := H
     by_cases c43 : ((AA j b).f0) > a3
     ·rw [if_pos c43] at H
      have lH : decide (a3 < ((AA j b).f0)) = true := decide_eq_true c43; clear c43
      simp only [Option.some.injEq, Prod.mk.injEq] at H
      obtain ⟨rfl, rfl⟩ := H
      have dD : 0 ≤ (b : Int) := od
      have eD : b < (j.length : Int) := od
      obtain ⟨oE, dC, fC, eC, gC, fF, hF, jF, lF, nD, oD, xC, vC, yC, wC⟩ := Cg (Kd.AP Y.out).2.2 b dD eD
      cases fF
      obtain ⟨kG, aE, zD, pC⟩ := Kd.FM Y.out z63 b dD (by first | exact eD | exact of_decide_eq_true (by assumption) | (have e_ := (Kd.AP Y.out).1; omega))
      obtain ⟨aG, cG, bG, dG, rfl, zB, uB, aC, wB⟩ := Dy zD
      have fB := pC 3 _ rfl
      rw [Ba _ _ 3 (by omega)] at fB
      replace fB := Option.some.inj (fB.symm.trans nD)
      injection fB with hva_ hvn_ hvc_
      rw [hva_] at uB
      rw [hvc_] at zB
      have I := mk0 (show Kd.V (Kd.int .u8) 73 _ w.heap.size _ _ ((AA j b).f1.f2) from Kd.DN zB uB)
      clear hva_ hvn_ hvc_ uB zB
      have gB := pC 4 _ rfl
      rw [Ba _ _ 4 (by omega)] at gB
      replace gB := Option.some.inj (gB.symm.trans oD)
      injection gB with hva_ hvn_ hvc_
      rw [hva_] at wB
      rw [hvc_] at aC
      have G := mk0 (show Kd.V k30 30 _ w.heap.size _ _ ((AA j b).f1.f3) from Kd.DN aC wB)
      clear hva_ hvn_ hvc_ wB aC; clear pC aE; have bB := mk0 vC; have mD := mk0 xC; clear vC xC; have eB := mk0 wC; have yD := mk0 yC; clear wC yC; replace dD := eq_true dD; replace eD := eq_true eD
      go_wp2_with ((with_reducible refine AC rfl (N := 13) rfl (cs := #[.int .i64 0, .int .i64 0, .int .i64 0, .slice none 0 0, .slice none 0 0]) (t := 63) ?hr ?_); (case hr => first | (go_simp; done) | (go_simp; rfl)); intro s hg fM uC hb; obtain ⟨Z, Y, m, p, r, y, z, I, G⟩ := tg9 hg hb Z Y m p r y z I G; obtain ⟨bB, eB⟩ := tb2 hb bB eB; have B := mk0 (uC); have hB := bs (be3 HB D J dB) hg; replace HB := kh3 HB D J dB hb; have ⟨iC, zC⟩ := nn u hg; have ⟨kC, aD⟩ := nn x hg; have ⟨lC, bD⟩ := nn L hg; obtain ⟨u, x, L⟩ := tb3 hb u x L; clear hb uC hg; have ⟨zI, vJ⟩ := no zC iC; have ⟨aJ, wJ⟩ := no aD kC; have ⟨bJ, xJ⟩ := no bD lC; have iL := cells5 B.out)
      go_ret2
      exact ⟨_, rfl, by exact F9 (Kd.Ca (nI (q := s) (Kd.Ca Z.out (fun d a => (⟨a, a.2⟩ : _ ∧ d ≠ s))) (fun _ a => a.2)) (fun _ a => a.1.1.1)), be4 HB D J dB hB⟩
     rw [if_neg c43] at H; have lH : decide (a3 < ((AA j b).f0)) = false := decide_eq_false c43; clear c43
     replace H := bS H; obtain ⟨vK, tH, H⟩ := H
     replace H := iB H; obtain ⟨rfl, H⟩ | ⟨rfl, H⟩ := H
     ·have H' := mk0 H
      clear H
      have dD : 0 ≤ (b : Int) := od
      have eD : b < (j.length : Int) := od
      obtain ⟨oE, dC, fC, eC, gC, fF, hF, jF, lF, nD, oD, xC, vC, yC, wC⟩ := Cg (Kd.AP Y.out).2.2 b dD eD
      cases fF
      obtain ⟨kG, aE, zD, pC⟩ := Kd.FM Y.out z63 b dD (by first | exact eD | exact of_decide_eq_true (by assumption) | (have e_ := (Kd.AP Y.out).1; omega))
      obtain ⟨aG, cG, bG, dG, rfl, zB, uB, aC, wB⟩ := Dy zD
      have fB := pC 3 _ rfl
      rw [Ba _ _ 3 (by omega)] at fB
      replace fB := Option.some.inj (fB.symm.trans nD)
      injection fB with hva_ hvn_ hvc_
      rw [hva_] at uB
      rw [hvc_] at zB
      have I := mk0 (show Kd.V (Kd.int .u8) 73 _ w.heap.size _ _ ((AA j b).f1.f2) from Kd.DN zB uB)
      clear hva_ hvn_ hvc_ uB zB
      have gB := pC 4 _ rfl
      rw [Ba _ _ 4 (by omega)] at gB
      replace gB := Option.some.inj (gB.symm.trans oD)
      injection gB with hva_ hvn_ hvc_
      rw [hva_] at wB
      rw [hvc_] at aC
      have G := mk0 (show Kd.V k30 30 _ w.heap.size _ _ ((AA j b).f1.f3) from Kd.DN aC wB)
      clear hva_ hvn_ hvc_ wB aC; clear pC aE; have bB := mk0 vC; have mD := mk0 xC; clear vC xC; have eB := mk0 wC; have yD := mk0 yC; clear wC yC; replace dD := eq_true dD; replace eD := eq_true eD
      go_wp2_with (first | ((with_reducible refine AC rfl (N := 13) rfl (cs := #[.int .i64 0, .int .i64 0, .int .i64 0, .slice none 0 0, .slice none 0 0]) (t := 63) ?hr ?_); (case hr => first | (go_simp; done) | (go_simp; rfl)); intro s hg gM uC hb; obtain ⟨Z, Y, m, p, r, y, z, I, G⟩ := tg9 hg hb Z Y m p r y z I G; obtain ⟨bB, eB⟩ := tb2 hb bB eB; have B := mk0 (uC); have hB := bs (be3 HB D J dB) hg; replace HB := kh3 HB D J dB hb; have ⟨iC, zC⟩ := nn u hg; have ⟨kC, aD⟩ := nn x hg; have ⟨lC, bD⟩ := nn L hg; obtain ⟨u, x, L⟩ := tb3 hb u x L; clear hb uC hg; have ⟨cJ, yJ⟩ := no zC iC; have ⟨dJ, zJ⟩ := no aD kC; have ⟨eJ, aK⟩ := no bD lC; have jL := cells5 B.out; have ⟨fJ, bK⟩ := no hC jC; have ⟨gJ, cK⟩ := no sC vD; have kL := cells5 u.out; have ⟨hJ, dK⟩ := no wD tC; have lL := AZ L.out; obtain ⟨vH, tG, bI⟩ := Kd.DR y.out; subst bI; obtain ⟨wH, uG, cI⟩ := Kd.DR z.out; subst cI) | ((with_reducible refine AO (f := 56) rfl ?_); refine GR Try.func56 #[.agg #[.int .i64 mC, .int .i64 nC, .string oC, .slice pD xB.length sD, .slice qD yB.length tD], .agg #[.int .i64 bC, .int .i64 cC, .slice vH jB.length tG, .slice wH kB.length uG], .agg #[.int .i64 ((AA j b).f1.f0), .int .i64 ((AA j b).f1.f1), .slice dC ((AA j b).f1.f2).length fC, .slice eC ((AA j b).f1.f3).length gC]] ?_; (with_reducible refine (CP.calls ?side13 ?side1 ?side2 ?side3 ?side4 ?side5 ?side6 ?side7 ?side8 ?side9 ?side10 ?side11 ?side12 tH.out).mono ?_); (case side1 => exact Kd.BA lE.out (be4 HB D J dB hB)); (case side2 => exact jE.out); (case side3 => exact Kd.BA mE.out (be4 HB D J dB hB)); (case side4 => exact kE.out); (case side5 => refine (Kd.AP (e := 73) (base := w.heap.size) (ok := fun d => ((((O d ∨ T d ∨ U d) ∨ w.heap.size ≤ d) ∧ (some d ≠ (u10 : Value).ownBlock ∧ (d ≠ W ∧ (d ≠ X ∧ d ≠ l)))) ∧ d ≠ s)) (n := jB.length) (c := tG) ?_).2.2; exact (Ay ((vF (q := s) y (fun _ a => a.2))))); (case side6 => exact (Kd.AP y.out).2.1); (case side7 => refine (Kd.AP (e := 30) (base := w.heap.size) (ok := fun d => ((((O d ∨ T d ∨ U d) ∨ w.heap.size ≤ d) ∧ (some d ≠ (u10 : Value).ownBlock ∧ (d ≠ W ∧ (d ≠ X ∧ d ≠ l)))) ∧ d ≠ s)) (n := kB.length) (c := uG) ?_).2.2; exact (Ay ((vF (q := s) z (fun _ a => a.2))))); (case side8 => exact (Kd.AP z.out).2.1); (case side9 => exact ((Kd.AP (by exact Ay ((vF (q := s) I (fun _ a => a.2))))).2.2)); (case side10 => exact mD.out); (case side11 => exact ((Kd.AP (by exact Ay ((vF (q := s) G (fun _ a => a.2))))).2.2)); (case side12 => exact yD.out); (case side13 => exact Aj HG.out (be4 HB D J dB hB)); rintro e hM ⟨rfl, hb⟩; refine ⟨_, rfl, ?_⟩; replace Z := mk0 (Kd.EE (F9 ((nF (q := s) Z (fun _ a => a.2)))) hb); replace Y := mk0 (Kd.BL (Ay ((vF (q := s) Y (fun _ a => a.2)))) hb); replace m := mk0 (Kd.BL (Ay ((vF (q := s) m (fun _ a => a.2)))) hb); replace p := mk0 (Kd.BL (Ay ((vF (q := s) p (fun _ a => a.2)))) hb); replace r := mk0 (Kd.BL (Ay ((vF (q := s) r (fun _ a => a.2)))) hb); replace y := mk0 (Kd.BL (Ay ((vF (q := s) y (fun _ a => a.2)))) hb); replace z := mk0 (Kd.BL (Ay ((vF (q := s) z (fun _ a => a.2)))) hb); replace u := kF iC u hb; replace x := kF kC x hb; replace L := kF lC L hb; replace bB := mk0 (Kd.BA ((Kd.AP (by exact Ay ((vF (q := s) I (fun _ a => a.2))))).2.2) hb); replace I := mk0 (Kd.BL (Ay ((vF (q := s) I (fun _ a => a.2)))) hb); replace eB := mk0 (Kd.BA ((Kd.AP (by exact Ay ((vF (q := s) G (fun _ a => a.2))))).2.2) hb); replace G := mk0 (Kd.BL (Ay ((vF (q := s) G (fun _ a => a.2)))) hb); replace B := mk0 (AU (g := s) (o := .cells #[.int .i64 ((AA j b).f0), .int .i64 ((AA j b).f1.f0), .int .i64 ((AA j b).f1.f1), .slice dC ((AA j b).f1.f2).length fC, .slice eC ((AA j b).f1.f3).length gC] 63 (0, 0)) (pB B) hb); replace HB := kh4 HB D J dB hB hb; have mL := cells5 B.out; have nL := AZ L.out))
      go_roundg k2
      case measure => have := qG.out; have := rG.out; omega
      case rel => exact ⟨(fD), (wrap64 (b + 1)), ((AA j b).f1.f0), ((AA j b).f1.f1), ((AA j b).f1.f2), ((AA j b).f1.f3), (.slice dC ((AA j b).f1.f2).length fC), (.slice eC ((AA j b).f1.f3).length gC), rfl, H', ⟨by have := qG.out; have := rG.out; omega⟩, ⟨F9 (Kd.Ca (nI (q := l) (Kd.Ca Z.out (fun d a => (⟨a, a.1.2.2.2⟩ : _ ∧ d ≠ l))) (fun _ a => a.2)) (fun _ a => ⟨a.1.1.1, ⟨a.1.1.2.1, ⟨a.1.1.2.2.1, a.1.1.2.2.2⟩⟩⟩))⟩, ⟨Ay (Kd.AJ (vI (q := l) (Kd.AJ Y.out (fun d a => (⟨a, a.1.2.2.2.2⟩ : _ ∧ d ≠ l))) (fun _ a => a.2)) (fun _ a => ⟨a.1.1.1, ⟨a.1.1.2.1, ⟨a.1.1.2.2.1, ⟨a.1.1.2.2.2.1, a.1.1.2.2.2.2⟩⟩⟩⟩))⟩, ⟨Ay (Kd.AJ (vI (q := l) (Kd.AJ m.out (fun d a => (⟨a, a.1.2.2.2.2⟩ : _ ∧ d ≠ l))) (fun _ a => a.2)) (fun _ a => ⟨a.1.1.1, ⟨a.1.1.2.1, ⟨a.1.1.2.2.1, ⟨a.1.1.2.2.2.1, a.1.1.2.2.2.2⟩⟩⟩⟩))⟩, ⟨Ay (Kd.AJ (vI (q := l) (Kd.AJ p.out (fun d a => (⟨a, a.1.2.2.2.2⟩ : _ ∧ d ≠ l))) (fun _ a => a.2)) (fun _ a => ⟨a.1.1.1, ⟨a.1.1.2.1, ⟨a.1.1.2.2.1, ⟨a.1.1.2.2.2.1, a.1.1.2.2.2.2⟩⟩⟩⟩))⟩, ⟨Ay (Kd.AJ (vI (q := l) (Kd.AJ r.out (fun d a => (⟨a, a.1.2.2.2.2⟩ : _ ∧ d ≠ l))) (fun _ a => a.2)) (fun _ a => ⟨a.1.1.1, ⟨a.1.1.2.1, ⟨a.1.1.2.2.1, ⟨a.1.1.2.2.2.1, a.1.1.2.2.2.2⟩⟩⟩⟩))⟩, ⟨Ay (Kd.AJ (vI (q := l) (Kd.AJ I.out (fun d a => (⟨a, a.1.2.2.2.2⟩ : _ ∧ d ≠ l))) (fun _ a => a.2)) (fun _ a => ⟨a.1.1.1, ⟨a.1.1.2.1, ⟨a.1.1.2.2.1, ⟨a.1.1.2.2.2.1, a.1.1.2.2.2.2⟩⟩⟩⟩))⟩, ⟨Ay (Kd.AJ (vI (q := l) (Kd.AJ G.out (fun d a => (⟨a, a.1.2.2.2.2⟩ : _ ∧ d ≠ l))) (fun _ a => a.2)) (fun _ a => ⟨a.1.1.1, ⟨a.1.1.2.1, ⟨a.1.1.2.2.1, ⟨a.1.1.2.2.2.1, a.1.1.2.2.2.2⟩⟩⟩⟩))⟩, ⟨bF sC u⟩, ⟨bF tC x⟩, ⟨pB L⟩, ⟨be4 HB D J dB hB⟩⟩
     replace H := Option.bind_eq_some_iff.mp H
     obtain ⟨⟨wE, xE, cD, yE⟩, sG, H⟩ := H
     replace H : (if fD.length < 1954687338268 then (Ai.l0 k2 a3 (fD ++ [(⟨(AA j b).f0, (⟨wE, xE, cD, yE⟩ : S30)⟩ : S63)]) j (j.length : Int) (wrap64 (b + 1)) mC nC oC xB yB ((AA j b).f1.f0) ((AA j b).f1.f1) ((AA j b).f1.f2) ((AA j b).f1.f3)) else (none)) = some (r1, r2) := H
     have lI := mk0 sG; clear sG
     by_cases c67 : fD.length < 1954687338268
     rotate_left
     ·rw [if_neg c67] at H
      exact absurd H (by simp)
     rw [if_pos c67] at H; have iH := mk0 c67; clear c67
     obtain ⟨dH, uE⟩ : ∃ y_ : List (S63), y_ = (fD ++ [(⟨(AA j b).f0, (⟨wE, xE, cD, yE⟩ : S30)⟩ : S63)]) := ⟨_, rfl⟩
     replace H : (Ai.l0 k2 a3 dH j (j.length : Int) (wrap64 (b + 1)) mC nC oC xB yB ((AA j b).f1.f0) ((AA j b).f1.f1) ((AA j b).f1.f2) ((AA j b).f1.f3)) = some (r1, r2) := by first | (rw [uE]; with_reducible exact H) | (have eH := (Option.bind_some _ _).symm.trans H; rw [uE]; with_reducible exact eH) | (have eH := (Option.bind_some _ _).symm.trans H; with_reducible exact eH) | with_reducible exact H | (rw [uE]; exact H) | exact H
     have jH := mk0 uE; clear uE
     have H' := mk0 H
     clear H
     have dD : 0 ≤ (b : Int) := od
     have eD : b < (j.length : Int) := od
     obtain ⟨oE, dC, fC, eC, gC, fF, hF, jF, lF, nD, oD, xC, vC, yC, wC⟩ := Cg (Kd.AP Y.out).2.2 b dD eD
     cases fF
     obtain ⟨kG, aE, zD, pC⟩ := Kd.FM Y.out z63 b dD (by first | exact eD | exact of_decide_eq_true (by assumption) | (have e_ := (Kd.AP Y.out).1; omega))
     obtain ⟨aG, cG, bG, dG, rfl, zB, uB, aC, wB⟩ := Dy zD
     have fB := pC 3 _ rfl
     rw [Ba _ _ 3 (by omega)] at fB
     replace fB := Option.some.inj (fB.symm.trans nD)
     injection fB with hva_ hvn_ hvc_
     rw [hva_] at uB
     rw [hvc_] at zB
     have I := mk0 (show Kd.V (Kd.int .u8) 73 _ w.heap.size _ _ ((AA j b).f1.f2) from Kd.DN zB uB)
     clear hva_ hvn_ hvc_ uB zB
     have gB := pC 4 _ rfl
     rw [Ba _ _ 4 (by omega)] at gB
     replace gB := Option.some.inj (gB.symm.trans oD)
     injection gB with hva_ hvn_ hvc_
     rw [hva_] at wB
     rw [hvc_] at aC
     have G := mk0 (show Kd.V k30 30 _ w.heap.size _ _ ((AA j b).f1.f3) from Kd.DN aC wB)
     clear hva_ hvn_ hvc_ wB aC; clear pC aE; have bB := mk0 vC; have mD := mk0 xC; clear vC xC; have eB := mk0 wC; have yD := mk0 yC; clear wC yC; replace dD := eq_true dD; replace eD := eq_true eD
     try go_wp2_with (first | ((with_reducible refine AC rfl (N := 13) rfl (cs := #[.int .i64 0, .int .i64 0, .int .i64 0, .slice none 0 0, .slice none 0 0]) (t := 63) ?hr ?_); (case hr => first | (go_simp; done) | (go_simp; rfl)); intro s hg iM uC hb; obtain ⟨Z, Y, m, p, r, y, z, I, G⟩ := tg9 hg hb Z Y m p r y z I G; obtain ⟨bB, eB⟩ := tb2 hb bB eB; have B := mk0 (uC); have hB := bs (be3 HB D J dB) hg; replace HB := kh3 HB D J dB hb; have ⟨iC, zC⟩ := nn u hg; have ⟨kC, aD⟩ := nn x hg; have ⟨lC, bD⟩ := nn L hg; obtain ⟨u, x, L⟩ := tb3 hb u x L; clear hb uC hg; have ⟨iJ, eK⟩ := no zC iC; have ⟨jJ, fK⟩ := no aD kC; have ⟨kJ, gK⟩ := no bD lC; have oL := cells5 B.out; have ⟨lJ, iK⟩ := no hC jC; have ⟨mJ, jK⟩ := no sC vD; have pL := cells5 u.out; have ⟨nJ, kK⟩ := no wD tC; have qL := AZ L.out; obtain ⟨gG, dF, dI⟩ := Kd.DR y.out; subst dI; obtain ⟨iG, eF, eI⟩ := Kd.DR z.out; subst eI) | ((with_reducible refine AO (f := 56) rfl ?_); refine GR Try.func56 #[.agg #[.int .i64 mC, .int .i64 nC, .string oC, .slice pD xB.length sD, .slice qD yB.length tD], .agg #[.int .i64 bC, .int .i64 cC, .slice gG jB.length dF, .slice iG kB.length eF], .agg #[.int .i64 ((AA j b).f1.f0), .int .i64 ((AA j b).f1.f1), .slice dC ((AA j b).f1.f2).length fC, .slice eC ((AA j b).f1.f3).length gC]] ?_; (with_reducible refine (CP.calls ?side13 ?side1 ?side2 ?side3 ?side4 ?side5 ?side6 ?side7 ?side8 ?side9 ?side10 ?side11 ?side12 tH.out).mono ?_); (case side1 => exact Kd.BA lE.out (be4 HB D J dB hB)); (case side2 => exact jE.out); (case side3 => exact Kd.BA mE.out (be4 HB D J dB hB)); (case side4 => exact kE.out); (case side5 => refine (Kd.AP (e := 73) (base := w.heap.size) (ok := fun d => ((((O d ∨ T d ∨ U d) ∨ w.heap.size ≤ d) ∧ (some d ≠ (u10 : Value).ownBlock ∧ (d ≠ W ∧ (d ≠ X ∧ d ≠ l)))) ∧ d ≠ s)) (n := jB.length) (c := dF) ?_).2.2; exact (Ay ((vF (q := s) y (fun _ a => a.2))))); (case side6 => exact (Kd.AP y.out).2.1); (case side7 => refine (Kd.AP (e := 30) (base := w.heap.size) (ok := fun d => ((((O d ∨ T d ∨ U d) ∨ w.heap.size ≤ d) ∧ (some d ≠ (u10 : Value).ownBlock ∧ (d ≠ W ∧ (d ≠ X ∧ d ≠ l)))) ∧ d ≠ s)) (n := kB.length) (c := eF) ?_).2.2; exact (Ay ((vF (q := s) z (fun _ a => a.2))))); (case side8 => exact (Kd.AP z.out).2.1); (case side9 => exact ((Kd.AP (by exact Ay ((vF (q := s) I (fun _ a => a.2))))).2.2)); (case side10 => exact mD.out); (case side11 => exact ((Kd.AP (by exact Ay ((vF (q := s) G (fun _ a => a.2))))).2.2)); (case side12 => exact yD.out); (case side13 => exact Aj HG.out (be4 HB D J dB hB)); rintro e mK ⟨rfl, hb⟩; refine ⟨_, rfl, ?_⟩; replace Z := mk0 (Kd.EE (F9 ((nF (q := s) Z (fun _ a => a.2)))) hb); replace Y := mk0 (Kd.BL (Ay ((vF (q := s) Y (fun _ a => a.2)))) hb); replace m := mk0 (Kd.BL (Ay ((vF (q := s) m (fun _ a => a.2)))) hb); replace p := mk0 (Kd.BL (Ay ((vF (q := s) p (fun _ a => a.2)))) hb); replace r := mk0 (Kd.BL (Ay ((vF (q := s) r (fun _ a => a.2)))) hb); replace y := mk0 (Kd.BL (Ay ((vF (q := s) y (fun _ a => a.2)))) hb); replace z := mk0 (Kd.BL (Ay ((vF (q := s) z (fun _ a => a.2)))) hb); replace u := kF iC u hb; replace x := kF kC x hb; replace L := kF lC L hb; replace bB := mk0 (Kd.BA ((Kd.AP (by exact Ay ((vF (q := s) I (fun _ a => a.2))))).2.2) hb); replace I := mk0 (Kd.BL (Ay ((vF (q := s) I (fun _ a => a.2)))) hb); replace eB := mk0 (Kd.BA ((Kd.AP (by exact Ay ((vF (q := s) G (fun _ a => a.2))))).2.2) hb); replace G := mk0 (Kd.BL (Ay ((vF (q := s) G (fun _ a => a.2)))) hb); replace B := mk0 (AU (g := s) (o := .cells #[.int .i64 ((AA j b).f0), .int .i64 ((AA j b).f1.f0), .int .i64 ((AA j b).f1.f1), .slice dC ((AA j b).f1.f2).length fC, .slice eC ((AA j b).f1.f3).length gC] 63 (0, 0)) (pB B) hb); replace HB := kh4 HB D J dB hB hb))
     have mF := mk0 (Kd.Il Z.out)
     have pF := mk0 (Kd.Bn Y.out)
     have qF := mk0 (Kd.Bn m.out)
     have sF := mk0 (Kd.Bn p.out)
     have tF := mk0 (Kd.Bn r.out)
     have uF := mk0 (Kd.Bn y.out)
     have wF := mk0 (Kd.Bn z.out)
     have xF := mk0 (Kd.Bn I.out)
     have yF := mk0 (Kd.Bn G.out)
     have zF := mk0 (AY u.out)
     have dE := mk0 (AY x.out)
     have eE := mk0 (AY L.out)
     have fE := mk0 (AY B.out)
     have gE := mk0 (Kd.Cv bB.out)
     have hE := mk0 (Kd.Cv eB.out)
     have oF := mk0 (Aa HB.out)
     clear Z; clear Y; clear m; clear p; clear r; clear y; clear z; clear I; clear G; clear u; clear x; clear L; clear B; clear bB; clear eB; clear HB; have Z := mF; have Y := pF; have m := qF; have p := sF; have r := tF; have y := uF; have z := wF; have I := xF; have G := yF; have u := zF; have x := dE; have L := eE; have B := fE; have bB := gE; have eB := hE; have HB := oF; clear mF pF qF sF tF uF wF xF yF zF dE eE fE gE hE oF
     refine DL (n := 10) (S := fun w' => w'.cell? ⟨s, 0, none⟩ = some (.int .i64 ((AA j b).f0)) ∧ w'.cell? ⟨s, 1, none⟩ = some (.int .i64 ((AA j b).f1.f0)) ∧ w'.cell? ⟨s, 2, none⟩ = some (.int .i64 ((AA j b).f1.f1)) ∧ w'.cell? ⟨s, 3, none⟩ = some (.slice dC ((AA j b).f1.f2).length fC) ∧ w'.cell? ⟨s, 4, none⟩ = some (.slice eC ((AA j b).f1.f3).length gC)) (ds := []) (tf 0 10) (by kernel_rfl) rfl rfl ⟨bc B 0, bc B 1, bc B 2, bc B 3, bc B 4⟩ (fun cE => ?_); refine CW Ai.Pk Ai.O4 (fun nE zH => ?_)
     generalize mK.drew = jM at Z Y m p r y z I G u x L B bB eB HB cE ⊢
     refine pv 0 52 (tf 1 9) nE ?_
     refine pv 1 53 (tf 2 8) nE ?_
     refine pv 3 55 #[true, true, false, true, false, false, false, false, false, false] nE ?_
     refine Br (i := 2) (N := some 54) (v := ?_) (a' := ?_) (tf 4 6) rfl rfl (BB nE.out zH.out (by kernel_rfl)) (fun _ _ _ h => h) (Or.inl ⟨by rfl, ?_⟩) cE ?_ ?_
     rotate_left
     ·rintro w' ⟨s0, s1, s2, s3, s4⟩
      go_simp
      with_reducible rfl
     rotate_left
     ·simp only [ps]
      rfl
     refine Br (i := 4) (N := some 56) (v := ?_) (a' := ?_) (tf 5 5) rfl rfl (BB nE.out zH.out (by kernel_rfl)) (fun _ _ _ h => h) (Or.inl ⟨by rfl, ?_⟩) cE ?_ ?_
     rotate_left
     ·rintro w' ⟨s0, s1, s2, s3, s4⟩
      go_simp
      with_reducible rfl
     rotate_left
     ·simp only [ps]
      rfl
     refine Dh (i := 5) (N := some 57) (tf 6 4) rfl rfl (CO nE.out (by kernel_rfl)) (by decide) (fun K hK => ?_)
     refine DC Try.func51 (by kernel_rfl) rfl #[.agg #[.int .i64 ((AA j b).f1.f0), .int .i64 ((AA j b).f1.f1), .slice dC ((AA j b).f1.f2).length fC, .slice eC ((AA j b).f1.f3).length gC]] (by rfl) rfl rfl (by (try simp only [List.map_toArray, List.map_cons, List.map_nil]); first | done | rfl | (simp only [List.length_drop, List.length_take]; rfl)) ?_
     with_reducible refine (drivers_copied.calls ((AA j b).f1.f0) ((AA j b).f1.f1) _ _ ((AA j b).f1.f2) (fun d => ((((O d ∨ T d ∨ U d) ∨ w.heap.size ≤ d) ∧ (some d ≠ (u10 : Value).ownBlock ∧ (d ≠ W ∧ (d ≠ X ∧ d ≠ l)))) ∧ d ≠ s)) _ _ ((AA j b).f1.f3) wE xE cD yE _ ?side1 ?side2 ?side3 lI.out).mono ?_
     (case side1 => repeat (first | exact (by repeat (first | (with_reducible exact bB.out) | (with_reducible refine Kd.Cn ?_ _) | (with_reducible refine Kd.Co ?_ _) | (with_reducible refine Kd.Cv ?_) | exact bB.out)) | (with_reducible refine Kd.Cn ?_ _) | (with_reducible refine Kd.Co ?_ _) | (with_reducible refine Kd.Cv ?_)))
     (case side2 => exact mD.out)
     (case side3 => exact G.out)
     rintro e kM ⟨v541, v544, rfl, sE, fI, hb⟩
     refine ⟨_, rfl, ?_⟩
     have mF := mk0 (Kd.Ei (FR Z.out) (Kd.Bf sE) hb)
     have pF := mk0 (Kd.BN (CK Y.out) (Kd.Bf sE) hb)
     have qF := mk0 (Kd.BN (CK m.out) (Kd.Bf sE) hb)
     have sF := mk0 (Kd.BN (CK p.out) (Kd.Bf sE) hb)
     have tF := mk0 (Kd.BN (CK r.out) (Kd.Bf sE) hb)
     have uF := mk0 (Kd.BN (CK y.out) (Kd.Bf sE) hb)
     have wF := mk0 (Kd.BN (CK z.out) (Kd.Bf sE) hb)
     have xF := mk0 (Kd.BN (CK I.out) (Kd.Bf sE) hb)
     have yF := mk0 (Kd.BN (CK G.out) (Kd.Bf sE) hb)
     have zF := mk0 (Kd.Cj (Kd.Ea (M := fun d => (w.heap.size ≤ d)) (Kd.BJ (ok' := fun d => True) sE (fun _ gF => trivial)) (AV (be4 HB D J dB hB)) (fun d h_ => h_)) (AV (be4 HB D J dB hB)))
     have dE := mk0 (Kd.Gg (Kd.AJ (ok' := fun d => ((O d ∨ T d ∨ U d) ∨ w.heap.size ≤ d) ∧ some d ≠ (v541 : Value).ownBlock ∧ some d ≠ (u10 : Value).ownBlock ∧ d ≠ W ∧ d ≠ X ∧ d ≠ l ∧ d ≠ s) fI (fun d gF => ⟨Or.elim gF.1 (fun tE => tE.1.1) (fun rE => (.inr (Nat.le_trans (AV (be4 HB D J dB hB)) rE))), gF.2, Or.elim gF.1 (fun tE => tE.1.2.1) (fun rE => (Kd.fresh' (Kd.Kg (FR Z.out)) d rE)), Or.elim gF.1 (fun tE => tE.1.2.2.1) (fun rE => (Kd.BM (g := W) (o := .cells #[.int .i64 mC, .int .i64 nC, .string oC, .slice pD xB.length sD, .slice qD yB.length tD] 26 (0, 0)) (Ac u.out) d rE)), Or.elim gF.1 (fun tE => tE.1.2.2.2.1) (fun rE => (Kd.BM (g := X) (o := .cells #[.int .i64 qC, .int .i64 rC, .slice gD lB.length jD, .slice hD mB.length kD, .slice (some oE) j.length lD] 33 (0, 0)) (Ac x.out) d rE)), Or.elim gF.1 (fun tE => tE.1.2.2.2.2) (fun rE => (Kd.BM (g := l) (o := .cells #[.int .i64 bC, .int .i64 cC, .slice gG jB.length dF, .slice iG kB.length eF] 30 (0, 0)) (Ac L.out) d rE)), Or.elim gF.1 (fun tE => tE.2) (fun rE => (Kd.BM (g := s) (o := .cells #[.int .i64 ((AA j b).f0), .int .i64 ((AA j b).f1.f0), .int .i64 ((AA j b).f1.f1), .slice dC ((AA j b).f1.f2).length fC, .slice eC ((AA j b).f1.f3).length gC] 63 (0, 0)) (Ac B.out) d rE))⟩)) (AV (be4 HB D J dB hB)))
     have eE := kb u hb
     have fE := kb x hb
     have gE := kb L hb
     have hE := cb bB hb
     have oF := cb eB hb
     have zG := kb B hb
     have aH := kh4 HB D J dB hB hb
     clear Z; clear Y; clear m; clear p; clear r; clear y; clear z; clear I; clear G; clear u; clear x; clear L; clear bB; clear eB; clear B; clear HB; have Z := mF; have Y := pF; have m := qF; have p := sF; have r := tF; have y := uF; have z := wF; have I := xF; have G := yF; have zE := zF; have bE := dE; have u := eE; have x := fE; have L := gE; have bB := hE; have eB := oF; have B := zG; have HB := aH; clear mF pF qF sF tF uF wF xF yF zF dE eE fE gE hE oF zG aH
     try clear hb
     try clear a
     try clear sE
     try clear fI
     obtain ⟨xH, aI, vG⟩ := Kd.DR bE.out
     (first | subst vG | (injection vG with f1_ f2_ f3_; have mH := f1_.symm; have nH := f3_.symm; clear f1_ f2_ f3_; subst mH; subst nH))
     obtain ⟨rD, uD, wG⟩ := Kd.CJ zE.out
     (first | subst wG | (injection wG with f1_ f2_ f3_; have mH := f1_.symm; have nH := f3_.symm; clear f1_ f2_ f3_; subst mH; subst nH))
     refine hK.out _ _ ⟨bc B 0, bc B 1, bc B 2, bc B 3, bc B 4⟩ (fun cE => ?_)
     clear hK K
     refine CQ (a' := ?_) ?_ ?_
     rotate_left
     ·show Act.put _ (some 57) _ = _
      simp only [ps]
      rfl
     refine pv 6 58 (tf 7 3) nE ?_
     refine Dh (i := 7) (N := some 59) (tf 8 2) rfl rfl (CO nE.out (by kernel_rfl)) (by decide) (fun K hK => ?_)
     refine CE (w1 := ?_) (v := ?_) (by rfl) rfl ?_ ?_
     rotate_left 2
     ·go_simp
      constructor
      ·rfl
      ·rfl
     refine hK.out _ _ ⟨(Ak (AX B.out _) 0).trans rfl, (Ak (AX B.out _) 1).trans rfl, (Ak (AX B.out _) 2).trans rfl, (Ak (AX B.out _) 3).trans rfl, (Ak (AX B.out _) 4).trans rfl⟩ (fun cE => ?_)
     clear hK K
     refine CQ (a' := ?_) ?_ ?_
     rotate_left
     ·show Act.put _ (some 59) _ = _
      simp only [ps]
      rfl
     refine Dh (i := 8) (N := some 60) (tf 9 1) rfl rfl (CO nE.out (by kernel_rfl)) (by decide) (fun K hK => ?_)
     refine Kd.Fb k63 (w0 := w) w.heap.size (by rfl) (.tmp 52) (.tmp 59) 31 63 (.agg #[(.int .i64 0), (.int .i64 0), (.int .i64 0), (.slice none 0 0), (.slice none 0 0)]) 72 rfl Try.underlying31 GA rfl (by decide) (by omega) u10 fD (⟨(AA j b).f0, (⟨wE, xE, cD, yE⟩ : S30)⟩ : S63) [.int .i64 ((AA j b).f0), .int .i64 wE, .int .i64 xE, .slice rD cD.length uD, .slice xH yE.length aI] (fun d => ((O d ∨ T d ∨ U d) ∨ w.heap.size ≤ d) ∧ d ≠ W ∧ d ≠ X ∧ d ≠ l ∧ d ≠ s) (fun d => ((fun d => ((O d ∨ T d ∨ U d) ∨ w.heap.size ≤ d) ∧ d ≠ W ∧ d ≠ X ∧ d ≠ l ∧ d ≠ s)) d ∧ some d ≠ (u10 : Value).ownBlock) rfl rfl ?aP (fun _ a => a) ?aF ?aO ?aB ?aS ?aL ?_
     (case aP => exact (IQ _ _ (⟨(AA j b).f0, (⟨wE, xE, cD, yE⟩ : S30)⟩ : S63) (Kd.Db (Kd.BJ (ok' := (fun d => ((fun d => ((O d ∨ T d ∨ U d) ∨ w.heap.size ≤ d) ∧ d ≠ W ∧ d ≠ X ∧ d ≠ l ∧ d ≠ s)) d ∧ some d ≠ (u10 : Value).ownBlock)) (Kd.BF (Kd.BF (Kd.BF (Kd.BF (Kd.Cr (zE.out) (Kd.Dj Z.out) (by decide)) u.out (by decide)) x.out (by decide)) L.out (by decide)) B.out (by decide)) (fun d a => ⟨⟨(.inr (a.1.1.1.1.1.1)), ⟨a.1.1.1.2, ⟨a.1.1.2, ⟨a.1.2, a.2⟩⟩⟩⟩, a.1.1.1.1.2⟩))).2.1 (Kd.R_F (Kd.BJ (ok' := (fun d => ((fun d => ((O d ∨ T d ∨ U d) ∨ w.heap.size ≤ d) ∧ d ≠ W ∧ d ≠ X ∧ d ≠ l ∧ d ≠ s)) d ∧ some d ≠ (u10 : Value).ownBlock)) (Kd.BF (Kd.BF (Kd.BF (Kd.BF (Kd.Cr (zE.out) (Kd.Dj Z.out) (by decide)) u.out (by decide)) x.out (by decide)) L.out (by decide)) B.out (by decide)) (fun d a => ⟨⟨(.inr (a.1.1.1.1.1.1)), ⟨a.1.1.1.2, ⟨a.1.1.2, ⟨a.1.2, a.2⟩⟩⟩⟩, a.1.1.1.1.2⟩))) (Kd.AP (Kd.AJ (ok' := (fun d => ((fun d => ((O d ∨ T d ∨ U d) ∨ w.heap.size ≤ d) ∧ d ≠ W ∧ d ≠ X ∧ d ≠ l ∧ d ≠ s)) d ∧ some d ≠ (u10 : Value).ownBlock)) (bE.out) (fun d a => ⟨⟨a.1, ⟨a.2.2.2.1, ⟨a.2.2.2.2.1, ⟨a.2.2.2.2.2.1, a.2.2.2.2.2.2⟩⟩⟩⟩, a.2.2.1⟩))).2.1 (Kd.V_F (Kd.AJ (ok' := (fun d => ((fun d => ((O d ∨ T d ∨ U d) ∨ w.heap.size ≤ d) ∧ d ≠ W ∧ d ≠ X ∧ d ≠ l ∧ d ≠ s)) d ∧ some d ≠ (u10 : Value).ownBlock)) (bE.out) (fun d a => ⟨⟨a.1, ⟨a.2.2.2.1, ⟨a.2.2.2.2.1, ⟨a.2.2.2.2.2.1, a.2.2.2.2.2.2⟩⟩⟩⟩, a.2.2.1⟩)))))
     (case aB => exact (be4 HB D J dB hB))
     (case aF => exact (fun d a => ⟨(.inr (Nat.le_trans (AV (be4 HB D J dB hB)) a)), Kd.BM (g := W) (o := .cells #[.int .i64 mC, .int .i64 nC, .string oC, .slice pD xB.length sD, .slice qD yB.length tD] 26 (0, 0)) (Ac u.out) d a, Kd.BM (g := X) (o := .cells #[.int .i64 qC, .int .i64 rC, .slice gD lB.length jD, .slice hD mB.length kD, .slice (some oE) j.length lD] 33 (0, 0)) (Ac x.out) d a, Kd.BM (g := l) (o := .cells #[.int .i64 bC, .int .i64 cC, .slice gG jB.length dF, .slice iG kB.length eF] 30 (0, 0)) (Ac L.out) d a, Kd.BM (g := s) (o := .cells #[.int .i64 ((AA j b).f0), .int .i64 ((AA j b).f1.f0), .int .i64 ((AA j b).f1.f1), .slice dC ((AA j b).f1.f2).length fC, .slice eC ((AA j b).f1.f3).length gC] 63 (0, 0)) (Ac B.out) d a⟩))
     (case aO => exact (F9 (Kd.Ca Z.out (fun _ a => ⟨a.1.1.1, ⟨a.1.1.2.1, ⟨a.1.1.2.2.1, ⟨a.1.1.2.2.2, a.1.2⟩⟩⟩⟩))))
     (case aS => exact (AV (be4 HB D J dB hB)))
     (case aL => have := iH.out; omega)
     intro v547 lM ho hb hg vE
     rw [← jH.out] at ho
     have mF := mk0 (Kd.Bh (ok := (fun d => ((O d ∨ T d ∨ U d) ∨ w.heap.size ≤ d) ∧ some d ≠ (.slice rD cD.length uD : Value).ownBlock ∧ d ≠ W ∧ d ≠ X ∧ d ≠ l ∧ d ≠ s)) (Ay (Kd.AJ Y.out (fun _ a => ⟨⟨a.1.1.1, ⟨a.2, ⟨a.1.1.2.2.1, ⟨a.1.1.2.2.2.1, ⟨a.1.1.2.2.2.2, a.1.2⟩⟩⟩⟩⟩, a.1.1.2.1⟩))) hg vE)
     have pF := mk0 (Kd.Bh (ok := (fun d => ((O d ∨ T d ∨ U d) ∨ w.heap.size ≤ d) ∧ some d ≠ (.slice rD cD.length uD : Value).ownBlock ∧ d ≠ W ∧ d ≠ X ∧ d ≠ l ∧ d ≠ s)) (Ay (Kd.AJ m.out (fun _ a => ⟨⟨a.1.1.1, ⟨a.2, ⟨a.1.1.2.2.1, ⟨a.1.1.2.2.2.1, ⟨a.1.1.2.2.2.2, a.1.2⟩⟩⟩⟩⟩, a.1.1.2.1⟩))) hg vE)
     have qF := mk0 (Kd.Bh (ok := (fun d => ((O d ∨ T d ∨ U d) ∨ w.heap.size ≤ d) ∧ some d ≠ (.slice rD cD.length uD : Value).ownBlock ∧ d ≠ W ∧ d ≠ X ∧ d ≠ l ∧ d ≠ s)) (Ay (Kd.AJ p.out (fun _ a => ⟨⟨a.1.1.1, ⟨a.2, ⟨a.1.1.2.2.1, ⟨a.1.1.2.2.2.1, ⟨a.1.1.2.2.2.2, a.1.2⟩⟩⟩⟩⟩, a.1.1.2.1⟩))) hg vE)
     have sF := mk0 (Kd.Bh (ok := (fun d => ((O d ∨ T d ∨ U d) ∨ w.heap.size ≤ d) ∧ some d ≠ (.slice rD cD.length uD : Value).ownBlock ∧ d ≠ W ∧ d ≠ X ∧ d ≠ l ∧ d ≠ s)) (Ay (Kd.AJ r.out (fun _ a => ⟨⟨a.1.1.1, ⟨a.2, ⟨a.1.1.2.2.1, ⟨a.1.1.2.2.2.1, ⟨a.1.1.2.2.2.2, a.1.2⟩⟩⟩⟩⟩, a.1.1.2.1⟩))) hg vE)
     have tF := mk0 (Kd.Bh (ok := (fun d => ((O d ∨ T d ∨ U d) ∨ w.heap.size ≤ d) ∧ some d ≠ (.slice rD cD.length uD : Value).ownBlock ∧ d ≠ W ∧ d ≠ X ∧ d ≠ l ∧ d ≠ s)) (Ay (Kd.AJ y.out (fun _ a => ⟨⟨a.1.1.1, ⟨a.2, ⟨a.1.1.2.2.1, ⟨a.1.1.2.2.2.1, ⟨a.1.1.2.2.2.2, a.1.2⟩⟩⟩⟩⟩, a.1.1.2.1⟩))) hg vE)
     have uF := mk0 (Kd.Bh (ok := (fun d => ((O d ∨ T d ∨ U d) ∨ w.heap.size ≤ d) ∧ some d ≠ (.slice rD cD.length uD : Value).ownBlock ∧ d ≠ W ∧ d ≠ X ∧ d ≠ l ∧ d ≠ s)) (Ay (Kd.AJ z.out (fun _ a => ⟨⟨a.1.1.1, ⟨a.2, ⟨a.1.1.2.2.1, ⟨a.1.1.2.2.2.1, ⟨a.1.1.2.2.2.2, a.1.2⟩⟩⟩⟩⟩, a.1.1.2.1⟩))) hg vE)
     have wF := mk0 (Bd (g := W) (o := .cells #[.int .i64 mC, .int .i64 nC, .string oC, .slice pD xB.length sD, .slice qD yB.length tD] 26 (0, 0)) (Ac u.out) hg (Kd.Gu Z.out u.out (by decide)))
     have xF := mk0 (Bd (g := X) (o := .cells #[.int .i64 qC, .int .i64 rC, .slice gD lB.length jD, .slice hD mB.length kD, .slice (some oE) j.length lD] 33 (0, 0)) (Ac x.out) hg (Kd.Gu Z.out x.out (by decide)))
     have yF := mk0 (Bd (g := l) (o := .cells #[.int .i64 bC, .int .i64 cC, .slice gG jB.length dF, .slice iG kB.length eF] 30 (0, 0)) (Ac L.out) hg (Kd.Gu Z.out L.out (by decide)))
     have zF := mk0 (Kd.Bh (ok := (fun d => ((O d ∨ T d ∨ U d) ∨ w.heap.size ≤ d) ∧ some d ≠ (.slice rD cD.length uD : Value).ownBlock ∧ d ≠ W ∧ d ≠ X ∧ d ≠ l ∧ d ≠ s)) (Ay (Kd.AJ I.out (fun _ a => ⟨⟨a.1.1.1, ⟨a.2, ⟨a.1.1.2.2.1, ⟨a.1.1.2.2.2.1, ⟨a.1.1.2.2.2.2, a.1.2⟩⟩⟩⟩⟩, a.1.1.2.1⟩))) hg vE)
     have dE := mk0 (Kd.Bh (ok := (fun d => ((O d ∨ T d ∨ U d) ∨ w.heap.size ≤ d) ∧ some d ≠ (.slice rD cD.length uD : Value).ownBlock ∧ d ≠ W ∧ d ≠ X ∧ d ≠ l ∧ d ≠ s)) (Ay (Kd.AJ G.out (fun _ a => ⟨⟨a.1.1.1, ⟨a.2, ⟨a.1.1.2.2.1, ⟨a.1.1.2.2.2.1, ⟨a.1.1.2.2.2.2, a.1.2⟩⟩⟩⟩⟩, a.1.1.2.1⟩))) hg vE)
     have eE := mk0 (Bd (g := s) (o := .cells #[.int .i64 ((AA j b).f0), .int .i64 ((AA j b).f1.f0), .int .i64 ((AA j b).f1.f1), .slice dC ((AA j b).f1.f2).length fC, .slice eC ((AA j b).f1.f3).length gC] 63 (0, 0)) (Ac B.out) hg (Kd.Ml Z.out (fun _ a => a.1.2)))
     have fE := mk0 (Kd.Bh (ok := (fun d => ((O d ∨ T d ∨ U d) ∨ w.heap.size ≤ d) ∧ some d ≠ (.slice rD cD.length uD : Value).ownBlock ∧ d ≠ W ∧ d ≠ X ∧ d ≠ l ∧ d ≠ s)) (Ay (Kd.AJ bE.out (fun _ a => ⟨⟨a.1, ⟨a.2.1, ⟨a.2.2.2.1, ⟨a.2.2.2.2.1, ⟨a.2.2.2.2.2.1, a.2.2.2.2.2.2⟩⟩⟩⟩⟩, a.2.2.1⟩))) hg vE)
     have gE := mk0 (hb)
     have hE := mk0 (ho)
     clear Y; clear m; clear p; clear r; clear y; clear z; clear u; clear x; clear L; clear I; clear G; clear B; clear bE; clear HB; clear Z; clear zE; have Y := mF; have m := pF; have p := qF; have r := sF; have y := tF; have z := uF; have u := wF; have x := xF; have L := yF; have I := zF; have G := dE; have B := eE; have bE := fE; have HB := gE; have hH := hE; clear mF pF qF sF tF uF wF xF yF zF dE eE fE gE hE; clear ho hb hg vE
     refine hK.out _ _ ⟨bc B 0, bc B 1, bc B 2, bc B 3, bc B 4⟩ (fun cE => ?_)
     clear hK K
     refine CQ (a' := ?_) ?_ ?_
     rotate_left
     ·show Act.put _ (some 60) _ = _
      simp only [ps]
      rfl
     refine pv 9 10 (tf 10 0) nE ?_
     refine EQ (De nE.out (by kernel_rfl)) ?_
     have rL := cells5 B.out
     have sL := AZ L.out
     try go_wp2
     go_roundg k2
     case measure => have := qG.out; have := rG.out; omega
     case rel => exact ⟨(dH), (wrap64 (b + 1)), ((AA j b).f1.f0), ((AA j b).f1.f1), ((AA j b).f1.f2), ((AA j b).f1.f3), (.slice dC ((AA j b).f1.f2).length fC), (.slice eC ((AA j b).f1.f3).length gC), rfl, H', ⟨by have := qG.out; have := rG.out; omega⟩, ⟨F9 (Kd.Ca (nI (q := l) (Kd.Ca hH.out (fun d a => (⟨a, a.2.2.2.1⟩ : _ ∧ d ≠ l))) (fun _ a => a.2)) (fun _ a => ⟨a.1.1, ⟨a.1.2.1, ⟨a.1.2.2.1, a.1.2.2.2.1⟩⟩⟩))⟩, ⟨Ay (Kd.AJ (vI (q := l) (Kd.AJ Y.out (fun d a => (⟨a, a.1.2.2.2.2.1⟩ : _ ∧ d ≠ l))) (fun _ a => a.2)) (fun _ a => ⟨a.1.1.1, ⟨a.1.2, ⟨a.1.1.2.2.1, ⟨a.1.1.2.2.2.1, a.1.1.2.2.2.2.1⟩⟩⟩⟩))⟩, ⟨Ay (Kd.AJ (vI (q := l) (Kd.AJ m.out (fun d a => (⟨a, a.1.2.2.2.2.1⟩ : _ ∧ d ≠ l))) (fun _ a => a.2)) (fun _ a => ⟨a.1.1.1, ⟨a.1.2, ⟨a.1.1.2.2.1, ⟨a.1.1.2.2.2.1, a.1.1.2.2.2.2.1⟩⟩⟩⟩))⟩, ⟨Ay (Kd.AJ (vI (q := l) (Kd.AJ p.out (fun d a => (⟨a, a.1.2.2.2.2.1⟩ : _ ∧ d ≠ l))) (fun _ a => a.2)) (fun _ a => ⟨a.1.1.1, ⟨a.1.2, ⟨a.1.1.2.2.1, ⟨a.1.1.2.2.2.1, a.1.1.2.2.2.2.1⟩⟩⟩⟩))⟩, ⟨Ay (Kd.AJ (vI (q := l) (Kd.AJ r.out (fun d a => (⟨a, a.1.2.2.2.2.1⟩ : _ ∧ d ≠ l))) (fun _ a => a.2)) (fun _ a => ⟨a.1.1.1, ⟨a.1.2, ⟨a.1.1.2.2.1, ⟨a.1.1.2.2.2.1, a.1.1.2.2.2.2.1⟩⟩⟩⟩))⟩, ⟨Ay (Kd.AJ (vI (q := l) (Kd.AJ I.out (fun d a => (⟨a, a.1.2.2.2.2.1⟩ : _ ∧ d ≠ l))) (fun _ a => a.2)) (fun _ a => ⟨a.1.1.1, ⟨a.1.2, ⟨a.1.1.2.2.1, ⟨a.1.1.2.2.2.1, a.1.1.2.2.2.2.1⟩⟩⟩⟩))⟩, ⟨Ay (Kd.AJ (vI (q := l) (Kd.AJ G.out (fun d a => (⟨a, a.1.2.2.2.2.1⟩ : _ ∧ d ≠ l))) (fun _ a => a.2)) (fun _ a => ⟨a.1.1.1, ⟨a.1.2, ⟨a.1.1.2.2.1, ⟨a.1.1.2.2.2.1, a.1.1.2.2.2.2.1⟩⟩⟩⟩))⟩, ⟨bF sC u⟩, ⟨bF tC x⟩, ⟨pB L⟩, ⟨be4 HB D J dB hB⟩⟩
end Go.Proofs.Ytojankgmedccdaa.PGn
