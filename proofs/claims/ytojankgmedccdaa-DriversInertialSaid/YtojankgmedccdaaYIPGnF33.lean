/- Lemmas for LawDriversInertial. -/
import Derived.Test.YtojankgmedccdaaYIPGnF56
namespace Go.Proofs.Ytojankgmedccdaa.PGn
open Go.RowKit Own PTy Hand PIs PAw YtojankgmedccdaaW.PrintWords YtojankgmedccdaaW.PrintLast YtojankgmedccdaaW.PrintMore
attribute [local go_sem] BI BJ Bc Bd Av Ay BK BL
set_option linter.unusedVariables false
set_option linter.unusedSimpArgs false
mutual
def Ah.j0 : Nat → Int → Int → Bool → Int → Int → ByteArray → List ByteArray → List (S26) → Int → Int → List Int → List (S30) → List (S63) → Option ((List (S63)) × Int)
 | 0, _, _, _, _, _, _, _, _, _, _, _, _, _ => none
 | k + 1, x2, x3, x29, b, c, d, e, g, j, l, m, n, h => if x29 = true then (some (([] : List (S63)), 2)) else ((drivers_behind.f j l m n h x2).bind fun v => (if v = true then (some (([] : List (S63)), 5)) else (Ah.l0 k x3 ([] : List (S63)) h (h.length : Int) 0 b c d e g j l m n)))
def Ah.l0 : Nat → Int → List (S63) → List (S63) → Int → Int → Int → Int → ByteArray → List ByteArray → List (S26) → Int → Int → List Int → List (S30) → Option ((List (S63)) × Int)
 | 0, _, _, _, _, _, _, _, _, _, _, _, _, _, _ => none
 | k + 1, x3, o, a, u, x38, b, c, d, e, g, p, q, r, s => if x38 < u then (if 0 ≤ x38 then (if x38 < (a.length : Int) then (if ((AA a x38).f0) > x3 then (some (o, 0)) else ((Ca.f k b c d e g p q r s ((AA a x38).f1.f0) ((AA a x38).f1.f1) ((AA a x38).f1.f2) ((AA a x38).f1.f3)).bind fun w => (if w = true then (Ah.l0 k x3 o a u (wrap64 (x38 + 1)) b c d e g ((AA a x38).f1.f0) ((AA a x38).f1.f1) ((AA a x38).f1.f2) ((AA a x38).f1.f3)) else ((drivers_copied.f ((AA a x38).f1.f0) ((AA a x38).f1.f1) ((AA a x38).f1.f2) ((AA a x38).f1.f3)).bind fun i => (if o.length < 1954687338268 then (Ah.l0 k x3 (o ++ [(⟨(AA a x38).f0, (⟨i.1, i.2.1, i.2.2.1, i.2.2.2⟩ : S30)⟩ : S63)]) a u (wrap64 (x38 + 1)) b c d e g ((AA a x38).f1.f0) ((AA a x38).f1.f1) ((AA a x38).f1.f2) ((AA a x38).f1.f3)) else (none)))))) else (none)) else (none)) else (some (o, 0))
end
def Ah.f (k : Nat) (a : Int) (b : Int) (c : ByteArray) (g : List ByteArray) (h : List (S26)) (d : Int) (e : Int) (i : List Int) (j : List (S30)) (l : List (S63)) (m : Int) (a3 : Int) : Option ((List (S63)) × Int) := (BD.f k a b c g h d e i j l).bind fun n => (if n = true then (if (mn m a3) < 0 then (Ah.j0 k m a3 true a b c g h d e i j l) else (Ah.j0 k m a3 (decide ((mx m a3) > 2000000)) a b c g h d e i j l)) else (Ah.j0 k m a3 true a b c g h d e i j l))
def Ah.T12 : Bool × List (List Nat × List Nat) := (true, [([], []), ([], []), ([1], [1]), ([], []), ([3], [3]), ([4], [4]), ([2, 5], [2, 5]), ([6], [6]), ([0, 7, 5], [0, 7]), ([8, 8, 0, 1, 2, 3, 4, 5, 6, 7, 8], [0, 8])])
def Ah.B12 : List Nat := [0, 0, 2, 0, 8, 24, 62, 126, 255, 511]
theorem Ah.Ph : Cs .any (opsOf Try.f33 12) = Ah.T12 := by kernel_rfl
theorem Ah.Ov : CX Ah.T12.2 Ah.B12 = true := by kernel_rfl
set_option maxHeartbeats 8000000 in
set_option maxRecDepth 100000 in
theorem Ah.calls (k : Nat) (mC : Int) (nC : Int) (oC : ByteArray) (pD : Option Addr) (sD : Nat) (xB : List ByteArray) (qD : Option Addr) (tD : Nat) (yB : List (S26)) (qC : Int) (rC : Int) (O : Nat → Prop) (gD : Option Addr) (jD : Nat) (lB : List Int) (T : Nat → Prop) (hD : Option Addr) (kD : Nat) (mB : List (S30)) (U : Nat → Prop) (xD : Option Addr) (lD : Nat) (j : List (S63)) (a2 : Int) (a3 : Int) (r1 : List (S63)) (r2 : Int) (w : World) (hG : D5 w) (mG : Kd.C Kd.string w pD xB.length xB) (kG : xB.length ≤ sD) (nG : Kd.C k26 w qD yB.length yB) (lG : yB.length ≤ tD) (nH : Kd.V (Kd.int .u8) 73 w w.heap.size (fun d => O d) (.slice gD lB.length jD) lB) (oH : Kd.V k30 30 w w.heap.size (fun d => T d) (.slice hD mB.length kD) mB) (pH : Kd.V k63 63 w w.heap.size (fun d => U d) (.slice xD j.length lD) j) (h : Ah.f k mC nC oC xB yB qC rC lB mB j a2 a3 = some (r1, r2)) :
  Calls Try.prog 33 #[.agg #[.int .i64 mC, .int .i64 nC, .string oC, .slice pD xB.length sD, .slice qD yB.length tD], .agg #[.int .i64 qC, .int .i64 rC, .slice gD lB.length jD, .slice hD mB.length kD, .slice xD j.length lD], .int .i64 a2, .int .i64 a3] w fun e w' => ∃ gI : Value, e = .returned (.tuple #[gI, .int .i64 r2]) ∧ Kd.N k63 63 w' w.heap.size (fun d => ((O d ∨ T d ∨ U d) ∨ w.heap.size ≤ d)) gI r1 ∧ Below w.heap.size w w' := by
 have HG := mk0 hG; clear hG
 have oK := Try.underlying26
 have qK := Try.underlying33
 have pK := Try.underlying30
 have rK := Try.underlying63
 have lE := mk0 mG; have jE := mk0 kG; clear mG kG; have mE := mk0 nG; have kE := mk0 lG; clear nG lG
 have oB := mk0 (show Kd.V (Kd.int .u8) 73 w w.heap.size (fun d => ((O d ∨ T d ∨ U d) ∨ w.heap.size ≤ d)) (.slice gD lB.length jD) lB from Kd.AO nH (fun d a => .inl (.inl a)))
 have qB := mk0 (show Kd.V k30 30 w w.heap.size (fun d => ((O d ∨ T d ∨ U d) ∨ w.heap.size ≤ d)) (.slice hD mB.length kD) mB from Kd.AO oH (fun d a => .inl (.inr (.inl a))))
 have sB := mk0 (show Kd.V k63 63 w w.heap.size (fun d => ((O d ∨ T d ∨ U d) ∨ w.heap.size ≤ d)) (.slice xD j.length lD) j from Kd.AO pH (fun d a => .inl (.inr (.inr a))))
 have HB := mk0 (Below.refl w.heap.size w)
 have H := h; unfold Ah.f at H
 clear h; have fH := mk0 H; clear H
 go_enter Try.func33, Try.ntmps33
 go_upto_region 1 with (first | ((with_reducible refine AP rfl (N := 4) rfl (cs := #[.int .i64 mC, .int .i64 nC, .string oC, .slice pD xB.length sD, .slice qD yB.length tD]) (t := 26) ?hr ?_); (case hr => first | (go_simp; done) | (go_simp; rfl)); intro W hg w6 uC hb; obtain ⟨oB, qB, sB⟩ := tg3 hg hb oB qB sB; have u := mk0 (uC); have D := bs (be HB) hg; replace HB := kh HB hb; clear hb uC hg) | ((with_reducible refine AP rfl (N := 5) rfl (cs := #[.int .i64 qC, .int .i64 rC, .slice gD lB.length jD, .slice hD mB.length kD, .slice xD j.length lD]) (t := 33) ?hr ?_); (case hr => first | (go_simp; done) | (go_simp; rfl)); intro X hg w7 uC hb; obtain ⟨oB, qB, sB⟩ := tg3 hg hb oB qB sB; have x := mk0 (uC); have J := bs (be1 HB D) hg; replace HB := kh1 HB D hb; have ⟨hC, jC⟩ := nn u hg; replace u := kb u hb; clear hb uC hg))
 (try simp only [Act.put, List.setIfInBounds_toArray, List.set_cons_zero, List.set_cons_succ])
 go_cut [29] (fun v29 wc => ∃ (kq : Nat) (eG : Bool), v29 = .bool eG ∧ Aside0 (Ah.j0 kq a2 a3 eG mC nC oC xB yB qC rC lB mB j = some (r1, r2)) ∧ Aside0 (kq ≤ k) ∧ Aside0 (Kd.V (Kd.int .u8) 73 wc w.heap.size (fun d => ((O d ∨ T d ∨ U d) ∨ w.heap.size ≤ d) ∧ d ≠ W ∧ d ≠ X) (.slice gD lB.length jD) lB) ∧ Aside0 (Kd.V k30 30 wc w.heap.size (fun d => ((O d ∨ T d ∨ U d) ∨ w.heap.size ≤ d) ∧ d ≠ W ∧ d ≠ X) (.slice hD mB.length kD) mB) ∧ Aside0 (Kd.V k63 63 wc w.heap.size (fun d => ((O d ∨ T d ∨ U d) ∨ w.heap.size ≤ d) ∧ d ≠ W ∧ d ≠ X) (.slice xD j.length lD) j) ∧ Aside0 (wc.heap[W]? = some (.cells #[.int .i64 mC, .int .i64 nC, .string oC, (.slice pD xB.length sD), (.slice qD yB.length tD)] 26 (0, 0))) ∧ Aside0 (wc.heap[X]? = some (.cells #[.int .i64 qC, .int .i64 rC, (.slice gD lB.length jD), (.slice hD mB.length kD), (.slice xD j.length lD)] 33 (0, 0))) ∧ Aside0 (Below w.heap.size w wc))
 case first =>
  have H := fH.out; clear fH
  replace H := bS H; obtain ⟨sK, A8, H⟩ := H
  replace H := iB' H; obtain ⟨rfl, H⟩ | ⟨rfl, H⟩ := H
  ·have H' := mk0 H
   clear H; have ⟨qI, pJ⟩ := no hC jC
   have zK := cells5 u.out
   have bL := cells5 x.out
   go_wp2_with ((with_reducible refine AR (f := 19) rfl ?_); refine Cb Try.func19 (BD.calls k mC nC oC _ _ xB _ _ yB qC rC _ _ lB _ _ mB _ _ j false _ (Ad HG.out (be2 HB D J)) (cu lE HB) jE.out (cu mE HB) kE.out (De (Kd.AU oB.out).2.2) ((Kd.AU oB.out).2.1) (De (Kd.AU qB.out).2.2) ((Kd.AU qB.out).2.1) (De (Kd.AU sB.out).2.2) ((Kd.AU sB.out).2.1) A8.out) ?_; intro aM hb; replace oB := vb oB hb; replace qB := vb qB hb; replace sB := vb sB hb; obtain ⟨u, x⟩ := tb2 hb u x; replace HB := kh2 HB D J hb)
   go_meet
   case rel => exact ⟨_, (true), rfl, H', ⟨by omega⟩, ⟨BH (Kd.AO oB.out (fun _ a => ⟨a.1.1, ⟨a.1.2, a.2⟩⟩))⟩, ⟨BH (Kd.AO qB.out (fun _ a => ⟨a.1.1, ⟨a.1.2, a.2⟩⟩))⟩, ⟨BH (Kd.AO sB.out (fun _ a => ⟨a.1.1, ⟨a.1.2, a.2⟩⟩))⟩, ⟨bu u⟩, ⟨bu x⟩, ⟨be2 HB D J⟩⟩
  obtain ⟨xG, cF⟩ : ∃ j_ : Int, (mn a2 a3) = j_ := ⟨_, rfl⟩
  replace H : (if (xG) < 0 then (Ah.j0 k a2 a3 true mC nC oC xB yB qC rC lB mB j) else (Ah.j0 k a2 a3 (decide ((mx a2 a3) > 2000000)) mC nC oC xB yB qC rC lB mB j)) = some (r1, r2) := by first | (rw [cF] at H; exact H) | (simp only [cF] at H ⊢; exact H)
  (try rw [cF] at A8)
  have hI : (if a3 < a2 then a3 else a2) = xG := cF
  replace H := iD H; obtain ⟨-, pE, H⟩ | ⟨-, pE, H⟩ := H
  ·(first | rw [pE] | (simp only [CE, Dc]; rw [pE]) | skip)
   have H' := mk0 H
   clear H; have ⟨oI, nJ⟩ := no hC jC
   have vK := cells5 u.out
   have wK := cells5 x.out
   go_wp2_with ((with_reducible refine AR (f := 19) rfl ?_); refine Cb Try.func19 (BD.calls k mC nC oC _ _ xB _ _ yB qC rC _ _ lB _ _ mB _ _ j true _ (Ad HG.out (be2 HB D J)) (cu lE HB) jE.out (cu mE HB) kE.out (De (Kd.AU oB.out).2.2) ((Kd.AU oB.out).2.1) (De (Kd.AU qB.out).2.2) ((Kd.AU qB.out).2.1) (De (Kd.AU sB.out).2.2) ((Kd.AU sB.out).2.1) A8.out) ?_; intro yL hb; replace oB := vb oB hb; replace qB := vb qB hb; replace sB := vb sB hb; obtain ⟨u, x⟩ := tb2 hb u x; replace HB := kh2 HB D J hb)
   go_meet
   case rel => exact ⟨_, (true), rfl, H', ⟨by omega⟩, ⟨BH (Kd.AO oB.out (fun _ a => ⟨a.1.1, ⟨a.1.2, a.2⟩⟩))⟩, ⟨BH (Kd.AO qB.out (fun _ a => ⟨a.1.1, ⟨a.1.2, a.2⟩⟩))⟩, ⟨BH (Kd.AO sB.out (fun _ a => ⟨a.1.1, ⟨a.1.2, a.2⟩⟩))⟩, ⟨bu u⟩, ⟨bu x⟩, ⟨be2 HB D J⟩⟩
  (first | rw [pE] | (simp only [CE, Dc]; rw [pE]) | skip)
  obtain ⟨oG, qE⟩ : ∃ j_ : Int, (mx a2 a3) = j_ := ⟨_, rfl⟩
  replace H : (Ah.j0 k a2 a3 (decide ((oG) > 2000000)) mC nC oC xB yB qC rC lB mB j) = some (r1, r2) := by first | (rw [qE] at H; exact H) | (simp only [qE] at H ⊢; exact H)
  (try rw [qE] at A8)
  have iI : (if a2 < a3 then a3 else a2) = oG := qE
  have H' := mk0 H
  clear H; have ⟨pI, oJ⟩ := no hC jC
  have xK := cells5 u.out
  have yK := cells5 x.out
  go_wp2_with ((with_reducible refine AR (f := 19) rfl ?_); refine Cb Try.func19 (BD.calls k mC nC oC _ _ xB _ _ yB qC rC _ _ lB _ _ mB _ _ j true _ (Ad HG.out (be2 HB D J)) (cu lE HB) jE.out (cu mE HB) kE.out (De (Kd.AU oB.out).2.2) ((Kd.AU oB.out).2.1) (De (Kd.AU qB.out).2.2) ((Kd.AU qB.out).2.1) (De (Kd.AU sB.out).2.2) ((Kd.AU sB.out).2.1) A8.out) ?_; intro zL hb; replace oB := vb oB hb; replace qB := vb qB hb; replace sB := vb sB hb; obtain ⟨u, x⟩ := tb2 hb u x; replace HB := kh2 HB D J hb)
  go_meet
  case rel => exact ⟨_, (decide ((oG) > 2000000)), (by first | rfl | (simp; done) | (simp only [← qE] <;> (first | rfl | simp)) | (simp [*]; done)), H', ⟨by omega⟩, ⟨BH (Kd.AO oB.out (fun _ a => ⟨a.1.1, ⟨a.1.2, a.2⟩⟩))⟩, ⟨BH (Kd.AO qB.out (fun _ a => ⟨a.1.1, ⟨a.1.2, a.2⟩⟩))⟩, ⟨BH (Kd.AO sB.out (fun _ a => ⟨a.1.1, ⟨a.1.2, a.2⟩⟩))⟩, ⟨bu u⟩, ⟨bu x⟩, ⟨be2 HB D J⟩⟩
 case rest =>
  clear fH
  obtain ⟨kq, eG, rfl, HA, pG, m, p, r, u, x, HB⟩ := hcut
  cases kq with
  | zero => exact absurd HA.out (by simp [Ah.j0])
  | succ fI =>
   have H := HA.out; clear HA
   simp only [Ah.j0] at H
   replace H := iB H; obtain ⟨rfl, H⟩ | ⟨rfl, H⟩ := H
   ·simp only [Option.some.injEq, Prod.mk.injEq] at H
    obtain ⟨rfl, rfl⟩ := H
    go_wp2
    go_ret2
    exact ⟨_, rfl, by first | exact Kd.D8 _ _ _ _ _ | exact Kd.Ee _ _ _ _ _ | exact Kd.D9 _ _ _ _ _ | exact Kd.Ea _ _ _ _ _ | exact Kd.Ec _ _ _ _ _, be2 HB D J⟩
   replace H := bS H; obtain ⟨tK, rH, H⟩ := H
   replace H := iB H; obtain ⟨rfl, H⟩ | ⟨rfl, H⟩ := H
   ·simp only [Option.some.injEq, Prod.mk.injEq] at H
    obtain ⟨rfl, rfl⟩ := H
    have ⟨tI, qJ⟩ := no jC hC
    have cL := cells5 x.out
    go_wp2_with ((with_reducible refine AR (f := 50) rfl ?_); refine Cb Try.func50 (drivers_behind.calls qC rC _ _ lB _ _ mB _ _ j a2 true _ (De (Kd.AU m.out).2.2) ((Kd.AU m.out).2.1) (De (Kd.AU p.out).2.2) ((Kd.AU p.out).2.1) (De (Kd.AU r.out).2.2) ((Kd.AU r.out).2.1) rH.out) ?_; intro bM hb; replace m := vb m hb; replace p := vb p hb; replace r := vb r hb; obtain ⟨u, x⟩ := tb2 hb u x; replace HB := kh2 HB D J hb)
    go_ret2
    exact ⟨_, rfl, by first | exact Kd.D8 _ _ _ _ _ | exact Kd.Ee _ _ _ _ _ | exact Kd.D9 _ _ _ _ _ | exact Kd.Ea _ _ _ _ _ | exact Kd.Ec _ _ _ _ _, be2 HB D J⟩
   have H' := mk0 H
   clear H; have ⟨uI, rJ⟩ := no jC hC
   have dL := cells5 x.out
   go_wp2_with (first | ((with_reducible refine AR (f := 50) rfl ?_); refine Cb Try.func50 (drivers_behind.calls qC rC _ _ lB _ _ mB _ _ j a2 false _ (De (Kd.AU m.out).2.2) ((Kd.AU m.out).2.1) (De (Kd.AU p.out).2.2) ((Kd.AU p.out).2.1) (De (Kd.AU r.out).2.2) ((Kd.AU r.out).2.1) rH.out) ?_; intro cM hb; replace m := vb m hb; replace p := vb p hb; replace r := vb r hb; obtain ⟨u, x⟩ := tb2 hb u x; replace HB := kh2 HB D J hb; have eL := cells5 x.out) | ((with_reducible refine AP rfl (N := 11) rfl (cs := #[.int .i64 0, .int .i64 0, .slice none 0 0, .slice none 0 0]) (t := 30) ?hr ?_); (case hr => first | (go_simp; done) | (go_simp; rfl)); intro l hg dM uC hb; obtain ⟨m, p, r⟩ := tg3 hg hb m p r; have L := mk0 (uC); have dB := bs (be2 HB D J) hg; replace HB := kh2 HB D J hb; have ⟨sC, vD⟩ := nn u hg; have ⟨tC, wD⟩ := nn x hg; obtain ⟨u, x⟩ := tb2 hb u x; clear hb uC hg; have ⟨wI, sJ⟩ := no vD sC; have ⟨xI, tJ⟩ := no wD tC; have fL := BF L.out; have gL := cells5 x.out))
   go_loopg [10, 38] fI (fun kq v10 v38 w' => ∃ (fD : List (S63)) (b : Int) (bC : Int) (cC : Int) (jB : List Int) (kB : List (S30)) (u535002 : Value) (u535003 : Value), v38 = .int .i64 b ∧ Aside0 (Ah.l0 kq a3 fD j (j.length : Int) b mC nC oC xB yB bC cC jB kB = some (r1, r2)) ∧ Aside0 (kq ≤ fI) ∧ Aside0 (Kd.N k63 63 w' w.heap.size (fun d => ((O d ∨ T d ∨ U d) ∨ w.heap.size ≤ d) ∧ d ≠ W ∧ d ≠ X ∧ d ≠ l) v10 fD) ∧ Aside0 (Kd.V k63 63 w' w.heap.size (fun d => ((O d ∨ T d ∨ U d) ∨ w.heap.size ≤ d) ∧ some d ≠ (v10 : Value).ownBlock ∧ d ≠ W ∧ d ≠ X ∧ d ≠ l) (.slice xD j.length lD) j) ∧ Aside0 (Kd.V (Kd.int .u8) 73 w' w.heap.size (fun d => ((O d ∨ T d ∨ U d) ∨ w.heap.size ≤ d) ∧ some d ≠ (v10 : Value).ownBlock ∧ d ≠ W ∧ d ≠ X ∧ d ≠ l) (.slice gD lB.length jD) lB) ∧ Aside0 (Kd.V k30 30 w' w.heap.size (fun d => ((O d ∨ T d ∨ U d) ∨ w.heap.size ≤ d) ∧ some d ≠ (v10 : Value).ownBlock ∧ d ≠ W ∧ d ≠ X ∧ d ≠ l) (.slice hD mB.length kD) mB) ∧ Aside0 (Kd.V k63 63 w' w.heap.size (fun d => ((O d ∨ T d ∨ U d) ∨ w.heap.size ≤ d) ∧ some d ≠ (v10 : Value).ownBlock ∧ d ≠ W ∧ d ≠ X ∧ d ≠ l) (.slice xD j.length lD) j) ∧ Aside0 (Kd.V (Kd.int .u8) 73 w' w.heap.size (fun d => ((O d ∨ T d ∨ U d) ∨ w.heap.size ≤ d) ∧ some d ≠ (v10 : Value).ownBlock ∧ d ≠ W ∧ d ≠ X ∧ d ≠ l) u535002 jB) ∧ Aside0 (Kd.V k30 30 w' w.heap.size (fun d => ((O d ∨ T d ∨ U d) ∨ w.heap.size ≤ d) ∧ some d ≠ (v10 : Value).ownBlock ∧ d ≠ W ∧ d ≠ X ∧ d ≠ l) u535003 kB) ∧ Aside0 (w'.heap[W]? = some (.cells #[.int .i64 mC, .int .i64 nC, .string oC, (.slice pD xB.length sD), (.slice qD yB.length tD)] 26 (0, 0))) ∧ Aside0 (w'.heap[X]? = some (.cells #[.int .i64 qC, .int .i64 rC, (.slice gD lB.length jD), (.slice hD mB.length kD), (.slice xD j.length lD)] 33 (0, 0))) ∧ Aside0 (w'.heap[l]? = some (.cells #[.int .i64 bC, .int .i64 cC, u535002, u535003] 30 (0, 0))) ∧ Aside0 (Below w.heap.size w w'))
   case atStart => exact ⟨(([] : List (S63))), (0), (qC), (rC), (lB), (mB), (.slice gD lB.length jD), (.slice hD mB.length kD), rfl, H', ⟨Nat.le_refl _⟩, ⟨by first | exact Kd.D8 _ _ _ _ _ | exact Kd.Ee _ _ _ _ _ | exact Kd.D9 _ _ _ _ _ | exact Kd.Ea _ _ _ _ _ | exact Kd.Ec _ _ _ _ _⟩, ⟨BH (Kd.AO (vI (q := l) (Kd.AO r.out (fun d a => (⟨a, a.2⟩ : _ ∧ d ≠ l))) (fun _ a => a.2)) (fun _ a => ⟨a.1.1.1, ⟨(by simp [Value.ownBlock]), ⟨a.1.1.2.1, ⟨a.1.1.2.2, a.1.2⟩⟩⟩⟩))⟩, ⟨BH (Kd.AO (vI (q := l) (Kd.AO m.out (fun d a => (⟨a, a.2⟩ : _ ∧ d ≠ l))) (fun _ a => a.2)) (fun _ a => ⟨a.1.1.1, ⟨(by simp [Value.ownBlock]), ⟨a.1.1.2.1, ⟨a.1.1.2.2, a.1.2⟩⟩⟩⟩))⟩, ⟨BH (Kd.AO (vI (q := l) (Kd.AO p.out (fun d a => (⟨a, a.2⟩ : _ ∧ d ≠ l))) (fun _ a => a.2)) (fun _ a => ⟨a.1.1.1, ⟨(by simp [Value.ownBlock]), ⟨a.1.1.2.1, ⟨a.1.1.2.2, a.1.2⟩⟩⟩⟩))⟩, ⟨BH (Kd.AO (vI (q := l) (Kd.AO r.out (fun d a => (⟨a, a.2⟩ : _ ∧ d ≠ l))) (fun _ a => a.2)) (fun _ a => ⟨a.1.1.1, ⟨(by simp [Value.ownBlock]), ⟨a.1.1.2.1, ⟨a.1.1.2.2, a.1.2⟩⟩⟩⟩))⟩, ⟨BH (Kd.AO (vI (q := l) (Kd.AO m.out (fun d a => (⟨a, a.2⟩ : _ ∧ d ≠ l))) (fun _ a => a.2)) (fun _ a => ⟨a.1.1.1, ⟨(by simp [Value.ownBlock]), ⟨a.1.1.2.1, ⟨a.1.1.2.2, a.1.2⟩⟩⟩⟩))⟩, ⟨BH (Kd.AO (vI (q := l) (Kd.AO p.out (fun d a => (⟨a, a.2⟩ : _ ∧ d ≠ l))) (fun _ a => a.2)) (fun _ a => ⟨a.1.1.1, ⟨(by simp [Value.ownBlock]), ⟨a.1.1.2.1, ⟨a.1.1.2.2, a.1.2⟩⟩⟩⟩))⟩, ⟨bF sC u⟩, ⟨bF tC x⟩, ⟨pB L⟩, ⟨be3 HB D J dB⟩⟩
   case round =>
    clear H'
    obtain ⟨fD, b, bC, cC, jB, kB, u535002, u535003, rfl, HA, qG, Z, Y, m, p, r, y, z, u, x, L, HB⟩ := hrel
    cases gk with
    | zero => exact absurd HA.out (by simp [Ah.l0])
    | succ k2 =>
     have H := HA.out; clear HA
     simp only [Ah.l0] at H
     replace H := iD' H; obtain ⟨-, jH, H⟩ | ⟨-, jH, H⟩ := H
     ·simp only [Option.some.injEq, Prod.mk.injEq] at H
      obtain ⟨rfl, rfl⟩ := H
      go_wp2
      go_ret2
      exact ⟨_, rfl, by exact Dt (Kd.Be Z.out (fun _ a => a.1)), be3 HB D J dB⟩
     replace H := iN H; obtain ⟨-, lI, H⟩ := H
     replace H := iN H; obtain ⟨-, mI, H⟩ := H
     by_cases c43 : ((AA j b).f0) > a3
     ·rw [if_pos c43] at H
      have kH : decide (a3 < ((AA j b).f0)) = true := decide_eq_true c43; clear c43
      simp only [Option.some.injEq, Prod.mk.injEq] at H
      obtain ⟨rfl, rfl⟩ := H
      have dD : 0 ≤ (b : Int) := od
      have eD : b < (j.length : Int) := od
      obtain ⟨oE, dC, fC, eC, gC, fF, hF, jF, lF, nD, oD, xC, vC, yC, wC⟩ := DF (Kd.AU Y.out).2.2 b dD eD
      cases fF
      obtain ⟨jG, aE, zD, pC⟩ := Kd.Fe Y.out z63 b dD (by first | exact eD | exact of_decide_eq_true (by assumption) | (have e_ := (Kd.AU Y.out).1; omega))
      obtain ⟨zF, bG, aG, cG, rfl, zB, uB, aC, wB⟩ := DK zD
      have fB := pC 3 _ rfl
      rw [BO _ _ 3 (by omega)] at fB
      replace fB := Option.some.inj (fB.symm.trans nD)
      injection fB with hva_ hvn_ hvc_
      rw [hva_] at uB
      rw [hvc_] at zB
      have I := mk0 (show Kd.V (Kd.int .u8) 73 _ w.heap.size _ _ ((AA j b).f1.f2) from Kd.Cu zB uB)
      clear hva_ hvn_ hvc_ uB zB
      have gB := pC 4 _ rfl
      rw [BO _ _ 4 (by omega)] at gB
      replace gB := Option.some.inj (gB.symm.trans oD)
      injection gB with hva_ hvn_ hvc_
      rw [hva_] at wB
      rw [hvc_] at aC
      have G := mk0 (show Kd.V k30 30 _ w.heap.size _ _ ((AA j b).f1.f3) from Kd.Cu aC wB)
      clear hva_ hvn_ hvc_ wB aC; clear pC aE; have bB := mk0 vC; have mD := mk0 xC; clear vC xC; have eB := mk0 wC; have yD := mk0 yC; clear wC yC; replace dD := eq_true dD; replace eD := eq_true eD
      go_wp2_with ((with_reducible refine AP rfl (N := 13) rfl (cs := #[.int .i64 0, .int .i64 0, .int .i64 0, .slice none 0 0, .slice none 0 0]) (t := 63) ?hr ?_); (case hr => first | (go_simp; done) | (go_simp; rfl)); intro s hg eM uC hb; obtain ⟨Z, Y, m, p, r, y, z, I, G⟩ := tg9 hg hb Z Y m p r y z I G; obtain ⟨bB, eB⟩ := tb2 hb bB eB; have B := mk0 (uC); have hB := bs (be3 HB D J dB) hg; replace HB := kh3 HB D J dB hb; have ⟨iC, zC⟩ := nn u hg; have ⟨kC, aD⟩ := nn x hg; have ⟨lC, bD⟩ := nn L hg; obtain ⟨u, x, L⟩ := tb3 hb u x L; clear hb uC hg; have ⟨yI, uJ⟩ := no zC iC; have ⟨zI, vJ⟩ := no aD kC; have ⟨aJ, wJ⟩ := no bD lC; have hL := cells5 B.out)
      go_ret2
      exact ⟨_, rfl, by exact Dt (Kd.Be (nI (q := s) (Kd.Be Z.out (fun d a => (⟨a, a.2⟩ : _ ∧ d ≠ s))) (fun _ a => a.2)) (fun _ a => a.1.1.1)), be4 HB D J dB hB⟩
     rw [if_neg c43] at H; have kH : decide (a3 < ((AA j b).f0)) = false := decide_eq_false c43; clear c43
     replace H := bS H; obtain ⟨uK, sH, H⟩ := H
     replace H := iB H; obtain ⟨rfl, H⟩ | ⟨rfl, H⟩ := H
     ·have H' := mk0 H
      clear H
      have dD : 0 ≤ (b : Int) := od
      have eD : b < (j.length : Int) := od
      obtain ⟨oE, dC, fC, eC, gC, fF, hF, jF, lF, nD, oD, xC, vC, yC, wC⟩ := DF (Kd.AU Y.out).2.2 b dD eD
      cases fF
      obtain ⟨jG, aE, zD, pC⟩ := Kd.Fe Y.out z63 b dD (by first | exact eD | exact of_decide_eq_true (by assumption) | (have e_ := (Kd.AU Y.out).1; omega))
      obtain ⟨zF, bG, aG, cG, rfl, zB, uB, aC, wB⟩ := DK zD
      have fB := pC 3 _ rfl
      rw [BO _ _ 3 (by omega)] at fB
      replace fB := Option.some.inj (fB.symm.trans nD)
      injection fB with hva_ hvn_ hvc_
      rw [hva_] at uB
      rw [hvc_] at zB
      have I := mk0 (show Kd.V (Kd.int .u8) 73 _ w.heap.size _ _ ((AA j b).f1.f2) from Kd.Cu zB uB)
      clear hva_ hvn_ hvc_ uB zB
      have gB := pC 4 _ rfl
      rw [BO _ _ 4 (by omega)] at gB
      replace gB := Option.some.inj (gB.symm.trans oD)
      injection gB with hva_ hvn_ hvc_
      rw [hva_] at wB
      rw [hvc_] at aC
      have G := mk0 (show Kd.V k30 30 _ w.heap.size _ _ ((AA j b).f1.f3) from Kd.Cu aC wB)
      clear hva_ hvn_ hvc_ wB aC; clear pC aE; have bB := mk0 vC; have mD := mk0 xC; clear vC xC; have eB := mk0 wC; have yD := mk0 yC; clear wC yC; replace dD := eq_true dD; replace eD := eq_true eD
      go_wp2_with (first | ((with_reducible refine AP rfl (N := 13) rfl (cs := #[.int .i64 0, .int .i64 0, .int .i64 0, .slice none 0 0, .slice none 0 0]) (t := 63) ?hr ?_); (case hr => first | (go_simp; done) | (go_simp; rfl)); intro s hg fM uC hb; obtain ⟨Z, Y, m, p, r, y, z, I, G⟩ := tg9 hg hb Z Y m p r y z I G; obtain ⟨bB, eB⟩ := tb2 hb bB eB; have B := mk0 (uC); have hB := bs (be3 HB D J dB) hg; replace HB := kh3 HB D J dB hb; have ⟨iC, zC⟩ := nn u hg; have ⟨kC, aD⟩ := nn x hg; have ⟨lC, bD⟩ := nn L hg; obtain ⟨u, x, L⟩ := tb3 hb u x L; clear hb uC hg; have ⟨bJ, xJ⟩ := no zC iC; have ⟨cJ, yJ⟩ := no aD kC; have ⟨dJ, zJ⟩ := no bD lC; have iL := cells5 B.out; have ⟨eJ, aK⟩ := no hC jC; have ⟨fJ, bK⟩ := no sC vD; have jL := cells5 u.out; have ⟨gJ, cK⟩ := no wD tC; have kL := BF L.out; obtain ⟨uH, sG, aI⟩ := Kd.DU y.out; subst aI; obtain ⟨vH, tG, bI⟩ := Kd.DU z.out; subst bI) | ((with_reducible refine AR (f := 56) rfl ?_); refine Ii Try.func56 #[.agg #[.int .i64 mC, .int .i64 nC, .string oC, .slice pD xB.length sD, .slice qD yB.length tD], .agg #[.int .i64 bC, .int .i64 cC, .slice uH jB.length sG, .slice vH kB.length tG], .agg #[.int .i64 ((AA j b).f1.f0), .int .i64 ((AA j b).f1.f1), .slice dC ((AA j b).f1.f2).length fC, .slice eC ((AA j b).f1.f3).length gC]] ?_; (with_reducible refine (Ca.calls ?side13 ?side1 ?side2 ?side3 ?side4 ?side5 ?side6 ?side7 ?side8 ?side9 ?side10 ?side11 ?side12 sH.out).mono ?_); (case side1 => exact Kd.Au lE.out (be4 HB D J dB hB)); (case side2 => exact jE.out); (case side3 => exact Kd.Au mE.out (be4 HB D J dB hB)); (case side4 => exact kE.out); (case side5 => refine (Kd.AU (e := 73) (base := w.heap.size) (ok := fun d => ((((O d ∨ T d ∨ U d) ∨ w.heap.size ≤ d) ∧ (some d ≠ (u10 : Value).ownBlock ∧ (d ≠ W ∧ (d ≠ X ∧ d ≠ l)))) ∧ d ≠ s)) (n := jB.length) (c := sG) ?_).2.2; exact (BH ((vF (q := s) y (fun _ a => a.2))))); (case side6 => exact (Kd.AU y.out).2.1); (case side7 => refine (Kd.AU (e := 30) (base := w.heap.size) (ok := fun d => ((((O d ∨ T d ∨ U d) ∨ w.heap.size ≤ d) ∧ (some d ≠ (u10 : Value).ownBlock ∧ (d ≠ W ∧ (d ≠ X ∧ d ≠ l)))) ∧ d ≠ s)) (n := kB.length) (c := tG) ?_).2.2; exact (BH ((vF (q := s) z (fun _ a => a.2))))); (case side8 => exact (Kd.AU z.out).2.1); (case side9 => exact ((Kd.AU (by exact BH ((vF (q := s) I (fun _ a => a.2))))).2.2)); (case side10 => exact mD.out); (case side11 => exact ((Kd.AU (by exact BH ((vF (q := s) G (fun _ a => a.2))))).2.2)); (case side12 => exact yD.out); (case side13 => exact Ad HG.out (be4 HB D J dB hB)); rintro e gM ⟨rfl, hb⟩; refine ⟨_, rfl, ?_⟩; replace Z := mk0 (Kd.Dk (Dt ((nF (q := s) Z (fun _ a => a.2)))) hb); replace Y := mk0 (Kd.Bj (BH ((vF (q := s) Y (fun _ a => a.2)))) hb); replace m := mk0 (Kd.Bj (BH ((vF (q := s) m (fun _ a => a.2)))) hb); replace p := mk0 (Kd.Bj (BH ((vF (q := s) p (fun _ a => a.2)))) hb); replace r := mk0 (Kd.Bj (BH ((vF (q := s) r (fun _ a => a.2)))) hb); replace y := mk0 (Kd.Bj (BH ((vF (q := s) y (fun _ a => a.2)))) hb); replace z := mk0 (Kd.Bj (BH ((vF (q := s) z (fun _ a => a.2)))) hb); replace u := kF iC u hb; replace x := kF kC x hb; replace L := kF lC L hb; replace bB := mk0 (Kd.Au ((Kd.AU (by exact BH ((vF (q := s) I (fun _ a => a.2))))).2.2) hb); replace I := mk0 (Kd.Bj (BH ((vF (q := s) I (fun _ a => a.2)))) hb); replace eB := mk0 (Kd.Au ((Kd.AU (by exact BH ((vF (q := s) G (fun _ a => a.2))))).2.2) hb); replace G := mk0 (Kd.Bj (BH ((vF (q := s) G (fun _ a => a.2)))) hb); replace B := mk0 (AY (g := s) (o := .cells #[.int .i64 ((AA j b).f0), .int .i64 ((AA j b).f1.f0), .int .i64 ((AA j b).f1.f1), .slice dC ((AA j b).f1.f2).length fC, .slice eC ((AA j b).f1.f3).length gC] 63 (0, 0)) (pB B) hb); replace HB := kh4 HB D J dB hB hb; have lL := cells5 B.out; have mL := BF L.out))
      go_roundg k2
      case measure => have := pG.out; have := qG.out; omega
      case rel => exact ⟨(fD), (wrap64 (b + 1)), ((AA j b).f1.f0), ((AA j b).f1.f1), ((AA j b).f1.f2), ((AA j b).f1.f3), (.slice dC ((AA j b).f1.f2).length fC), (.slice eC ((AA j b).f1.f3).length gC), rfl, H', ⟨by have := pG.out; have := qG.out; omega⟩, ⟨Dt (Kd.Be (nI (q := l) (Kd.Be Z.out (fun d a => (⟨a, a.1.2.2.2⟩ : _ ∧ d ≠ l))) (fun _ a => a.2)) (fun _ a => ⟨a.1.1.1, ⟨a.1.1.2.1, ⟨a.1.1.2.2.1, a.1.1.2.2.2⟩⟩⟩))⟩, ⟨BH (Kd.AO (vI (q := l) (Kd.AO Y.out (fun d a => (⟨a, a.1.2.2.2.2⟩ : _ ∧ d ≠ l))) (fun _ a => a.2)) (fun _ a => ⟨a.1.1.1, ⟨a.1.1.2.1, ⟨a.1.1.2.2.1, ⟨a.1.1.2.2.2.1, a.1.1.2.2.2.2⟩⟩⟩⟩))⟩, ⟨BH (Kd.AO (vI (q := l) (Kd.AO m.out (fun d a => (⟨a, a.1.2.2.2.2⟩ : _ ∧ d ≠ l))) (fun _ a => a.2)) (fun _ a => ⟨a.1.1.1, ⟨a.1.1.2.1, ⟨a.1.1.2.2.1, ⟨a.1.1.2.2.2.1, a.1.1.2.2.2.2⟩⟩⟩⟩))⟩, ⟨BH (Kd.AO (vI (q := l) (Kd.AO p.out (fun d a => (⟨a, a.1.2.2.2.2⟩ : _ ∧ d ≠ l))) (fun _ a => a.2)) (fun _ a => ⟨a.1.1.1, ⟨a.1.1.2.1, ⟨a.1.1.2.2.1, ⟨a.1.1.2.2.2.1, a.1.1.2.2.2.2⟩⟩⟩⟩))⟩, ⟨BH (Kd.AO (vI (q := l) (Kd.AO r.out (fun d a => (⟨a, a.1.2.2.2.2⟩ : _ ∧ d ≠ l))) (fun _ a => a.2)) (fun _ a => ⟨a.1.1.1, ⟨a.1.1.2.1, ⟨a.1.1.2.2.1, ⟨a.1.1.2.2.2.1, a.1.1.2.2.2.2⟩⟩⟩⟩))⟩, ⟨BH (Kd.AO (vI (q := l) (Kd.AO I.out (fun d a => (⟨a, a.1.2.2.2.2⟩ : _ ∧ d ≠ l))) (fun _ a => a.2)) (fun _ a => ⟨a.1.1.1, ⟨a.1.1.2.1, ⟨a.1.1.2.2.1, ⟨a.1.1.2.2.2.1, a.1.1.2.2.2.2⟩⟩⟩⟩))⟩, ⟨BH (Kd.AO (vI (q := l) (Kd.AO G.out (fun d a => (⟨a, a.1.2.2.2.2⟩ : _ ∧ d ≠ l))) (fun _ a => a.2)) (fun _ a => ⟨a.1.1.1, ⟨a.1.1.2.1, ⟨a.1.1.2.2.1, ⟨a.1.1.2.2.2.1, a.1.1.2.2.2.2⟩⟩⟩⟩))⟩, ⟨bF sC u⟩, ⟨bF tC x⟩, ⟨pB L⟩, ⟨be4 HB D J dB hB⟩⟩
     replace H := Option.bind_eq_some_iff.mp H
     obtain ⟨⟨wE, xE, cD, yE⟩, rG, H⟩ := H
     replace H : (if fD.length < 1954687338268 then (Ah.l0 k2 a3 (fD ++ [(⟨(AA j b).f0, (⟨wE, xE, cD, yE⟩ : S30)⟩ : S63)]) j (j.length : Int) (wrap64 (b + 1)) mC nC oC xB yB ((AA j b).f1.f0) ((AA j b).f1.f1) ((AA j b).f1.f2) ((AA j b).f1.f3)) else (none)) = some (r1, r2) := H
     have kI := mk0 rG; clear rG
     by_cases c67 : fD.length < 1954687338268
     rotate_left
     ·rw [if_neg c67] at H
      exact absurd H (by simp)
     rw [if_pos c67] at H; have hH := mk0 c67; clear c67
     obtain ⟨cH, uE⟩ : ∃ y_ : List (S63), y_ = (fD ++ [(⟨(AA j b).f0, (⟨wE, xE, cD, yE⟩ : S30)⟩ : S63)]) := ⟨_, rfl⟩
     replace H : (Ah.l0 k2 a3 cH j (j.length : Int) (wrap64 (b + 1)) mC nC oC xB yB ((AA j b).f1.f0) ((AA j b).f1.f1) ((AA j b).f1.f2) ((AA j b).f1.f3)) = some (r1, r2) := by first | (rw [uE]; with_reducible exact H) | (have dH := (Option.bind_some _ _).symm.trans H; rw [uE]; with_reducible exact dH) | (have dH := (Option.bind_some _ _).symm.trans H; with_reducible exact dH) | with_reducible exact H | (rw [uE]; exact H) | exact H
     have iH := mk0 uE; clear uE
     have H' := mk0 H
     clear H
     have dD : 0 ≤ (b : Int) := od
     have eD : b < (j.length : Int) := od
     obtain ⟨oE, dC, fC, eC, gC, fF, hF, jF, lF, nD, oD, xC, vC, yC, wC⟩ := DF (Kd.AU Y.out).2.2 b dD eD
     cases fF
     obtain ⟨jG, aE, zD, pC⟩ := Kd.Fe Y.out z63 b dD (by first | exact eD | exact of_decide_eq_true (by assumption) | (have e_ := (Kd.AU Y.out).1; omega))
     obtain ⟨zF, bG, aG, cG, rfl, zB, uB, aC, wB⟩ := DK zD
     have fB := pC 3 _ rfl
     rw [BO _ _ 3 (by omega)] at fB
     replace fB := Option.some.inj (fB.symm.trans nD)
     injection fB with hva_ hvn_ hvc_
     rw [hva_] at uB
     rw [hvc_] at zB
     have I := mk0 (show Kd.V (Kd.int .u8) 73 _ w.heap.size _ _ ((AA j b).f1.f2) from Kd.Cu zB uB)
     clear hva_ hvn_ hvc_ uB zB
     have gB := pC 4 _ rfl
     rw [BO _ _ 4 (by omega)] at gB
     replace gB := Option.some.inj (gB.symm.trans oD)
     injection gB with hva_ hvn_ hvc_
     rw [hva_] at wB
     rw [hvc_] at aC
     have G := mk0 (show Kd.V k30 30 _ w.heap.size _ _ ((AA j b).f1.f3) from Kd.Cu aC wB)
     clear hva_ hvn_ hvc_ wB aC; clear pC aE; have bB := mk0 vC; have mD := mk0 xC; clear vC xC; have eB := mk0 wC; have yD := mk0 yC; clear wC yC; replace dD := eq_true dD; replace eD := eq_true eD
     try go_wp2_with (first | ((with_reducible refine AP rfl (N := 13) rfl (cs := #[.int .i64 0, .int .i64 0, .int .i64 0, .slice none 0 0, .slice none 0 0]) (t := 63) ?hr ?_); (case hr => first | (go_simp; done) | (go_simp; rfl)); intro s hg hM uC hb; obtain ⟨Z, Y, m, p, r, y, z, I, G⟩ := tg9 hg hb Z Y m p r y z I G; obtain ⟨bB, eB⟩ := tb2 hb bB eB; have B := mk0 (uC); have hB := bs (be3 HB D J dB) hg; replace HB := kh3 HB D J dB hb; have ⟨iC, zC⟩ := nn u hg; have ⟨kC, aD⟩ := nn x hg; have ⟨lC, bD⟩ := nn L hg; obtain ⟨u, x, L⟩ := tb3 hb u x L; clear hb uC hg; have ⟨hJ, dK⟩ := no zC iC; have ⟨iJ, eK⟩ := no aD kC; have ⟨jJ, fK⟩ := no bD lC; have nL := cells5 B.out; have ⟨kJ, gK⟩ := no hC jC; have ⟨lJ, iK⟩ := no sC vD; have oL := cells5 u.out; have ⟨mJ, jK⟩ := no wD tC; have pL := BF L.out; obtain ⟨fG, dF, cI⟩ := Kd.DU y.out; subst cI; obtain ⟨gG, eF, dI⟩ := Kd.DU z.out; subst dI) | ((with_reducible refine AR (f := 56) rfl ?_); refine Ii Try.func56 #[.agg #[.int .i64 mC, .int .i64 nC, .string oC, .slice pD xB.length sD, .slice qD yB.length tD], .agg #[.int .i64 bC, .int .i64 cC, .slice fG jB.length dF, .slice gG kB.length eF], .agg #[.int .i64 ((AA j b).f1.f0), .int .i64 ((AA j b).f1.f1), .slice dC ((AA j b).f1.f2).length fC, .slice eC ((AA j b).f1.f3).length gC]] ?_; (with_reducible refine (Ca.calls ?side13 ?side1 ?side2 ?side3 ?side4 ?side5 ?side6 ?side7 ?side8 ?side9 ?side10 ?side11 ?side12 sH.out).mono ?_); (case side1 => exact Kd.Au lE.out (be4 HB D J dB hB)); (case side2 => exact jE.out); (case side3 => exact Kd.Au mE.out (be4 HB D J dB hB)); (case side4 => exact kE.out); (case side5 => refine (Kd.AU (e := 73) (base := w.heap.size) (ok := fun d => ((((O d ∨ T d ∨ U d) ∨ w.heap.size ≤ d) ∧ (some d ≠ (u10 : Value).ownBlock ∧ (d ≠ W ∧ (d ≠ X ∧ d ≠ l)))) ∧ d ≠ s)) (n := jB.length) (c := dF) ?_).2.2; exact (BH ((vF (q := s) y (fun _ a => a.2))))); (case side6 => exact (Kd.AU y.out).2.1); (case side7 => refine (Kd.AU (e := 30) (base := w.heap.size) (ok := fun d => ((((O d ∨ T d ∨ U d) ∨ w.heap.size ≤ d) ∧ (some d ≠ (u10 : Value).ownBlock ∧ (d ≠ W ∧ (d ≠ X ∧ d ≠ l)))) ∧ d ≠ s)) (n := kB.length) (c := eF) ?_).2.2; exact (BH ((vF (q := s) z (fun _ a => a.2))))); (case side8 => exact (Kd.AU z.out).2.1); (case side9 => exact ((Kd.AU (by exact BH ((vF (q := s) I (fun _ a => a.2))))).2.2)); (case side10 => exact mD.out); (case side11 => exact ((Kd.AU (by exact BH ((vF (q := s) G (fun _ a => a.2))))).2.2)); (case side12 => exact yD.out); (case side13 => exact Ad HG.out (be4 HB D J dB hB)); rintro e lK ⟨rfl, hb⟩; refine ⟨_, rfl, ?_⟩; replace Z := mk0 (Kd.Dk (Dt ((nF (q := s) Z (fun _ a => a.2)))) hb); replace Y := mk0 (Kd.Bj (BH ((vF (q := s) Y (fun _ a => a.2)))) hb); replace m := mk0 (Kd.Bj (BH ((vF (q := s) m (fun _ a => a.2)))) hb); replace p := mk0 (Kd.Bj (BH ((vF (q := s) p (fun _ a => a.2)))) hb); replace r := mk0 (Kd.Bj (BH ((vF (q := s) r (fun _ a => a.2)))) hb); replace y := mk0 (Kd.Bj (BH ((vF (q := s) y (fun _ a => a.2)))) hb); replace z := mk0 (Kd.Bj (BH ((vF (q := s) z (fun _ a => a.2)))) hb); replace u := kF iC u hb; replace x := kF kC x hb; replace L := kF lC L hb; replace bB := mk0 (Kd.Au ((Kd.AU (by exact BH ((vF (q := s) I (fun _ a => a.2))))).2.2) hb); replace I := mk0 (Kd.Bj (BH ((vF (q := s) I (fun _ a => a.2)))) hb); replace eB := mk0 (Kd.Au ((Kd.AU (by exact BH ((vF (q := s) G (fun _ a => a.2))))).2.2) hb); replace G := mk0 (Kd.Bj (BH ((vF (q := s) G (fun _ a => a.2)))) hb); replace B := mk0 (AY (g := s) (o := .cells #[.int .i64 ((AA j b).f0), .int .i64 ((AA j b).f1.f0), .int .i64 ((AA j b).f1.f1), .slice dC ((AA j b).f1.f2).length fC, .slice eC ((AA j b).f1.f3).length gC] 63 (0, 0)) (pB B) hb); replace HB := kh4 HB D J dB hB hb))
     have mF := mk0 (Kd.CU Z.out)
     have pF := mk0 (Kd.BU Y.out)
     have qF := mk0 (Kd.BU m.out)
     have rF := mk0 (Kd.BU p.out)
     have sF := mk0 (Kd.BU r.out)
     have tF := mk0 (Kd.BU y.out)
     have uF := mk0 (Kd.BU z.out)
     have wF := mk0 (Kd.BU I.out)
     have xF := mk0 (Kd.BU G.out)
     have yF := mk0 (AV u.out)
     have dE := mk0 (AV x.out)
     have eE := mk0 (AV L.out)
     have fE := mk0 (AV B.out)
     have gE := mk0 (Kd.Cc bB.out)
     have hE := mk0 (Kd.Cc eB.out)
     have oF := mk0 (Aa HB.out)
     clear Z; clear Y; clear m; clear p; clear r; clear y; clear z; clear I; clear G; clear u; clear x; clear L; clear B; clear bB; clear eB; clear HB; have Z := mF; have Y := pF; have m := qF; have p := rF; have r := sF; have y := tF; have z := uF; have I := wF; have G := xF; have u := yF; have x := dE; have L := eE; have B := fE; have bB := gE; have eB := hE; have HB := oF; clear mF pF qF rF sF tF uF wF xF yF dE eE fE gE hE oF
     refine Ch (n := 10) (S := fun w' => w'.cell? ⟨s, 0, none⟩ = some (.int .i64 ((AA j b).f0)) ∧ w'.cell? ⟨s, 1, none⟩ = some (.int .i64 ((AA j b).f1.f0)) ∧ w'.cell? ⟨s, 2, none⟩ = some (.int .i64 ((AA j b).f1.f1)) ∧ w'.cell? ⟨s, 3, none⟩ = some (.slice dC ((AA j b).f1.f2).length fC) ∧ w'.cell? ⟨s, 4, none⟩ = some (.slice eC ((AA j b).f1.f3).length gC)) (ds := []) (tf 0 10) (by kernel_rfl) rfl rfl ⟨bc B 0, bc B 1, bc B 2, bc B 3, bc B 4⟩ (fun cE => ?_); refine Bl Ah.Ph Ah.Ov (fun nE yH => ?_)
     generalize lK.drew = iM at Z Y m p r y z I G u x L B bB eB HB cE ⊢
     refine pv 0 52 (tf 1 9) nE ?_
     refine pv 1 53 (tf 2 8) nE ?_
     refine pv 3 55 #[true, true, false, true, false, false, false, false, false, false] nE ?_
     refine BR (i := 2) (N := some 54) (v := ?_) (a' := ?_) (tf 4 6) rfl rfl (Ae nE.out yH.out (by kernel_rfl)) (fun _ _ _ h => h) (Or.inl ⟨by rfl, ?_⟩) cE ?_ ?_
     rotate_left
     ·rintro w' ⟨s0, s1, s2, s3, s4⟩
      go_simp
      with_reducible rfl
     rotate_left
     ·simp only [ps]
      rfl
     refine BR (i := 4) (N := some 56) (v := ?_) (a' := ?_) (tf 5 5) rfl rfl (Ae nE.out yH.out (by kernel_rfl)) (fun _ _ _ h => h) (Or.inl ⟨by rfl, ?_⟩) cE ?_ ?_
     rotate_left
     ·rintro w' ⟨s0, s1, s2, s3, s4⟩
      go_simp
      with_reducible rfl
     rotate_left
     ·simp only [ps]
      rfl
     refine Cz (i := 5) (N := some 57) (tf 6 4) rfl rfl (Bq nE.out (by kernel_rfl)) (by decide) (fun K hK => ?_)
     refine Cg Try.func51 (by kernel_rfl) rfl #[.agg #[.int .i64 ((AA j b).f1.f0), .int .i64 ((AA j b).f1.f1), .slice dC ((AA j b).f1.f2).length fC, .slice eC ((AA j b).f1.f3).length gC]] (by rfl) rfl rfl (by (try simp only [List.map_toArray, List.map_cons, List.map_nil]); first | done | rfl | (simp only [List.length_drop, List.length_take]; rfl)) ?_
     with_reducible refine (drivers_copied.calls ((AA j b).f1.f0) ((AA j b).f1.f1) _ _ ((AA j b).f1.f2) (fun d => ((((O d ∨ T d ∨ U d) ∨ w.heap.size ≤ d) ∧ (some d ≠ (u10 : Value).ownBlock ∧ (d ≠ W ∧ (d ≠ X ∧ d ≠ l)))) ∧ d ≠ s)) _ _ ((AA j b).f1.f3) wE xE cD yE _ ?side1 ?side2 ?side3 kI.out).mono ?_
     (case side1 => repeat (first | exact (by repeat (first | (with_reducible exact bB.out) | (with_reducible refine Kd.CK ?_ _) | (with_reducible refine Kd.CL ?_ _) | (with_reducible refine Kd.Cc ?_) | exact bB.out)) | (with_reducible refine Kd.CK ?_ _) | (with_reducible refine Kd.CL ?_ _) | (with_reducible refine Kd.Cc ?_)))
     (case side2 => exact mD.out)
     (case side3 => exact G.out)
     rintro e jM ⟨v541, v544, rfl, sE, eI, hb⟩
     refine ⟨_, rfl, ?_⟩
     have mF := mk0 (Kd.DW (EI Z.out) (Kd.Bf sE) hb)
     have pF := mk0 (Kd.BX (Br Y.out) (Kd.Bf sE) hb)
     have qF := mk0 (Kd.BX (Br m.out) (Kd.Bf sE) hb)
     have rF := mk0 (Kd.BX (Br p.out) (Kd.Bf sE) hb)
     have sF := mk0 (Kd.BX (Br r.out) (Kd.Bf sE) hb)
     have tF := mk0 (Kd.BX (Br y.out) (Kd.Bf sE) hb)
     have uF := mk0 (Kd.BX (Br z.out) (Kd.Bf sE) hb)
     have wF := mk0 (Kd.BX (Br I.out) (Kd.Bf sE) hb)
     have xF := mk0 (Kd.BX (Br G.out) (Kd.Bf sE) hb)
     have yF := mk0 (Kd.Cm (Kd.ET (M := fun d => (w.heap.size ≤ d)) (Kd.BS (ok' := fun d => True) sE (fun _ gF => trivial)) (AZ (be4 HB D J dB hB)) (fun d h_ => h_)) (AZ (be4 HB D J dB hB)))
     have dE := mk0 (Kd.Ej (Kd.AO (ok' := fun d => ((O d ∨ T d ∨ U d) ∨ w.heap.size ≤ d) ∧ some d ≠ (v541 : Value).ownBlock ∧ some d ≠ (u10 : Value).ownBlock ∧ d ≠ W ∧ d ≠ X ∧ d ≠ l ∧ d ≠ s) eI (fun d gF => ⟨Or.elim gF.1 (fun tE => tE.1.1) (fun rE => (.inr (Nat.le_trans (AZ (be4 HB D J dB hB)) rE))), gF.2, Or.elim gF.1 (fun tE => tE.1.2.1) (fun rE => (Kd.fresh' (Kd.Np (EI Z.out)) d rE)), Or.elim gF.1 (fun tE => tE.1.2.2.1) (fun rE => (Kd.BG (g := W) (o := .cells #[.int .i64 mC, .int .i64 nC, .string oC, .slice pD xB.length sD, .slice qD yB.length tD] 26 (0, 0)) (Af u.out) d rE)), Or.elim gF.1 (fun tE => tE.1.2.2.2.1) (fun rE => (Kd.BG (g := X) (o := .cells #[.int .i64 qC, .int .i64 rC, .slice gD lB.length jD, .slice hD mB.length kD, .slice (some oE) j.length lD] 33 (0, 0)) (Af x.out) d rE)), Or.elim gF.1 (fun tE => tE.1.2.2.2.2) (fun rE => (Kd.BG (g := l) (o := .cells #[.int .i64 bC, .int .i64 cC, .slice fG jB.length dF, .slice gG kB.length eF] 30 (0, 0)) (Af L.out) d rE)), Or.elim gF.1 (fun tE => tE.2) (fun rE => (Kd.BG (g := s) (o := .cells #[.int .i64 ((AA j b).f0), .int .i64 ((AA j b).f1.f0), .int .i64 ((AA j b).f1.f1), .slice dC ((AA j b).f1.f2).length fC, .slice eC ((AA j b).f1.f3).length gC] 63 (0, 0)) (Af B.out) d rE))⟩)) (AZ (be4 HB D J dB hB)))
     have eE := kb u hb
     have fE := kb x hb
     have gE := kb L hb
     have hE := cb bB hb
     have oF := cb eB hb
     have yG := kb B hb
     have zG := kh4 HB D J dB hB hb
     clear Z; clear Y; clear m; clear p; clear r; clear y; clear z; clear I; clear G; clear u; clear x; clear L; clear bB; clear eB; clear B; clear HB; have Z := mF; have Y := pF; have m := qF; have p := rF; have r := sF; have y := tF; have z := uF; have I := wF; have G := xF; have zE := yF; have bE := dE; have u := eE; have x := fE; have L := gE; have bB := hE; have eB := oF; have B := yG; have HB := zG; clear mF pF qF rF sF tF uF wF xF yF dE eE fE gE hE oF yG zG
     try clear hb
     try clear a
     try clear sE
     try clear eI
     obtain ⟨wH, zH, uG⟩ := Kd.DU bE.out
     (first | subst uG | (injection uG with f1_ f2_ f3_; have lH := f1_.symm; have mH := f3_.symm; clear f1_ f2_ f3_; subst lH; subst mH))
     obtain ⟨rD, uD, vG⟩ := Kd.Bw zE.out
     (first | subst vG | (injection vG with f1_ f2_ f3_; have lH := f1_.symm; have mH := f3_.symm; clear f1_ f2_ f3_; subst lH; subst mH))
     refine hK.out _ _ ⟨bc B 0, bc B 1, bc B 2, bc B 3, bc B 4⟩ (fun cE => ?_)
     clear hK K
     refine CB (a' := ?_) ?_ ?_
     rotate_left
     ·show Act.put _ (some 57) _ = _
      simp only [ps]
      rfl
     refine pv 6 58 (tf 7 3) nE ?_
     refine Cz (i := 7) (N := some 59) (tf 8 2) rfl rfl (Bq nE.out (by kernel_rfl)) (by decide) (fun K hK => ?_)
     refine Bt (w1 := ?_) (v := ?_) (by rfl) rfl ?_ ?_
     rotate_left 2
     ·go_simp
      constructor
      ·rfl
      ·rfl
     refine hK.out _ _ ⟨(Al (Ac B.out _) 0).trans rfl, (Al (Ac B.out _) 1).trans rfl, (Al (Ac B.out _) 2).trans rfl, (Al (Ac B.out _) 3).trans rfl, (Al (Ac B.out _) 4).trans rfl⟩ (fun cE => ?_)
     clear hK K
     refine CB (a' := ?_) ?_ ?_
     rotate_left
     ·show Act.put _ (some 59) _ = _
      simp only [ps]
      rfl
     refine Cz (i := 8) (N := some 60) (tf 9 1) rfl rfl (Bq nE.out (by kernel_rfl)) (by decide) (fun K hK => ?_)
     refine Kd.Ep k63 (w0 := w) w.heap.size (by rfl) (.tmp 52) (.tmp 59) 31 63 (.agg #[(.int .i64 0), (.int .i64 0), (.int .i64 0), (.slice none 0 0), (.slice none 0 0)]) 72 rfl Try.underlying31 Fq rfl (by decide) (by omega) u10 fD (⟨(AA j b).f0, (⟨wE, xE, cD, yE⟩ : S30)⟩ : S63) [.int .i64 ((AA j b).f0), .int .i64 wE, .int .i64 xE, .slice rD cD.length uD, .slice wH yE.length zH] (fun d => ((O d ∨ T d ∨ U d) ∨ w.heap.size ≤ d) ∧ d ≠ W ∧ d ≠ X ∧ d ≠ l ∧ d ≠ s) (fun d => ((fun d => ((O d ∨ T d ∨ U d) ∨ w.heap.size ≤ d) ∧ d ≠ W ∧ d ≠ X ∧ d ≠ l ∧ d ≠ s)) d ∧ some d ≠ (u10 : Value).ownBlock) rfl rfl ?aP (fun _ a => a) ?aF ?aO ?aB ?aS ?aL ?_
     (case aP => exact (Hg _ _ (⟨(AA j b).f0, (⟨wE, xE, cD, yE⟩ : S30)⟩ : S63) (Kd.Cx (Kd.BS (ok' := (fun d => ((fun d => ((O d ∨ T d ∨ U d) ∨ w.heap.size ≤ d) ∧ d ≠ W ∧ d ≠ X ∧ d ≠ l ∧ d ≠ s)) d ∧ some d ≠ (u10 : Value).ownBlock)) (Kd.Ao (Kd.Ao (Kd.Ao (Kd.Ao (Kd.Bh (zE.out) (Kd.Bz Z.out) (by decide)) u.out (by decide)) x.out (by decide)) L.out (by decide)) B.out (by decide)) (fun d a => ⟨⟨(.inr (a.1.1.1.1.1.1)), ⟨a.1.1.1.2, ⟨a.1.1.2, ⟨a.1.2, a.2⟩⟩⟩⟩, a.1.1.1.1.2⟩))).2.1 (Kd.R_F (Kd.BS (ok' := (fun d => ((fun d => ((O d ∨ T d ∨ U d) ∨ w.heap.size ≤ d) ∧ d ≠ W ∧ d ≠ X ∧ d ≠ l ∧ d ≠ s)) d ∧ some d ≠ (u10 : Value).ownBlock)) (Kd.Ao (Kd.Ao (Kd.Ao (Kd.Ao (Kd.Bh (zE.out) (Kd.Bz Z.out) (by decide)) u.out (by decide)) x.out (by decide)) L.out (by decide)) B.out (by decide)) (fun d a => ⟨⟨(.inr (a.1.1.1.1.1.1)), ⟨a.1.1.1.2, ⟨a.1.1.2, ⟨a.1.2, a.2⟩⟩⟩⟩, a.1.1.1.1.2⟩))) (Kd.AU (Kd.AO (ok' := (fun d => ((fun d => ((O d ∨ T d ∨ U d) ∨ w.heap.size ≤ d) ∧ d ≠ W ∧ d ≠ X ∧ d ≠ l ∧ d ≠ s)) d ∧ some d ≠ (u10 : Value).ownBlock)) (bE.out) (fun d a => ⟨⟨a.1, ⟨a.2.2.2.1, ⟨a.2.2.2.2.1, ⟨a.2.2.2.2.2.1, a.2.2.2.2.2.2⟩⟩⟩⟩, a.2.2.1⟩))).2.1 (Kd.V_F (Kd.AO (ok' := (fun d => ((fun d => ((O d ∨ T d ∨ U d) ∨ w.heap.size ≤ d) ∧ d ≠ W ∧ d ≠ X ∧ d ≠ l ∧ d ≠ s)) d ∧ some d ≠ (u10 : Value).ownBlock)) (bE.out) (fun d a => ⟨⟨a.1, ⟨a.2.2.2.1, ⟨a.2.2.2.2.1, ⟨a.2.2.2.2.2.1, a.2.2.2.2.2.2⟩⟩⟩⟩, a.2.2.1⟩)))))
     (case aB => exact (be4 HB D J dB hB))
     (case aF => exact (fun d a => ⟨(.inr (Nat.le_trans (AZ (be4 HB D J dB hB)) a)), Kd.BG (g := W) (o := .cells #[.int .i64 mC, .int .i64 nC, .string oC, .slice pD xB.length sD, .slice qD yB.length tD] 26 (0, 0)) (Af u.out) d a, Kd.BG (g := X) (o := .cells #[.int .i64 qC, .int .i64 rC, .slice gD lB.length jD, .slice hD mB.length kD, .slice (some oE) j.length lD] 33 (0, 0)) (Af x.out) d a, Kd.BG (g := l) (o := .cells #[.int .i64 bC, .int .i64 cC, .slice fG jB.length dF, .slice gG kB.length eF] 30 (0, 0)) (Af L.out) d a, Kd.BG (g := s) (o := .cells #[.int .i64 ((AA j b).f0), .int .i64 ((AA j b).f1.f0), .int .i64 ((AA j b).f1.f1), .slice dC ((AA j b).f1.f2).length fC, .slice eC ((AA j b).f1.f3).length gC] 63 (0, 0)) (Af B.out) d a⟩))
     (case aO => exact (Dt (Kd.Be Z.out (fun _ a => ⟨a.1.1.1, ⟨a.1.1.2.1, ⟨a.1.1.2.2.1, ⟨a.1.1.2.2.2, a.1.2⟩⟩⟩⟩))))
     (case aS => exact (AZ (be4 HB D J dB hB)))
     (case aL => have := hH.out; omega)
     intro v547 kM ho hb hg vE
     rw [← iH.out] at ho
     have mF := mk0 (Kd.CF (ok := (fun d => ((O d ∨ T d ∨ U d) ∨ w.heap.size ≤ d) ∧ some d ≠ (.slice rD cD.length uD : Value).ownBlock ∧ d ≠ W ∧ d ≠ X ∧ d ≠ l ∧ d ≠ s)) (BH (Kd.AO Y.out (fun _ a => ⟨⟨a.1.1.1, ⟨a.2, ⟨a.1.1.2.2.1, ⟨a.1.1.2.2.2.1, ⟨a.1.1.2.2.2.2, a.1.2⟩⟩⟩⟩⟩, a.1.1.2.1⟩))) hg vE)
     have pF := mk0 (Kd.CF (ok := (fun d => ((O d ∨ T d ∨ U d) ∨ w.heap.size ≤ d) ∧ some d ≠ (.slice rD cD.length uD : Value).ownBlock ∧ d ≠ W ∧ d ≠ X ∧ d ≠ l ∧ d ≠ s)) (BH (Kd.AO m.out (fun _ a => ⟨⟨a.1.1.1, ⟨a.2, ⟨a.1.1.2.2.1, ⟨a.1.1.2.2.2.1, ⟨a.1.1.2.2.2.2, a.1.2⟩⟩⟩⟩⟩, a.1.1.2.1⟩))) hg vE)
     have qF := mk0 (Kd.CF (ok := (fun d => ((O d ∨ T d ∨ U d) ∨ w.heap.size ≤ d) ∧ some d ≠ (.slice rD cD.length uD : Value).ownBlock ∧ d ≠ W ∧ d ≠ X ∧ d ≠ l ∧ d ≠ s)) (BH (Kd.AO p.out (fun _ a => ⟨⟨a.1.1.1, ⟨a.2, ⟨a.1.1.2.2.1, ⟨a.1.1.2.2.2.1, ⟨a.1.1.2.2.2.2, a.1.2⟩⟩⟩⟩⟩, a.1.1.2.1⟩))) hg vE)
     have rF := mk0 (Kd.CF (ok := (fun d => ((O d ∨ T d ∨ U d) ∨ w.heap.size ≤ d) ∧ some d ≠ (.slice rD cD.length uD : Value).ownBlock ∧ d ≠ W ∧ d ≠ X ∧ d ≠ l ∧ d ≠ s)) (BH (Kd.AO r.out (fun _ a => ⟨⟨a.1.1.1, ⟨a.2, ⟨a.1.1.2.2.1, ⟨a.1.1.2.2.2.1, ⟨a.1.1.2.2.2.2, a.1.2⟩⟩⟩⟩⟩, a.1.1.2.1⟩))) hg vE)
     have sF := mk0 (Kd.CF (ok := (fun d => ((O d ∨ T d ∨ U d) ∨ w.heap.size ≤ d) ∧ some d ≠ (.slice rD cD.length uD : Value).ownBlock ∧ d ≠ W ∧ d ≠ X ∧ d ≠ l ∧ d ≠ s)) (BH (Kd.AO y.out (fun _ a => ⟨⟨a.1.1.1, ⟨a.2, ⟨a.1.1.2.2.1, ⟨a.1.1.2.2.2.1, ⟨a.1.1.2.2.2.2, a.1.2⟩⟩⟩⟩⟩, a.1.1.2.1⟩))) hg vE)
     have tF := mk0 (Kd.CF (ok := (fun d => ((O d ∨ T d ∨ U d) ∨ w.heap.size ≤ d) ∧ some d ≠ (.slice rD cD.length uD : Value).ownBlock ∧ d ≠ W ∧ d ≠ X ∧ d ≠ l ∧ d ≠ s)) (BH (Kd.AO z.out (fun _ a => ⟨⟨a.1.1.1, ⟨a.2, ⟨a.1.1.2.2.1, ⟨a.1.1.2.2.2.1, ⟨a.1.1.2.2.2.2, a.1.2⟩⟩⟩⟩⟩, a.1.1.2.1⟩))) hg vE)
     have uF := mk0 (Bg (g := W) (o := .cells #[.int .i64 mC, .int .i64 nC, .string oC, .slice pD xB.length sD, .slice qD yB.length tD] 26 (0, 0)) (Af u.out) hg (Kd.GN Z.out u.out (by decide)))
     have wF := mk0 (Bg (g := X) (o := .cells #[.int .i64 qC, .int .i64 rC, .slice gD lB.length jD, .slice hD mB.length kD, .slice (some oE) j.length lD] 33 (0, 0)) (Af x.out) hg (Kd.GN Z.out x.out (by decide)))
     have xF := mk0 (Bg (g := l) (o := .cells #[.int .i64 bC, .int .i64 cC, .slice fG jB.length dF, .slice gG kB.length eF] 30 (0, 0)) (Af L.out) hg (Kd.GN Z.out L.out (by decide)))
     have yF := mk0 (Kd.CF (ok := (fun d => ((O d ∨ T d ∨ U d) ∨ w.heap.size ≤ d) ∧ some d ≠ (.slice rD cD.length uD : Value).ownBlock ∧ d ≠ W ∧ d ≠ X ∧ d ≠ l ∧ d ≠ s)) (BH (Kd.AO I.out (fun _ a => ⟨⟨a.1.1.1, ⟨a.2, ⟨a.1.1.2.2.1, ⟨a.1.1.2.2.2.1, ⟨a.1.1.2.2.2.2, a.1.2⟩⟩⟩⟩⟩, a.1.1.2.1⟩))) hg vE)
     have dE := mk0 (Kd.CF (ok := (fun d => ((O d ∨ T d ∨ U d) ∨ w.heap.size ≤ d) ∧ some d ≠ (.slice rD cD.length uD : Value).ownBlock ∧ d ≠ W ∧ d ≠ X ∧ d ≠ l ∧ d ≠ s)) (BH (Kd.AO G.out (fun _ a => ⟨⟨a.1.1.1, ⟨a.2, ⟨a.1.1.2.2.1, ⟨a.1.1.2.2.2.1, ⟨a.1.1.2.2.2.2, a.1.2⟩⟩⟩⟩⟩, a.1.1.2.1⟩))) hg vE)
     have eE := mk0 (Bg (g := s) (o := .cells #[.int .i64 ((AA j b).f0), .int .i64 ((AA j b).f1.f0), .int .i64 ((AA j b).f1.f1), .slice dC ((AA j b).f1.f2).length fC, .slice eC ((AA j b).f1.f3).length gC] 63 (0, 0)) (Af B.out) hg (Kd.Me Z.out (fun _ a => a.1.2)))
     have fE := mk0 (Kd.CF (ok := (fun d => ((O d ∨ T d ∨ U d) ∨ w.heap.size ≤ d) ∧ some d ≠ (.slice rD cD.length uD : Value).ownBlock ∧ d ≠ W ∧ d ≠ X ∧ d ≠ l ∧ d ≠ s)) (BH (Kd.AO bE.out (fun _ a => ⟨⟨a.1, ⟨a.2.1, ⟨a.2.2.2.1, ⟨a.2.2.2.2.1, ⟨a.2.2.2.2.2.1, a.2.2.2.2.2.2⟩⟩⟩⟩⟩, a.2.2.1⟩))) hg vE)
     have gE := mk0 (hb)
     have hE := mk0 (ho)
     clear Y; clear m; clear p; clear r; clear y; clear z; clear u; clear x; clear L; clear I; clear G; clear B; clear bE; clear HB; clear Z; clear zE; have Y := mF; have m := pF; have p := qF; have r := rF; have y := sF; have z := tF; have u := uF; have x := wF; have L := xF; have I := yF; have G := dE; have B := eE; have bE := fE; have HB := gE; have gH := hE; clear mF pF qF rF sF tF uF wF xF yF dE eE fE gE hE; clear ho hb hg vE
     refine hK.out _ _ ⟨bc B 0, bc B 1, bc B 2, bc B 3, bc B 4⟩ (fun cE => ?_)
     clear hK K
     refine CB (a' := ?_) ?_ ?_
     rotate_left
     ·show Act.put _ (some 60) _ = _
      simp only [ps]
      rfl
     refine pv 9 10 (tf 10 0) nE ?_
     refine DV (Ce nE.out (by kernel_rfl)) ?_
     have qL := cells5 B.out
     have rL := BF L.out
     try go_wp2
     go_roundg k2
     case measure => have := pG.out; have := qG.out; omega
     case rel => exact ⟨(cH), (wrap64 (b + 1)), ((AA j b).f1.f0), ((AA j b).f1.f1), ((AA j b).f1.f2), ((AA j b).f1.f3), (.slice dC ((AA j b).f1.f2).length fC), (.slice eC ((AA j b).f1.f3).length gC), rfl, H', ⟨by have := pG.out; have := qG.out; omega⟩, ⟨Dt (Kd.Be (nI (q := l) (Kd.Be gH.out (fun d a => (⟨a, a.2.2.2.1⟩ : _ ∧ d ≠ l))) (fun _ a => a.2)) (fun _ a => ⟨a.1.1, ⟨a.1.2.1, ⟨a.1.2.2.1, a.1.2.2.2.1⟩⟩⟩))⟩, ⟨BH (Kd.AO (vI (q := l) (Kd.AO Y.out (fun d a => (⟨a, a.1.2.2.2.2.1⟩ : _ ∧ d ≠ l))) (fun _ a => a.2)) (fun _ a => ⟨a.1.1.1, ⟨a.1.2, ⟨a.1.1.2.2.1, ⟨a.1.1.2.2.2.1, a.1.1.2.2.2.2.1⟩⟩⟩⟩))⟩, ⟨BH (Kd.AO (vI (q := l) (Kd.AO m.out (fun d a => (⟨a, a.1.2.2.2.2.1⟩ : _ ∧ d ≠ l))) (fun _ a => a.2)) (fun _ a => ⟨a.1.1.1, ⟨a.1.2, ⟨a.1.1.2.2.1, ⟨a.1.1.2.2.2.1, a.1.1.2.2.2.2.1⟩⟩⟩⟩))⟩, ⟨BH (Kd.AO (vI (q := l) (Kd.AO p.out (fun d a => (⟨a, a.1.2.2.2.2.1⟩ : _ ∧ d ≠ l))) (fun _ a => a.2)) (fun _ a => ⟨a.1.1.1, ⟨a.1.2, ⟨a.1.1.2.2.1, ⟨a.1.1.2.2.2.1, a.1.1.2.2.2.2.1⟩⟩⟩⟩))⟩, ⟨BH (Kd.AO (vI (q := l) (Kd.AO r.out (fun d a => (⟨a, a.1.2.2.2.2.1⟩ : _ ∧ d ≠ l))) (fun _ a => a.2)) (fun _ a => ⟨a.1.1.1, ⟨a.1.2, ⟨a.1.1.2.2.1, ⟨a.1.1.2.2.2.1, a.1.1.2.2.2.2.1⟩⟩⟩⟩))⟩, ⟨BH (Kd.AO (vI (q := l) (Kd.AO I.out (fun d a => (⟨a, a.1.2.2.2.2.1⟩ : _ ∧ d ≠ l))) (fun _ a => a.2)) (fun _ a => ⟨a.1.1.1, ⟨a.1.2, ⟨a.1.1.2.2.1, ⟨a.1.1.2.2.2.1, a.1.1.2.2.2.2.1⟩⟩⟩⟩))⟩, ⟨BH (Kd.AO (vI (q := l) (Kd.AO G.out (fun d a => (⟨a, a.1.2.2.2.2.1⟩ : _ ∧ d ≠ l))) (fun _ a => a.2)) (fun _ a => ⟨a.1.1.1, ⟨a.1.2, ⟨a.1.1.2.2.1, ⟨a.1.1.2.2.2.1, a.1.1.2.2.2.2.1⟩⟩⟩⟩))⟩, ⟨bF sC u⟩, ⟨bF tC x⟩, ⟨pB L⟩, ⟨be4 HB D J dB hB⟩⟩
end Go.Proofs.Ytojankgmedccdaa.PGn
