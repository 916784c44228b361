/- Lemmas for LawDriversGives. -/
import Derived.Test.YtojankgmedccdaaYGPGnF56
namespace Go.Proofs.Ytojankgmedccdaa.PAw
open Go.RowKit Own PTy Hand PIs YtojankgmedccdaaW.PrintWords YtojankgmedccdaaW.PrintLast YtojankgmedccdaaW.PrintMore
attribute [local go_sem] BI BJ Be Bf Ar Au BK BL
set_option linter.unusedVariables false
set_option linter.unusedSimpArgs false
def Bd.l0 : Nat → Int → List (S63) → List (S63) → Int → Int → Int → Int → ByteArray → List ByteArray → List (S26) → Int → Int → List Int → List (S30) → Option ((List (S63)) × Int)
 | 0, _, _, _, _, _, _, _, _, _, _, _, _, _, _ => none
 | k + 1, x3, n, a, p, x38, c, d, e, g, h, i, j, l, m => if x38 < p then (if 0 ≤ x38 then (if x38 < (a.length : Int) then (if ((AA a x38).f0) > x3 then (some (n, 0)) else ((PGn.Cm.f k c d e g h i j l m ((AA a x38).f1.f0) ((AA a x38).f1.f1) ((AA a x38).f1.f2) ((AA a x38).f1.f3)).bind fun o => (if o = true then (none) else ((drivers_copied.f ((AA a x38).f1.f0) ((AA a x38).f1.f1) ((AA a x38).f1.f2) ((AA a x38).f1.f3)).bind fun b => (if n.length < 1954687338268 then (Bd.l0 k x3 (n ++ [(⟨(AA a x38).f0, (⟨b.1, b.2.1, b.2.2.1, b.2.2.2⟩ : S30)⟩ : S63)]) a p (wrap64 (x38 + 1)) c d e g h ((AA a x38).f1.f0) ((AA a x38).f1.f1) ((AA a x38).f1.f2) ((AA a x38).f1.f3)) else (none)))))) else (none)) else (none)) else (some (n, 0))
def Bd.f (k : Nat) (g : Int) (h : Int) (i : ByteArray) (j : List ByteArray) (l : List (S26)) (b : Int) (c : Int) (d : List Int) (e : List (S30)) (a : List (S63)) (n : Int) (a3 : Int) : Option ((List (S63)) × Int) := (Aq.f k g h i j l b c d e a).bind fun t194 => (if t194 = true then (if (mn n a3) < 0 then (none) else (if (mx n a3) > 2000000 then (none) else ((drivers_behind.f b c d e a n).bind fun m => (if m = true then (some (([] : List (S63)), 5)) else (Bd.l0 k a3 ([] : List (S63)) a (a.length : Int) 0 g h i j l b c d e))))) else (none))
def Bd.T12 : Bool × List (List Nat × List Nat) := (true, [([], []), ([], []), ([1], [1]), ([], []), ([3], [3]), ([4], [4]), ([2, 5], [2, 5]), ([6], [6]), ([0, 7, 5], [0, 7]), ([8, 8, 0, 1, 2, 3, 4, 5, 6, 7, 8], [0, 8])])
def Bd.B12 : List Nat := [0, 0, 2, 0, 8, 24, 62, 126, 255, 511]
theorem Bd.Pk : Ct .any (opsOf Try.f33 12) = Bd.T12 := by kernel_rfl
theorem Bd.O1 : CW Bd.T12.2 Bd.B12 = true := by kernel_rfl
set_option maxHeartbeats 8000000 in
set_option maxRecDepth 100000 in
theorem Bd.calls (k : Nat) (aC : Int) (bC : Int) (cC : ByteArray) (qD : Option Addr) (tD : Nat) (wB : List ByteArray) (rD : Option Addr) (uD : Nat) (xB : List (S26)) (dC : Int) (eC : Int) (I : Nat → Prop) (wC : Option Addr) (yC : Nat) (jB : List Int) (J : Nat → Prop) (xC : Option Addr) (zC : Nat) (kB : List (S30)) (L : Nat → Prop) (sD : Option Addr) (aD : Nat) (j : List (S63)) (a2 : Int) (a3 : Int) (r1 : List (S63)) (r2 : Int) (w : World) (hG : D8 w) (aG : Kd.C Kd.string w qD wB.length wB) (yF : wB.length ≤ tD) (bG : Kd.C k26 w rD xB.length xB) (zF : xB.length ≤ uD) (dH : Kd.V (Kd.int .u8) 73 w w.heap.size (fun a => I a) (.slice wC jB.length yC) jB) (eH : Kd.V k30 30 w w.heap.size (fun a => J a) (.slice xC kB.length zC) kB) (fH : Kd.V k63 63 w w.heap.size (fun a => L a) (.slice sD j.length aD) j) (h : Bd.f k aC bC cC wB xB dC eC jB kB j a2 a3 = some (r1, r2)) :
  Calls Try.prog 33 #[.agg #[.int .i64 aC, .int .i64 bC, .string cC, .slice qD wB.length tD, .slice rD xB.length uD], .agg #[.int .i64 dC, .int .i64 eC, .slice wC jB.length yC, .slice xC kB.length zC, .slice sD j.length aD], .int .i64 a2, .int .i64 a3] w fun e w' => ∃ rH : Value, e = .returned (.tuple #[rH, .int .i64 r2]) ∧ Kd.N k63 63 w' w.heap.size (fun a => ((I a ∨ J a ∨ L a) ∨ w.heap.size ≤ a)) rH r1 ∧ Below w.heap.size w w' := by
 have HG := mk0 hG; clear hG
 have kJ := Try.underlying26
 have mJ := Try.underlying33
 have lJ := Try.underlying30
 have nJ := Try.underlying63
 have oF := mk0 aG; have lF := mk0 yF; clear aG yF; have pF := mk0 bG; have mF := mk0 zF; clear bG zF
 have Y := mk0 (show Kd.V (Kd.int .u8) 73 w w.heap.size (fun a => ((I a ∨ J a ∨ L a) ∨ w.heap.size ≤ a)) (.slice wC jB.length yC) jB from Kd.AL dH (fun a b => .inl (.inl b)))
 have Z := mk0 (show Kd.V k30 30 w w.heap.size (fun a => ((I a ∨ J a ∨ L a) ∨ w.heap.size ≤ a)) (.slice xC kB.length zC) kB from Kd.AL eH (fun a b => .inl (.inr (.inl b))))
 have bB := mk0 (show Kd.V k63 63 w w.heap.size (fun a => ((I a ∨ J a ∨ L a) ∨ w.heap.size ≤ a)) (.slice sD j.length aD) j from Kd.AL fH (fun a b => .inl (.inr (.inr b))))
 have HB := mk0 (Below.refl w.heap.size w)
 have H := h; unfold Bd.f at H
 clear h
 replace H := bS H; obtain ⟨t194, A5, H⟩ := H
 replace H := iB' H; obtain ⟨rfl, H⟩ | ⟨rfl, H⟩ := H
 ·exact absurd H (by simp)
 obtain ⟨kG, eE⟩ : ∃ j_ : Int, (mn a2 a3) = j_ := ⟨_, rfl⟩
 replace H : (if (kG) < 0 then (none) else (if (mx a2 a3) > 2000000 then (none) else ((drivers_behind.f dC eC jB kB j a2).bind fun sF => (if sF = true then (some (([] : List (S63)), 5)) else (Bd.l0 k a3 ([] : List (S63)) j (j.length : Int) 0 aC bC cC wB xB dC eC jB kB))))) = some (r1, r2) := by first | (rw [eE] at H; exact H) | (simp only [eE] at H ⊢; exact H)
 (try rw [eE] at A5)
 have aI : (if a3 < a2 then a3 else a2) = kG := eE
 by_cases c8 : (kG) < 0
 ·rw [if_pos c8] at H
  exact absurd H (by simp)
 rw [if_neg c8] at H; have mH : decide ((kG) < 0) = false := decide_eq_false c8; clear c8
 obtain ⟨lG, fE⟩ : ∃ j_ : Int, (mx a2 a3) = j_ := ⟨_, rfl⟩
 replace H : (if (lG) > 2000000 then (none) else ((drivers_behind.f dC eC jB kB j a2).bind fun sF => (if sF = true then (some (([] : List (S63)), 5)) else (Bd.l0 k a3 ([] : List (S63)) j (j.length : Int) 0 aC bC cC wB xB dC eC jB kB)))) = some (r1, r2) := by first | (rw [fE] at H; exact H) | (simp only [fE] at H ⊢; exact H)
 (try rw [fE] at A5)
 have bI : (if a2 < a3 then a3 else a2) = lG := fE
 by_cases c10 : (lG) > 2000000
 ·rw [if_pos c10] at H
  exact absurd H (by simp)
 rw [if_neg c10] at H; have xG : decide (2000000 < (lG)) = false := decide_eq_false c10; clear c10
 replace H := bS H; obtain ⟨sF, iH, H⟩ := H
 replace H := iB H; obtain ⟨rfl, H⟩ | ⟨rfl, H⟩ := H
 ·simp only [Option.some.injEq, Prod.mk.injEq] at H
  obtain ⟨rfl, rfl⟩ := H
  go_enter Try.func33, Try.ntmps33
  go_wp2_with (first | ((with_reducible refine AP rfl (N := 4) rfl (cs := #[.int .i64 aC, .int .i64 bC, .string cC, .slice qD wB.length tD, .slice rD xB.length uD]) (t := 26) ?hr ?_); (case hr => first | (go_simp; done) | (go_simp; rfl)); intro O hg xJ sB hb; obtain ⟨Y, Z, bB⟩ := tg3 hg hb Y Z bB; have m := mk0 (sB); have D := bs (be HB) hg; replace HB := kh HB hb; clear hb sB hg) | ((with_reducible refine AP rfl (N := 5) rfl (cs := #[.int .i64 dC, .int .i64 eC, .slice wC jB.length yC, .slice xC kB.length zC, .slice sD j.length aD]) (t := 33) ?hr ?_); (case hr => first | (go_simp; done) | (go_simp; rfl)); intro T hg yJ sB hb; obtain ⟨Y, Z, bB⟩ := tg3 hg hb Y Z bB; have r := mk0 (sB); have W := bs (be1 HB D) hg; replace HB := kh1 HB D hb; have ⟨oC, rC⟩ := nn m hg; replace m := kb m hb; clear hb sB hg; have ⟨cI, qI⟩ := no oC rC; have nK := cells5 m.out; have z17 := cells5 r.out) | ((with_reducible refine AR (f := 19) rfl ?_); refine CO Try.func19 (Aq.calls k aC bC cC _ _ wB _ _ xB dC eC _ _ jB _ _ kB _ _ j true _ (AZ HG.out (be2 HB D W)) (cu oF HB) lF.out (cu pF HB) mF.out (Cg (Kd.AO Y.out).2.2) ((Kd.AO Y.out).2.1) (Cg (Kd.AO Z.out).2.2) ((Kd.AO Z.out).2.1) (Cg (Kd.AO bB.out).2.2) ((Kd.AO bB.out).2.1) A5.out) ?_; intro zJ hb; replace Y := vb Y hb; replace Z := vb Z hb; replace bB := vb bB hb; obtain ⟨m, r⟩ := tb2 hb m r; replace HB := kh2 HB D W hb; have oK := cells5 r.out) | ((with_reducible refine AR (f := 50) rfl ?_); refine CO Try.func50 (drivers_behind.calls (Cg (Kd.AO Y.out).2.2) ((Kd.AO Y.out).2.1) (Cg (Kd.AO Z.out).2.2) ((Kd.AO Z.out).2.1) (Cg (Kd.AO bB.out).2.2) ((Kd.AO bB.out).2.1) iH.out) ?_; intro aK hb; replace Y := vb Y hb; replace Z := vb Z hb; replace bB := vb bB hb; obtain ⟨m, r⟩ := tb2 hb m r; replace HB := kh2 HB D W hb))
  go_ret2
  exact ⟨_, by first | rfl | (simp [CQ, CR] <;> rfl) | (simp only [← eE, ← fE]; first | rfl | (simp [CQ, CR] <;> rfl)) | (simp [*, CQ, CR] <;> rfl), by first | exact Kd.Di _ _ _ _ _ | exact Kd.Dx _ _ _ _ _ | exact Kd.DT _ _ _ _ _ | exact Kd.Du _ _ _ _ _ | exact Kd.Dw _ _ _ _ _, be2 HB D W⟩
 have H' := mk0 H
 clear H
 go_enter Try.func33, Try.ntmps33
 go_wp2_with (first | ((with_reducible refine AP rfl (N := 4) rfl (cs := #[.int .i64 aC, .int .i64 bC, .string cC, .slice qD wB.length tD, .slice rD xB.length uD]) (t := 26) ?hr ?_); (case hr => first | (go_simp; done) | (go_simp; rfl)); intro O hg bK sB hb; obtain ⟨Y, Z, bB⟩ := tg3 hg hb Y Z bB; have m := mk0 (sB); have D := bs (be HB) hg; replace HB := kh HB hb; clear hb sB hg) | ((with_reducible refine AP rfl (N := 5) rfl (cs := #[.int .i64 dC, .int .i64 eC, .slice wC jB.length yC, .slice xC kB.length zC, .slice sD j.length aD]) (t := 33) ?hr ?_); (case hr => first | (go_simp; done) | (go_simp; rfl)); intro T hg cK sB hb; obtain ⟨Y, Z, bB⟩ := tg3 hg hb Y Z bB; have r := mk0 (sB); have W := bs (be1 HB D) hg; replace HB := kh1 HB D hb; have ⟨oC, rC⟩ := nn m hg; replace m := kb m hb; clear hb sB hg; have ⟨dI, tI⟩ := no oC rC; have z24 := cells5 m.out; have z25 := cells5 r.out) | ((with_reducible refine AR (f := 19) rfl ?_); refine CO Try.func19 (Aq.calls k aC bC cC _ _ wB _ _ xB dC eC _ _ jB _ _ kB _ _ j true _ (AZ HG.out (be2 HB D W)) (cu oF HB) lF.out (cu pF HB) mF.out (Cg (Kd.AO Y.out).2.2) ((Kd.AO Y.out).2.1) (Cg (Kd.AO Z.out).2.2) ((Kd.AO Z.out).2.1) (Cg (Kd.AO bB.out).2.2) ((Kd.AO bB.out).2.1) A5.out) ?_; intro dK hb; replace Y := vb Y hb; replace Z := vb Z hb; replace bB := vb bB hb; obtain ⟨m, r⟩ := tb2 hb m r; replace HB := kh2 HB D W hb; have z27 := cells5 r.out) | ((with_reducible refine AR (f := 50) rfl ?_); refine CO Try.func50 (drivers_behind.calls (Cg (Kd.AO Y.out).2.2) ((Kd.AO Y.out).2.1) (Cg (Kd.AO Z.out).2.2) ((Kd.AO Z.out).2.1) (Cg (Kd.AO bB.out).2.2) ((Kd.AO bB.out).2.1) iH.out) ?_; intro eK hb; replace Y := vb Y hb; replace Z := vb Z hb; replace bB := vb bB hb; obtain ⟨m, r⟩ := tb2 hb m r; replace HB := kh2 HB D W hb; have z29 := cells5 r.out) | ((with_reducible refine AP rfl (N := 11) rfl (cs := #[.int .i64 0, .int .i64 0, .slice none 0 0, .slice none 0 0]) (t := 30) ?hr ?_); (case hr => first | (go_simp; done) | (go_simp; rfl)); intro l hg fK sB hb; obtain ⟨Y, Z, bB⟩ := tg3 hg hb Y Z bB; have X := mk0 (sB); have gB := bs (be2 HB D W) hg; replace HB := kh2 HB D W hb; have ⟨pC, cE⟩ := nn m hg; have ⟨sC, dE⟩ := nn r hg; obtain ⟨m, r⟩ := tb2 hb m r; clear hb sB hg; have ⟨eI, uI⟩ := no cE pC; have ⟨fI, wI⟩ := no dE sC; have z33 := BN X.out; have z34 := cells5 r.out))
 go_loopg [10, 38] k (fun kq v10 v38 w' => ∃ (fD : List (S63)) (d : Int) (yB : Int) (zB : Int) (mB : List Int) (oB : List (S30)) (u197002 : Value) (u197003 : Value), v38 = .int .i64 d ∧ Aside0 (Bd.l0 kq a3 fD j (j.length : Int) d aC bC cC wB xB yB zB mB oB = some (r1, r2)) ∧ Aside0 (kq ≤ k) ∧ Aside0 (Kd.N k63 63 w' w.heap.size (fun a => ((I a ∨ J a ∨ L a) ∨ w.heap.size ≤ a) ∧ a ≠ O ∧ a ≠ T ∧ a ≠ l) v10 fD) ∧ Aside0 (Kd.V k63 63 w' w.heap.size (fun a => ((I a ∨ J a ∨ L a) ∨ w.heap.size ≤ a) ∧ some a ≠ (v10 : Value).ownBlock ∧ a ≠ O ∧ a ≠ T ∧ a ≠ l) (.slice sD j.length aD) j) ∧ Aside0 (Kd.V (Kd.int .u8) 73 w' w.heap.size (fun a => ((I a ∨ J a ∨ L a) ∨ w.heap.size ≤ a) ∧ some a ≠ (v10 : Value).ownBlock ∧ a ≠ O ∧ a ≠ T ∧ a ≠ l) (.slice wC jB.length yC) jB) ∧ Aside0 (Kd.V k30 30 w' w.heap.size (fun a => ((I a ∨ J a ∨ L a) ∨ w.heap.size ≤ a) ∧ some a ≠ (v10 : Value).ownBlock ∧ a ≠ O ∧ a ≠ T ∧ a ≠ l) (.slice xC kB.length zC) kB) ∧ Aside0 (Kd.V k63 63 w' w.heap.size (fun a => ((I a ∨ J a ∨ L a) ∨ w.heap.size ≤ a) ∧ some a ≠ (v10 : Value).ownBlock ∧ a ≠ O ∧ a ≠ T ∧ a ≠ l) (.slice sD j.length aD) j) ∧ Aside0 (Kd.V (Kd.int .u8) 73 w' w.heap.size (fun a => ((I a ∨ J a ∨ L a) ∨ w.heap.size ≤ a) ∧ some a ≠ (v10 : Value).ownBlock ∧ a ≠ O ∧ a ≠ T ∧ a ≠ l) u197002 mB) ∧ Aside0 (Kd.V k30 30 w' w.heap.size (fun a => ((I a ∨ J a ∨ L a) ∨ w.heap.size ≤ a) ∧ some a ≠ (v10 : Value).ownBlock ∧ a ≠ O ∧ a ≠ T ∧ a ≠ l) u197003 oB) ∧ Aside0 (w'.heap[O]? = some (.cells #[.int .i64 aC, .int .i64 bC, .string cC, (.slice qD wB.length tD), (.slice rD xB.length uD)] 26 (0, 0))) ∧ Aside0 (w'.heap[T]? = some (.cells #[.int .i64 dC, .int .i64 eC, (.slice wC jB.length yC), (.slice xC kB.length zC), (.slice sD j.length aD)] 33 (0, 0))) ∧ Aside0 (w'.heap[l]? = some (.cells #[.int .i64 yB, .int .i64 zB, u197002, u197003] 30 (0, 0))) ∧ Aside0 (Below w.heap.size w w'))
 case atStart => exact ⟨(([] : List (S63))), (0), (dC), (eC), (jB), (kB), (.slice wC jB.length yC), (.slice xC kB.length zC), rfl, H', ⟨Nat.le_refl _⟩, ⟨by first | exact Kd.Di _ _ _ _ _ | exact Kd.Dx _ _ _ _ _ | exact Kd.DT _ _ _ _ _ | exact Kd.Du _ _ _ _ _ | exact Kd.Dw _ _ _ _ _⟩, ⟨BO (Kd.AL (vI (q := l) (Kd.AL bB.out (fun a b => (⟨b, b.2⟩ : _ ∧ a ≠ l))) (fun _ b => b.2)) (fun _ b => ⟨b.1.1.1.1, ⟨(by simp [Value.ownBlock]), ⟨b.1.1.1.2, ⟨b.1.1.2, b.1.2⟩⟩⟩⟩))⟩, ⟨BO (Kd.AL (vI (q := l) (Kd.AL Y.out (fun a b => (⟨b, b.2⟩ : _ ∧ a ≠ l))) (fun _ b => b.2)) (fun _ b => ⟨b.1.1.1.1, ⟨(by simp [Value.ownBlock]), ⟨b.1.1.1.2, ⟨b.1.1.2, b.1.2⟩⟩⟩⟩))⟩, ⟨BO (Kd.AL (vI (q := l) (Kd.AL Z.out (fun a b => (⟨b, b.2⟩ : _ ∧ a ≠ l))) (fun _ b => b.2)) (fun _ b => ⟨b.1.1.1.1, ⟨(by simp [Value.ownBlock]), ⟨b.1.1.1.2, ⟨b.1.1.2, b.1.2⟩⟩⟩⟩))⟩, ⟨BO (Kd.AL (vI (q := l) (Kd.AL bB.out (fun a b => (⟨b, b.2⟩ : _ ∧ a ≠ l))) (fun _ b => b.2)) (fun _ b => ⟨b.1.1.1.1, ⟨(by simp [Value.ownBlock]), ⟨b.1.1.1.2, ⟨b.1.1.2, b.1.2⟩⟩⟩⟩))⟩, ⟨BO (Kd.AL (vI (q := l) (Kd.AL Y.out (fun a b => (⟨b, b.2⟩ : _ ∧ a ≠ l))) (fun _ b => b.2)) (fun _ b => ⟨b.1.1.1.1, ⟨(by simp [Value.ownBlock]), ⟨b.1.1.1.2, ⟨b.1.1.2, b.1.2⟩⟩⟩⟩))⟩, ⟨BO (Kd.AL (vI (q := l) (Kd.AL Z.out (fun a b => (⟨b, b.2⟩ : _ ∧ a ≠ l))) (fun _ b => b.2)) (fun _ b => ⟨b.1.1.1.1, ⟨(by simp [Value.ownBlock]), ⟨b.1.1.1.2, ⟨b.1.1.2, b.1.2⟩⟩⟩⟩))⟩, ⟨bF pC m⟩, ⟨bF sC r⟩, ⟨pB X⟩, ⟨be3 HB D W gB⟩⟩
 case round =>
  clear H'
  try clear c8; try clear mH; try clear c10; try clear xG
  obtain ⟨fD, d, yB, zB, mB, oB, u197002, u197003, rfl, HA, kH, cB, eB, y, z, B, u, x, m, r, X, HB⟩ := hrel
  cases gk with
  | zero => exact absurd HA.out (by simp [Bd.l0])
  | succ k1 =>
   have H := HA.out; clear HA
   simp only [Bd.l0] at H
   replace H := iD' H; obtain ⟨-, yG, H⟩ | ⟨-, yG, H⟩ := H
   ·simp only [Option.some.injEq, Prod.mk.injEq] at H
    obtain ⟨rfl, rfl⟩ := H
    go_wp2
    go_ret2
    exact ⟨_, by first | rfl | (simp [CQ, CR] <;> rfl) | (simp only [← eE, ← fE]; first | rfl | (simp [CQ, CR] <;> rfl)) | (simp [*, CQ, CR] <;> rfl), by exact DL (Kd.Av cB.out (fun _ b => b.1)), be3 HB D W gB⟩
   replace H := iN H; obtain ⟨-, yH, H⟩ := H
   replace H := iN H; obtain ⟨-, zH, H⟩ := H
   by_cases c38 : ((AA j d).f0) > a3
   ·rw [if_pos c38] at H
    have zG : decide (a3 < ((AA j d).f0)) = true := decide_eq_true c38; clear c38
    simp only [Option.some.injEq, Prod.mk.injEq] at H
    obtain ⟨rfl, rfl⟩ := H
    have mD : 0 ≤ (d : Int) := od
    have nD : d < (j.length : Int) := od
    obtain ⟨pE, jC, lC, kC, mC, xF, cG, dG, eG, kE, lE, dD, bD, eD, cD⟩ := DV (Kd.AO eB.out).2.2 d mD nD
    cases xF
    obtain ⟨aH, rE, qE, vC⟩ := Kd.FQ eB.out z63 d mD (by first | exact nD | exact of_decide_eq_true (by assumption) | (have e_ := (Kd.AO eB.out).1; omega))
    obtain ⟨fG, iG, gG, jG, rfl, hC, fC, iC, gC⟩ := DX qE
    have tB := vC 3 _ rfl
    rw [BZ _ _ 3 (by omega)] at tB
    replace tB := Option.some.inj (tB.symm.trans kE)
    injection tB with hva_ hvn_ hvc_
    rw [hva_] at fC
    rw [hvc_] at hC
    have U := mk0 (show Kd.V (Kd.int .u8) 73 _ w.heap.size _ _ ((AA j d).f1.f2) from Kd.C8 hC fC)
    clear hva_ hvn_ hvc_ fC hC
    have uB := vC 4 _ rfl
    rw [BZ _ _ 4 (by omega)] at uB
    replace uB := Option.some.inj (uB.symm.trans lE)
    injection uB with hva_ hvn_ hvc_
    rw [hva_] at gC
    rw [hvc_] at iC
    have G := mk0 (show Kd.V k30 30 _ w.heap.size _ _ ((AA j d).f1.f3) from Kd.C8 iC gC)
    clear hva_ hvn_ hvc_ gC iC; clear vC rE; have fB := mk0 bD; have aE := mk0 dD; clear bD dD; have hB := mk0 cD; have sE := mk0 eD; clear cD eD; replace mD := eq_true mD; replace nD := eq_true nD
    go_wp2_with ((with_reducible refine AP rfl (N := 13) rfl (cs := #[.int .i64 0, .int .i64 0, .int .i64 0, .slice none 0 0, .slice none 0 0]) (t := 63) ?hr ?_); (case hr => first | (go_simp; done) | (go_simp; rfl)); intro p hg gK sB hb; obtain ⟨cB, eB, y, z, B, u, x, U, G⟩ := tg9 hg hb cB eB y z B u x U G; obtain ⟨fB, hB⟩ := tb2 hb fB hB; have s := mk0 (sB); have lB := bs (be3 HB D W gB) hg; replace HB := kh3 HB D W gB hb; have ⟨qC, jD⟩ := nn m hg; have ⟨tC, kD⟩ := nn r hg; have ⟨uC, lD⟩ := nn X hg; obtain ⟨m, r, X⟩ := tb3 hb m r X; clear hb sB hg; have ⟨gI, xI⟩ := no jD qC; have ⟨hI, yI⟩ := no kD tC; have ⟨iI, zI⟩ := no lD uC; have z43 := cells5 s.out)
    go_ret2
    exact ⟨_, by first | rfl | (simp [CQ, CR] <;> rfl) | (simp only [← eE, ← fE]; first | rfl | (simp [CQ, CR] <;> rfl)) | (simp [*, CQ, CR] <;> rfl), by exact DL (Kd.Av (nI (q := p) (Kd.Av cB.out (fun a b => (⟨b, b.2⟩ : _ ∧ a ≠ p))) (fun _ b => b.2)) (fun _ b => b.1.1.1)), be4 HB D W gB lB⟩
   rw [if_neg c38] at H; have zG : decide (a3 < ((AA j d).f0)) = false := decide_eq_false c38; clear c38
   replace H := bS H; obtain ⟨pJ, uH, H⟩ := H
   replace H := iB H; obtain ⟨rfl, H⟩ | ⟨rfl, H⟩ := H
   ·exact absurd H (by simp)
   replace H := Option.bind_eq_some_iff.mp H
   obtain ⟨⟨hF, t201, nC, jF⟩, mG, H⟩ := H
   replace H : (if fD.length < 1954687338268 then (Bd.l0 k1 a3 (fD ++ [(⟨(AA j d).f0, (⟨hF, t201, nC, jF⟩ : S30)⟩ : S63)]) j (j.length : Int) (wrap64 (d + 1)) aC bC cC wB xB ((AA j d).f1.f0) ((AA j d).f1.f1) ((AA j d).f1.f2) ((AA j d).f1.f3)) else (none)) = some (r1, r2) := H
   have vH := mk0 mG; clear mG
   by_cases c47 : fD.length < 1954687338268
   rotate_left
   ·rw [if_neg c47] at H
    exact absurd H (by simp)
   rw [if_pos c47] at H; have vG := mk0 c47; clear c47
   obtain ⟨sG, mE⟩ : ∃ y_ : List (S63), y_ = (fD ++ [(⟨(AA j d).f0, (⟨hF, t201, nC, jF⟩ : S30)⟩ : S63)]) := ⟨_, rfl⟩
   replace H : (Bd.l0 k1 a3 sG j (j.length : Int) (wrap64 (d + 1)) aC bC cC wB xB ((AA j d).f1.f0) ((AA j d).f1.f1) ((AA j d).f1.f2) ((AA j d).f1.f3)) = some (r1, r2) := by first | (rw [mE]; with_reducible exact H) | (have tG := (Option.bind_some _ _).symm.trans H; rw [mE]; with_reducible exact tG) | (have tG := (Option.bind_some _ _).symm.trans H; with_reducible exact tG) | with_reducible exact H | (rw [mE]; exact H) | exact H
   have wG := mk0 mE; clear mE
   have H' := mk0 H
   clear H
   have mD : 0 ≤ (d : Int) := od
   have nD : d < (j.length : Int) := od
   obtain ⟨pE, jC, lC, kC, mC, xF, cG, dG, eG, kE, lE, dD, bD, eD, cD⟩ := DV (Kd.AO eB.out).2.2 d mD nD
   cases xF
   obtain ⟨aH, rE, qE, vC⟩ := Kd.FQ eB.out z63 d mD (by first | exact nD | exact of_decide_eq_true (by assumption) | (have e_ := (Kd.AO eB.out).1; omega))
   obtain ⟨fG, iG, gG, jG, rfl, hC, fC, iC, gC⟩ := DX qE
   have tB := vC 3 _ rfl
   rw [BZ _ _ 3 (by omega)] at tB
   replace tB := Option.some.inj (tB.symm.trans kE)
   injection tB with hva_ hvn_ hvc_
   rw [hva_] at fC
   rw [hvc_] at hC
   have U := mk0 (show Kd.V (Kd.int .u8) 73 _ w.heap.size _ _ ((AA j d).f1.f2) from Kd.C8 hC fC)
   clear hva_ hvn_ hvc_ fC hC
   have uB := vC 4 _ rfl
   rw [BZ _ _ 4 (by omega)] at uB
   replace uB := Option.some.inj (uB.symm.trans lE)
   injection uB with hva_ hvn_ hvc_
   rw [hva_] at gC
   rw [hvc_] at iC
   have G := mk0 (show Kd.V k30 30 _ w.heap.size _ _ ((AA j d).f1.f3) from Kd.C8 iC gC)
   clear hva_ hvn_ hvc_ gC iC; clear vC rE; have fB := mk0 bD; have aE := mk0 dD; clear bD dD; have hB := mk0 cD; have sE := mk0 eD; clear cD eD; replace mD := eq_true mD; replace nD := eq_true nD
   try go_wp2_with (first | ((with_reducible refine AP rfl (N := 13) rfl (cs := #[.int .i64 0, .int .i64 0, .int .i64 0, .slice none 0 0, .slice none 0 0]) (t := 63) ?hr ?_); (case hr => first | (go_simp; done) | (go_simp; rfl)); intro p hg iK sB hb; obtain ⟨cB, eB, y, z, B, u, x, U, G⟩ := tg9 hg hb cB eB y z B u x U G; obtain ⟨fB, hB⟩ := tb2 hb fB hB; have s := mk0 (sB); have lB := bs (be3 HB D W gB) hg; replace HB := kh3 HB D W gB hb; have ⟨qC, jD⟩ := nn m hg; have ⟨tC, kD⟩ := nn r hg; have ⟨uC, lD⟩ := nn X hg; obtain ⟨m, r, X⟩ := tb3 hb m r X; clear hb sB hg; have ⟨jI, aJ⟩ := no jD qC; have ⟨kI, bJ⟩ := no kD tC; have ⟨lI, cJ⟩ := no lD uC; have z52 := cells5 s.out; have ⟨mI, dJ⟩ := no oC rC; have ⟨oI, eJ⟩ := no pC cE; have z55 := cells5 m.out; have ⟨pI, fJ⟩ := no dE sC; have z57 := BN X.out; obtain ⟨tF, qF, oH⟩ := Kd.Bu u.out; subst oH; obtain ⟨uF, rF, pH⟩ := Kd.Bu x.out; subst pH) | (go_at_call 56; (with_reducible refine (PGn.Cm.calls ?side13 ?side1 ?side2 ?side3 ?side4 ?side5 ?side6 ?side7 ?side8 ?side9 ?side10 ?side11 ?side12 uH.out).mono ?_); (case side1 => exact Kd.BR oF.out (be4 HB D W gB lB)); (case side2 => exact lF.out); (case side3 => exact Kd.BR pF.out (be4 HB D W gB lB)); (case side4 => exact mF.out); (case side5 => refine (Kd.AO (e := 73) (base := w.heap.size) (ok := fun a => ((((I a ∨ J a ∨ L a) ∨ w.heap.size ≤ a) ∧ (some a ≠ (u10 : Value).ownBlock ∧ (a ≠ O ∧ (a ≠ T ∧ a ≠ l)))) ∧ a ≠ p)) (n := mB.length) (c := qF) ?_).2.2; exact (BO ((vF (q := p) u (fun _ b => b.2))))); (case side6 => exact (Kd.AO u.out).2.1); (case side7 => refine (Kd.AO (e := 30) (base := w.heap.size) (ok := fun a => ((((I a ∨ J a ∨ L a) ∨ w.heap.size ≤ a) ∧ (some a ≠ (u10 : Value).ownBlock ∧ (a ≠ O ∧ (a ≠ T ∧ a ≠ l)))) ∧ a ≠ p)) (n := oB.length) (c := rF) ?_).2.2; exact (BO ((vF (q := p) x (fun _ b => b.2))))); (case side8 => exact (Kd.AO x.out).2.1); (case side9 => exact ((Kd.AO (by exact BO ((vF (q := p) U (fun _ b => b.2))))).2.2)); (case side10 => exact aE.out); (case side11 => exact ((Kd.AO (by exact BO ((vF (q := p) G (fun _ b => b.2))))).2.2)); (case side12 => exact sE.out); (case side13 => exact AZ HG.out (be4 HB D W gB lB)); rintro e iJ ⟨rfl, hb⟩; replace cB := mk0 (Kd.D7 (DL ((nF (q := p) cB (fun _ b => b.2)))) hb); replace eB := mk0 (Kd.Bw (BO ((vF (q := p) eB (fun _ b => b.2)))) hb); replace y := mk0 (Kd.Bw (BO ((vF (q := p) y (fun _ b => b.2)))) hb); replace z := mk0 (Kd.Bw (BO ((vF (q := p) z (fun _ b => b.2)))) hb); replace B := mk0 (Kd.Bw (BO ((vF (q := p) B (fun _ b => b.2)))) hb); replace u := mk0 (Kd.Bw (BO ((vF (q := p) u (fun _ b => b.2)))) hb); replace x := mk0 (Kd.Bw (BO ((vF (q := p) x (fun _ b => b.2)))) hb); replace m := kF qC m hb; replace r := kF tC r hb; replace X := kF uC X hb; replace fB := mk0 (Kd.BR ((Kd.AO (by exact BO ((vF (q := p) U (fun _ b => b.2))))).2.2) hb); replace U := mk0 (Kd.Bw (BO ((vF (q := p) U (fun _ b => b.2)))) hb); replace hB := mk0 (Kd.BR ((Kd.AO (by exact BO ((vF (q := p) G (fun _ b => b.2))))).2.2) hb); replace G := mk0 (Kd.Bw (BO ((vF (q := p) G (fun _ b => b.2)))) hb); replace s := mk0 (Aa (g := p) (o := .cells #[.int .i64 ((AA j d).f0), .int .i64 ((AA j d).f1.f0), .int .i64 ((AA j d).f1.f1), .slice jC ((AA j d).f1.f2).length lC, .slice kC ((AA j d).f1.f3).length mC] 63 (0, 0)) (pB s) hb); replace HB := kh4 HB D W gB lB hb))
   have uE := mk0 (Kd.DR cB.out)
   have wE := mk0 (Kd.BU eB.out)
   have xE := mk0 (Kd.BU y.out)
   have yE := mk0 (Kd.BU z.out)
   have zE := mk0 (Kd.BU B.out)
   have cF := mk0 (Kd.BU u.out)
   have dF := mk0 (Kd.BU x.out)
   have eF := mk0 (Kd.BU U.out)
   have fF := mk0 (Kd.BU G.out)
   have gF := mk0 (AX m.out)
   have vD := mk0 (AX r.out)
   have wD := mk0 (AX X.out)
   have xD := mk0 (AX s.out)
   have yD := mk0 (Kd.Cy fB.out)
   have zD := mk0 (Kd.Cy hB.out)
   have vE := mk0 (Ad HB.out)
   clear cB; clear eB; clear y; clear z; clear B; clear u; clear x; clear U; clear G; clear m; clear r; clear X; clear s; clear fB; clear hB; clear HB; have cB := uE; have eB := wE; have y := xE; have z := yE; have B := zE; have u := cF; have x := dF; have U := eF; have G := fF; have m := gF; have r := vD; have X := wD; have s := xD; have fB := yD; have hB := zD; have HB := vE; clear uE wE xE yE zE cF dF eF fF gF vD wD xD yD zD vE
   refine Cz (n := 10) (S := fun w' => w'.cell? ⟨p, 0, none⟩ = some (.int .i64 ((AA j d).f0)) ∧ w'.cell? ⟨p, 1, none⟩ = some (.int .i64 ((AA j d).f1.f0)) ∧ w'.cell? ⟨p, 2, none⟩ = some (.int .i64 ((AA j d).f1.f1)) ∧ w'.cell? ⟨p, 3, none⟩ = some (.slice jC ((AA j d).f1.f2).length lC) ∧ w'.cell? ⟨p, 4, none⟩ = some (.slice kC ((AA j d).f1.f3).length mC)) (ds := []) (tf 0 10) (by kernel_rfl) rfl rfl ⟨bc s 0, bc s 1, bc s 2, bc s 3, bc s 4⟩ (fun pD => ?_); refine Bz Bd.Pk Bd.O1 (fun bE lH => ?_)
   generalize iJ.drew = jK at cB eB y z B u x U G m r X s fB hB HB pD ⊢
   refine pv 0 52 (tf 1 9) bE ?_
   refine pv 1 53 (tf 2 8) bE ?_
   refine pv 3 55 #[true, true, false, true, false, false, false, false, false, false] bE ?_
   refine Bl (i := 2) (N := some 54) (v := ?_) (a' := ?_) (tf 4 6) rfl rfl (Aj bE.out lH.out (by kernel_rfl)) (fun _ _ _ h => h) (Or.inl ⟨by rfl, ?_⟩) pD ?_ ?_
   rotate_left
   ·rintro w' ⟨s0, s1, s2, s3, s4⟩
    go_simp
    with_reducible rfl
   rotate_left
   ·simp only [ps]
    rfl
   refine Bl (i := 4) (N := some 56) (v := ?_) (a' := ?_) (tf 5 5) rfl rfl (Aj bE.out lH.out (by kernel_rfl)) (fun _ _ _ h => h) (Or.inl ⟨by rfl, ?_⟩) pD ?_ ?_
   rotate_left
   ·rintro w' ⟨s0, s1, s2, s3, s4⟩
    go_simp
    with_reducible rfl
   rotate_left
   ·simp only [ps]
    rfl
   refine DN (i := 5) (N := some 57) (tf 6 4) rfl rfl (Bv bE.out (by kernel_rfl)) (by decide) (fun K hK => ?_)
   refine Cx Try.func51 (by kernel_rfl) rfl #[.agg #[.int .i64 ((AA j d).f1.f0), .int .i64 ((AA j d).f1.f1), .slice jC ((AA j d).f1.f2).length lC, .slice kC ((AA j d).f1.f3).length mC]] (by rfl) rfl rfl (by (try simp only [List.map_toArray, List.map_cons, List.map_nil]); first | done | rfl | (simp only [List.length_drop, List.length_take]; rfl)) ?_
   with_reducible refine (drivers_copied.calls (fun a => ((((I a ∨ J a ∨ L a) ∨ w.heap.size ≤ a) ∧ (some a ≠ (u10 : Value).ownBlock ∧ (a ≠ O ∧ (a ≠ T ∧ a ≠ l)))) ∧ a ≠ p)) ?side1 ?side2 ?side3 vH.out).mono ?_
   (case side1 => repeat (first | exact (by repeat (first | (with_reducible exact fB.out) | (with_reducible refine Kd.Ch ?_ _) | (with_reducible refine Kd.Ci ?_ _) | (with_reducible refine Kd.Cy ?_) | exact fB.out)) | (with_reducible refine Kd.Ch ?_ _) | (with_reducible refine Kd.Ci ?_ _) | (with_reducible refine Kd.Cy ?_)))
   (case side2 => exact aE.out)
   (case side3 => exact G.out)
   rintro e kK ⟨v203, v206, rfl, hE, qH, hb⟩
   refine ⟨_, rfl, ?_⟩
   have uE := mk0 (Kd.Fz (D9 cB.out) (Kd.BG hE) hb)
   have wE := mk0 (Kd.Az (Bj eB.out) (Kd.BG hE) hb)
   have xE := mk0 (Kd.Az (Bj y.out) (Kd.BG hE) hb)
   have yE := mk0 (Kd.Az (Bj z.out) (Kd.BG hE) hb)
   have zE := mk0 (Kd.Az (Bj B.out) (Kd.BG hE) hb)
   have cF := mk0 (Kd.Az (Bj u.out) (Kd.BG hE) hb)
   have dF := mk0 (Kd.Az (Bj x.out) (Kd.BG hE) hb)
   have eF := mk0 (Kd.Az (Bj U.out) (Kd.BG hE) hb)
   have fF := mk0 (Kd.Az (Bj G.out) (Kd.BG hE) hb)
   have gF := mk0 (Kd.CS (Kd.Dn (M := fun a => (w.heap.size ≤ a)) (Kd.BC (ok' := fun a => True) hE (fun _ tE => trivial)) (AQ (be4 HB D W gB lB)) (fun a h_ => h_)) (AQ (be4 HB D W gB lB)))
   have vD := mk0 (Kd.Dm (Kd.AL (ok' := fun a => ((I a ∨ J a ∨ L a) ∨ w.heap.size ≤ a) ∧ some a ≠ (v203 : Value).ownBlock ∧ some a ≠ (u10 : Value).ownBlock ∧ a ≠ O ∧ a ≠ T ∧ a ≠ l ∧ a ≠ p) qH (fun a tE => ⟨Or.elim tE.1 (fun jE => jE.1.1) (fun gE => (.inr (Nat.le_trans (AQ (be4 HB D W gB lB)) gE))), tE.2, Or.elim tE.1 (fun jE => jE.1.2.1) (fun gE => (Kd.fresh' (Kd.Gy (D9 cB.out)) a gE)), Or.elim tE.1 (fun jE => jE.1.2.2.1) (fun gE => (Kd.Al (g := O) (o := .cells #[.int .i64 aC, .int .i64 bC, .string cC, .slice qD wB.length tD, .slice rD xB.length uD] 26 (0, 0)) (AY m.out) a gE)), Or.elim tE.1 (fun jE => jE.1.2.2.2.1) (fun gE => (Kd.Al (g := T) (o := .cells #[.int .i64 dC, .int .i64 eC, .slice wC jB.length yC, .slice xC kB.length zC, .slice (some pE) j.length aD] 33 (0, 0)) (AY r.out) a gE)), Or.elim tE.1 (fun jE => jE.1.2.2.2.2) (fun gE => (Kd.Al (g := l) (o := .cells #[.int .i64 yB, .int .i64 zB, .slice tF mB.length qF, .slice uF oB.length rF] 30 (0, 0)) (AY X.out) a gE)), Or.elim tE.1 (fun jE => jE.2) (fun gE => (Kd.Al (g := p) (o := .cells #[.int .i64 ((AA j d).f0), .int .i64 ((AA j d).f1.f0), .int .i64 ((AA j d).f1.f1), .slice jC ((AA j d).f1.f2).length lC, .slice kC ((AA j d).f1.f3).length mC] 63 (0, 0)) (AY s.out) a gE))⟩)) (AQ (be4 HB D W gB lB)))
   have wD := kb m hb
   have xD := kb r hb
   have yD := kb X hb
   have zD := cb fB hb
   have vE := cb hB hb
   have qG := kb s hb
   have rG := kh4 HB D W gB lB hb
   clear cB; clear eB; clear y; clear z; clear B; clear u; clear x; clear U; clear G; clear m; clear r; clear X; clear fB; clear hB; clear s; clear HB; have cB := uE; have eB := wE; have y := xE; have z := yE; have B := zE; have u := cF; have x := dF; have U := eF; have G := fF; have oE := gF; have oD := vD; have m := wD; have r := xD; have X := yD; have fB := zD; have hB := vE; have s := qG; have HB := rG; clear uE wE xE yE zE cF dF eF fF gF vD wD xD yD zD vE qG rG
   try clear hb
   try clear b
   try clear hE
   try clear qH
   obtain ⟨jH, nH, nG⟩ := Kd.Bu oD.out
   (first | subst nG | (injection nG with f1_ f2_ f3_; have bH := f1_.symm; have cH := f3_.symm; clear f1_ f2_ f3_; subst bH; subst cH))
   obtain ⟨gD, hD, oG⟩ := Kd.Bn oE.out
   (first | subst oG | (injection oG with f1_ f2_ f3_; have bH := f1_.symm; have cH := f3_.symm; clear f1_ f2_ f3_; subst bH; subst cH))
   refine hK.out _ _ ⟨bc s 0, bc s 1, bc s 2, bc s 3, bc s 4⟩ (fun pD => ?_)
   clear hK K
   refine CJ (a' := ?_) ?_ ?_
   rotate_left
   ·show Act.put _ (some 57) _ = _
    simp only [ps]
    rfl
   refine pv 6 58 (tf 7 3) bE ?_
   refine DN (i := 7) (N := some 59) (tf 8 2) rfl rfl (Bv bE.out (by kernel_rfl)) (by decide) (fun K hK => ?_)
   refine CU (w1 := ?_) (v := ?_) (by rfl) rfl ?_ ?_
   rotate_left 2
   ·go_simp
    constructor
    ·rfl
    ·rfl
   refine hK.out _ _ ⟨(Ai (Ac s.out _) 0).trans rfl, (Ai (Ac s.out _) 1).trans rfl, (Ai (Ac s.out _) 2).trans rfl, (Ai (Ac s.out _) 3).trans rfl, (Ai (Ac s.out _) 4).trans rfl⟩ (fun pD => ?_)
   clear hK K
   refine CJ (a' := ?_) ?_ ?_
   rotate_left
   ·show Act.put _ (some 59) _ = _
    simp only [ps]
    rfl
   refine DN (i := 8) (N := some 60) (tf 9 1) rfl rfl (Bv bE.out (by kernel_rfl)) (by decide) (fun K hK => ?_)
   refine Kd.E5 k63 (w0 := w) w.heap.size (by rfl) (.tmp 52) (.tmp 59) 31 63 (.agg #[(.int .i64 0), (.int .i64 0), (.int .i64 0), (.slice none 0 0), (.slice none 0 0)]) 72 rfl Try.underlying31 E9 rfl (by decide) (by omega) u10 fD (⟨(AA j d).f0, (⟨hF, t201, nC, jF⟩ : S30)⟩ : S63) [.int .i64 ((AA j d).f0), .int .i64 hF, .int .i64 t201, .slice gD nC.length hD, .slice jH jF.length nH] (fun a => ((I a ∨ J a ∨ L a) ∨ w.heap.size ≤ a) ∧ a ≠ O ∧ a ≠ T ∧ a ≠ l ∧ a ≠ p) (fun a => ((fun a => ((I a ∨ J a ∨ L a) ∨ w.heap.size ≤ a) ∧ a ≠ O ∧ a ≠ T ∧ a ≠ l ∧ a ≠ p)) a ∧ some a ≠ (u10 : Value).ownBlock) rfl rfl ?aP (fun _ b => b) ?aF ?aO ?aB ?aS ?aL ?_
   (case aP => exact (Gp _ _ (⟨(AA j d).f0, (⟨hF, t201, nC, jF⟩ : S30)⟩ : S63) (Kd.C9 (Kd.BC (ok' := (fun a => ((fun a => ((I a ∨ J a ∨ L a) ∨ w.heap.size ≤ a) ∧ a ≠ O ∧ a ≠ T ∧ a ≠ l ∧ a ≠ p)) a ∧ some a ≠ (u10 : Value).ownBlock)) (Kd.Ao (Kd.Ao (Kd.Ao (Kd.Ao (Kd.Ca (oE.out) (Kd.DD cB.out) (by decide)) m.out (by decide)) r.out (by decide)) X.out (by decide)) s.out (by decide)) (fun a b => ⟨⟨(.inr (b.1.1.1.1.1.1)), ⟨b.1.1.1.2, ⟨b.1.1.2, ⟨b.1.2, b.2⟩⟩⟩⟩, b.1.1.1.1.2⟩))).2.1 (Kd.R_F (Kd.BC (ok' := (fun a => ((fun a => ((I a ∨ J a ∨ L a) ∨ w.heap.size ≤ a) ∧ a ≠ O ∧ a ≠ T ∧ a ≠ l ∧ a ≠ p)) a ∧ some a ≠ (u10 : Value).ownBlock)) (Kd.Ao (Kd.Ao (Kd.Ao (Kd.Ao (Kd.Ca (oE.out) (Kd.DD cB.out) (by decide)) m.out (by decide)) r.out (by decide)) X.out (by decide)) s.out (by decide)) (fun a b => ⟨⟨(.inr (b.1.1.1.1.1.1)), ⟨b.1.1.1.2, ⟨b.1.1.2, ⟨b.1.2, b.2⟩⟩⟩⟩, b.1.1.1.1.2⟩))) (Kd.AO (Kd.AL (ok' := (fun a => ((fun a => ((I a ∨ J a ∨ L a) ∨ w.heap.size ≤ a) ∧ a ≠ O ∧ a ≠ T ∧ a ≠ l ∧ a ≠ p)) a ∧ some a ≠ (u10 : Value).ownBlock)) (oD.out) (fun a b => ⟨⟨b.1, ⟨b.2.2.2.1, ⟨b.2.2.2.2.1, ⟨b.2.2.2.2.2.1, b.2.2.2.2.2.2⟩⟩⟩⟩, b.2.2.1⟩))).2.1 (Kd.V_F (Kd.AL (ok' := (fun a => ((fun a => ((I a ∨ J a ∨ L a) ∨ w.heap.size ≤ a) ∧ a ≠ O ∧ a ≠ T ∧ a ≠ l ∧ a ≠ p)) a ∧ some a ≠ (u10 : Value).ownBlock)) (oD.out) (fun a b => ⟨⟨b.1, ⟨b.2.2.2.1, ⟨b.2.2.2.2.1, ⟨b.2.2.2.2.2.1, b.2.2.2.2.2.2⟩⟩⟩⟩, b.2.2.1⟩)))))
   (case aB => exact (be4 HB D W gB lB))
   (case aF => exact (fun a b => ⟨(.inr (Nat.le_trans (AQ (be4 HB D W gB lB)) b)), Kd.Al (g := O) (o := .cells #[.int .i64 aC, .int .i64 bC, .string cC, .slice qD wB.length tD, .slice rD xB.length uD] 26 (0, 0)) (AY m.out) a b, Kd.Al (g := T) (o := .cells #[.int .i64 dC, .int .i64 eC, .slice wC jB.length yC, .slice xC kB.length zC, .slice (some pE) j.length aD] 33 (0, 0)) (AY r.out) a b, Kd.Al (g := l) (o := .cells #[.int .i64 yB, .int .i64 zB, .slice tF mB.length qF, .slice uF oB.length rF] 30 (0, 0)) (AY X.out) a b, Kd.Al (g := p) (o := .cells #[.int .i64 ((AA j d).f0), .int .i64 ((AA j d).f1.f0), .int .i64 ((AA j d).f1.f1), .slice jC ((AA j d).f1.f2).length lC, .slice kC ((AA j d).f1.f3).length mC] 63 (0, 0)) (AY s.out) a b⟩))
   (case aO => exact (DL (Kd.Av cB.out (fun _ b => ⟨b.1.1.1, ⟨b.1.1.2.1, ⟨b.1.1.2.2.1, ⟨b.1.1.2.2.2, b.1.2⟩⟩⟩⟩))))
   (case aS => exact (AQ (be4 HB D W gB lB)))
   (case aL => have := vG.out; omega)
   intro v209 lK ho hb hg nE
   rw [← wG.out] at ho
   have uE := mk0 (Kd.Bt (ok := (fun a => ((I a ∨ J a ∨ L a) ∨ w.heap.size ≤ a) ∧ some a ≠ (.slice gD nC.length hD : Value).ownBlock ∧ a ≠ O ∧ a ≠ T ∧ a ≠ l ∧ a ≠ p)) (BO (Kd.AL eB.out (fun _ b => ⟨⟨b.1.1.1, ⟨b.2, ⟨b.1.1.2.2.1, ⟨b.1.1.2.2.2.1, ⟨b.1.1.2.2.2.2, b.1.2⟩⟩⟩⟩⟩, b.1.1.2.1⟩))) hg nE)
   have wE := mk0 (Kd.Bt (ok := (fun a => ((I a ∨ J a ∨ L a) ∨ w.heap.size ≤ a) ∧ some a ≠ (.slice gD nC.length hD : Value).ownBlock ∧ a ≠ O ∧ a ≠ T ∧ a ≠ l ∧ a ≠ p)) (BO (Kd.AL y.out (fun _ b => ⟨⟨b.1.1.1, ⟨b.2, ⟨b.1.1.2.2.1, ⟨b.1.1.2.2.2.1, ⟨b.1.1.2.2.2.2, b.1.2⟩⟩⟩⟩⟩, b.1.1.2.1⟩))) hg nE)
   have xE := mk0 (Kd.Bt (ok := (fun a => ((I a ∨ J a ∨ L a) ∨ w.heap.size ≤ a) ∧ some a ≠ (.slice gD nC.length hD : Value).ownBlock ∧ a ≠ O ∧ a ≠ T ∧ a ≠ l ∧ a ≠ p)) (BO (Kd.AL z.out (fun _ b => ⟨⟨b.1.1.1, ⟨b.2, ⟨b.1.1.2.2.1, ⟨b.1.1.2.2.2.1, ⟨b.1.1.2.2.2.2, b.1.2⟩⟩⟩⟩⟩, b.1.1.2.1⟩))) hg nE)
   have yE := mk0 (Kd.Bt (ok := (fun a => ((I a ∨ J a ∨ L a) ∨ w.heap.size ≤ a) ∧ some a ≠ (.slice gD nC.length hD : Value).ownBlock ∧ a ≠ O ∧ a ≠ T ∧ a ≠ l ∧ a ≠ p)) (BO (Kd.AL B.out (fun _ b => ⟨⟨b.1.1.1, ⟨b.2, ⟨b.1.1.2.2.1, ⟨b.1.1.2.2.2.1, ⟨b.1.1.2.2.2.2, b.1.2⟩⟩⟩⟩⟩, b.1.1.2.1⟩))) hg nE)
   have zE := mk0 (Kd.Bt (ok := (fun a => ((I a ∨ J a ∨ L a) ∨ w.heap.size ≤ a) ∧ some a ≠ (.slice gD nC.length hD : Value).ownBlock ∧ a ≠ O ∧ a ≠ T ∧ a ≠ l ∧ a ≠ p)) (BO (Kd.AL u.out (fun _ b => ⟨⟨b.1.1.1, ⟨b.2, ⟨b.1.1.2.2.1, ⟨b.1.1.2.2.2.1, ⟨b.1.1.2.2.2.2, b.1.2⟩⟩⟩⟩⟩, b.1.1.2.1⟩))) hg nE)
   have cF := mk0 (Kd.Bt (ok := (fun a => ((I a ∨ J a ∨ L a) ∨ w.heap.size ≤ a) ∧ some a ≠ (.slice gD nC.length hD : Value).ownBlock ∧ a ≠ O ∧ a ≠ T ∧ a ≠ l ∧ a ≠ p)) (BO (Kd.AL x.out (fun _ b => ⟨⟨b.1.1.1, ⟨b.2, ⟨b.1.1.2.2.1, ⟨b.1.1.2.2.2.1, ⟨b.1.1.2.2.2.2, b.1.2⟩⟩⟩⟩⟩, b.1.1.2.1⟩))) hg nE)
   have dF := mk0 (Bg (g := O) (o := .cells #[.int .i64 aC, .int .i64 bC, .string cC, .slice qD wB.length tD, .slice rD xB.length uD] 26 (0, 0)) (AY m.out) hg (Kd.Fx cB.out m.out (by decide)))
   have eF := mk0 (Bg (g := T) (o := .cells #[.int .i64 dC, .int .i64 eC, .slice wC jB.length yC, .slice xC kB.length zC, .slice (some pE) j.length aD] 33 (0, 0)) (AY r.out) hg (Kd.Fx cB.out r.out (by decide)))
   have fF := mk0 (Bg (g := l) (o := .cells #[.int .i64 yB, .int .i64 zB, .slice tF mB.length qF, .slice uF oB.length rF] 30 (0, 0)) (AY X.out) hg (Kd.Fx cB.out X.out (by decide)))
   have gF := mk0 (Kd.Bt (ok := (fun a => ((I a ∨ J a ∨ L a) ∨ w.heap.size ≤ a) ∧ some a ≠ (.slice gD nC.length hD : Value).ownBlock ∧ a ≠ O ∧ a ≠ T ∧ a ≠ l ∧ a ≠ p)) (BO (Kd.AL U.out (fun _ b => ⟨⟨b.1.1.1, ⟨b.2, ⟨b.1.1.2.2.1, ⟨b.1.1.2.2.2.1, ⟨b.1.1.2.2.2.2, b.1.2⟩⟩⟩⟩⟩, b.1.1.2.1⟩))) hg nE)
   have vD := mk0 (Kd.Bt (ok := (fun a => ((I a ∨ J a ∨ L a) ∨ w.heap.size ≤ a) ∧ some a ≠ (.slice gD nC.length hD : Value).ownBlock ∧ a ≠ O ∧ a ≠ T ∧ a ≠ l ∧ a ≠ p)) (BO (Kd.AL G.out (fun _ b => ⟨⟨b.1.1.1, ⟨b.2, ⟨b.1.1.2.2.1, ⟨b.1.1.2.2.2.1, ⟨b.1.1.2.2.2.2, b.1.2⟩⟩⟩⟩⟩, b.1.1.2.1⟩))) hg nE)
   have wD := mk0 (Bg (g := p) (o := .cells #[.int .i64 ((AA j d).f0), .int .i64 ((AA j d).f1.f0), .int .i64 ((AA j d).f1.f1), .slice jC ((AA j d).f1.f2).length lC, .slice kC ((AA j d).f1.f3).length mC] 63 (0, 0)) (AY s.out) hg (Kd.Mj cB.out (fun _ b => b.1.2)))
   have xD := mk0 (Kd.Bt (ok := (fun a => ((I a ∨ J a ∨ L a) ∨ w.heap.size ≤ a) ∧ some a ≠ (.slice gD nC.length hD : Value).ownBlock ∧ a ≠ O ∧ a ≠ T ∧ a ≠ l ∧ a ≠ p)) (BO (Kd.AL oD.out (fun _ b => ⟨⟨b.1, ⟨b.2.1, ⟨b.2.2.2.1, ⟨b.2.2.2.2.1, ⟨b.2.2.2.2.2.1, b.2.2.2.2.2.2⟩⟩⟩⟩⟩, b.2.2.1⟩))) hg nE)
   have yD := mk0 (hb)
   have zD := mk0 (ho)
   clear eB; clear y; clear z; clear B; clear u; clear x; clear m; clear r; clear X; clear U; clear G; clear s; clear oD; clear HB; clear cB; clear oE; have eB := uE; have y := wE; have z := xE; have B := yE; have u := zE; have x := cF; have m := dF; have r := eF; have X := fF; have U := gF; have G := vD; have s := wD; have oD := xD; have HB := yD; have uG := zD; clear uE wE xE yE zE cF dF eF fF gF vD wD xD yD zD; clear ho hb hg nE
   refine hK.out _ _ ⟨bc s 0, bc s 1, bc s 2, bc s 3, bc s 4⟩ (fun pD => ?_)
   clear hK K
   refine CJ (a' := ?_) ?_ ?_
   rotate_left
   ·show Act.put _ (some 60) _ = _
    simp only [ps]
    rfl
   refine pv 9 10 (tf 10 0) bE ?_
   refine Dv (Cu bE.out (by kernel_rfl)) ?_
   have z66 := cells5 s.out
   have z67 := BN X.out
   try go_wp2
   go_roundg k1
   case measure => have := kH.out; omega
   case rel => exact ⟨(sG), (wrap64 (d + 1)), ((AA j d).f1.f0), ((AA j d).f1.f1), ((AA j d).f1.f2), ((AA j d).f1.f3), (.slice jC ((AA j d).f1.f2).length lC), (.slice kC ((AA j d).f1.f3).length mC), rfl, H', ⟨by have := kH.out; omega⟩, ⟨DL (Kd.Av (nI (q := l) (Kd.Av uG.out (fun a b => (⟨b, b.2.2.2.1⟩ : _ ∧ a ≠ l))) (fun _ b => b.2)) (fun _ b => ⟨b.1.1, ⟨b.1.2.1, ⟨b.1.2.2.1, b.1.2.2.2.1⟩⟩⟩))⟩, ⟨BO (Kd.AL (vI (q := l) (Kd.AL eB.out (fun a b => (⟨b, b.1.2.2.2.2.1⟩ : _ ∧ a ≠ l))) (fun _ b => b.2)) (fun _ b => ⟨b.1.1.1, ⟨b.1.2, ⟨b.1.1.2.2.1, ⟨b.1.1.2.2.2.1, b.1.1.2.2.2.2.1⟩⟩⟩⟩))⟩, ⟨BO (Kd.AL (vI (q := l) (Kd.AL y.out (fun a b => (⟨b, b.1.2.2.2.2.1⟩ : _ ∧ a ≠ l))) (fun _ b => b.2)) (fun _ b => ⟨b.1.1.1, ⟨b.1.2, ⟨b.1.1.2.2.1, ⟨b.1.1.2.2.2.1, b.1.1.2.2.2.2.1⟩⟩⟩⟩))⟩, ⟨BO (Kd.AL (vI (q := l) (Kd.AL z.out (fun a b => (⟨b, b.1.2.2.2.2.1⟩ : _ ∧ a ≠ l))) (fun _ b => b.2)) (fun _ b => ⟨b.1.1.1, ⟨b.1.2, ⟨b.1.1.2.2.1, ⟨b.1.1.2.2.2.1, b.1.1.2.2.2.2.1⟩⟩⟩⟩))⟩, ⟨BO (Kd.AL (vI (q := l) (Kd.AL B.out (fun a b => (⟨b, b.1.2.2.2.2.1⟩ : _ ∧ a ≠ l))) (fun _ b => b.2)) (fun _ b => ⟨b.1.1.1, ⟨b.1.2, ⟨b.1.1.2.2.1, ⟨b.1.1.2.2.2.1, b.1.1.2.2.2.2.1⟩⟩⟩⟩))⟩, ⟨BO (Kd.AL (vI (q := l) (Kd.AL U.out (fun a b => (⟨b, b.1.2.2.2.2.1⟩ : _ ∧ a ≠ l))) (fun _ b => b.2)) (fun _ b => ⟨b.1.1.1, ⟨b.1.2, ⟨b.1.1.2.2.1, ⟨b.1.1.2.2.2.1, b.1.1.2.2.2.2.1⟩⟩⟩⟩))⟩, ⟨BO (Kd.AL (vI (q := l) (Kd.AL G.out (fun a b => (⟨b, b.1.2.2.2.2.1⟩ : _ ∧ a ≠ l))) (fun _ b => b.2)) (fun _ b => ⟨b.1.1.1, ⟨b.1.2, ⟨b.1.1.2.2.1, ⟨b.1.1.2.2.2.1, b.1.1.2.2.2.2.1⟩⟩⟩⟩))⟩, ⟨bF pC m⟩, ⟨bF sC r⟩, ⟨pB X⟩, ⟨be4 HB D W gB lB⟩⟩
end Go.Proofs.Ytojankgmedccdaa.PAw
