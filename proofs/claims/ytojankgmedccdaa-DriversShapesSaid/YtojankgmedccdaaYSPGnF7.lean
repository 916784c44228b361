/- Part of the proof of LawDriversShapes: every definition and lemma is one that it names. -/
import Derived.Test.YtojankgmedccdaaYSPGnx0
import Derived.Test.YtojankgmedccdaaYSAwB
import Derived.Test.YtojankgmedccdaaYSPIsx3
import Derived.Test.YtojankgmedccdaaYSPGnF26
import Derived.Test.YtojankgmedccdaaYSPGnF33
import Derived.Test.YtojankgmedccdaaYSPGnF34
import Derived.Test.YtojankgmedccdaaYSPGnF35
namespace Go.Proofs.Ytojankgmedccdaa.PGn
open Go.RowKit Own PTy Hand PIs PAw YtojankgmedccdaaW.PrintWords YtojankgmedccdaaW.PrintLast YtojankgmedccdaaW.PrintMore
attribute [local go_sem] BR BS Bj Bl BH BI BU BX
set_option linter.unusedVariables false
set_option linter.unusedSimpArgs false
def Bp.f (k : Nat) (b : Int) (c : Int) (d : ByteArray) (j : List ByteArray) (l : List (S26)) (e : Int) (g : Int) (m : List Int) (n : List (S30)) (o : List (S63)) (p : Int) (q : Int) : Option (Bool) := (Cw.f k b c d j l e g m n o ([] : List (S30))).bind fun r => (if r = true then ((Cz.f k e g m n o).bind fun a => ((Ai.f k b c d j l a.1 a.2.1 a.2.2.1 a.2.2.2.1 a.2.2.2.2 p q).bind fun h => ((Bc.f k b c d j l e g m n o p q).bind fun i => ((Dr.f k h.1 i.1).bind fun u => (if u = true then (if h.2 = i.2 then ((EC.f k).bind fun v => (some v)) else (none)) else (none)))))) else ((EC.f k).bind fun s => (some s)))
def Bp.T3 : Bool × List (List Nat × List Nat) := (true, [([], []), ([], []), ([1], [1]), ([], []), ([3], [3]), ([], []), ([5], [5]), ([0, 2, 4, 6, 2], [0, 2, 4, 6]), ([7], [7]), ([8], [8]), ([8], [8]), ([9, 7, 0, 1, 2, 3, 4, 5, 6, 7, 8, 9], [9]), ([10, 11, 0, 1, 2, 3, 4, 5, 6, 7, 8, 9, 10, 11], [10])])
def Bp.B3 : List Nat := [0, 0, 2, 0, 8, 0, 32, 127, 255, 511, 511, 1023, 4095]
theorem Bp.Qx : C9 .any (opsOf Try.f7 3) = Bp.T3 := by kernel_rfl
theorem Bp.P6 : Cm Bp.T3.2 Bp.B3 = true := by kernel_rfl
set_option maxHeartbeats 8000000 in
set_option maxRecDepth 100000 in
theorem Bp.calls (k : Nat) (U : Int) (W : Int) (X : ByteArray) (eB : Option Addr) (kB : Nat) (D : List ByteArray) (fB : Option Addr) (lB : Nat) (G : List (S26)) (Z : Int) (aB : Int) (gB : Option Addr) (mB : Nat) (I : List Int) (hB : Option Addr) (oB : Nat) (J : List (S30)) (jB : Option Addr) (qB : Nat) (L : List (S63)) (bB : Int) (cB : Int) (r : Bool) (w : World) (hG : D9 w) (uD : Kd.C Kd.string w eB D.length D) (pD : D.length ≤ kB) (vD : Kd.C k26 w fB G.length G) (qD : G.length ≤ lB) (wD : Kd.C (Kd.int .u8) w gB I.length I) (rD : I.length ≤ mB) (xD : Kd.C k30 w hB J.length J) (sD : J.length ≤ oB) (yD : Kd.C k63 w jB L.length L) (tD : L.length ≤ qB) (h : Bp.f k U W X D G Z aB I J L bB cB = some r) :
  Calls Try.prog 7 #[.agg #[.int .i64 U, .int .i64 W, .string X, .slice eB D.length kB, .slice fB G.length lB], .agg #[.int .i64 Z, .int .i64 aB, .slice gB I.length mB, .slice hB J.length oB, .slice jB L.length qB], .agg #[.int .i64 bB, .int .i64 cB]] w fun e w' => e = .returned (.bool r) ∧ Below w.heap.size w w' := by
 have HG := mk0 hG; clear hG
 have mG := Try.underlying26
 have nG := Try.underlying33
 have oG := Try.underlying57
 have sC := mk0 uD; have nC := mk0 pD; clear uD pD; have tC := mk0 vD; have oC := mk0 qD; clear vD qD; have uC := mk0 wD; have pC := mk0 rD; clear wD rD; have vC := mk0 xD; have qC := mk0 sD; clear xD sD; have wC := mk0 yD; have rC := mk0 tD; clear yD tD
 have u := mk0 (Below.refl w.heap.size w)
 have H := h; unfold Bp.f at H
 clear h
 replace H := bS H; obtain ⟨pG, A4, H⟩ := H
 replace H := iB' H; obtain ⟨rfl, H⟩ | ⟨rfl, H⟩ := H
 ·replace H := bS H; obtain ⟨zE, cF, H⟩ := H; obtain rfl := sI H
  go_enter Try.func7, Try.ntmps7
  go_wp2_with (first | ((with_reducible refine AC rfl (N := 3) rfl (cs := #[.int .i64 U, .int .i64 W, .string X, .slice eB D.length kB, .slice fB G.length lB]) (t := 26) ?hr ?_); (case hr => first | (go_simp; done) | (go_simp; rfl)); intro z hg jH Y y; have a := mk0 (Y); have kC := bs (be u) hg; have d := bs (be u) hg; replace u := kh u y; clear y Y hg) | ((with_reducible refine AC rfl (N := 4) rfl (cs := #[.int .i64 Z, .int .i64 aB, .slice gB I.length mB, .slice hB J.length oB, .slice jB L.length qB]) (t := 33) ?hr ?_); (case hr => first | (go_simp; done) | (go_simp; rfl)); intro B hg kH Y y; have b := mk0 (Y); have lC := bs (be1 u d) hg; have l := bs (be1 u d) hg; replace u := kh1 u d y; have ⟨wB, yB⟩ := nn a hg; replace a := kb a y; clear y Y hg) | ((with_reducible refine AC rfl (N := 5) rfl (cs := #[.int .i64 bB, .int .i64 cB]) (t := 57) ?hr ?_); (case hr => first | (go_simp; done) | (go_simp; rfl)); intro T hg lH Y y; have j := mk0 (Y); have mC := bs (be2 u d l) hg; have m := bs (be2 u d l) hg; replace u := kh2 u d l y; have ⟨xB, aC⟩ := nn a hg; have ⟨zB, bC⟩ := nn b hg; obtain ⟨a, b⟩ := tb2 y a b; clear y Y hg; have ⟨lF, tF⟩ := no wB yB; have ⟨mF, uF⟩ := no xB aC; have vG := cells5 a.out; have ⟨oF, wF⟩ := no zB bC; have wG := cells5 b.out) | ((with_reducible refine AO (f := 15) rfl ?_); refine GR Try.func15 #[.agg #[.int .i64 U, .int .i64 W, .string X, .slice eB D.length kB, .slice fB G.length lB], .agg #[.int .i64 Z, .int .i64 aB, .slice gB I.length mB, .slice hB J.length oB, .slice jB L.length qB], .slice none 0 0] ?_; (refine (Cw.calls (fun p => p < w.heap.size) (fun p => p < w.heap.size) (fun p => p < w.heap.size) (fun p => False) ?side1 ?side2 ?side3 ?side4 ?side5 ?side6 ?side7 ?side8 A4.out).mono ?_); (case side1 => exact cu sC u); (case side2 => exact nC.out); (case side3 => exact cu tC u); (case side4 => exact oC.out); (case side5 => exact Kd.DN pC.out (Kd.CZ (Kd.C_F (Kd.FH .u8) uC.out) (be3 u d l m))); (case side6 => exact Kd.DN qC.out (Kd.CZ (Kd.C_F Hf vC.out) (be3 u d l m))); (case side7 => exact Kd.DN rC.out (Kd.CZ (Kd.C_F Ir wC.out) (be3 u d l m))); (case side8 => exact Kd.D8 _ _ _ _ _); rintro e mH ⟨rfl, y⟩; refine ⟨_, rfl, ?_⟩; obtain ⟨a, b, j⟩ := tb3 y a b j; replace u := kh3 u d l m y) | ((with_reducible refine AO (f := 16) rfl ?_); refine CU Try.func16 (EC.calls k  zE _ (Aj HG.out (be3 u d l m)) cF.out) ?_; intro nH y; obtain ⟨a, b, j⟩ := tb3 y a b j; replace u := kh3 u d l m y))
  go_ret
  exact ⟨rfl, be3 u d l m⟩
 replace H := Option.bind_eq_some_iff.mp H
 obtain ⟨⟨cE, dE, gC, dD, eD⟩, nE, H⟩ := H
 replace H : ((Ai.f k U W X D G cE dE gC dD eD bB cB).bind fun kD => ((Bc.f k U W X D G Z aB I J L bB cB).bind fun fC => ((Dr.f k kD.1 fC.1).bind fun jC => (if jC = true then (if kD.2 = fC.2 then ((EC.f k).bind fun hC => (some hC)) else (none)) else (none))))) = some r := H
 have A6 := mk0 nE; clear nE
 replace H := Option.bind_eq_some_iff.mp H
 obtain ⟨⟨fD, iC⟩, oE, H⟩ := H
 replace H : ((Bc.f k U W X D G Z aB I J L bB cB).bind fun fC => ((Dr.f k fD fC.1).bind fun jC => (if jC = true then (if iC = fC.2 then ((EC.f k).bind fun hC => (some hC)) else (none)) else (none)))) = some r := H
 have A7 := mk0 oE; clear oE
 replace H := Option.bind_eq_some_iff.mp H
 obtain ⟨⟨jE, gD⟩, pE, H⟩ := H
 replace H : ((Dr.f k fD jE).bind fun jC => (if jC = true then (if iC = gD then ((EC.f k).bind fun hC => (some hC)) else (none)) else (none))) = some r := H
 have A8 := mk0 pE; clear pE
 replace H := bS H; obtain ⟨jC, A9, H⟩ := H
 replace H := iB' H; obtain ⟨rfl, H⟩ | ⟨rfl, H⟩ := H
 ·exact absurd H (by simp)
 by_cases c11 : iC = gD
 rotate_left
 ·rw [if_neg c11] at H
  exact absurd H (by simp)
 rw [if_pos c11] at H
 have eF : (iC == gD) = true := beq_iff_eq.mpr c11
 have fF : (iC != gD) = false := bne_eq_false_iff_eq.mpr c11
 clear c11
 replace H := bS H; obtain ⟨hC, aF, H⟩ := H; obtain rfl := sI H
 go_enter Try.func7, Try.ntmps7
 try go_wp2_with (first | ((with_reducible refine AC rfl (N := 3) rfl (cs := #[.int .i64 U, .int .i64 W, .string X, .slice eB D.length kB, .slice fB G.length lB]) (t := 26) ?hr ?_); (case hr => first | (go_simp; done) | (go_simp; rfl)); intro z hg bH Y y; have a := mk0 (Y); have kC := bs (be u) hg; have d := bs (be u) hg; replace u := kh u y; clear y Y hg) | ((with_reducible refine AC rfl (N := 4) rfl (cs := #[.int .i64 Z, .int .i64 aB, .slice gB I.length mB, .slice hB J.length oB, .slice jB L.length qB]) (t := 33) ?hr ?_); (case hr => first | (go_simp; done) | (go_simp; rfl)); intro B hg cH Y y; have b := mk0 (Y); have lC := bs (be1 u d) hg; have l := bs (be1 u d) hg; replace u := kh1 u d y; have ⟨wB, yB⟩ := nn a hg; replace a := kb a y; clear y Y hg) | ((with_reducible refine AC rfl (N := 5) rfl (cs := #[.int .i64 bB, .int .i64 cB]) (t := 57) ?hr ?_); (case hr => first | (go_simp; done) | (go_simp; rfl)); intro T hg dH Y y; have j := mk0 (Y); have mC := bs (be2 u d l) hg; have m := bs (be2 u d l) hg; replace u := kh2 u d l y; have ⟨xB, aC⟩ := nn a hg; have ⟨zB, bC⟩ := nn b hg; obtain ⟨a, b⟩ := tb2 y a b; clear y Y hg; have ⟨gF, pF⟩ := no wB yB; have ⟨hF, qF⟩ := no xB aC; have qG := cells5 a.out; have ⟨jF, sF⟩ := no zB bC; have rG := cells5 b.out) | ((with_reducible refine AO (f := 15) rfl ?_); refine GR Try.func15 #[.agg #[.int .i64 U, .int .i64 W, .string X, .slice eB D.length kB, .slice fB G.length lB], .agg #[.int .i64 Z, .int .i64 aB, .slice gB I.length mB, .slice hB J.length oB, .slice jB L.length qB], .slice none 0 0] ?_; (refine (Cw.calls (fun p => p < w.heap.size) (fun p => p < w.heap.size) (fun p => p < w.heap.size) (fun p => False) ?side1 ?side2 ?side3 ?side4 ?side5 ?side6 ?side7 ?side8 A4.out).mono ?_); (case side1 => exact cu sC u); (case side2 => exact nC.out); (case side3 => exact cu tC u); (case side4 => exact oC.out); (case side5 => exact Kd.DN pC.out (Kd.CZ (Kd.C_F (Kd.FH .u8) uC.out) (be3 u d l m))); (case side6 => exact Kd.DN qC.out (Kd.CZ (Kd.C_F Hf vC.out) (be3 u d l m))); (case side7 => exact Kd.DN rC.out (Kd.CZ (Kd.C_F Ir wC.out) (be3 u d l m))); (case side8 => exact Kd.D8 _ _ _ _ _); rintro e iG ⟨rfl, y⟩; refine ⟨_, rfl, ?_⟩; obtain ⟨a, b, j⟩ := tb3 y a b j; replace u := kh3 u d l m y))
 have zC := mk0 (AY a.out)
 have aD := mk0 (AY b.out)
 have bD := mk0 (AY j.out)
 have cD := mk0 (Aa u.out)
 clear a; clear b; clear j; clear u; have a := zC; have b := aD; have j := bD; have u := cD; clear zC aD bD cD
 refine DL (n := 13) (S := fun w' => w'.cell? ⟨z, 0, none⟩ = some (.int .i64 U) ∧ w'.cell? ⟨z, 1, none⟩ = some (.int .i64 W) ∧ w'.cell? ⟨z, 2, none⟩ = some (.string X) ∧ w'.cell? ⟨z, 3, none⟩ = some (.slice eB D.length kB) ∧ w'.cell? ⟨z, 4, none⟩ = some (.slice fB G.length lB) ∧ w'.cell? ⟨B, 0, none⟩ = some (.int .i64 Z) ∧ w'.cell? ⟨B, 1, none⟩ = some (.int .i64 aB) ∧ w'.cell? ⟨B, 2, none⟩ = some (.slice gB I.length mB) ∧ w'.cell? ⟨B, 3, none⟩ = some (.slice hB J.length oB) ∧ w'.cell? ⟨B, 4, none⟩ = some (.slice jB L.length qB) ∧ w'.cell? ⟨T, 0, none⟩ = some (.int .i64 bB) ∧ w'.cell? ⟨T, 1, none⟩ = some (.int .i64 cB)) (ds := []) (tf 0 13) (by kernel_rfl) rfl rfl ⟨bc a 0, bc a 1, bc a 2, bc a 3, bc a 4, bc b 0, bc b 1, bc b 2, bc b 3, bc b 4, bc j 0, bc j 1⟩ (fun cC => ?_); refine CW Bp.Qx Bp.P6 (fun eC eE => ?_)
 generalize iG.drew = eH at a b j u cC ⊢
 refine pv 3 20 #[false, false, false, true, false, false, false, false, false, false, false, false, false] eC ?_
 refine pv 5 22 #[false, false, false, true, false, true, false, false, false, false, false, false, false] eC ?_
 refine Br (i := 0) (N := some 17) (v := ?_) (a' := ?_) #[true, false, false, true, false, true, false, false, false, false, false, false, false] rfl rfl (BB eC.out eE.out (by kernel_rfl)) (fun _ _ _ h => h) (Or.inl ⟨by rfl, ?_⟩) cC ?_ ?_
 rotate_left
 ·rintro w' ⟨s0, s1, s2, s3, s4, s5, s6, s7, s8, s9, lE, mE⟩
  go_simp
  with_reducible rfl
 rotate_left
 ·simp only [ps]
  rfl
 refine Br (i := 1) (N := some 18) (v := ?_) (a' := ?_) #[true, true, false, true, false, true, false, false, false, false, false, false, false] rfl rfl (BB eC.out eE.out (by kernel_rfl)) (fun _ _ _ h => h) (Or.inl ⟨by rfl, ?_⟩) cC ?_ ?_
 rotate_left
 ·rintro w' ⟨s0, s1, s2, s3, s4, s5, s6, s7, s8, s9, lE, mE⟩
  go_simp
  with_reducible rfl
 rotate_left
 ·simp only [ps]
  rfl
 refine Br (i := 4) (N := some 21) (v := ?_) (a' := ?_) #[true, true, false, true, true, true, false, false, false, false, false, false, false] rfl rfl (BB eC.out eE.out (by kernel_rfl)) (fun _ _ _ h => h) (Or.inl ⟨by rfl, ?_⟩) cC ?_ ?_
 rotate_left
 ·rintro w' ⟨s0, s1, s2, s3, s4, s5, s6, s7, s8, s9, lE, mE⟩
  go_simp
  with_reducible rfl
 rotate_left
 ·simp only [ps]
  rfl
 refine Br (i := 6) (N := some 23) (v := ?_) (a' := ?_) #[true, true, false, true, true, true, true, false, false, false, false, false, false] rfl rfl (BB eC.out eE.out (by kernel_rfl)) (fun _ _ _ h => h) (Or.inl ⟨by rfl, ?_⟩) cC ?_ ?_
 rotate_left
 ·rintro w' ⟨s0, s1, s2, s3, s4, s5, s6, s7, s8, s9, lE, mE⟩
  go_simp
  with_reducible rfl
 rotate_left
 ·simp only [ps]
  rfl
 refine Dh (i := 2) (N := some 19) (tf 7 6) rfl rfl (CO eC.out (by kernel_rfl)) (by decide) (fun K hK => ?_)
 refine DC Try.func26 (by kernel_rfl) rfl #[.agg #[.int .i64 Z, .int .i64 aB, .slice gB I.length mB, .slice hB J.length oB, .slice jB L.length qB]] (by rfl) rfl rfl (by (try simp only [List.map_toArray, List.map_cons, List.map_nil]); first | done | rfl | (simp only [List.length_drop, List.length_take]; rfl)) ?_
 with_reducible refine (Cz.calls ?side1 ?side2 ?side3 ?side4 ?side5 ?side6 A6.out).mono ?_
 (case side1 => exact cu uC u)
 (case side2 => exact pC.out)
 (case side3 => exact cu vC u)
 (case side4 => exact qC.out)
 (case side5 => exact cu wC u)
 (case side6 => exact rC.out)
 rintro e fH ⟨v577, v580, v583, rfl, dC, xE, kE, y⟩
 refine ⟨_, rfl, ?_⟩
 have zC := mk0 (Kd.Cj dC (AV (be3 u d l m)))
 have aD := mk0 (Kd.Es (Kd.Ca (ok' := fun p => some p ≠ (v577 : Value).ownBlock ∧ some p ≠ (v583 : Value).ownBlock ∧ p ≠ z ∧ p ≠ B ∧ p ≠ T) (Kd.R_N (Kd.Dx (Kd.Cr xE (Kd.EP kE) (by decide)))) (fun p dB => ⟨dB.1.1, dB.1.2, (Kd.BM (g := z) (o := .cells #[.int .i64 U, .int .i64 W, .string X, .slice eB D.length kB, .slice fB G.length lB] 26 (0, 0)) (Ac a.out) p dB.2.1), (Kd.BM (g := B) (o := .cells #[.int .i64 Z, .int .i64 aB, .slice gB I.length mB, .slice hB J.length oB, .slice jB L.length qB] 33 (0, 0)) (Ac b.out) p dB.2.1), (Kd.BM (g := T) (o := .cells #[.int .i64 bB, .int .i64 cB] 57 (0, 0)) (Ac j.out) p dB.2.1)⟩)) (AV (be3 u d l m)))
 have bD := mk0 (Kd.Es (Kd.Ca (ok' := fun p => some p ≠ (v577 : Value).ownBlock ∧ some p ≠ (v580 : Value).ownBlock ∧ p ≠ z ∧ p ≠ B ∧ p ≠ T) (Kd.R_N (Kd.Dx kE)) (fun p dB => ⟨dB.1.1, dB.1.2, (Kd.BM (g := z) (o := .cells #[.int .i64 U, .int .i64 W, .string X, .slice eB D.length kB, .slice fB G.length lB] 26 (0, 0)) (Ac a.out) p dB.2.1), (Kd.BM (g := B) (o := .cells #[.int .i64 Z, .int .i64 aB, .slice gB I.length mB, .slice hB J.length oB, .slice jB L.length qB] 33 (0, 0)) (Ac b.out) p dB.2.1), (Kd.BM (g := T) (o := .cells #[.int .i64 bB, .int .i64 cB] 57 (0, 0)) (Ac j.out) p dB.2.1)⟩)) (AV (be3 u d l m)))
 have cD := kb a y
 have zD := kb b y
 have aE := kb j y
 have bE := kh3 u d l m y
 clear a; clear b; clear j; clear u; have x := zC; have q := aD; have s := bD; have a := cD; have b := zD; have j := aE; have u := bE; clear zC aD bD cD zD aE bE
 try clear y
 try clear dC
 try clear xE
 try clear kE
 obtain ⟨xC, yC, fE⟩ := Kd.CJ x.out
 (first | subst fE | (injection fE with f1_ f2_ f3_; have nD := f1_.symm; have oD := f3_.symm; clear f1_ f2_ f3_; subst nD; subst oD))
 obtain ⟨hD, lD, gE⟩ := Kd.Dk q.out
 (first | subst gE | (injection gE with f1_ f2_ f3_; have nD := f1_.symm; have oD := f3_.symm; clear f1_ f2_ f3_; subst nD; subst oD))
 obtain ⟨jD, mD, hE⟩ := Kd.Dk s.out
 (first | subst hE | (injection hE with f1_ f2_ f3_; have nD := f1_.symm; have oD := f3_.symm; clear f1_ f2_ f3_; subst nD; subst oD))
 refine hK.out _ _ ⟨bc a 0, bc a 1, bc a 2, bc a 3, bc a 4, bc b 0, bc b 1, bc b 2, bc b 3, bc b 4, bc j 0, bc j 1⟩ (fun cC => ?_)
 clear hK K
 refine CQ (a' := ?_) ?_ ?_
 rotate_left
 ·show Act.put _ (some 19) _ = _
  simp only [ps]
  rfl
 refine Dh (i := 7) (N := some 24) (tf 8 5) rfl rfl (CO eC.out (by kernel_rfl)) (by decide) (fun K hK => ?_)
 refine DC Try.func33 (by kernel_rfl) rfl #[.agg #[.int .i64 U, .int .i64 W, .string X, .slice eB D.length kB, .slice fB G.length lB], .agg #[.int .i64 cE, .int .i64 dE, .slice xC gC.length yC, .slice hD dD.length lD, .slice jD eD.length mD], .int .i64 bB, .int .i64 cB] (by rfl) rfl rfl (by (try simp only [List.map_toArray, List.map_cons, List.map_nil]); first | done | rfl | (simp only [List.length_drop, List.length_take]; rfl)) ?_
 with_reducible refine (Ai.calls k U W X _ _ D _ _ G cE dE (fun p => some p = (.slice xC gC.length yC : Value).ownBlock) _ _ gC (fun p => (some p ≠ (.slice xC gC.length yC : Value).ownBlock ∧ (some p ≠ (.slice jD eD.length mD : Value).ownBlock ∧ (p ≠ z ∧ (p ≠ B ∧ p ≠ T))))) _ _ dD (fun p => (some p ≠ (.slice xC gC.length yC : Value).ownBlock ∧ (some p ≠ (.slice hD dD.length lD : Value).ownBlock ∧ (p ≠ z ∧ (p ≠ B ∧ p ≠ T))))) _ _ eD bB cB fD iC _ ?side8 ?side1 ?side2 ?side3 ?side4 ?side5 ?side6 ?side7 A7.out).mono ?_
 (case side1 => exact cu sC u)
 (case side2 => exact nC.out)
 (case side3 => exact cu tC u)
 (case side4 => exact oC.out)
 (case side5 => exact Kd.R_V (Kd.LD rfl (Kd.BF (Kd.BF (Kd.BF (Kd.Cr (Kd.Cr (x.out) (Kd.Dj q.out) (by decide)) (Kd.Dj s.out) (by decide)) a.out (by decide)) b.out (by decide)) j.out (by decide))))
 (case side6 => exact Kd.N_V (q.out))
 (case side7 => exact Kd.N_V (s.out))
 (case side8 => exact Aj HG.out (be3 u d l m))
 rintro e jG ⟨v586, rfl, dC, y⟩
 refine ⟨_, rfl, ?_⟩
 have zC := rb x y
 have aD := mk0 (Kd.Ei (FR q.out) (Kd.Ck dC) y)
 have bD := mk0 (Kd.Ei (FR s.out) (Kd.Ck dC) y)
 have cD := mk0 (Kd.Es (Kd.Ca (ok' := fun p => p ≠ z ∧ p ≠ B ∧ p ≠ T) dC (fun p dB => ⟨Or.elim dB (fun c => Or.elim c (fun c => ((Kd.BF (Kd.BF (Kd.BF (Kd.Cr (Kd.Cr (x.out) (Kd.Dj q.out) (by decide)) (Kd.Dj s.out) (by decide)) a.out (by decide)) b.out (by decide)) j.out (by decide)).1 p c.symm).1.1.2) (fun c => Or.elim c (fun c => c.2.2.1) (fun c => c.2.2.1))) (fun tB => (Kd.BM (g := z) (o := .cells #[.int .i64 U, .int .i64 W, .string X, .slice eB D.length kB, .slice fB G.length lB] 26 (0, 0)) (Ac a.out) p tB)), Or.elim dB (fun c => Or.elim c (fun c => ((Kd.BF (Kd.BF (Kd.BF (Kd.Cr (Kd.Cr (x.out) (Kd.Dj q.out) (by decide)) (Kd.Dj s.out) (by decide)) a.out (by decide)) b.out (by decide)) j.out (by decide)).1 p c.symm).1.2) (fun c => Or.elim c (fun c => c.2.2.2.1) (fun c => c.2.2.2.1))) (fun tB => (Kd.BM (g := B) (o := .cells #[.int .i64 Z, .int .i64 aB, .slice gB I.length mB, .slice hB J.length oB, .slice jB L.length qB] 33 (0, 0)) (Ac b.out) p tB)), Or.elim dB (fun c => Or.elim c (fun c => ((Kd.BF (Kd.BF (Kd.BF (Kd.Cr (Kd.Cr (x.out) (Kd.Dj q.out) (by decide)) (Kd.Dj s.out) (by decide)) a.out (by decide)) b.out (by decide)) j.out (by decide)).1 p c.symm).2) (fun c => Or.elim c (fun c => c.2.2.2.2) (fun c => c.2.2.2.2))) (fun tB => (Kd.BM (g := T) (o := .cells #[.int .i64 bB, .int .i64 cB] 57 (0, 0)) (Ac j.out) p tB))⟩)) (AV (be3 u d l m)))
 have zD := kb a y
 have aE := kb b y
 have bE := kb j y
 have yE := kh3 u d l m y
 clear x; clear q; clear s; clear a; clear b; clear j; clear u; have x := zC; have q := aD; have s := bD; have O := cD; have a := zD; have b := aE; have j := bE; have u := yE; clear zC aD bD cD zD aE bE yE
 try clear y
 try clear dC
 refine hK.out _ _ ⟨bc a 0, bc a 1, bc a 2, bc a 3, bc a 4, bc b 0, bc b 1, bc b 2, bc b 3, bc b 4, bc j 0, bc j 1⟩ (fun cC => ?_)
 clear hK K
 refine CQ (a' := ?_) ?_ ?_
 rotate_left
 ·show Act.put _ (some 24) _ = _
  simp only [ps]
  rfl
 refine pv 8 16 (tf 9 4) eC ?_
 refine pv 9 25 (tf 10 3) eC ?_
 refine pv 10 26 (tf 11 2) eC ?_
 refine pv 11 7 (tf 12 1) eC ?_
 refine pv 12 8 (tf 13 0) eC ?_
 refine EQ (De eC.out (by kernel_rfl)) ?_
 have sG := cells5 a.out
 have tG := cells5 b.out
 have uG := Ov j.out
 try go_wp2_with (first | ((with_reducible refine AO (f := 34) rfl ?_); refine GR Try.func34 #[.agg #[.int .i64 U, .int .i64 W, .string X, .slice eB D.length kB, .slice fB G.length lB], .agg #[.int .i64 Z, .int .i64 aB, .slice gB I.length mB, .slice hB J.length oB, .slice jB L.length qB], .int .i64 bB, .int .i64 cB] ?_; (with_reducible refine (Bc.calls (fun p => p < w.heap.size) (fun p => p < w.heap.size) (fun p => p < w.heap.size) ?side1 ?side2 ?side3 ?side4 ?side5 ?side6 ?side7 A8.out).mono ?_); (case side1 => exact cu sC u); (case side2 => exact nC.out); (case side3 => exact cu tC u); (case side4 => exact oC.out); (case side5 => exact Kd.DN pC.out (Kd.CZ (Kd.C_F (Kd.FH .u8) uC.out) (be3 u d l m))); (case side6 => exact Kd.DN qC.out (Kd.CZ (Kd.C_F Hf vC.out) (be3 u d l m))); (case side7 => exact Kd.DN rC.out (Kd.CZ (Kd.C_F Ir wC.out) (be3 u d l m))); rintro e gH ⟨v590, rfl, dC, y⟩; replace dC := Kd.Ca (ok' := fun p => ((p < w.heap.size ∨ p < w.heap.size ∨ p < w.heap.size) ∨ jG.heap.size ≤ p)) (Kd.R_N dC) (fun _ h => .inr h); refine ⟨_, rfl, ?_⟩; have uB := mk0 (Kd.Es (Kd.Ca (ok' := fun p => some p ≠ (.slice xC gC.length yC : Value).ownBlock ∧ some p ≠ (.slice hD dD.length lD : Value).ownBlock ∧ some p ≠ (.slice jD eD.length mD : Value).ownBlock ∧ some p ≠ (v586 : Value).ownBlock ∧ p ≠ z ∧ p ≠ B ∧ p ≠ T) dC (fun p dB => ⟨Or.elim dB (fun c => Or.elim c (fun c => fun e_ => Nat.not_le.2 c (Kd.Bf x.out p e_.symm)) (fun c => Or.elim c (fun c => fun e_ => Nat.not_le.2 c (Kd.Bf x.out p e_.symm)) (fun c => fun e_ => Nat.not_le.2 c (Kd.Bf x.out p e_.symm)))) (fun tB => (Kd.fresh' (Kd.Fj (DZ x.out)) p tB)), Or.elim dB (fun c => Or.elim c (fun c => fun e_ => Nat.not_le.2 c (Kd.Ck q.out p e_.symm)) (fun c => Or.elim c (fun c => fun e_ => Nat.not_le.2 c (Kd.Ck q.out p e_.symm)) (fun c => fun e_ => Nat.not_le.2 c (Kd.Ck q.out p e_.symm)))) (fun tB => (Kd.fresh' (Kd.Kg (FR q.out)) p tB)), Or.elim dB (fun c => Or.elim c (fun c => fun e_ => Nat.not_le.2 c (Kd.Ck s.out p e_.symm)) (fun c => Or.elim c (fun c => fun e_ => Nat.not_le.2 c (Kd.Ck s.out p e_.symm)) (fun c => fun e_ => Nat.not_le.2 c (Kd.Ck s.out p e_.symm)))) (fun tB => (Kd.fresh' (Kd.Kg (FR s.out)) p tB)), Or.elim dB (fun c => Or.elim c (fun c => fun e_ => Nat.not_le.2 c (Kd.Ck O.out p e_.symm)) (fun c => Or.elim c (fun c => fun e_ => Nat.not_le.2 c (Kd.Ck O.out p e_.symm)) (fun c => fun e_ => Nat.not_le.2 c (Kd.Ck O.out p e_.symm)))) (fun tB => (Kd.fresh' (Kd.Kg (FR O.out)) p tB)), Or.elim dB (fun c => Or.elim c (fun c => fun e_ => Nat.not_le.2 c (by rw [e_]; exact kC.out)) (fun c => Or.elim c (fun c => fun e_ => Nat.not_le.2 c (by rw [e_]; exact kC.out)) (fun c => fun e_ => Nat.not_le.2 c (by rw [e_]; exact kC.out)))) (fun tB => (Kd.BM (g := z) (o := .cells #[.int .i64 U, .int .i64 W, .string X, .slice eB D.length kB, .slice fB G.length lB] 26 (0, 0)) (Ac a.out) p tB)), Or.elim dB (fun c => Or.elim c (fun c => fun e_ => Nat.not_le.2 c (by rw [e_]; exact lC.out)) (fun c => Or.elim c (fun c => fun e_ => Nat.not_le.2 c (by rw [e_]; exact lC.out)) (fun c => fun e_ => Nat.not_le.2 c (by rw [e_]; exact lC.out)))) (fun tB => (Kd.BM (g := B) (o := .cells #[.int .i64 Z, .int .i64 aB, .slice gB I.length mB, .slice hB J.length oB, .slice jB L.length qB] 33 (0, 0)) (Ac b.out) p tB)), Or.elim dB (fun c => Or.elim c (fun c => fun e_ => Nat.not_le.2 c (by rw [e_]; exact mC.out)) (fun c => Or.elim c (fun c => fun e_ => Nat.not_le.2 c (by rw [e_]; exact mC.out)) (fun c => fun e_ => Nat.not_le.2 c (by rw [e_]; exact mC.out)))) (fun tB => (Kd.BM (g := T) (o := .cells #[.int .i64 bB, .int .i64 cB] 57 (0, 0)) (Ac j.out) p tB))⟩)) (AV (be3 u d l m))); replace x := rb x y; replace q := mk0 (Kd.Ei (FR q.out) (Kd.Ck dC) y); replace s := mk0 (Kd.Ei (FR s.out) (Kd.Ck dC) y); replace O := mk0 (Kd.Ei (FR O.out) (Kd.Ck dC) y); obtain ⟨a, b, j⟩ := tb3 y a b j; replace u := kh3 u d l m y; (try clear dC); obtain ⟨qE, sE, uE⟩ := Kd.Dk O.out; subst uE; obtain ⟨rE, tE, vE⟩ := Kd.Dk uB.out; subst vE) | ((with_reducible refine AO (f := 35) rfl ?_); refine GR Try.func35 #[.slice qE fD.length sE, .slice rE jE.length tE] ?_; (with_reducible refine (Dr.calls ?side1 ?side2 ?side3 ?side4 A9.out).mono ?_); (case side1 => repeat (first | exact (Kd.D7 O.out).2.2 | (with_reducible refine Kd.Cn ?_ _) | (with_reducible refine Kd.Co ?_ _) | (with_reducible refine Kd.Cv ?_))); (case side2 => exact (Kd.D7 O.out).2.1); (case side3 => repeat (first | exact (Kd.D7 uB.out).2.2 | (with_reducible refine Kd.Cn ?_ _) | (with_reducible refine Kd.Co ?_ _) | (with_reducible refine Kd.Cv ?_))); (case side4 => exact (Kd.D7 uB.out).2.1); rintro e hH ⟨rfl, y⟩; refine ⟨_, rfl, ?_⟩; replace x := rb x y; replace q := nb q y; replace s := nb s y; replace O := nb O y; replace uB := nb uB y; obtain ⟨a, b, j⟩ := tb3 y a b j; replace u := kh3 u d l m y) | (go_at_call 16; refine (EC.calls k  hC _ (Aj HG.out (be3 u d l m)) aF.out).mono ?_; rintro e iH ⟨rfl, y⟩; replace x := rb x y; replace q := nb q y; replace s := nb s y; replace O := nb O y; replace uB := nb uB y; obtain ⟨a, b, j⟩ := tb3 y a b j; replace u := kh3 u d l m y))
 go_ret
 exact ⟨rfl, be3 u d l m⟩
end Go.Proofs.Ytojankgmedccdaa.PGn
