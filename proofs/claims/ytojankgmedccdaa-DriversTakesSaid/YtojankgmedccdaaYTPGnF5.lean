/- Lemmas for LawDriversTakes. -/
import Derived.Test.YtojankgmedccdaaYTAwB
import Derived.Test.YtojankgmedccdaaYTPGnF24
import Derived.Test.YtojankgmedccdaaYTPGnF26
import Derived.Test.YtojankgmedccdaaYTPGnF29
namespace Go.Proofs.Ytojankgmedccdaa.PGn
open Go.RowKit Own PTy Hand PIs PAw YtojankgmedccdaaW.PrintWords YtojankgmedccdaaW.PrintLast YtojankgmedccdaaW.PrintMore
attribute [local go_sem] BN BO Be Bf Az BA BR BS
set_option linter.unusedVariables false
set_option linter.unusedSimpArgs false
def BL.f (k : Nat) (e : Int) (g : Int) (h : ByteArray) (l : List ByteArray) (m : List (S26)) (i : Int) (j : Int) (n : List Int) (o : List (S30)) (p : List (S63)) (x : Int) : Option (Bool) := (Cx.f k e g h l m i j n o p ([] : List (S30))).bind fun s => (if s = true then ((Cj.f k i j n o p).bind fun c => ((DD.f k e g h l m c.1 c.2.1 c.2.2.1 c.2.2.2.1 c.2.2.2.2).bind fun q => ((FJ.f k e g h l m i j n o p).bind fun r => ((Cj.f k i j n o p).bind fun d => ((Ah.f k e g h l m d.1 d.2.1 d.2.2.1 d.2.2.2.1 d.2.2.2.2 x).bind fun a => ((Bh.f k e g h l m i j n o p x).bind fun b => (if q.1 = r.1 then (if q.2 = r.2 then ((Bw.f k a.1 a.2.1 a.2.2.1 a.2.2.2.1 a.2.2.2.2.1 b.1 b.2.1 b.2.2.1 b.2.2.2.1 b.2.2.2.2.1).bind fun v => (if v = true then (if (a.2.2.2.2.2.1 == b.2.2.2.2.2.1) = true then (if a.2.2.2.2.2.2 = b.2.2.2.2.2.2 then ((Dt.f k).bind fun w => (some w)) else (none)) else (none)) else (none))) else (none)) else (none)))))))) else ((Dt.f k).bind fun u => (some u)))
def BL.T3 : Bool × List (List Nat × List Nat) := (true, [([], []), ([], []), ([1], [1]), ([0, 2, 2], [0, 2]), ([3], [3]), ([4], [4]), ([4], [4]), ([5, 3, 0, 1, 2, 3, 4, 5], [5]), ([6, 7, 0, 1, 2, 3, 4, 5, 6, 7], [6])])
def BL.B3 : List Nat := [0, 0, 2, 7, 15, 31, 31, 63, 255]
theorem BL.Qp : C9 .any (opsOf Try.f5 3) = BL.T3 := by kernel_rfl
theorem BL.Ps : Ca BL.T3.2 BL.B3 = true := by kernel_rfl
def BL.T5 : Bool × List (List Nat × List Nat) := (true, [([], []), ([], []), ([1], [1]), ([], []), ([0, 2, 3, 2], [0, 2, 3]), ([4], [4]), ([5], [5]), ([5], [5]), ([5], [5]), ([], []), ([9, 6, 4, 0, 1, 2, 3, 4, 5, 6, 9], [6, 9]), ([7, 10, 0, 1, 2, 3, 4, 5, 6, 7, 9, 10], [7]), ([8, 11, 0, 1, 2, 3, 4, 5, 6, 7, 8, 9, 10, 11], [8])])
def BL.B5 : List Nat := [0, 0, 2, 0, 15, 31, 63, 63, 63, 0, 639, 1791, 4095]
theorem BL.Kr : C9 .any (opsOf Try.f5 5) = BL.T5 := by kernel_rfl
theorem BL.Ip : Ca BL.T5.2 BL.B5 = true := by kernel_rfl
set_option maxHeartbeats 8000000 in
set_option maxRecDepth 100000 in
theorem BL.calls (k : Nat) (eB : Int) (fB : Int) (gB : ByteArray) (gC : Option Addr) (jC : Nat) (Z : List ByteArray) (hC : Option Addr) (kC : Nat) (aB : List (S26)) (uB : Int) (wB : Int) (mC : Option Addr) (pC : Nat) (oB : List Int) (nC : Option Addr) (qC : Nat) (qB : List (S30)) (oC : Option Addr) (rC : Nat) (sB : List (S63)) (a2 : Int) (r : Bool) (w : World) (hG : EN w) (iH : Kd.C Kd.string w gC Z.length Z) (dH : Z.length ≤ jC) (jH : Kd.C k26 w hC aB.length aB) (eH : aB.length ≤ kC) (kH : Kd.C (Kd.int .u8) w mC oB.length oB) (fH : oB.length ≤ pC) (lH : Kd.C k30 w nC qB.length qB) (gH : qB.length ≤ qC) (mH : Kd.C k63 w oC sB.length sB) (hH : sB.length ≤ rC) (h : BL.f k eB fB gB Z aB uB wB oB qB sB a2 = some r) :
  Calls Try.prog 5 #[.agg #[.int .i64 eB, .int .i64 fB, .string gB, .slice gC Z.length jC, .slice hC aB.length kC], .agg #[.int .i64 uB, .int .i64 wB, .slice mC oB.length pC, .slice nC qB.length qC, .slice oC sB.length rC], .int .i64 a2] w fun e w' => e = .returned (.bool r) ∧ Below w.heap.size w w' := by
 have HG := mk0 hG; clear hG
 have gM := Try.underlying26
 have hM := Try.underlying33
 have jE := mk0 iH; have gE := mk0 dH; clear iH dH; have kE := mk0 jH; have hE := mk0 eH; clear jH eH; have wE := mk0 kH; have tE := mk0 fH; clear kH fH; have xE := mk0 lH; have uE := mk0 gH; clear lH gH; have yE := mk0 mH; have vE := mk0 hH; clear mH hH
 have HB := mk0 (Below.refl w.heap.size w)
 have H := h; unfold BL.f at H
 clear h
 replace H := bS H; obtain ⟨iM, A4, H⟩ := H
 replace H := iB' H; obtain ⟨rfl, H⟩ | ⟨rfl, H⟩ := H
 ·replace H := bS H; obtain ⟨aK, fK, H⟩ := H; obtain rfl := sI H
  go_enter Try.func5, Try.ntmps5
  go_wp2_with (first | ((with_reducible refine AJ rfl (N := 3) rfl (cs := #[.int .i64 eB, .int .i64 fB, .string gB, .slice gC Z.length jC, .slice hC aB.length kC]) (t := 26) ?hr ?_); (case hr => first | (go_simp; done) | (go_simp; rfl)); intro x hg hN cD U; have a := mk0 (cD); have B := bs (be HB) hg; replace HB := kh HB U; clear U cD hg) | ((with_reducible refine AJ rfl (N := 4) rfl (cs := #[.int .i64 uB, .int .i64 wB, .slice mC oB.length pC, .slice nC qB.length qC, .slice oC sB.length rC]) (t := 33) ?hr ?_); (case hr => first | (go_simp; done) | (go_simp; rfl)); intro y hg jN cD U; have b := mk0 (cD); have D := bs (be1 HB B) hg; replace HB := kh1 HB B U; have ⟨zE, aF⟩ := nn a hg; replace a := kb a U; clear U cD hg; have ⟨cL, jL⟩ := no zE aF; have rM := cells5 a.out; have sM := cells5 b.out) | ((with_reducible refine AL (f := 15) rfl ?_); refine H9 Try.func15 #[.agg #[.int .i64 eB, .int .i64 fB, .string gB, .slice gC Z.length jC, .slice hC aB.length kC], .agg #[.int .i64 uB, .int .i64 wB, .slice mC oB.length pC, .slice nC qB.length qC, .slice oC sB.length rC], .slice none 0 0] ?_; (refine (Cx.calls (fun l => l < w.heap.size) (fun l => l < w.heap.size) (fun l => l < w.heap.size) (fun l => False) ?side1 ?side2 ?side3 ?side4 ?side5 ?side6 ?side7 ?side8 A4.out).mono ?_); (case side1 => exact cu jE HB); (case side2 => exact gE.out); (case side3 => exact cu kE HB); (case side4 => exact hE.out); (case side5 => exact Kd.EA tE.out (Kd.DK (Kd.C_F (Kd.Fq .u8) wE.out) (be2 HB B D))); (case side6 => exact Kd.EA uE.out (Kd.DK (Kd.C_F Ih xE.out) (be2 HB B D))); (case side7 => exact Kd.EA vE.out (Kd.DK (Kd.C_F Jw yE.out) (be2 HB B D))); (case side8 => exact Kd.D7 _ _ _ _ _); rintro e kN ⟨rfl, U⟩; refine ⟨_, rfl, ?_⟩; obtain ⟨a, b⟩ := tb2 U a b; replace HB := kh2 HB B D U) | ((with_reducible refine AL (f := 16) rfl ?_); refine CV Try.func16 (Dt.calls k  aK _ (Al HG.out (be2 HB B D)) fK.out) ?_; intro lN U; obtain ⟨a, b⟩ := tb2 U a b; replace HB := kh2 HB B D U))
  go_ret
  exact ⟨rfl, be2 HB B D⟩
 replace H := Option.bind_eq_some_iff.mp H
 obtain ⟨⟨nH, oH, hB, xB, yB⟩, lI, H⟩ := H
 replace H : ((DD.f k eB fB gB Z aB nH oH hB xB yB).bind fun cH => ((FJ.f k eB fB gB Z aB uB wB oB qB sB).bind fun yF => ((Cj.f k uB wB oB qB sB).bind fun bD => ((Ah.f k eB fB gB Z aB bD.1 bD.2.1 bD.2.2.1 bD.2.2.2.1 bD.2.2.2.2 a2).bind fun tB => ((Bh.f k eB fB gB Z aB uB wB oB qB sB a2).bind fun W => (if cH.1 = yF.1 then (if cH.2 = yF.2 then ((Bw.f k tB.1 tB.2.1 tB.2.2.1 tB.2.2.2.1 tB.2.2.2.2.1 W.1 W.2.1 W.2.2.1 W.2.2.2.1 W.2.2.2.2.1).bind fun eE => (if eE = true then (if (tB.2.2.2.2.2.1 == W.2.2.2.2.2.1) = true then (if tB.2.2.2.2.2.2 = W.2.2.2.2.2.2 then ((Dt.f k).bind fun zD => (some zD)) else (none)) else (none)) else (none))) else (none)) else (none))))))) = some r := H
 have A6 := mk0 lI; clear lI
 replace H := Option.bind_eq_some_iff.mp H
 obtain ⟨⟨dF, eF⟩, mI, H⟩ := H
 replace H : ((FJ.f k eB fB gB Z aB uB wB oB qB sB).bind fun yF => ((Cj.f k uB wB oB qB sB).bind fun bD => ((Ah.f k eB fB gB Z aB bD.1 bD.2.1 bD.2.2.1 bD.2.2.2.1 bD.2.2.2.2 a2).bind fun tB => ((Bh.f k eB fB gB Z aB uB wB oB qB sB a2).bind fun W => (if dF = yF.1 then (if eF = yF.2 then ((Bw.f k tB.1 tB.2.1 tB.2.2.1 tB.2.2.2.1 tB.2.2.2.2.1 W.1 W.2.1 W.2.2.1 W.2.2.2.1 W.2.2.2.2.1).bind fun eE => (if eE = true then (if (tB.2.2.2.2.2.1 == W.2.2.2.2.2.1) = true then (if tB.2.2.2.2.2.2 = W.2.2.2.2.2.2 then ((Dt.f k).bind fun zD => (some zD)) else (none)) else (none)) else (none))) else (none)) else (none)))))) = some r := H
 have A7 := mk0 mI; clear mI
 replace H := Option.bind_eq_some_iff.mp H
 obtain ⟨⟨bG, cG⟩, oI, H⟩ := H
 replace H : ((Cj.f k uB wB oB qB sB).bind fun bD => ((Ah.f k eB fB gB Z aB bD.1 bD.2.1 bD.2.2.1 bD.2.2.2.1 bD.2.2.2.2 a2).bind fun tB => ((Bh.f k eB fB gB Z aB uB wB oB qB sB a2).bind fun W => (if dF = bG then (if eF = cG then ((Bw.f k tB.1 tB.2.1 tB.2.2.1 tB.2.2.2.1 tB.2.2.2.2.1 W.1 W.2.1 W.2.2.1 W.2.2.2.1 W.2.2.2.2.1).bind fun eE => (if eE = true then (if (tB.2.2.2.2.2.1 == W.2.2.2.2.2.1) = true then (if tB.2.2.2.2.2.2 = W.2.2.2.2.2.2 then ((Dt.f k).bind fun zD => (some zD)) else (none)) else (none)) else (none))) else (none)) else (none))))) = some r := H
 have A8 := mk0 oI; clear oI
 replace H := Option.bind_eq_some_iff.mp H
 obtain ⟨⟨pF, qF, zC, xD, yD⟩, pI, H⟩ := H
 replace H : ((Ah.f k eB fB gB Z aB pF qF zC xD yD a2).bind fun tB => ((Bh.f k eB fB gB Z aB uB wB oB qB sB a2).bind fun W => (if dF = bG then (if eF = cG then ((Bw.f k tB.1 tB.2.1 tB.2.2.1 tB.2.2.2.1 tB.2.2.2.2.1 W.1 W.2.1 W.2.2.1 W.2.2.2.1 W.2.2.2.2.1).bind fun eE => (if eE = true then (if (tB.2.2.2.2.2.1 == W.2.2.2.2.2.1) = true then (if tB.2.2.2.2.2.2 = W.2.2.2.2.2.2 then ((Dt.f k).bind fun zD => (some zD)) else (none)) else (none)) else (none))) else (none)) else (none)))) = some r := H
 have A9 := mk0 pI; clear pI
 replace H := Option.bind_eq_some_iff.mp H
 obtain ⟨⟨nE, oE, nD, pE, uD, dE, qE⟩, pH, H⟩ := H
 replace H : ((Bh.f k eB fB gB Z aB uB wB oB qB sB a2).bind fun W => (if dF = bG then (if eF = cG then ((Bw.f k nE oE nD pE uD W.1 W.2.1 W.2.2.1 W.2.2.2.1 W.2.2.2.2.1).bind fun eE => (if eE = true then (if (dE == W.2.2.2.2.2.1) = true then (if qE = W.2.2.2.2.2.2 then ((Dt.f k).bind fun zD => (some zD)) else (none)) else (none)) else (none))) else (none)) else (none))) = some r := H
 have jI := mk0 pH; clear pH
 replace H := Option.bind_eq_some_iff.mp H
 obtain ⟨⟨hI, iI, sF, gG, iG, rG, zG⟩, qH, H⟩ := H
 replace H : (if dF = bG then (if eF = cG then ((Bw.f k nE oE nD pE uD hI iI sF gG iG).bind fun eE => (if eE = true then (if (dE == rG) = true then (if qE = zG then ((Dt.f k).bind fun zD => (some zD)) else (none)) else (none)) else (none))) else (none)) else (none)) = some r := H
 have cK := mk0 qH; clear qH
 by_cases c12 : dF = bG
 rotate_left
 ·rw [if_neg c12] at H
  exact absurd H (by simp)
 rw [if_pos c12] at H
 have gK : (dF == bG) = true := beq_iff_eq.mpr c12
 have iK : (dF != bG) = false := bne_eq_false_iff_eq.mpr c12
 clear c12
 by_cases c13 : eF = cG
 rotate_left
 ·rw [if_neg c13] at H
  exact absurd H (by simp)
 rw [if_pos c13] at H
 have jK : (eF == cG) = true := beq_iff_eq.mpr c13
 have kK : (eF != cG) = false := bne_eq_false_iff_eq.mpr c13
 clear c13
 replace H := bS H; obtain ⟨eE, dK, H⟩ := H
 replace H := iB' H; obtain ⟨rfl, H⟩ | ⟨rfl, H⟩ := H
 ·exact absurd H (by simp)
 by_cases c16 : (dE == rG) = true
 rotate_left
 ·rw [if_neg c16] at H
  exact absurd H (by simp)
 rw [if_pos c16] at H
 have lK : (dE == rG) = true := c16
 (try (have mK : decide (dE = rG) = true := by simpa using c16))
 (try (have nK : (dE == rG) = true := by simpa using c16))
 clear c16
 by_cases c17 : qE = zG
 rotate_left
 ·rw [if_neg c17] at H
  exact absurd H (by simp)
 rw [if_pos c17] at H
 have oK : (qE == zG) = true := beq_iff_eq.mpr c17
 have pK : (qE != zG) = false := bne_eq_false_iff_eq.mpr c17
 clear c17
 replace H := bS H; obtain ⟨zD, eK, H⟩ := H; obtain rfl := sI H
 go_enter Try.func5, Try.ntmps5
 try go_wp2_with (first | ((with_reducible refine AJ rfl (N := 3) rfl (cs := #[.int .i64 eB, .int .i64 fB, .string gB, .slice gC Z.length jC, .slice hC aB.length kC]) (t := 26) ?hr ?_); (case hr => first | (go_simp; done) | (go_simp; rfl)); intro x hg wM cD U; have a := mk0 (cD); have B := bs (be HB) hg; replace HB := kh HB U; clear U cD hg) | ((with_reducible refine AJ rfl (N := 4) rfl (cs := #[.int .i64 uB, .int .i64 wB, .slice mC oB.length pC, .slice nC qB.length qC, .slice oC sB.length rC]) (t := 33) ?hr ?_); (case hr => first | (go_simp; done) | (go_simp; rfl)); intro y hg xM cD U; have b := mk0 (cD); have D := bs (be1 HB B) hg; replace HB := kh1 HB B U; have ⟨zE, aF⟩ := nn a hg; replace a := kb a U; clear U cD hg; have ⟨wK, dL⟩ := no zE aF; have jM := cells5 a.out; have kM := cells5 b.out) | ((with_reducible refine AL (f := 15) rfl ?_); refine H9 Try.func15 #[.agg #[.int .i64 eB, .int .i64 fB, .string gB, .slice gC Z.length jC, .slice hC aB.length kC], .agg #[.int .i64 uB, .int .i64 wB, .slice mC oB.length pC, .slice nC qB.length qC, .slice oC sB.length rC], .slice none 0 0] ?_; (refine (Cx.calls (fun l => l < w.heap.size) (fun l => l < w.heap.size) (fun l => l < w.heap.size) (fun l => False) ?side1 ?side2 ?side3 ?side4 ?side5 ?side6 ?side7 ?side8 A4.out).mono ?_); (case side1 => exact cu jE HB); (case side2 => exact gE.out); (case side3 => exact cu kE HB); (case side4 => exact hE.out); (case side5 => exact Kd.EA tE.out (Kd.DK (Kd.C_F (Kd.Fq .u8) wE.out) (be2 HB B D))); (case side6 => exact Kd.EA uE.out (Kd.DK (Kd.C_F Ih xE.out) (be2 HB B D))); (case side7 => exact Kd.EA vE.out (Kd.DK (Kd.C_F Jw yE.out) (be2 HB B D))); (case side8 => exact Kd.D7 _ _ _ _ _); rintro e uL ⟨rfl, U⟩; refine ⟨_, rfl, ?_⟩; obtain ⟨a, b⟩ := tb2 U a b; replace HB := kh2 HB B D U))
 have wC := mk0 (AV a.out)
 have xC := mk0 (AV b.out)
 have yC := mk0 (AZ HB.out)
 clear a; clear b; clear HB; have a := wC; have b := xC; have HB := yC; clear wC xC yC
 refine DU (n := 9) (S := fun w' => w'.cell? ⟨x, 0, none⟩ = some (.int .i64 eB) ∧ w'.cell? ⟨x, 1, none⟩ = some (.int .i64 fB) ∧ w'.cell? ⟨x, 2, none⟩ = some (.string gB) ∧ w'.cell? ⟨x, 3, none⟩ = some (.slice gC Z.length jC) ∧ w'.cell? ⟨x, 4, none⟩ = some (.slice hC aB.length kC) ∧ w'.cell? ⟨y, 0, none⟩ = some (.int .i64 uB) ∧ w'.cell? ⟨y, 1, none⟩ = some (.int .i64 wB) ∧ w'.cell? ⟨y, 2, none⟩ = some (.slice mC oB.length pC) ∧ w'.cell? ⟨y, 3, none⟩ = some (.slice nC qB.length qC) ∧ w'.cell? ⟨y, 4, none⟩ = some (.slice oC sB.length rC)) (ds := []) (tf 0 9) (by kernel_rfl) rfl rfl ⟨bc a 0, bc a 1, bc a 2, bc a 3, bc a 4, bc b 0, bc b 1, bc b 2, bc b 3, bc b 4⟩ (fun mB => ?_); refine CQ BL.Qp BL.Ps (fun aD bH => ?_)
 generalize uL.drew = yM at a b HB mB ⊢
 refine Bj (i := 0) (N := some 23) (v := ?_) (a' := ?_) (tf 1 8) rfl rfl (Av aD.out bH.out (by kernel_rfl)) (fun _ _ _ h => h) (Or.inl ⟨by rfl, ?_⟩) mB ?_ ?_
 rotate_left
 ·rintro w' ⟨s0, s1, s2, s3, s4, s5, s6, s7, s8, s9⟩
  go_simp
  with_reducible rfl
 rotate_left
 ·simp only [ps]
  rfl
 refine Bj (i := 1) (N := some 24) (v := ?_) (a' := ?_) (tf 2 7) rfl rfl (Av aD.out bH.out (by kernel_rfl)) (fun _ _ _ h => h) (Or.inl ⟨by rfl, ?_⟩) mB ?_ ?_
 rotate_left
 ·rintro w' ⟨s0, s1, s2, s3, s4, s5, s6, s7, s8, s9⟩
  go_simp
  with_reducible rfl
 rotate_left
 ·simp only [ps]
  rfl
 refine DL (i := 2) (N := some 25) (tf 3 6) rfl rfl (Bo aD.out (by kernel_rfl)) (by decide) (fun K hK => ?_)
 refine Co Try.func26 (by kernel_rfl) rfl #[.agg #[.int .i64 uB, .int .i64 wB, .slice mC oB.length pC, .slice nC qB.length qC, .slice oC sB.length rC]] (by rfl) rfl rfl (by (try simp only [List.map_toArray, List.map_cons, List.map_nil]); first | done | rfl | (simp only [List.length_drop, List.length_take]; rfl)) ?_
 with_reducible refine (Cj.calls ?side1 ?side2 ?side3 ?side4 ?side5 ?side6 A6.out).mono ?_
 (case side1 => exact cu wE HB)
 (case side2 => exact tE.out)
 (case side3 => exact cu xE HB)
 (case side4 => exact uE.out)
 (case side5 => exact cu yE HB)
 (case side6 => exact vE.out)
 rintro e zM ⟨v298, v301, v304, rfl, dC, uC, jB, U⟩
 refine ⟨_, rfl, ?_⟩
 have wC := mk0 (Kd.CF dC (AP (be2 HB B D)))
 have xC := mk0 (Kd.Dk (Kd.BM (ok' := fun l => some l ≠ (v298 : Value).ownBlock ∧ some l ≠ (v304 : Value).ownBlock ∧ l ≠ x ∧ l ≠ y) (Kd.R_N (Kd.Dc (Kd.DR uC (Kd.Dm jB) (by decide)))) (fun l I => ⟨I.1.1, I.1.2, (Kd.Aq (g := x) (o := .cells #[.int .i64 eB, .int .i64 fB, .string gB, .slice gC Z.length jC, .slice hC aB.length kC] 26 (0, 0)) (AU a.out) l I.2.1), (Kd.Aq (g := y) (o := .cells #[.int .i64 uB, .int .i64 wB, .slice mC oB.length pC, .slice nC qB.length qC, .slice oC sB.length rC] 33 (0, 0)) (AU b.out) l I.2.1)⟩)) (AP (be2 HB B D)))
 have yC := mk0 (Kd.Dk (Kd.BM (ok' := fun l => some l ≠ (v298 : Value).ownBlock ∧ some l ≠ (v301 : Value).ownBlock ∧ l ≠ x ∧ l ≠ y) (Kd.R_N (Kd.Dc jB)) (fun l I => ⟨I.1.1, I.1.2, (Kd.Aq (g := x) (o := .cells #[.int .i64 eB, .int .i64 fB, .string gB, .slice gC Z.length jC, .slice hC aB.length kC] 26 (0, 0)) (AU a.out) l I.2.1), (Kd.Aq (g := y) (o := .cells #[.int .i64 uB, .int .i64 wB, .slice mC oB.length pC, .slice nC qB.length qC, .slice oC sB.length rC] 33 (0, 0)) (AU b.out) l I.2.1)⟩)) (AP (be2 HB B D)))
 have dD := kb a U
 have eD := kb b U
 have fD := kh2 HB B D U
 clear a; clear b; clear HB; have G := wC; have J := xC; have L := yC; have a := dD; have b := eD; have HB := fD; clear wC xC yC dD eD fD
 try clear U
 try clear dC
 try clear uC
 try clear jB
 obtain ⟨kB, lB, rH⟩ := Kd.Bg G.out
 (first | subst rH | (injection rH with f1_ f2_ f3_; have kD := f1_.symm; have lD := f3_.symm; clear f1_ f2_ f3_; subst kD; subst lD))
 obtain ⟨zB, bC, sH⟩ := Kd.Cw J.out
 (first | subst sH | (injection sH with f1_ f2_ f3_; have kD := f1_.symm; have lD := f3_.symm; clear f1_ f2_ f3_; subst kD; subst lD))
 obtain ⟨aC, cC, tH⟩ := Kd.Cw L.out
 (first | subst tH | (injection tH with f1_ f2_ f3_; have kD := f1_.symm; have lD := f3_.symm; clear f1_ f2_ f3_; subst kD; subst lD))
 refine hK.out _ _ ⟨bc a 0, bc a 1, bc a 2, bc a 3, bc a 4, bc b 0, bc b 1, bc b 2, bc b 3, bc b 4⟩ (fun mB => ?_)
 clear hK K
 refine Br (a' := ?_) ?_ ?_
 rotate_left
 ·show Act.put _ (some 25) _ = _
  simp only [ps]
  rfl
 refine DL (i := 3) (N := some 26) (tf 4 5) rfl rfl (Bo aD.out (by kernel_rfl)) (by decide) (fun K hK => ?_)
 refine Co Try.func25 (by kernel_rfl) rfl #[.agg #[.int .i64 eB, .int .i64 fB, .string gB, .slice gC Z.length jC, .slice hC aB.length kC], .agg #[.int .i64 nH, .int .i64 oH, .slice kB hB.length lB, .slice zB xB.length bC, .slice aC yB.length cC]] (by rfl) rfl rfl (by (try simp only [List.map_toArray, List.map_cons, List.map_nil]); first | done | rfl | (simp only [List.length_drop, List.length_take]; rfl)) ?_
 with_reducible refine (DD.calls k eB fB gB _ _ Z _ _ aB nH oH _ _ hB _ _ xB _ _ yB dF eF _ ?side11 ?side1 ?side2 ?side3 ?side4 ?side5 ?side6 ?side7 ?side8 ?side9 ?side10 A7.out).mono ?_
 (case side1 => exact cu jE HB)
 (case side2 => exact gE.out)
 (case side3 => exact cu kE HB)
 (case side4 => exact hE.out)
 (case side5 => repeat (first | exact (Kd.CZ G.out).2.2 | (with_reducible refine Kd.Cu ?_ _) | (with_reducible refine Kd.Cv ?_ _) | (with_reducible refine Kd.DN ?_)))
 (case side6 => exact (Kd.CZ G.out).2.1)
 (case side7 => repeat (first | exact (Kd.Db J.out).2.2 | (with_reducible refine Kd.Cu ?_ _) | (with_reducible refine Kd.Cv ?_ _) | (with_reducible refine Kd.DN ?_)))
 (case side8 => exact (Kd.Db J.out).2.1)
 (case side9 => repeat (first | exact (Kd.Db L.out).2.2 | (with_reducible refine Kd.Cu ?_ _) | (with_reducible refine Kd.Cv ?_ _) | (with_reducible refine Kd.DN ?_)))
 (case side10 => exact (Kd.Db L.out).2.1)
 (case side11 => exact Al HG.out (be2 HB B D))
 rintro e aN ⟨rfl, U⟩
 refine ⟨_, rfl, ?_⟩
 have wC := rb G U
 have xC := nb J U
 have yC := nb L U
 have dD := kb a U
 have eD := kb b U
 have fD := kh2 HB B D U
 clear G; clear J; clear L; clear a; clear b; clear HB; have G := wC; have J := xC; have L := yC; have a := dD; have b := eD; have HB := fD; clear wC xC yC dD eD fD
 try clear U
 refine hK.out _ _ ⟨bc a 0, bc a 1, bc a 2, bc a 3, bc a 4, bc b 0, bc b 1, bc b 2, bc b 3, bc b 4⟩ (fun mB => ?_)
 clear hK K
 refine Br (a' := ?_) ?_ ?_
 rotate_left
 ·show Act.put _ (some 26) _ = _
  simp only [ps]
  rfl
 refine pv 4 22 (tf 5 4) aD ?_
 refine pv 5 27 (tf 6 3) aD ?_
 refine pv 6 28 (tf 7 2) aD ?_
 refine pv 7 7 (tf 8 1) aD ?_
 refine pv 8 8 (tf 9 0) aD ?_
 refine EG (DW aD.out (by kernel_rfl)) ?_
 have lM := cells5 a.out
 have mM := cells5 b.out
 try go_wp2_with ((with_reducible refine AL (f := 27) rfl ?_); refine CV Try.func27 (FJ.calls (cu jE HB) gE.out (cu kE HB) hE.out (cu wE HB) tE.out (cu xE HB) uE.out (cu yE HB) vE.out A8.out) ?_; intro vL U; replace G := rb G U; replace J := nb J U; replace L := nb L U; obtain ⟨a, b⟩ := tb2 U a b; replace HB := kh2 HB B D U)
 have wC := mk0 (Kd.Ey G.out)
 have xC := mk0 (Kd.Gq J.out)
 have yC := mk0 (Kd.Gq L.out)
 have dD := mk0 (AV a.out)
 have eD := mk0 (AV b.out)
 have fD := mk0 (AZ HB.out)
 clear G; clear J; clear L; clear a; clear b; clear HB; have G := wC; have J := xC; have L := yC; have a := dD; have b := eD; have HB := fD; clear wC xC yC dD eD fD
 refine DU (n := 13) (S := fun w' => w'.cell? ⟨x, 0, none⟩ = some (.int .i64 eB) ∧ w'.cell? ⟨x, 1, none⟩ = some (.int .i64 fB) ∧ w'.cell? ⟨x, 2, none⟩ = some (.string gB) ∧ w'.cell? ⟨x, 3, none⟩ = some (.slice gC Z.length jC) ∧ w'.cell? ⟨x, 4, none⟩ = some (.slice hC aB.length kC) ∧ w'.cell? ⟨y, 0, none⟩ = some (.int .i64 uB) ∧ w'.cell? ⟨y, 1, none⟩ = some (.int .i64 wB) ∧ w'.cell? ⟨y, 2, none⟩ = some (.slice mC oB.length pC) ∧ w'.cell? ⟨y, 3, none⟩ = some (.slice nC qB.length qC) ∧ w'.cell? ⟨y, 4, none⟩ = some (.slice oC sB.length rC)) (ds := []) (tf 0 13) (by kernel_rfl) rfl rfl ⟨bc a 0, bc a 1, bc a 2, bc a 3, bc a 4, bc b 0, bc b 1, bc b 2, bc b 3, bc b 4⟩ (fun mB => ?_); refine CQ BL.Kr BL.Ip (fun aD bH => ?_)
 generalize vL.drew = bN at G J L a b HB mB ⊢
 refine pv 3 39 #[false, false, false, true, false, false, false, false, false, false, false, false, false] aD ?_
 refine Bj (i := 0) (N := some 36) (v := ?_) (a' := ?_) #[true, false, false, true, false, false, false, false, false, false, false, false, false] rfl rfl (Av aD.out bH.out (by kernel_rfl)) (fun _ _ _ h => h) (Or.inl ⟨by rfl, ?_⟩) mB ?_ ?_
 rotate_left
 ·rintro w' ⟨s0, s1, s2, s3, s4, s5, s6, s7, s8, s9⟩
  go_simp
  with_reducible rfl
 rotate_left
 ·simp only [ps]
  rfl
 refine Bj (i := 1) (N := some 37) (v := ?_) (a' := ?_) #[true, true, false, true, false, false, false, false, false, false, false, false, false] rfl rfl (Av aD.out bH.out (by kernel_rfl)) (fun _ _ _ h => h) (Or.inl ⟨by rfl, ?_⟩) mB ?_ ?_
 rotate_left
 ·rintro w' ⟨s0, s1, s2, s3, s4, s5, s6, s7, s8, s9⟩
  go_simp
  with_reducible rfl
 rotate_left
 ·simp only [ps]
  rfl
 refine MW (σ := Value × Value × Value × Value × Value × Value × Nat) 3 #[true, true, true, true, true, true, true, true, true, true, false, false, false] (fun s_ => [(38, .agg #[.int .i64 pF, .int .i64 qF, s_.1, s_.2.1, s_.2.2.1]), (40, .tuple #[.agg #[.int .i64 nE, .int .i64 oE, s_.2.2.2.1, s_.2.2.2.2.1, s_.2.2.2.2.2.1], .bool dE, .int .i64 qE]), (11, .pointer (some ⟨s_.2.2.2.2.2.2, 0, none⟩)), (35, .tuple #[.agg #[.int .i64 nE, .int .i64 oE, s_.2.2.2.1, s_.2.2.2.2.1, s_.2.2.2.2.2.1], .bool dE, .int .i64 qE]), (41, .agg #[.int .i64 nE, .int .i64 oE, s_.2.2.2.1, s_.2.2.2.2.1, s_.2.2.2.2.2.1]), (42, .bool dE), (43, .int .i64 qE)]) (fun s_ w' => (w'.cell? ⟨x, 0, none⟩ = some (.int .i64 eB) ∧ w'.cell? ⟨x, 1, none⟩ = some (.int .i64 fB) ∧ w'.cell? ⟨x, 2, none⟩ = some (.string gB) ∧ w'.cell? ⟨x, 3, none⟩ = some (.slice gC Z.length jC) ∧ w'.cell? ⟨x, 4, none⟩ = some (.slice hC aB.length kC) ∧ w'.cell? ⟨y, 0, none⟩ = some (.int .i64 uB) ∧ w'.cell? ⟨y, 1, none⟩ = some (.int .i64 wB) ∧ w'.cell? ⟨y, 2, none⟩ = some (.slice mC oB.length pC) ∧ w'.cell? ⟨y, 3, none⟩ = some (.slice nC qB.length qC) ∧ w'.cell? ⟨y, 4, none⟩ = some (.slice oC sB.length rC)) ∧ (Kd.R (Kd.int .u8) 73 w' w.heap.size (fun l => some l ≠ (s_.1 : Value).ownBlock ∧ some l ≠ (s_.2.2.2.1 : Value).ownBlock) (.slice kB hB.length lB) hB) ∧ (Kd.N k30 30 w' w.heap.size (fun l => some l ≠ (.slice kB hB.length lB : Value).ownBlock ∧ some l ≠ (.slice aC yB.length cC : Value).ownBlock ∧ some l ≠ (s_.1 : Value).ownBlock ∧ some l ≠ (s_.2.1 : Value).ownBlock ∧ some l ≠ (s_.2.2.1 : Value).ownBlock ∧ some l ≠ (s_.2.2.2.1 : Value).ownBlock ∧ some l ≠ (s_.2.2.2.2.2.1 : Value).ownBlock ∧ l ≠ x ∧ l ≠ y ∧ l ≠ s_.2.2.2.2.2.2) (.slice zB xB.length bC) xB) ∧ (Kd.N k63 63 w' w.heap.size (fun l => some l ≠ (.slice kB hB.length lB : Value).ownBlock ∧ some l ≠ (.slice zB xB.length bC : Value).ownBlock ∧ some l ≠ (s_.1 : Value).ownBlock ∧ some l ≠ (s_.2.1 : Value).ownBlock ∧ some l ≠ (s_.2.2.1 : Value).ownBlock ∧ some l ≠ (s_.2.2.2.1 : Value).ownBlock ∧ some l ≠ (s_.2.2.2.2.2.1 : Value).ownBlock ∧ l ≠ x ∧ l ≠ y ∧ l ≠ s_.2.2.2.2.2.2) (.slice aC yB.length cC) yB) ∧ (Kd.R (Kd.int .u8) 73 w' w.heap.size (fun l => some l ≠ (.slice kB hB.length lB : Value).ownBlock ∧ some l ≠ (s_.2.2.2.1 : Value).ownBlock) s_.1 zC) ∧ (Kd.N k30 30 w' w.heap.size (fun l => some l ≠ (.slice kB hB.length lB : Value).ownBlock ∧ some l ≠ (.slice zB xB.length bC : Value).ownBlock ∧ some l ≠ (.slice aC yB.length cC : Value).ownBlock ∧ some l ≠ (s_.1 : Value).ownBlock ∧ some l ≠ (s_.2.2.1 : Value).ownBlock ∧ some l ≠ (s_.2.2.2.1 : Value).ownBlock ∧ some l ≠ (s_.2.2.2.2.2.1 : Value).ownBlock ∧ l ≠ x ∧ l ≠ y ∧ l ≠ s_.2.2.2.2.2.2) s_.2.1 xD) ∧ (Kd.N k63 63 w' w.heap.size (fun l => some l ≠ (.slice kB hB.length lB : Value).ownBlock ∧ some l ≠ (.slice zB xB.length bC : Value).ownBlock ∧ some l ≠ (.slice aC yB.length cC : Value).ownBlock ∧ some l ≠ (s_.1 : Value).ownBlock ∧ some l ≠ (s_.2.1 : Value).ownBlock ∧ some l ≠ (s_.2.2.2.1 : Value).ownBlock ∧ some l ≠ (s_.2.2.2.2.2.1 : Value).ownBlock ∧ l ≠ x ∧ l ≠ y ∧ l ≠ s_.2.2.2.2.2.2) s_.2.2.1 yD) ∧ (Kd.R (Kd.int .u8) 73 w' w.heap.size (fun l => some l ≠ (.slice kB hB.length lB : Value).ownBlock ∧ some l ≠ (s_.1 : Value).ownBlock) s_.2.2.2.1 nD) ∧ (Kd.V k30 30 w' w.heap.size (fun l => some l ≠ (.slice kB hB.length lB : Value).ownBlock ∧ some l ≠ (.slice zB xB.length bC : Value).ownBlock ∧ some l ≠ (.slice aC yB.length cC : Value).ownBlock ∧ some l ≠ (s_.1 : Value).ownBlock ∧ some l ≠ (s_.2.2.2.1 : Value).ownBlock ∧ some l ≠ (s_.2.2.2.2.2.1 : Value).ownBlock ∧ l ≠ x ∧ l ≠ y ∧ l ≠ s_.2.2.2.2.2.2) s_.2.2.2.2.1 pE) ∧ (Kd.N k63 63 w' w.heap.size (fun l => some l ≠ (.slice kB hB.length lB : Value).ownBlock ∧ some l ≠ (.slice zB xB.length bC : Value).ownBlock ∧ some l ≠ (.slice aC yB.length cC : Value).ownBlock ∧ some l ≠ (s_.1 : Value).ownBlock ∧ some l ≠ (s_.2.2.2.1 : Value).ownBlock ∧ l ≠ x ∧ l ≠ y ∧ l ≠ s_.2.2.2.2.2.2) s_.2.2.2.2.2.1 uD) ∧ (w'.heap[x]? = some (.cells #[.int .i64 eB, .int .i64 fB, .string gB, .slice gC Z.length jC, .slice hC aB.length kC] 26 (0, 0))) ∧ (w'.heap[y]? = some (.cells #[.int .i64 uB, .int .i64 wB, .slice mC oB.length pC, .slice nC qB.length qC, .slice oC sB.length rC] 33 (0, 0))) ∧ (w'.heap[s_.2.2.2.2.2.2]? = some (.cells #[.int .i64 0, .int .i64 0, .slice none 0 0, .slice none 0 0, .slice none 0 0] 33 (0, 0))) ∧ (w.heap.size ≤ s_.2.2.2.2.2.2) ∧ (w.heap.size ≤ s_.2.2.2.2.2.2) ∧ (x ≠ s_.2.2.2.2.2.2) ∧ (s_.2.2.2.2.2.2 ≠ x) ∧ (y ≠ s_.2.2.2.2.2.2) ∧ (s_.2.2.2.2.2.2 ≠ y) ∧ (Below w.heap.size w w')) ?_ ?_
 rotate_left
 ·intro vG
  refine LW (i := 2) (j := 9) (Ni := some 38) (Nj := some 11) #[true, true, true, true, false, false, false, false, false, false, false, false, false] #[true, true, false, true, false, false, false, false, false, true, false, false, false] rfl rfl rfl rfl (Hd aD.out (by kernel_rfl)) (by decide) (by decide) (fun K hK => ?_) (fun K hK => ?_)
  ·skip
   refine Co Try.func26 (by kernel_rfl) rfl #[.agg #[.int .i64 uB, .int .i64 wB, .slice mC oB.length pC, .slice nC qB.length qC, .slice oC sB.length rC]] (by rfl) rfl rfl (by (try simp only [List.map_toArray, List.map_cons, List.map_nil]); first | done | rfl | (simp only [List.length_drop, List.length_take]; rfl)) ?_
   with_reducible refine (Cj.calls ?side1 ?side2 ?side3 ?side4 ?side5 ?side6 A9.out).mono ?_
   (case side1 => exact cu wE HB)
   (case side2 => exact tE.out)
   (case side3 => exact cu xE HB)
   (case side4 => exact uE.out)
   (case side5 => exact cu yE HB)
   (case side6 => exact vE.out)
   rintro e wL ⟨v313, v316, v319, rfl, dC, uC, jB, U⟩
   refine ⟨_, rfl, ?_⟩
   have wC := mk0 (Kd.DT (CP G.out) (Kd.Am dC) U)
   have xC := mk0 (Kd.BM (Kd.CB (Kd.CB (Kd.CB (Kd.EH (DZ J.out) U) (Kd.Am dC)) (by first | exact Kd.Am uC | exact Kd.Bi uC)) (by first | exact Kd.Am jB | exact Kd.Bi jB)) (fun _ h_ => h_.1))
   have yC := mk0 (Kd.BM (Kd.CB (Kd.CB (Kd.CB (Kd.EH (DZ L.out) U) (Kd.Am dC)) (by first | exact Kd.Am uC | exact Kd.Bi uC)) (by first | exact Kd.Am jB | exact Kd.Bi jB)) (fun _ h_ => h_.1))
   have dD := mk0 (Kd.CF (Kd.DY dC (Kd.Cz (CP G.out))) (AP (be2 HB B D)))
   have eD := mk0 (Kd.Dk (Kd.BM (ok' := fun l => some l ≠ (v313 : Value).ownBlock ∧ some l ≠ (v319 : Value).ownBlock ∧ some l ≠ (.slice kB hB.length lB : Value).ownBlock ∧ some l ≠ (.slice zB xB.length bC : Value).ownBlock ∧ some l ≠ (.slice aC yB.length cC : Value).ownBlock ∧ l ≠ x ∧ l ≠ y) (Kd.R_N (Kd.Dc (Kd.DR uC (Kd.Dm jB) (by decide)))) (fun l I => ⟨I.1.1, I.1.2, (Kd.fresh' (Kd.Cz (CP G.out)) l I.2.1), (Kd.fresh' (Kd.EF (DZ J.out)) l I.2.1), (Kd.fresh' (Kd.EF (DZ L.out)) l I.2.1), (Kd.Aq (g := x) (o := .cells #[.int .i64 eB, .int .i64 fB, .string gB, .slice gC Z.length jC, .slice hC aB.length kC] 26 (0, 0)) (AU a.out) l I.2.1), (Kd.Aq (g := y) (o := .cells #[.int .i64 uB, .int .i64 wB, .slice mC oB.length pC, .slice nC qB.length qC, .slice oC sB.length rC] 33 (0, 0)) (AU b.out) l I.2.1)⟩)) (AP (be2 HB B D)))
   have fD := mk0 (Kd.Dk (Kd.BM (ok' := fun l => some l ≠ (v313 : Value).ownBlock ∧ some l ≠ (v316 : Value).ownBlock ∧ some l ≠ (.slice kB hB.length lB : Value).ownBlock ∧ some l ≠ (.slice zB xB.length bC : Value).ownBlock ∧ some l ≠ (.slice aC yB.length cC : Value).ownBlock ∧ l ≠ x ∧ l ≠ y) (Kd.R_N (Kd.Dc jB)) (fun l I => ⟨I.1.1, I.1.2, (Kd.fresh' (Kd.Cz (CP G.out)) l I.2.1), (Kd.fresh' (Kd.EF (DZ J.out)) l I.2.1), (Kd.fresh' (Kd.EF (DZ L.out)) l I.2.1), (Kd.Aq (g := x) (o := .cells #[.int .i64 eB, .int .i64 fB, .string gB, .slice gC Z.length jC, .slice hC aB.length kC] 26 (0, 0)) (AU a.out) l I.2.1), (Kd.Aq (g := y) (o := .cells #[.int .i64 uB, .int .i64 wB, .slice mC oB.length pC, .slice nC qB.length qC, .slice oC sB.length rC] 33 (0, 0)) (AU b.out) l I.2.1)⟩)) (AP (be2 HB B D)))
   have rD := kb a U
   have sD := kb b U
   have tD := kh2 HB B D U
   clear G; clear J; clear L; clear a; clear b; clear HB; have G := wC; have J := xC; have L := yC; have T := dD; have bB := eD; have cB := fD; have a := rD; have b := sD; have HB := tD; clear wC xC yC dD eD fD rD sD tD
   try clear U
   try clear dC
   try clear uC
   try clear jB
   obtain ⟨dG, fG, uH⟩ := Kd.Bg T.out
   (first | subst uH | (injection uH with f1_ f2_ f3_; have kD := f1_.symm; have lD := f3_.symm; clear f1_ f2_ f3_; subst kD; subst lD))
   obtain ⟨oD, pD, hF⟩ := Kd.Cw bB.out
   (first | subst hF | (injection hF with f1_ f2_ f3_; have kD := f1_.symm; have lD := f3_.symm; clear f1_ f2_ f3_; subst kD; subst lD))
   obtain ⟨fE, lE, jF⟩ := Kd.Cw cB.out
   (first | subst jF | (injection jF with f1_ f2_ f3_; have kD := f1_.symm; have lD := f3_.symm; clear f1_ f2_ f3_; subst kD; subst lD))
   refine hK.out _ _ ⟨bc a 0, bc a 1, bc a 2, bc a 3, bc a 4, bc b 0, bc b 1, bc b 2, bc b 3, bc b 4⟩ (fun mB => ?_)
   clear hK K
   refine Br (a' := ?_) ?_ ?_
   rotate_left
   ·show Act.put _ (some 38) _ = _
    simp only [ps]
    rfl
   refine LW (i := 4) (j := 9) (Ni := some 40) (Nj := some 11) #[true, true, true, true, true, false, false, false, false, false, false, false, false] #[true, true, true, true, false, false, false, false, false, true, false, false, false] rfl rfl rfl rfl (Hd aD.out (by kernel_rfl)) (by decide) (by decide) (fun K hK => ?_) (fun K hK => ?_)
   ·skip
    refine Co Try.func28 (by kernel_rfl) rfl #[.agg #[.int .i64 eB, .int .i64 fB, .string gB, .slice gC Z.length jC, .slice hC aB.length kC], .agg #[.int .i64 pF, .int .i64 qF, .slice dG zC.length fG, .slice oD xD.length pD, .slice fE yD.length lE], .int .i64 a2] (by rfl) rfl rfl (by (try simp only [List.map_toArray, List.map_cons, List.map_nil]); first | done | rfl | (simp only [List.length_drop, List.length_take]; rfl)) ?_
    with_reducible refine (Ah.calls k eB fB gB _ _ Z _ _ aB pF qF _ _ zC (fun l => (some l ≠ (.slice dG zC.length fG : Value).ownBlock ∧ (some l ≠ (.slice fE yD.length lE : Value).ownBlock ∧ (some l ≠ (.slice kB hB.length lB : Value).ownBlock ∧ (some l ≠ (.slice zB xB.length bC : Value).ownBlock ∧ (some l ≠ (.slice aC yB.length cC : Value).ownBlock ∧ (l ≠ x ∧ l ≠ y))))))) _ _ xD (fun l => (some l ≠ (.slice dG zC.length fG : Value).ownBlock ∧ (some l ≠ (.slice oD xD.length pD : Value).ownBlock ∧ (some l ≠ (.slice kB hB.length lB : Value).ownBlock ∧ (some l ≠ (.slice zB xB.length bC : Value).ownBlock ∧ (some l ≠ (.slice aC yB.length cC : Value).ownBlock ∧ (l ≠ x ∧ l ≠ y))))))) _ _ yD a2 nE oE nD pE uD dE qE _ ?side9 ?side1 ?side2 ?side3 ?side4 ?side5 ?side6 ?side7 ?side8 jI.out).mono ?_
    (case side1 => exact cu jE HB)
    (case side2 => exact gE.out)
    (case side3 => exact cu kE HB)
    (case side4 => exact hE.out)
    (case side5 => repeat (first | exact (Kd.CZ T.out).2.2 | (with_reducible refine Kd.Cu ?_ _) | (with_reducible refine Kd.Cv ?_ _) | (with_reducible refine Kd.DN ?_)))
    (case side6 => exact (Kd.CZ T.out).2.1)
    (case side7 => exact Kd.N_V (bB.out))
    (case side8 => exact Kd.N_V (cB.out))
    (case side9 => exact Al HG.out (be2 HB B D))
    rintro e cN ⟨v324, v327, v330, rfl, dC, uC, jB, U⟩
    refine ⟨_, rfl, ?_⟩
    have wC := mk0 (Kd.DT (CP G.out) (Kd.Am dC) U)
    have xC := mk0 (Kd.BM (Kd.CB (Kd.CB (Kd.EH (DZ J.out) U) (Kd.Am dC)) (by first | exact Kd.Am jB | exact Kd.Bi jB)) (fun _ h_ => h_.1))
    have yC := mk0 (Kd.BM (Kd.CB (Kd.CB (Kd.EH (DZ L.out) U) (Kd.Am dC)) (by first | exact Kd.Am jB | exact Kd.Bi jB)) (fun _ h_ => h_.1))
    have dD := mk0 (Kd.DT (CP T.out) (Kd.Am dC) U)
    have eD := mk0 (Kd.BM (Kd.CB (Kd.CB (Kd.EH (DZ bB.out) U) (Kd.Am dC)) (by first | exact Kd.Am jB | exact Kd.Bi jB)) (fun _ h_ => h_.1))
    have fD := mk0 (Kd.BM (Kd.CB (Kd.CB (Kd.EH (DZ cB.out) U) (Kd.Am dC)) (by first | exact Kd.Am jB | exact Kd.Bi jB)) (fun _ h_ => h_.1))
    have rD := mk0 (Kd.CF (Kd.DY (Kd.DY (Kd.Ai (ok' := fun l => True) dC (fun _ I => trivial)) (Kd.Cz (CP G.out))) (Kd.Cz (CP T.out))) (AP (be2 HB B D)))
    have sD := mk0 (Kd.En (Kd.AR (ok' := fun l => some l ≠ (v324 : Value).ownBlock ∧ some l ≠ (v330 : Value).ownBlock ∧ some l ≠ (.slice kB hB.length lB : Value).ownBlock ∧ some l ≠ (.slice zB xB.length bC : Value).ownBlock ∧ some l ≠ (.slice aC yB.length cC : Value).ownBlock ∧ some l ≠ (.slice dG zC.length fG : Value).ownBlock ∧ l ≠ x ∧ l ≠ y) uC (fun l I => ⟨I.2.1, I.2.2, Or.elim I.1 (fun m => Or.elim m (fun m => m.2.2.1) (fun m => m.2.2.1)) (fun X => (Kd.fresh' (Kd.Cz (CP G.out)) l X)), Or.elim I.1 (fun m => Or.elim m (fun m => m.2.2.2.1) (fun m => m.2.2.2.1)) (fun X => (Kd.fresh' (Kd.EF (DZ J.out)) l X)), Or.elim I.1 (fun m => Or.elim m (fun m => m.2.2.2.2.1) (fun m => m.2.2.2.2.1)) (fun X => (Kd.fresh' (Kd.EF (DZ L.out)) l X)), Or.elim I.1 (fun m => Or.elim m (fun m => m.1) (fun m => m.1)) (fun X => (Kd.fresh' (Kd.Cz (CP T.out)) l X)), Or.elim I.1 (fun m => Or.elim m (fun m => m.2.2.2.2.2.1) (fun m => m.2.2.2.2.2.1)) (fun X => (Kd.Aq (g := x) (o := .cells #[.int .i64 eB, .int .i64 fB, .string gB, .slice gC Z.length jC, .slice hC aB.length kC] 26 (0, 0)) (AU a.out) l X)), Or.elim I.1 (fun m => Or.elim m (fun m => m.2.2.2.2.2.2) (fun m => m.2.2.2.2.2.2)) (fun X => (Kd.Aq (g := y) (o := .cells #[.int .i64 uB, .int .i64 wB, .slice mC oB.length pC, .slice nC qB.length qC, .slice oC sB.length rC] 33 (0, 0)) (AU b.out) l X))⟩)) (AP (be2 HB B D)))
    have tD := mk0 (Kd.Dk (Kd.BM (ok' := fun l => some l ≠ (v324 : Value).ownBlock ∧ some l ≠ (.slice kB hB.length lB : Value).ownBlock ∧ some l ≠ (.slice zB xB.length bC : Value).ownBlock ∧ some l ≠ (.slice aC yB.length cC : Value).ownBlock ∧ some l ≠ (.slice dG zC.length fG : Value).ownBlock ∧ l ≠ x ∧ l ≠ y) jB (fun l I => ⟨I.2, Or.elim I.1 (fun m => Or.elim m (fun m => m.2.2.1) (fun m => m.2.2.1)) (fun X => (Kd.fresh' (Kd.Cz (CP G.out)) l X)), Or.elim I.1 (fun m => Or.elim m (fun m => m.2.2.2.1) (fun m => m.2.2.2.1)) (fun X => (Kd.fresh' (Kd.EF (DZ J.out)) l X)), Or.elim I.1 (fun m => Or.elim m (fun m => m.2.2.2.2.1) (fun m => m.2.2.2.2.1)) (fun X => (Kd.fresh' (Kd.EF (DZ L.out)) l X)), Or.elim I.1 (fun m => Or.elim m (fun m => m.1) (fun m => m.1)) (fun X => (Kd.fresh' (Kd.Cz (CP T.out)) l X)), Or.elim I.1 (fun m => Or.elim m (fun m => m.2.2.2.2.2.1) (fun m => m.2.2.2.2.2.1)) (fun X => (Kd.Aq (g := x) (o := .cells #[.int .i64 eB, .int .i64 fB, .string gB, .slice gC Z.length jC, .slice hC aB.length kC] 26 (0, 0)) (AU a.out) l X)), Or.elim I.1 (fun m => Or.elim m (fun m => m.2.2.2.2.2.2) (fun m => m.2.2.2.2.2.2)) (fun X => (Kd.Aq (g := y) (o := .cells #[.int .i64 uB, .int .i64 wB, .slice mC oB.length pC, .slice nC qB.length qC, .slice oC sB.length rC] 33 (0, 0)) (AU b.out) l X))⟩)) (AP (be2 HB B D)))
    have wD := kb a U
    have gD := kb b U
    have hD := kh2 HB B D U
    clear G; clear J; clear L; clear T; clear bB; clear cB; clear a; clear b; clear HB; have G := wC; have J := xC; have L := yC; have T := dD; have bB := eD; have cB := fD; have iC := rD; have tC := sD; have sC := tD; have a := wD; have b := gD; have HB := hD; clear wC xC yC dD eD fD rD sD tD wD gD hD
    try clear U
    try clear dC
    try clear uC
    try clear jB
    refine hK.out _ _ ⟨bc a 0, bc a 1, bc a 2, bc a 3, bc a 4, bc b 0, bc b 1, bc b 2, bc b 3, bc b 4⟩ (fun mB => ?_)
    clear hK K
    refine Br (a' := ?_) ?_ ?_
    rotate_left
    ·show Act.put _ (some 40) _ = _
     simp only [ps]
     rfl
    refine pv 5 35 (tf 6 7) aD ?_
    refine pv 6 41 (tf 7 6) aD ?_
    refine pv 7 42 (tf 8 5) aD ?_
    refine pv 8 43 (tf 9 4) aD ?_
    refine DL (i := 9) (N := some 11) (tf 10 3) rfl rfl (Bo aD.out (by kernel_rfl)) (by decide) (fun K hK => ?_)
    refine EZ ?hg (N := 11) ?hd (cs := #[.int .i64 0, .int .i64 0, .slice none 0 0, .slice none 0 0, .slice none 0 0]) (t := 33) ?hr ?_; (case hd => rfl); (case hg => rfl); (case hr => first | (go_simp; done) | (go_simp; rfl))
    intro d hg bK cD U
    have wC := rb G U
    have xC := nB J hg U
    have yC := nB L hg U
    have dD := rb T U
    have eD := nB bB hg U
    have fD := nB cB hg U
    have rD := rb iC U
    have sD := vB tC hg U
    have tD := nB sC hg U
    have wD := kb a U
    have gD := kb b U
    have hD := kh2 HB B D U
    have qD := mk0 (cD)
    have lF := bs (be2 HB B D) hg
    have mF := bs (be2 HB B D) hg
    have oF := nb1 (bu a) hg
    have oG := nb2 (bu a) hg
    have pG := nb1 (bu b) hg
    have qG := nb2 (bu b) hg
    clear G; clear J; clear L; clear T; clear bB; clear cB; clear iC; clear tC; clear sC; clear a; clear b; clear HB; have G := wC; have J := xC; have L := yC; have T := dD; have bB := eD; have cB := fD; have iC := rD; have tC := sD; have sC := tD; have a := wD; have b := gD; have HB := hD; have O := qD; have fF := lF; have Y := mF; have s := oF; have eC := oG; have u := pG; have fC := qG; clear wC xC yC dD eD fD rD sD tD wD gD hD qD lF mF oF oG pG qG; clear U cD hg
    refine hK.out _ _ ⟨bc a 0, bc a 1, bc a 2, bc a 3, bc a 4, bc b 0, bc b 1, bc b 2, bc b 3, bc b 4⟩ (fun mB => ?_)
    clear hK K
    refine Br (a' := ?_) ?_ ?_
    rotate_left
    ·show Act.put _ (some 11) _ = _
     simp only [ps]
     rfl
    exact Br (by simp only [EM, Act.put, List.setIfInBounds_toArray, List.set_cons_zero, List.set_cons_succ]) (vG (.slice dG zC.length fG, .slice oD xD.length pD, .slice fE yD.length lE, v324, v327, v330, d) _ ⟨mB, (CS (Kd.Ai G.out (fun _ z => ⟨z.1.2, z.2⟩))), (DC (Kd.BM J.out (fun _ z => ⟨z.1.1.1.1.1.1.1, ⟨z.1.1.1.1.1.1.2.1, ⟨z.1.1.1.1.1.2, ⟨z.1.1.1.1.2, ⟨z.1.1.1.2, ⟨z.1.1.2, ⟨z.1.2, ⟨z.1.1.1.1.1.1.2.2.1, ⟨z.1.1.1.1.1.1.2.2.2, z.2⟩⟩⟩⟩⟩⟩⟩⟩⟩))), (DC (Kd.BM L.out (fun _ z => ⟨z.1.1.1.1.1.1.1, ⟨z.1.1.1.1.1.1.2.1, ⟨z.1.1.1.1.1.2, ⟨z.1.1.1.1.2, ⟨z.1.1.1.2, ⟨z.1.1.2, ⟨z.1.2, ⟨z.1.1.1.1.1.1.2.2.1, ⟨z.1.1.1.1.1.1.2.2.2, z.2⟩⟩⟩⟩⟩⟩⟩⟩⟩))), (CS (Kd.Ai T.out (fun _ z => ⟨z.1.2, z.2⟩))), (DC (Kd.BM bB.out (fun _ z => ⟨z.1.1.1.2.2.1, ⟨z.1.1.1.2.2.2.1, ⟨z.1.1.1.2.2.2.2.1, ⟨z.1.1.1.1, ⟨z.1.1.1.2.1, ⟨z.1.1.2, ⟨z.1.2, ⟨z.1.1.1.2.2.2.2.2.1, ⟨z.1.1.1.2.2.2.2.2.2, z.2⟩⟩⟩⟩⟩⟩⟩⟩⟩))), (DC (Kd.BM cB.out (fun _ z => ⟨z.1.1.1.2.2.1, ⟨z.1.1.1.2.2.2.1, ⟨z.1.1.1.2.2.2.2.1, ⟨z.1.1.1.1, ⟨z.1.1.1.2.1, ⟨z.1.1.2, ⟨z.1.2, ⟨z.1.1.1.2.2.2.2.2.1, ⟨z.1.1.1.2.2.2.2.2.2, z.2⟩⟩⟩⟩⟩⟩⟩⟩⟩))), (CS (Kd.Ai iC.out (fun _ z => ⟨z.1.2, z.2⟩))), (Bn (Kd.AR tC.out (fun _ z => ⟨z.1.2.2.1, ⟨z.1.2.2.2.1, ⟨z.1.2.2.2.2.1, ⟨z.1.2.2.2.2.2.1, ⟨z.1.1, ⟨z.1.2.1, ⟨z.1.2.2.2.2.2.2.1, ⟨z.1.2.2.2.2.2.2.2, z.2⟩⟩⟩⟩⟩⟩⟩⟩))), (DC (Kd.BM sC.out (fun _ z => ⟨z.1.2.1, ⟨z.1.2.2.1, ⟨z.1.2.2.2.1, ⟨z.1.2.2.2.2.1, ⟨z.1.1, ⟨z.1.2.2.2.2.2.1, ⟨z.1.2.2.2.2.2.2, z.2⟩⟩⟩⟩⟩⟩⟩))), (AU a.out), (AU b.out), (AU O.out), fF.out, Y.out, s.out, eC.out, u.out, fC.out, (be3 HB B D Y)⟩)
   ·skip
    refine EZ ?hg (N := 11) ?hd (cs := #[.int .i64 0, .int .i64 0, .slice none 0 0, .slice none 0 0, .slice none 0 0]) (t := 33) ?hr ?_; (case hd => rfl); (case hg => rfl); (case hr => first | (go_simp; done) | (go_simp; rfl))
    intro d hg xL cD U
    have wC := rb G U
    have xC := nB J hg U
    have yC := nB L hg U
    have dD := rb T U
    have eD := nB bB hg U
    have fD := nB cB hg U
    have rD := kb a U
    have sD := kb b U
    have tD := kh2 HB B D U
    have wD := mk0 (cD)
    have gD := bs (be2 HB B D) hg
    have hD := bs (be2 HB B D) hg
    have qD := nb1 (bu a) hg
    have lF := nb2 (bu a) hg
    have mF := nb1 (bu b) hg
    have oF := nb2 (bu b) hg
    clear G; clear J; clear L; clear T; clear bB; clear cB; clear a; clear b; clear HB; have G := wC; have J := xC; have L := yC; have T := dD; have bB := eD; have cB := fD; have a := rD; have b := sD; have HB := tD; have O := wD; have fF := gD; have Y := hD; have s := qD; have eC := lF; have u := mF; have fC := oF; clear wC xC yC dD eD fD rD sD tD wD gD hD qD lF mF oF; clear U cD hg
    obtain ⟨oD, pD, hF⟩ := Kd.Bg T.out
    (first | subst hF | (injection hF with f1_ f2_ f3_; have kD := f1_.symm; have lD := f3_.symm; clear f1_ f2_ f3_; subst kD; subst lD))
    obtain ⟨fE, lE, jF⟩ := Kd.Cw bB.out
    (first | subst jF | (injection jF with f1_ f2_ f3_; have kD := f1_.symm; have lD := f3_.symm; clear f1_ f2_ f3_; subst kD; subst lD))
    obtain ⟨tF, zF, nG⟩ := Kd.Cw cB.out
    (first | subst nG | (injection nG with f1_ f2_ f3_; have kD := f1_.symm; have lD := f3_.symm; clear f1_ f2_ f3_; subst kD; subst lD))
    refine hK.out _ _ ⟨bc a 0, bc a 1, bc a 2, bc a 3, bc a 4, bc b 0, bc b 1, bc b 2, bc b 3, bc b 4⟩ (fun mB => ?_)
    clear hK K
    refine Br (a' := ?_) ?_ ?_
    rotate_left
    ·show Act.put _ (some 11) _ = _
     simp only [ps]
     rfl
    refine DL (i := 4) (N := some 40) #[true, true, true, true, true, false, false, false, false, true, false, false, false] rfl rfl (Bo aD.out (by kernel_rfl)) (by decide) (fun K hK => ?_)
    refine Co Try.func28 (by kernel_rfl) rfl #[.agg #[.int .i64 eB, .int .i64 fB, .string gB, .slice gC Z.length jC, .slice hC aB.length kC], .agg #[.int .i64 pF, .int .i64 qF, .slice oD zC.length pD, .slice fE xD.length lE, .slice tF yD.length zF], .int .i64 a2] (by rfl) rfl rfl (by (try simp only [List.map_toArray, List.map_cons, List.map_nil]); first | done | rfl | (simp only [List.length_drop, List.length_take]; rfl)) ?_
    with_reducible refine (Ah.calls k eB fB gB _ _ Z _ _ aB pF qF _ _ zC (fun l => ((some l ≠ (.slice oD zC.length pD : Value).ownBlock ∧ (some l ≠ (.slice tF yD.length zF : Value).ownBlock ∧ (some l ≠ (.slice kB hB.length lB : Value).ownBlock ∧ (some l ≠ (.slice zB xB.length bC : Value).ownBlock ∧ (some l ≠ (.slice aC yB.length cC : Value).ownBlock ∧ (l ≠ x ∧ l ≠ y)))))) ∧ l ≠ d)) _ _ xD (fun l => ((some l ≠ (.slice oD zC.length pD : Value).ownBlock ∧ (some l ≠ (.slice fE xD.length lE : Value).ownBlock ∧ (some l ≠ (.slice kB hB.length lB : Value).ownBlock ∧ (some l ≠ (.slice zB xB.length bC : Value).ownBlock ∧ (some l ≠ (.slice aC yB.length cC : Value).ownBlock ∧ (l ≠ x ∧ l ≠ y)))))) ∧ l ≠ d)) _ _ yD a2 nE oE nD pE uD dE qE _ ?side9 ?side1 ?side2 ?side3 ?side4 ?side5 ?side6 ?side7 ?side8 jI.out).mono ?_
    (case side1 => exact cu jE HB)
    (case side2 => exact gE.out)
    (case side3 => exact cu kE HB)
    (case side4 => exact hE.out)
    (case side5 => repeat (first | exact (Kd.CZ T.out).2.2 | (with_reducible refine Kd.Cu ?_ _) | (with_reducible refine Kd.Cv ?_ _) | (with_reducible refine Kd.DN ?_)))
    (case side6 => exact (Kd.CZ T.out).2.1)
    (case side7 => exact Kd.N_V (bB.out))
    (case side8 => exact Kd.N_V (cB.out))
    (case side9 => exact Al HG.out (be3 HB B D Y))
    rintro e bK ⟨v324, v327, v330, rfl, dC, uC, jB, U⟩
    refine ⟨_, rfl, ?_⟩
    have wC := mk0 (Kd.DT (CP G.out) (Kd.Am dC) U)
    have xC := mk0 (Kd.BM (Kd.CB (Kd.CB (Kd.EH (DZ J.out) U) (Kd.Am dC)) (by first | exact Kd.Am jB | exact Kd.Bi jB)) (fun _ h_ => h_.1))
    have yC := mk0 (Kd.BM (Kd.CB (Kd.CB (Kd.EH (DZ L.out) U) (Kd.Am dC)) (by first | exact Kd.Am jB | exact Kd.Bi jB)) (fun _ h_ => h_.1))
    have dD := mk0 (Kd.DT (CP T.out) (Kd.Am dC) U)
    have eD := mk0 (Kd.BM (Kd.CB (Kd.CB (Kd.EH (DZ bB.out) U) (Kd.Am dC)) (by first | exact Kd.Am jB | exact Kd.Bi jB)) (fun _ h_ => h_.1))
    have fD := mk0 (Kd.BM (Kd.CB (Kd.CB (Kd.EH (DZ cB.out) U) (Kd.Am dC)) (by first | exact Kd.Am jB | exact Kd.Bi jB)) (fun _ h_ => h_.1))
    have rD := mk0 (Kd.CF (Kd.DY (Kd.DY (Kd.Ai (ok' := fun l => True) dC (fun _ I => trivial)) (Kd.Cz (CP G.out))) (Kd.Cz (CP T.out))) (AP (be3 HB B D Y)))
    have sD := mk0 (Kd.En (Kd.AR (ok' := fun l => some l ≠ (v324 : Value).ownBlock ∧ some l ≠ (v330 : Value).ownBlock ∧ some l ≠ (.slice kB hB.length lB : Value).ownBlock ∧ some l ≠ (.slice zB xB.length bC : Value).ownBlock ∧ some l ≠ (.slice aC yB.length cC : Value).ownBlock ∧ some l ≠ (.slice oD zC.length pD : Value).ownBlock ∧ l ≠ x ∧ l ≠ y ∧ l ≠ d) uC (fun l I => ⟨I.2.1, I.2.2, Or.elim I.1 (fun m => Or.elim m (fun m => m.1.2.2.1) (fun m => m.1.2.2.1)) (fun X => (Kd.fresh' (Kd.Cz (CP G.out)) l X)), Or.elim I.1 (fun m => Or.elim m (fun m => m.1.2.2.2.1) (fun m => m.1.2.2.2.1)) (fun X => (Kd.fresh' (Kd.EF (DZ J.out)) l X)), Or.elim I.1 (fun m => Or.elim m (fun m => m.1.2.2.2.2.1) (fun m => m.1.2.2.2.2.1)) (fun X => (Kd.fresh' (Kd.EF (DZ L.out)) l X)), Or.elim I.1 (fun m => Or.elim m (fun m => m.1.1) (fun m => m.1.1)) (fun X => (Kd.fresh' (Kd.Cz (CP T.out)) l X)), Or.elim I.1 (fun m => Or.elim m (fun m => m.1.2.2.2.2.2.1) (fun m => m.1.2.2.2.2.2.1)) (fun X => (Kd.Aq (g := x) (o := .cells #[.int .i64 eB, .int .i64 fB, .string gB, .slice gC Z.length jC, .slice hC aB.length kC] 26 (0, 0)) (AU a.out) l X)), Or.elim I.1 (fun m => Or.elim m (fun m => m.1.2.2.2.2.2.2) (fun m => m.1.2.2.2.2.2.2)) (fun X => (Kd.Aq (g := y) (o := .cells #[.int .i64 uB, .int .i64 wB, .slice mC oB.length pC, .slice nC qB.length qC, .slice oC sB.length rC] 33 (0, 0)) (AU b.out) l X)), Or.elim I.1 (fun m => Or.elim m (fun m => m.2) (fun m => m.2)) (fun X => (Kd.Aq (g := d) (o := .cells #[.int .i64 0, .int .i64 0, .slice none 0 0, .slice none 0 0, .slice none 0 0] 33 (0, 0)) (AU O.out) l X))⟩)) (AP (be3 HB B D Y)))
    have tD := mk0 (Kd.Dk (Kd.BM (ok' := fun l => some l ≠ (v324 : Value).ownBlock ∧ some l ≠ (.slice kB hB.length lB : Value).ownBlock ∧ some l ≠ (.slice zB xB.length bC : Value).ownBlock ∧ some l ≠ (.slice aC yB.length cC : Value).ownBlock ∧ some l ≠ (.slice oD zC.length pD : Value).ownBlock ∧ l ≠ x ∧ l ≠ y ∧ l ≠ d) jB (fun l I => ⟨I.2, Or.elim I.1 (fun m => Or.elim m (fun m => m.1.2.2.1) (fun m => m.1.2.2.1)) (fun X => (Kd.fresh' (Kd.Cz (CP G.out)) l X)), Or.elim I.1 (fun m => Or.elim m (fun m => m.1.2.2.2.1) (fun m => m.1.2.2.2.1)) (fun X => (Kd.fresh' (Kd.EF (DZ J.out)) l X)), Or.elim I.1 (fun m => Or.elim m (fun m => m.1.2.2.2.2.1) (fun m => m.1.2.2.2.2.1)) (fun X => (Kd.fresh' (Kd.EF (DZ L.out)) l X)), Or.elim I.1 (fun m => Or.elim m (fun m => m.1.1) (fun m => m.1.1)) (fun X => (Kd.fresh' (Kd.Cz (CP T.out)) l X)), Or.elim I.1 (fun m => Or.elim m (fun m => m.1.2.2.2.2.2.1) (fun m => m.1.2.2.2.2.2.1)) (fun X => (Kd.Aq (g := x) (o := .cells #[.int .i64 eB, .int .i64 fB, .string gB, .slice gC Z.length jC, .slice hC aB.length kC] 26 (0, 0)) (AU a.out) l X)), Or.elim I.1 (fun m => Or.elim m (fun m => m.1.2.2.2.2.2.2) (fun m => m.1.2.2.2.2.2.2)) (fun X => (Kd.Aq (g := y) (o := .cells #[.int .i64 uB, .int .i64 wB, .slice mC oB.length pC, .slice nC qB.length qC, .slice oC sB.length rC] 33 (0, 0)) (AU b.out) l X)), Or.elim I.1 (fun m => Or.elim m (fun m => m.2) (fun m => m.2)) (fun X => (Kd.Aq (g := d) (o := .cells #[.int .i64 0, .int .i64 0, .slice none 0 0, .slice none 0 0, .slice none 0 0] 33 (0, 0)) (AU O.out) l X))⟩)) (AP (be3 HB B D Y)))
    have wD := kb a U
    have gD := kb b U
    have hD := kb O U
    have qD := kh3 HB B D Y U
    clear G; clear J; clear L; clear T; clear bB; clear cB; clear a; clear b; clear O; clear HB; have G := wC; have J := xC; have L := yC; have T := dD; have bB := eD; have cB := fD; have iC := rD; have tC := sD; have sC := tD; have a := wD; have b := gD; have O := hD; have HB := qD; clear wC xC yC dD eD fD rD sD tD wD gD hD qD
    try clear U
    try clear dC
    try clear uC
    try clear jB
    refine hK.out _ _ ⟨bc a 0, bc a 1, bc a 2, bc a 3, bc a 4, bc b 0, bc b 1, bc b 2, bc b 3, bc b 4⟩ (fun mB => ?_)
    clear hK K
    refine Br (a' := ?_) ?_ ?_
    rotate_left
    ·show Act.put _ (some 40) _ = _
     simp only [ps]
     rfl
    refine pv 5 35 #[true, true, true, true, true, true, false, false, false, true, false, false, false] aD ?_
    refine pv 6 41 #[true, true, true, true, true, true, true, false, false, true, false, false, false] aD ?_
    refine pv 7 42 #[true, true, true, true, true, true, true, true, false, true, false, false, false] aD ?_
    refine pv 8 43 (tf 10 3) aD ?_
    exact Br (by simp only [EM, Act.put, List.setIfInBounds_toArray, List.set_cons_zero, List.set_cons_succ]) (vG (.slice oD zC.length pD, .slice fE xD.length lE, .slice tF yD.length zF, v324, v327, v330, d) _ ⟨mB, (CS (Kd.Ai G.out (fun _ z => ⟨z.1.2, z.2⟩))), (DC (Kd.BM J.out (fun _ z => ⟨z.1.1.1.1.1.1.1, ⟨z.1.1.1.1.1.1.2.1, ⟨z.1.1.1.1.1.2, ⟨z.1.1.1.1.2, ⟨z.1.1.1.2, ⟨z.1.2, ⟨z.2, ⟨z.1.1.1.1.1.1.2.2.1, ⟨z.1.1.1.1.1.1.2.2.2, z.1.1.2⟩⟩⟩⟩⟩⟩⟩⟩⟩))), (DC (Kd.BM L.out (fun _ z => ⟨z.1.1.1.1.1.1.1, ⟨z.1.1.1.1.1.1.2.1, ⟨z.1.1.1.1.1.2, ⟨z.1.1.1.1.2, ⟨z.1.1.1.2, ⟨z.1.2, ⟨z.2, ⟨z.1.1.1.1.1.1.2.2.1, ⟨z.1.1.1.1.1.1.2.2.2, z.1.1.2⟩⟩⟩⟩⟩⟩⟩⟩⟩))), (CS (Kd.Ai T.out (fun _ z => ⟨z.1.2, z.2⟩))), (DC (Kd.BM bB.out (fun _ z => ⟨z.1.1.1.2.2.1, ⟨z.1.1.1.2.2.2.1, ⟨z.1.1.1.2.2.2.2.1, ⟨z.1.1.1.1, ⟨z.1.1.1.2.1, ⟨z.1.2, ⟨z.2, ⟨z.1.1.1.2.2.2.2.2.1, ⟨z.1.1.1.2.2.2.2.2.2, z.1.1.2⟩⟩⟩⟩⟩⟩⟩⟩⟩))), (DC (Kd.BM cB.out (fun _ z => ⟨z.1.1.1.2.2.1, ⟨z.1.1.1.2.2.2.1, ⟨z.1.1.1.2.2.2.2.1, ⟨z.1.1.1.1, ⟨z.1.1.1.2.1, ⟨z.1.2, ⟨z.2, ⟨z.1.1.1.2.2.2.2.2.1, ⟨z.1.1.1.2.2.2.2.2.2, z.1.1.2⟩⟩⟩⟩⟩⟩⟩⟩⟩))), (CS (Kd.Ai iC.out (fun _ z => ⟨z.1.2, z.2⟩))), (Bn (Kd.AR tC.out (fun _ z => ⟨z.2.2.1, ⟨z.2.2.2.1, ⟨z.2.2.2.2.1, ⟨z.2.2.2.2.2.1, ⟨z.1, ⟨z.2.1, ⟨z.2.2.2.2.2.2.1, ⟨z.2.2.2.2.2.2.2.1, z.2.2.2.2.2.2.2.2⟩⟩⟩⟩⟩⟩⟩⟩))), (DC (Kd.BM sC.out (fun _ z => ⟨z.2.1, ⟨z.2.2.1, ⟨z.2.2.2.1, ⟨z.2.2.2.2.1, ⟨z.1, ⟨z.2.2.2.2.2.1, ⟨z.2.2.2.2.2.2.1, z.2.2.2.2.2.2.2⟩⟩⟩⟩⟩⟩⟩))), (AU a.out), (AU b.out), (AU O.out), fF.out, Y.out, s.out, eC.out, u.out, fC.out, (be3 HB B D Y)⟩)
  ·skip
   refine EZ ?hg (N := 11) ?hd (cs := #[.int .i64 0, .int .i64 0, .slice none 0 0, .slice none 0 0, .slice none 0 0]) (t := 33) ?hr ?_; (case hd => rfl); (case hg => rfl); (case hr => first | (go_simp; done) | (go_simp; rfl))
   intro d hg wL cD U
   have wC := rb G U
   have xC := nB J hg U
   have yC := nB L hg U
   have dD := kb a U
   have eD := kb b U
   have fD := kh2 HB B D U
   have rD := mk0 (cD)
   have sD := bs (be2 HB B D) hg
   have tD := bs (be2 HB B D) hg
   have wD := nb1 (bu a) hg
   have gD := nb2 (bu a) hg
   have hD := nb1 (bu b) hg
   have qD := nb2 (bu b) hg
   clear G; clear J; clear L; clear a; clear b; clear HB; have G := wC; have J := xC; have L := yC; have a := dD; have b := eD; have HB := fD; have O := rD; have fF := sD; have Y := tD; have s := wD; have eC := gD; have u := hD; have fC := qD; clear wC xC yC dD eD fD rD sD tD wD gD hD qD; clear U cD hg
   refine hK.out _ _ ⟨bc a 0, bc a 1, bc a 2, bc a 3, bc a 4, bc b 0, bc b 1, bc b 2, bc b 3, bc b 4⟩ (fun mB => ?_)
   clear hK K
   refine Br (a' := ?_) ?_ ?_
   rotate_left
   ·show Act.put _ (some 11) _ = _
    simp only [ps]
    rfl
   refine DL (i := 2) (N := some 38) #[true, true, true, true, false, false, false, false, false, true, false, false, false] rfl rfl (Bo aD.out (by kernel_rfl)) (by decide) (fun K hK => ?_)
   refine Co Try.func26 (by kernel_rfl) rfl #[.agg #[.int .i64 uB, .int .i64 wB, .slice mC oB.length pC, .slice nC qB.length qC, .slice oC sB.length rC]] (by rfl) rfl rfl (by (try simp only [List.map_toArray, List.map_cons, List.map_nil]); first | done | rfl | (simp only [List.length_drop, List.length_take]; rfl)) ?_
   with_reducible refine (Cj.calls ?side1 ?side2 ?side3 ?side4 ?side5 ?side6 A9.out).mono ?_
   (case side1 => exact cu wE HB)
   (case side2 => exact tE.out)
   (case side3 => exact cu xE HB)
   (case side4 => exact uE.out)
   (case side5 => exact cu yE HB)
   (case side6 => exact vE.out)
   rintro e xL ⟨v313, v316, v319, rfl, dC, uC, jB, U⟩
   refine ⟨_, rfl, ?_⟩
   have wC := mk0 (Kd.DT (CP G.out) (Kd.Am dC) U)
   have xC := mk0 (Kd.BM (Kd.CB (Kd.CB (Kd.CB (Kd.EH (DZ J.out) U) (Kd.Am dC)) (by first | exact Kd.Am uC | exact Kd.Bi uC)) (by first | exact Kd.Am jB | exact Kd.Bi jB)) (fun _ h_ => h_.1))
   have yC := mk0 (Kd.BM (Kd.CB (Kd.CB (Kd.CB (Kd.EH (DZ L.out) U) (Kd.Am dC)) (by first | exact Kd.Am uC | exact Kd.Bi uC)) (by first | exact Kd.Am jB | exact Kd.Bi jB)) (fun _ h_ => h_.1))
   have dD := mk0 (Kd.CF (Kd.DY dC (Kd.Cz (CP G.out))) (AP (be3 HB B D Y)))
   have eD := mk0 (Kd.Dk (Kd.BM (ok' := fun l => some l ≠ (v313 : Value).ownBlock ∧ some l ≠ (v319 : Value).ownBlock ∧ some l ≠ (.slice kB hB.length lB : Value).ownBlock ∧ some l ≠ (.slice zB xB.length bC : Value).ownBlock ∧ some l ≠ (.slice aC yB.length cC : Value).ownBlock ∧ l ≠ x ∧ l ≠ y ∧ l ≠ d) (Kd.R_N (Kd.Dc (Kd.DR uC (Kd.Dm jB) (by decide)))) (fun l I => ⟨I.1.1, I.1.2, (Kd.fresh' (Kd.Cz (CP G.out)) l I.2.1), (Kd.fresh' (Kd.EF (DZ J.out)) l I.2.1), (Kd.fresh' (Kd.EF (DZ L.out)) l I.2.1), (Kd.Aq (g := x) (o := .cells #[.int .i64 eB, .int .i64 fB, .string gB, .slice gC Z.length jC, .slice hC aB.length kC] 26 (0, 0)) (AU a.out) l I.2.1), (Kd.Aq (g := y) (o := .cells #[.int .i64 uB, .int .i64 wB, .slice mC oB.length pC, .slice nC qB.length qC, .slice oC sB.length rC] 33 (0, 0)) (AU b.out) l I.2.1), (Kd.Aq (g := d) (o := .cells #[.int .i64 0, .int .i64 0, .slice none 0 0, .slice none 0 0, .slice none 0 0] 33 (0, 0)) (AU O.out) l I.2.1)⟩)) (AP (be3 HB B D Y)))
   have fD := mk0 (Kd.Dk (Kd.BM (ok' := fun l => some l ≠ (v313 : Value).ownBlock ∧ some l ≠ (v316 : Value).ownBlock ∧ some l ≠ (.slice kB hB.length lB : Value).ownBlock ∧ some l ≠ (.slice zB xB.length bC : Value).ownBlock ∧ some l ≠ (.slice aC yB.length cC : Value).ownBlock ∧ l ≠ x ∧ l ≠ y ∧ l ≠ d) (Kd.R_N (Kd.Dc jB)) (fun l I => ⟨I.1.1, I.1.2, (Kd.fresh' (Kd.Cz (CP G.out)) l I.2.1), (Kd.fresh' (Kd.EF (DZ J.out)) l I.2.1), (Kd.fresh' (Kd.EF (DZ L.out)) l I.2.1), (Kd.Aq (g := x) (o := .cells #[.int .i64 eB, .int .i64 fB, .string gB, .slice gC Z.length jC, .slice hC aB.length kC] 26 (0, 0)) (AU a.out) l I.2.1), (Kd.Aq (g := y) (o := .cells #[.int .i64 uB, .int .i64 wB, .slice mC oB.length pC, .slice nC qB.length qC, .slice oC sB.length rC] 33 (0, 0)) (AU b.out) l I.2.1), (Kd.Aq (g := d) (o := .cells #[.int .i64 0, .int .i64 0, .slice none 0 0, .slice none 0 0, .slice none 0 0] 33 (0, 0)) (AU O.out) l I.2.1)⟩)) (AP (be3 HB B D Y)))
   have rD := kb a U
   have sD := kb b U
   have tD := kb O U
   have wD := kh3 HB B D Y U
   clear G; clear J; clear L; clear a; clear b; clear O; clear HB; have G := wC; have J := xC; have L := yC; have T := dD; have bB := eD; have cB := fD; have a := rD; have b := sD; have O := tD; have HB := wD; clear wC xC yC dD eD fD rD sD tD wD
   try clear U
   try clear dC
   try clear uC
   try clear jB
   obtain ⟨oD, pD, hF⟩ := Kd.Bg T.out
   (first | subst hF | (injection hF with f1_ f2_ f3_; have kD := f1_.symm; have lD := f3_.symm; clear f1_ f2_ f3_; subst kD; subst lD))
   obtain ⟨fE, lE, jF⟩ := Kd.Cw bB.out
   (first | subst jF | (injection jF with f1_ f2_ f3_; have kD := f1_.symm; have lD := f3_.symm; clear f1_ f2_ f3_; subst kD; subst lD))
   obtain ⟨tF, zF, nG⟩ := Kd.Cw cB.out
   (first | subst nG | (injection nG with f1_ f2_ f3_; have kD := f1_.symm; have lD := f3_.symm; clear f1_ f2_ f3_; subst kD; subst lD))
   refine hK.out _ _ ⟨bc a 0, bc a 1, bc a 2, bc a 3, bc a 4, bc b 0, bc b 1, bc b 2, bc b 3, bc b 4⟩ (fun mB => ?_)
   clear hK K
   refine Br (a' := ?_) ?_ ?_
   rotate_left
   ·show Act.put _ (some 38) _ = _
    simp only [ps]
    rfl
   refine DL (i := 4) (N := some 40) #[true, true, true, true, true, false, false, false, false, true, false, false, false] rfl rfl (Bo aD.out (by kernel_rfl)) (by decide) (fun K hK => ?_)
   refine Co Try.func28 (by kernel_rfl) rfl #[.agg #[.int .i64 eB, .int .i64 fB, .string gB, .slice gC Z.length jC, .slice hC aB.length kC], .agg #[.int .i64 pF, .int .i64 qF, .slice oD zC.length pD, .slice fE xD.length lE, .slice tF yD.length zF], .int .i64 a2] (by rfl) rfl rfl (by (try simp only [List.map_toArray, List.map_cons, List.map_nil]); first | done | rfl | (simp only [List.length_drop, List.length_take]; rfl)) ?_
   with_reducible refine (Ah.calls k eB fB gB _ _ Z _ _ aB pF qF _ _ zC (fun l => (some l ≠ (.slice oD zC.length pD : Value).ownBlock ∧ (some l ≠ (.slice tF yD.length zF : Value).ownBlock ∧ (some l ≠ (.slice kB hB.length lB : Value).ownBlock ∧ (some l ≠ (.slice zB xB.length bC : Value).ownBlock ∧ (some l ≠ (.slice aC yB.length cC : Value).ownBlock ∧ (l ≠ x ∧ (l ≠ y ∧ l ≠ d)))))))) _ _ xD (fun l => (some l ≠ (.slice oD zC.length pD : Value).ownBlock ∧ (some l ≠ (.slice fE xD.length lE : Value).ownBlock ∧ (some l ≠ (.slice kB hB.length lB : Value).ownBlock ∧ (some l ≠ (.slice zB xB.length bC : Value).ownBlock ∧ (some l ≠ (.slice aC yB.length cC : Value).ownBlock ∧ (l ≠ x ∧ (l ≠ y ∧ l ≠ d)))))))) _ _ yD a2 nE oE nD pE uD dE qE _ ?side9 ?side1 ?side2 ?side3 ?side4 ?side5 ?side6 ?side7 ?side8 jI.out).mono ?_
   (case side1 => exact cu jE HB)
   (case side2 => exact gE.out)
   (case side3 => exact cu kE HB)
   (case side4 => exact hE.out)
   (case side5 => repeat (first | exact (Kd.CZ T.out).2.2 | (with_reducible refine Kd.Cu ?_ _) | (with_reducible refine Kd.Cv ?_ _) | (with_reducible refine Kd.DN ?_)))
   (case side6 => exact (Kd.CZ T.out).2.1)
   (case side7 => exact Kd.N_V (bB.out))
   (case side8 => exact Kd.N_V (cB.out))
   (case side9 => exact Al HG.out (be3 HB B D Y))
   rintro e bK ⟨v324, v327, v330, rfl, dC, uC, jB, U⟩
   refine ⟨_, rfl, ?_⟩
   have wC := mk0 (Kd.DT (CP G.out) (Kd.Am dC) U)
   have xC := mk0 (Kd.BM (Kd.CB (Kd.CB (Kd.EH (DZ J.out) U) (Kd.Am dC)) (by first | exact Kd.Am jB | exact Kd.Bi jB)) (fun _ h_ => h_.1))
   have yC := mk0 (Kd.BM (Kd.CB (Kd.CB (Kd.EH (DZ L.out) U) (Kd.Am dC)) (by first | exact Kd.Am jB | exact Kd.Bi jB)) (fun _ h_ => h_.1))
   have dD := mk0 (Kd.DT (CP T.out) (Kd.Am dC) U)
   have eD := mk0 (Kd.BM (Kd.CB (Kd.CB (Kd.EH (DZ bB.out) U) (Kd.Am dC)) (by first | exact Kd.Am jB | exact Kd.Bi jB)) (fun _ h_ => h_.1))
   have fD := mk0 (Kd.BM (Kd.CB (Kd.CB (Kd.EH (DZ cB.out) U) (Kd.Am dC)) (by first | exact Kd.Am jB | exact Kd.Bi jB)) (fun _ h_ => h_.1))
   have rD := mk0 (Kd.CF (Kd.DY (Kd.DY (Kd.Ai (ok' := fun l => True) dC (fun _ I => trivial)) (Kd.Cz (CP G.out))) (Kd.Cz (CP T.out))) (AP (be3 HB B D Y)))
   have sD := mk0 (Kd.En (Kd.AR (ok' := fun l => some l ≠ (v324 : Value).ownBlock ∧ some l ≠ (v330 : Value).ownBlock ∧ some l ≠ (.slice kB hB.length lB : Value).ownBlock ∧ some l ≠ (.slice zB xB.length bC : Value).ownBlock ∧ some l ≠ (.slice aC yB.length cC : Value).ownBlock ∧ some l ≠ (.slice oD zC.length pD : Value).ownBlock ∧ l ≠ x ∧ l ≠ y ∧ l ≠ d) uC (fun l I => ⟨I.2.1, I.2.2, Or.elim I.1 (fun m => Or.elim m (fun m => m.2.2.1) (fun m => m.2.2.1)) (fun X => (Kd.fresh' (Kd.Cz (CP G.out)) l X)), Or.elim I.1 (fun m => Or.elim m (fun m => m.2.2.2.1) (fun m => m.2.2.2.1)) (fun X => (Kd.fresh' (Kd.EF (DZ J.out)) l X)), Or.elim I.1 (fun m => Or.elim m (fun m => m.2.2.2.2.1) (fun m => m.2.2.2.2.1)) (fun X => (Kd.fresh' (Kd.EF (DZ L.out)) l X)), Or.elim I.1 (fun m => Or.elim m (fun m => m.1) (fun m => m.1)) (fun X => (Kd.fresh' (Kd.Cz (CP T.out)) l X)), Or.elim I.1 (fun m => Or.elim m (fun m => m.2.2.2.2.2.1) (fun m => m.2.2.2.2.2.1)) (fun X => (Kd.Aq (g := x) (o := .cells #[.int .i64 eB, .int .i64 fB, .string gB, .slice gC Z.length jC, .slice hC aB.length kC] 26 (0, 0)) (AU a.out) l X)), Or.elim I.1 (fun m => Or.elim m (fun m => m.2.2.2.2.2.2.1) (fun m => m.2.2.2.2.2.2.1)) (fun X => (Kd.Aq (g := y) (o := .cells #[.int .i64 uB, .int .i64 wB, .slice mC oB.length pC, .slice nC qB.length qC, .slice oC sB.length rC] 33 (0, 0)) (AU b.out) l X)), Or.elim I.1 (fun m => Or.elim m (fun m => m.2.2.2.2.2.2.2) (fun m => m.2.2.2.2.2.2.2)) (fun X => (Kd.Aq (g := d) (o := .cells #[.int .i64 0, .int .i64 0, .slice none 0 0, .slice none 0 0, .slice none 0 0] 33 (0, 0)) (AU O.out) l X))⟩)) (AP (be3 HB B D Y)))
   have tD := mk0 (Kd.Dk (Kd.BM (ok' := fun l => some l ≠ (v324 : Value).ownBlock ∧ some l ≠ (.slice kB hB.length lB : Value).ownBlock ∧ some l ≠ (.slice zB xB.length bC : Value).ownBlock ∧ some l ≠ (.slice aC yB.length cC : Value).ownBlock ∧ some l ≠ (.slice oD zC.length pD : Value).ownBlock ∧ l ≠ x ∧ l ≠ y ∧ l ≠ d) jB (fun l I => ⟨I.2, Or.elim I.1 (fun m => Or.elim m (fun m => m.2.2.1) (fun m => m.2.2.1)) (fun X => (Kd.fresh' (Kd.Cz (CP G.out)) l X)), Or.elim I.1 (fun m => Or.elim m (fun m => m.2.2.2.1) (fun m => m.2.2.2.1)) (fun X => (Kd.fresh' (Kd.EF (DZ J.out)) l X)), Or.elim I.1 (fun m => Or.elim m (fun m => m.2.2.2.2.1) (fun m => m.2.2.2.2.1)) (fun X => (Kd.fresh' (Kd.EF (DZ L.out)) l X)), Or.elim I.1 (fun m => Or.elim m (fun m => m.1) (fun m => m.1)) (fun X => (Kd.fresh' (Kd.Cz (CP T.out)) l X)), Or.elim I.1 (fun m => Or.elim m (fun m => m.2.2.2.2.2.1) (fun m => m.2.2.2.2.2.1)) (fun X => (Kd.Aq (g := x) (o := .cells #[.int .i64 eB, .int .i64 fB, .string gB, .slice gC Z.length jC, .slice hC aB.length kC] 26 (0, 0)) (AU a.out) l X)), Or.elim I.1 (fun m => Or.elim m (fun m => m.2.2.2.2.2.2.1) (fun m => m.2.2.2.2.2.2.1)) (fun X => (Kd.Aq (g := y) (o := .cells #[.int .i64 uB, .int .i64 wB, .slice mC oB.length pC, .slice nC qB.length qC, .slice oC sB.length rC] 33 (0, 0)) (AU b.out) l X)), Or.elim I.1 (fun m => Or.elim m (fun m => m.2.2.2.2.2.2.2) (fun m => m.2.2.2.2.2.2.2)) (fun X => (Kd.Aq (g := d) (o := .cells #[.int .i64 0, .int .i64 0, .slice none 0 0, .slice none 0 0, .slice none 0 0] 33 (0, 0)) (AU O.out) l X))⟩)) (AP (be3 HB B D Y)))
   have wD := kb a U
   have gD := kb b U
   have hD := kb O U
   have qD := kh3 HB B D Y U
   clear G; clear J; clear L; clear T; clear bB; clear cB; clear a; clear b; clear O; clear HB; have G := wC; have J := xC; have L := yC; have T := dD; have bB := eD; have cB := fD; have iC := rD; have tC := sD; have sC := tD; have a := wD; have b := gD; have O := hD; have HB := qD; clear wC xC yC dD eD fD rD sD tD wD gD hD qD
   try clear U
   try clear dC
   try clear uC
   try clear jB
   refine hK.out _ _ ⟨bc a 0, bc a 1, bc a 2, bc a 3, bc a 4, bc b 0, bc b 1, bc b 2, bc b 3, bc b 4⟩ (fun mB => ?_)
   clear hK K
   refine Br (a' := ?_) ?_ ?_
   rotate_left
   ·show Act.put _ (some 40) _ = _
    simp only [ps]
    rfl
   refine pv 5 35 #[true, true, true, true, true, true, false, false, false, true, false, false, false] aD ?_
   refine pv 6 41 #[true, true, true, true, true, true, true, false, false, true, false, false, false] aD ?_
   refine pv 7 42 #[true, true, true, true, true, true, true, true, false, true, false, false, false] aD ?_
   refine pv 8 43 (tf 10 3) aD ?_
   exact Br (by simp only [EM, Act.put, List.setIfInBounds_toArray, List.set_cons_zero, List.set_cons_succ]) (vG (.slice oD zC.length pD, .slice fE xD.length lE, .slice tF yD.length zF, v324, v327, v330, d) _ ⟨mB, (CS (Kd.Ai G.out (fun _ z => ⟨z.1.2, z.2⟩))), (DC (Kd.BM J.out (fun _ z => ⟨z.1.1.1.1.1.1.1, ⟨z.1.1.1.1.1.1.2.1, ⟨z.1.1.1.1.2, ⟨z.1.1.1.2, ⟨z.1.1.2, ⟨z.1.2, ⟨z.2, ⟨z.1.1.1.1.1.1.2.2.1, ⟨z.1.1.1.1.1.1.2.2.2, z.1.1.1.1.1.2⟩⟩⟩⟩⟩⟩⟩⟩⟩))), (DC (Kd.BM L.out (fun _ z => ⟨z.1.1.1.1.1.1.1, ⟨z.1.1.1.1.1.1.2.1, ⟨z.1.1.1.1.2, ⟨z.1.1.1.2, ⟨z.1.1.2, ⟨z.1.2, ⟨z.2, ⟨z.1.1.1.1.1.1.2.2.1, ⟨z.1.1.1.1.1.1.2.2.2, z.1.1.1.1.1.2⟩⟩⟩⟩⟩⟩⟩⟩⟩))), (CS (Kd.Ai T.out (fun _ z => ⟨z.1.2, z.2⟩))), (DC (Kd.BM bB.out (fun _ z => ⟨z.1.1.2.2.1, ⟨z.1.1.2.2.2.1, ⟨z.1.1.2.2.2.2.1, ⟨z.1.1.1, ⟨z.1.1.2.1, ⟨z.1.2, ⟨z.2, ⟨z.1.1.2.2.2.2.2.1, ⟨z.1.1.2.2.2.2.2.2.1, z.1.1.2.2.2.2.2.2.2⟩⟩⟩⟩⟩⟩⟩⟩⟩))), (DC (Kd.BM cB.out (fun _ z => ⟨z.1.1.2.2.1, ⟨z.1.1.2.2.2.1, ⟨z.1.1.2.2.2.2.1, ⟨z.1.1.1, ⟨z.1.1.2.1, ⟨z.1.2, ⟨z.2, ⟨z.1.1.2.2.2.2.2.1, ⟨z.1.1.2.2.2.2.2.2.1, z.1.1.2.2.2.2.2.2.2⟩⟩⟩⟩⟩⟩⟩⟩⟩))), (CS (Kd.Ai iC.out (fun _ z => ⟨z.1.2, z.2⟩))), (Bn (Kd.AR tC.out (fun _ z => ⟨z.2.2.1, ⟨z.2.2.2.1, ⟨z.2.2.2.2.1, ⟨z.2.2.2.2.2.1, ⟨z.1, ⟨z.2.1, ⟨z.2.2.2.2.2.2.1, ⟨z.2.2.2.2.2.2.2.1, z.2.2.2.2.2.2.2.2⟩⟩⟩⟩⟩⟩⟩⟩))), (DC (Kd.BM sC.out (fun _ z => ⟨z.2.1, ⟨z.2.2.1, ⟨z.2.2.2.1, ⟨z.2.2.2.2.1, ⟨z.1, ⟨z.2.2.2.2.2.1, ⟨z.2.2.2.2.2.2.1, z.2.2.2.2.2.2.2⟩⟩⟩⟩⟩⟩⟩))), (AU a.out), (AU b.out), (AU O.out), fF.out, Y.out, s.out, eC.out, u.out, fC.out, (be3 HB B D Y)⟩)
 rintro ⟨v313, v316, v319, v324, v327, v330, d⟩ mD ⟨qK, wI, xI, yI, zI, aJ, bJ, cJ, dJ, eJ, fJ, yH, zH, aI, bI, cI, dI, eI, fI, gI⟩
 have wC : Aside0 (Kd.R (Kd.int .u8) 73 mD w.heap.size (fun l => some l ≠ (v313 : Value).ownBlock ∧ some l ≠ (v324 : Value).ownBlock) (.slice kB hB.length lB) hB) := ⟨wI⟩
 have xC : Aside0 (Kd.N k30 30 mD w.heap.size (fun l => some l ≠ (.slice kB hB.length lB : Value).ownBlock ∧ some l ≠ (.slice aC yB.length cC : Value).ownBlock ∧ some l ≠ (v313 : Value).ownBlock ∧ some l ≠ (v316 : Value).ownBlock ∧ some l ≠ (v319 : Value).ownBlock ∧ some l ≠ (v324 : Value).ownBlock ∧ some l ≠ (v330 : Value).ownBlock ∧ l ≠ x ∧ l ≠ y ∧ l ≠ d) (.slice zB xB.length bC) xB) := ⟨xI⟩
 have yC : Aside0 (Kd.N k63 63 mD w.heap.size (fun l => some l ≠ (.slice kB hB.length lB : Value).ownBlock ∧ some l ≠ (.slice zB xB.length bC : Value).ownBlock ∧ some l ≠ (v313 : Value).ownBlock ∧ some l ≠ (v316 : Value).ownBlock ∧ some l ≠ (v319 : Value).ownBlock ∧ some l ≠ (v324 : Value).ownBlock ∧ some l ≠ (v330 : Value).ownBlock ∧ l ≠ x ∧ l ≠ y ∧ l ≠ d) (.slice aC yB.length cC) yB) := ⟨yI⟩
 have dD : Aside0 (Kd.R (Kd.int .u8) 73 mD w.heap.size (fun l => some l ≠ (.slice kB hB.length lB : Value).ownBlock ∧ some l ≠ (v324 : Value).ownBlock) v313 zC) := ⟨zI⟩
 have eD : Aside0 (Kd.N k30 30 mD w.heap.size (fun l => some l ≠ (.slice kB hB.length lB : Value).ownBlock ∧ some l ≠ (.slice zB xB.length bC : Value).ownBlock ∧ some l ≠ (.slice aC yB.length cC : Value).ownBlock ∧ some l ≠ (v313 : Value).ownBlock ∧ some l ≠ (v319 : Value).ownBlock ∧ some l ≠ (v324 : Value).ownBlock ∧ some l ≠ (v330 : Value).ownBlock ∧ l ≠ x ∧ l ≠ y ∧ l ≠ d) v316 xD) := ⟨aJ⟩
 have fD : Aside0 (Kd.N k63 63 mD w.heap.size (fun l => some l ≠ (.slice kB hB.length lB : Value).ownBlock ∧ some l ≠ (.slice zB xB.length bC : Value).ownBlock ∧ some l ≠ (.slice aC yB.length cC : Value).ownBlock ∧ some l ≠ (v313 : Value).ownBlock ∧ some l ≠ (v316 : Value).ownBlock ∧ some l ≠ (v324 : Value).ownBlock ∧ some l ≠ (v330 : Value).ownBlock ∧ l ≠ x ∧ l ≠ y ∧ l ≠ d) v319 yD) := ⟨bJ⟩
 have rD : Aside0 (Kd.R (Kd.int .u8) 73 mD w.heap.size (fun l => some l ≠ (.slice kB hB.length lB : Value).ownBlock ∧ some l ≠ (v313 : Value).ownBlock) v324 nD) := ⟨cJ⟩
 have sD : Aside0 (Kd.V k30 30 mD w.heap.size (fun l => some l ≠ (.slice kB hB.length lB : Value).ownBlock ∧ some l ≠ (.slice zB xB.length bC : Value).ownBlock ∧ some l ≠ (.slice aC yB.length cC : Value).ownBlock ∧ some l ≠ (v313 : Value).ownBlock ∧ some l ≠ (v324 : Value).ownBlock ∧ some l ≠ (v330 : Value).ownBlock ∧ l ≠ x ∧ l ≠ y ∧ l ≠ d) v327 pE) := ⟨dJ⟩
 have tD : Aside0 (Kd.N k63 63 mD w.heap.size (fun l => some l ≠ (.slice kB hB.length lB : Value).ownBlock ∧ some l ≠ (.slice zB xB.length bC : Value).ownBlock ∧ some l ≠ (.slice aC yB.length cC : Value).ownBlock ∧ some l ≠ (v313 : Value).ownBlock ∧ some l ≠ (v324 : Value).ownBlock ∧ l ≠ x ∧ l ≠ y ∧ l ≠ d) v330 uD) := ⟨eJ⟩
 have wD : Aside0 (mD.heap[x]? = some (.cells #[.int .i64 eB, .int .i64 fB, .string gB, .slice gC Z.length jC, .slice hC aB.length kC] 26 (0, 0))) := ⟨fJ⟩
 have gD : Aside0 (mD.heap[y]? = some (.cells #[.int .i64 uB, .int .i64 wB, .slice mC oB.length pC, .slice nC qB.length qC, .slice oC sB.length rC] 33 (0, 0))) := ⟨yH⟩
 have hD : Aside0 (mD.heap[d]? = some (.cells #[.int .i64 0, .int .i64 0, .slice none 0 0, .slice none 0 0, .slice none 0 0] 33 (0, 0))) := ⟨zH⟩
 have qD : Aside0 (w.heap.size ≤ d) := ⟨aI⟩
 have lF : Aside0 (w.heap.size ≤ d) := ⟨bI⟩
 have mF : Aside0 (x ≠ d) := ⟨cI⟩
 have oF : Aside0 (d ≠ x) := ⟨dI⟩
 have oG : Aside0 (y ≠ d) := ⟨eI⟩
 have pG : Aside0 (d ≠ y) := ⟨fI⟩
 have qG : Aside0 (Below w.heap.size w mD) := ⟨gI⟩
 clear G; clear J; clear L; clear a; clear b; clear HB; clear wI xI yI zI aJ bJ cJ dJ eJ fJ yH zH aI bI cI dI eI fI gI; have G := wC; have J := xC; have L := yC; have T := dD; have bB := eD; have cB := fD; have iC := rD; have tC := sD; have sC := tD; have a := wD; have b := gD; have O := hD; have fF := qD; have Y := lF; have s := mF; have eC := oF; have u := oG; have fC := pG; have HB := qG; clear wC xC yC dD eD fD rD sD tD wD gD hD qD lF mF oF oG pG qG
 have mB : mD.cell? ⟨x, 0, none⟩ = some (.int .i64 eB) ∧ mD.cell? ⟨x, 1, none⟩ = some (.int .i64 fB) ∧ mD.cell? ⟨x, 2, none⟩ = some (.string gB) ∧ mD.cell? ⟨x, 3, none⟩ = some (.slice gC Z.length jC) ∧ mD.cell? ⟨x, 4, none⟩ = some (.slice hC aB.length kC) ∧ mD.cell? ⟨y, 0, none⟩ = some (.int .i64 uB) ∧ mD.cell? ⟨y, 1, none⟩ = some (.int .i64 wB) ∧ mD.cell? ⟨y, 2, none⟩ = some (.slice mC oB.length pC) ∧ mD.cell? ⟨y, 3, none⟩ = some (.slice nC qB.length qC) ∧ mD.cell? ⟨y, 4, none⟩ = some (.slice oC sB.length rC) := qK
 obtain ⟨rE, mE, vH⟩ := Kd.Bg iC.out
 (first | subst vH | (injection vH with f1_ f2_ f3_; have kD := f1_.symm; have lD := f3_.symm; clear f1_ f2_ f3_; subst kD; subst lD))
 obtain ⟨aH, yG, wH⟩ := Kd.D6 tC.out
 (first | subst wH | (injection wH with f1_ f2_ f3_; have kD := f1_.symm; have lD := f3_.symm; clear f1_ f2_ f3_; subst kD; subst lD))
 obtain ⟨gF, cF, xH⟩ := Kd.Cw sC.out
 (first | subst xH | (injection xH with f1_ f2_ f3_; have kD := f1_.symm; have lD := f3_.symm; clear f1_ f2_ f3_; subst kD; subst lD))
 refine Br (a' := ?_) ?_ ?_
 rotate_left
 ·simp only [EM, Act.put, List.setIfInBounds_toArray, List.set_cons_zero, List.set_cons_succ]
  rfl
 refine DL (i := 10) (N := none) (tf 11 2) rfl rfl (Bo aD.out (by kernel_rfl)) (by decide) (fun K hK => ?_)
 have bM : mD.cell? ⟨d, 0, none⟩ = some (.int .i64 0) := bc O 0
 have rK := Aa O.out 0
 have qJ := s.out; have rJ := u.out; have gJ := eC.out; have hJ := fC.out
 have cM : mD.cell? ⟨d, 1, none⟩ = some (.int .i64 0) := bc O 1
 have sK := Aa O.out 1
 have sJ := s.out; have tJ := u.out; have iJ := eC.out; have jJ := fC.out
 have dM : mD.cell? ⟨d, 2, none⟩ = some (.slice none 0 0) := bc O 2
 have tK := Aa O.out 2
 have uJ := s.out; have vJ := u.out; have kJ := eC.out; have lJ := fC.out
 have eM : mD.cell? ⟨d, 3, none⟩ = some (.slice none 0 0) := bc O 3
 have uK := Aa O.out 3
 have wJ := s.out; have xJ := u.out; have mJ := eC.out; have nJ := fC.out
 have fM : mD.cell? ⟨d, 4, none⟩ = some (.slice none 0 0) := bc O 4
 have vK := Aa O.out 4
 have yJ := s.out; have zJ := u.out; have oJ := eC.out; have pJ := fC.out
 refine Fp (w1 := ?_) (by rfl) rfl ?_ ?_
 rotate_left
 ·go_simp
  rfl
 refine hK.out _ _ ⟨((cell_far (p := ⟨d, _, none⟩) s.out _).trans (((cell_far (p := ⟨d, _, none⟩) s.out _).trans (((cell_far (p := ⟨d, _, none⟩) s.out _).trans (((cell_far (p := ⟨d, _, none⟩) s.out _).trans (((cell_far (p := ⟨d, _, none⟩) s.out _).trans (mB.1)))))))))), ((cell_far (p := ⟨d, _, none⟩) s.out _).trans (((cell_far (p := ⟨d, _, none⟩) s.out _).trans (((cell_far (p := ⟨d, _, none⟩) s.out _).trans (((cell_far (p := ⟨d, _, none⟩) s.out _).trans (((cell_far (p := ⟨d, _, none⟩) s.out _).trans (mB.2.1)))))))))), ((cell_far (p := ⟨d, _, none⟩) s.out _).trans (((cell_far (p := ⟨d, _, none⟩) s.out _).trans (((cell_far (p := ⟨d, _, none⟩) s.out _).trans (((cell_far (p := ⟨d, _, none⟩) s.out _).trans (((cell_far (p := ⟨d, _, none⟩) s.out _).trans (mB.2.2.1)))))))))), ((cell_far (p := ⟨d, _, none⟩) s.out _).trans (((cell_far (p := ⟨d, _, none⟩) s.out _).trans (((cell_far (p := ⟨d, _, none⟩) s.out _).trans (((cell_far (p := ⟨d, _, none⟩) s.out _).trans (((cell_far (p := ⟨d, _, none⟩) s.out _).trans (mB.2.2.2.1)))))))))), ((cell_far (p := ⟨d, _, none⟩) s.out _).trans (((cell_far (p := ⟨d, _, none⟩) s.out _).trans (((cell_far (p := ⟨d, _, none⟩) s.out _).trans (((cell_far (p := ⟨d, _, none⟩) s.out _).trans (((cell_far (p := ⟨d, _, none⟩) s.out _).trans (mB.2.2.2.2.1)))))))))), ((cell_far (p := ⟨d, _, none⟩) u.out _).trans (((cell_far (p := ⟨d, _, none⟩) u.out _).trans (((cell_far (p := ⟨d, _, none⟩) u.out _).trans (((cell_far (p := ⟨d, _, none⟩) u.out _).trans (((cell_far (p := ⟨d, _, none⟩) u.out _).trans (mB.2.2.2.2.2.1)))))))))), ((cell_far (p := ⟨d, _, none⟩) u.out _).trans (((cell_far (p := ⟨d, _, none⟩) u.out _).trans (((cell_far (p := ⟨d, _, none⟩) u.out _).trans (((cell_far (p := ⟨d, _, none⟩) u.out _).trans (((cell_far (p := ⟨d, _, none⟩) u.out _).trans (mB.2.2.2.2.2.2.1)))))))))), ((cell_far (p := ⟨d, _, none⟩) u.out _).trans (((cell_far (p := ⟨d, _, none⟩) u.out _).trans (((cell_far (p := ⟨d, _, none⟩) u.out _).trans (((cell_far (p := ⟨d, _, none⟩) u.out _).trans (((cell_far (p := ⟨d, _, none⟩) u.out _).trans (mB.2.2.2.2.2.2.2.1)))))))))), ((cell_far (p := ⟨d, _, none⟩) u.out _).trans (((cell_far (p := ⟨d, _, none⟩) u.out _).trans (((cell_far (p := ⟨d, _, none⟩) u.out _).trans (((cell_far (p := ⟨d, _, none⟩) u.out _).trans (((cell_far (p := ⟨d, _, none⟩) u.out _).trans (mB.2.2.2.2.2.2.2.2.1)))))))))), ((cell_far (p := ⟨d, _, none⟩) u.out _).trans (((cell_far (p := ⟨d, _, none⟩) u.out _).trans (((cell_far (p := ⟨d, _, none⟩) u.out _).trans (((cell_far (p := ⟨d, _, none⟩) u.out _).trans (((cell_far (p := ⟨d, _, none⟩) u.out _).trans (mB.2.2.2.2.2.2.2.2.2))))))))))⟩ (fun mB => ?_)
 clear hK K
 refine pv 11 12 (tf 12 1) aD ?_
 refine pv 12 13 (tf 13 0) aD ?_
 refine EG (DW aD.out (by kernel_rfl)) ?_
 have ⟨xK, eL⟩ := no s eC
 have nM := cells5 a.out
 have ⟨yK, fL⟩ := no u fC
 have oM := cells5 b.out
 try go_wp2_with (first | ((with_reducible refine AL (f := 29) rfl ?_); refine H9 Try.func29 #[.agg #[.int .i64 eB, .int .i64 fB, .string gB, .slice gC Z.length jC, .slice hC aB.length kC], .agg #[.int .i64 uB, .int .i64 wB, .slice mC oB.length pC, .slice nC qB.length qC, .slice oC sB.length rC], .int .i64 a2] ?_; (with_reducible refine (Bh.calls ?side1 ?side2 ?side3 ?side4 ?side5 ?side6 ?side7 ?side8 ?side9 ?side10 cK.out).mono ?_); (case side1 => exact Kd.BH jE.out (be3 HB B D Y)); (case side2 => exact gE.out); (case side3 => exact Kd.BH kE.out (be3 HB B D Y)); (case side4 => exact hE.out); (case side5 => exact Kd.BH wE.out (be3 HB B D Y)); (case side6 => exact tE.out); (case side7 => exact Kd.BH xE.out (be3 HB B D Y)); (case side8 => exact uE.out); (case side9 => exact Kd.BH yE.out (be3 HB B D Y)); (case side10 => exact vE.out); rintro e dN ⟨v338, v341, v344, rfl, dC, uC, jB, U⟩; refine ⟨_, rfl, ?_⟩; replace tC := mk0 (Kd.AR (Kd.KZ (Kd.KZ (Kd.KZ (Kd.PN (Bn ((vF (q := d) tC (fun _ z => z.2.2.2.2.2.2.2.2)))) U) (Kd.Am dC)) (by first | exact Kd.Am uC | exact Kd.Bi uC)) (by first | exact Kd.Am jB | exact Kd.Bi jB)) (fun _ h_ => h_.1)); have aE := mk0 (Kd.CF (Kd.DY (Kd.DY (Kd.DY dC (Kd.Cz (CS ((Kd.Ai (rI (q := d) (Kd.Ao G.out O.out (by decide)) (fun _ z => z.2)) (fun _ h_ => h_.1)))))) (Kd.Cz (CS ((Kd.Ai (rI (q := d) (Kd.Ao T.out O.out (by decide)) (fun _ z => z.2)) (fun _ h_ => h_.1)))))) (Kd.Cz (CS ((Kd.Ai (rI (q := d) (Kd.Ao iC.out O.out (by decide)) (fun _ z => z.2)) (fun _ h_ => h_.1)))))) (AP (be3 HB B D Y))); have bE := mk0 (Kd.Dk (Kd.BM (ok' := fun l => some l ≠ (v338 : Value).ownBlock ∧ some l ≠ (v344 : Value).ownBlock ∧ some l ≠ (.slice kB hB.length lB : Value).ownBlock ∧ some l ≠ (.slice zB xB.length bC : Value).ownBlock ∧ some l ≠ (.slice aC yB.length cC : Value).ownBlock ∧ some l ≠ (v313 : Value).ownBlock ∧ some l ≠ (v316 : Value).ownBlock ∧ some l ≠ (v319 : Value).ownBlock ∧ some l ≠ (.slice rE nD.length mE : Value).ownBlock ∧ some l ≠ (.slice gF uD.length cF : Value).ownBlock ∧ l ≠ x ∧ l ≠ y ∧ l ≠ d) (Kd.R_N (Kd.Dc (Kd.DR uC (Kd.Dm jB) (by decide)))) (fun l I => ⟨I.1.1, I.1.2, (Kd.fresh' (Kd.Cz (CS ((Kd.Ai (rI (q := d) (Kd.Ao G.out O.out (by decide)) (fun _ z => z.2)) (fun _ h_ => h_.1))))) l I.2.1), (Kd.fresh' (Kd.EF (DC ((nF (q := d) J (fun _ z => z.2.2.2.2.2.2.2.2.2))))) l I.2.1), (Kd.fresh' (Kd.EF (DC ((nF (q := d) L (fun _ z => z.2.2.2.2.2.2.2.2.2))))) l I.2.1), (Kd.fresh' (Kd.Cz (CS ((Kd.Ai (rI (q := d) (Kd.Ao T.out O.out (by decide)) (fun _ z => z.2)) (fun _ h_ => h_.1))))) l I.2.1), (Kd.fresh' (Kd.EF (DC ((nF (q := d) bB (fun _ z => z.2.2.2.2.2.2.2.2.2))))) l I.2.1), (Kd.fresh' (Kd.EF (DC ((nF (q := d) cB (fun _ z => z.2.2.2.2.2.2.2.2.2))))) l I.2.1), (Kd.fresh' (Kd.Cz (CS ((Kd.Ai (rI (q := d) (Kd.Ao iC.out O.out (by decide)) (fun _ z => z.2)) (fun _ h_ => h_.1))))) l I.2.1), (Kd.fresh' (Kd.EF (DC ((nF (q := d) sC (fun _ z => z.2.2.2.2.2.2.2))))) l I.2.1), (Kd.Aq (g := x) (o := .cells #[.int .i64 eB, .int .i64 fB, .string gB, .slice gC Z.length jC, .slice hC aB.length kC] 26 (0, 0)) (bF s a) l I.2.1), (Kd.Aq (g := y) (o := .cells #[.int .i64 uB, .int .i64 wB, .slice mC oB.length pC, .slice nC qB.length qC, .slice oC sB.length rC] 33 (0, 0)) (bF u b) l I.2.1), (Kd.Aq (g := d) (o := .cells #[.int .i64 nE, .int .i64 oE, .slice rE nD.length mE, .slice aH pE.length yG, .slice gF uD.length cF] 33 (0, 0)) (pB O) l I.2.1)⟩)) (AP (be3 HB B D Y))); have cE := mk0 (Kd.Dk (Kd.BM (ok' := fun l => some l ≠ (v338 : Value).ownBlock ∧ some l ≠ (v341 : Value).ownBlock ∧ some l ≠ (.slice kB hB.length lB : Value).ownBlock ∧ some l ≠ (.slice zB xB.length bC : Value).ownBlock ∧ some l ≠ (.slice aC yB.length cC : Value).ownBlock ∧ some l ≠ (v313 : Value).ownBlock ∧ some l ≠ (v316 : Value).ownBlock ∧ some l ≠ (v319 : Value).ownBlock ∧ some l ≠ (.slice rE nD.length mE : Value).ownBlock ∧ some l ≠ (.slice gF uD.length cF : Value).ownBlock ∧ l ≠ x ∧ l ≠ y ∧ l ≠ d) (Kd.R_N (Kd.Dc jB)) (fun l I => ⟨I.1.1, I.1.2, (Kd.fresh' (Kd.Cz (CS ((Kd.Ai (rI (q := d) (Kd.Ao G.out O.out (by decide)) (fun _ z => z.2)) (fun _ h_ => h_.1))))) l I.2.1), (Kd.fresh' (Kd.EF (DC ((nF (q := d) J (fun _ z => z.2.2.2.2.2.2.2.2.2))))) l I.2.1), (Kd.fresh' (Kd.EF (DC ((nF (q := d) L (fun _ z => z.2.2.2.2.2.2.2.2.2))))) l I.2.1), (Kd.fresh' (Kd.Cz (CS ((Kd.Ai (rI (q := d) (Kd.Ao T.out O.out (by decide)) (fun _ z => z.2)) (fun _ h_ => h_.1))))) l I.2.1), (Kd.fresh' (Kd.EF (DC ((nF (q := d) bB (fun _ z => z.2.2.2.2.2.2.2.2.2))))) l I.2.1), (Kd.fresh' (Kd.EF (DC ((nF (q := d) cB (fun _ z => z.2.2.2.2.2.2.2.2.2))))) l I.2.1), (Kd.fresh' (Kd.Cz (CS ((Kd.Ai (rI (q := d) (Kd.Ao iC.out O.out (by decide)) (fun _ z => z.2)) (fun _ h_ => h_.1))))) l I.2.1), (Kd.fresh' (Kd.EF (DC ((nF (q := d) sC (fun _ z => z.2.2.2.2.2.2.2))))) l I.2.1), (Kd.Aq (g := x) (o := .cells #[.int .i64 eB, .int .i64 fB, .string gB, .slice gC Z.length jC, .slice hC aB.length kC] 26 (0, 0)) (bF s a) l I.2.1), (Kd.Aq (g := y) (o := .cells #[.int .i64 uB, .int .i64 wB, .slice mC oB.length pC, .slice nC qB.length qC, .slice oC sB.length rC] 33 (0, 0)) (bF u b) l I.2.1), (Kd.Aq (g := d) (o := .cells #[.int .i64 nE, .int .i64 oE, .slice rE nD.length mE, .slice aH pE.length yG, .slice gF uD.length cF] 33 (0, 0)) (pB O) l I.2.1)⟩)) (AP (be3 HB B D Y))); replace G := mk0 (Kd.DT (CS ((Kd.Ai (rI (q := d) (Kd.Ao G.out O.out (by decide)) (fun _ z => z.2)) (fun _ h_ => h_.1)))) (Kd.Am dC) U); replace J := mk0 (Kd.BM (Kd.CB (Kd.CB (Kd.CB (Kd.EH (DC ((nF (q := d) J (fun _ z => z.2.2.2.2.2.2.2.2.2)))) U) (Kd.Am dC)) (by first | exact Kd.Am uC | exact Kd.Bi uC)) (by first | exact Kd.Am jB | exact Kd.Bi jB)) (fun _ h_ => h_.1)); replace L := mk0 (Kd.BM (Kd.CB (Kd.CB (Kd.CB (Kd.EH (DC ((nF (q := d) L (fun _ z => z.2.2.2.2.2.2.2.2.2)))) U) (Kd.Am dC)) (by first | exact Kd.Am uC | exact Kd.Bi uC)) (by first | exact Kd.Am jB | exact Kd.Bi jB)) (fun _ h_ => h_.1)); replace T := mk0 (Kd.DT (CS ((Kd.Ai (rI (q := d) (Kd.Ao T.out O.out (by decide)) (fun _ z => z.2)) (fun _ h_ => h_.1)))) (Kd.Am dC) U); replace bB := mk0 (Kd.BM (Kd.CB (Kd.CB (Kd.CB (Kd.EH (DC ((nF (q := d) bB (fun _ z => z.2.2.2.2.2.2.2.2.2)))) U) (Kd.Am dC)) (by first | exact Kd.Am uC | exact Kd.Bi uC)) (by first | exact Kd.Am jB | exact Kd.Bi jB)) (fun _ h_ => h_.1)); replace cB := mk0 (Kd.BM (Kd.CB (Kd.CB (Kd.CB (Kd.EH (DC ((nF (q := d) cB (fun _ z => z.2.2.2.2.2.2.2.2.2)))) U) (Kd.Am dC)) (by first | exact Kd.Am uC | exact Kd.Bi uC)) (by first | exact Kd.Am jB | exact Kd.Bi jB)) (fun _ h_ => h_.1)); replace iC := mk0 (Kd.DT (CS ((Kd.Ai (rI (q := d) (Kd.Ao iC.out O.out (by decide)) (fun _ z => z.2)) (fun _ h_ => h_.1)))) (Kd.Am dC) U); replace sC := mk0 (Kd.BM (Kd.CB (Kd.CB (Kd.CB (Kd.EH (DC ((nF (q := d) sC (fun _ z => z.2.2.2.2.2.2.2)))) U) (Kd.Am dC)) (by first | exact Kd.Am uC | exact Kd.Bi uC)) (by first | exact Kd.Am jB | exact Kd.Bi jB)) (fun _ h_ => h_.1)); replace a := kF s a U; replace b := kF u b U; replace O := mk0 (AY (g := d) (o := .cells #[.int .i64 nE, .int .i64 oE, .slice rE nD.length mE, .slice aH pE.length yG, .slice gF uD.length cF] 33 (0, 0)) (pB O) U); replace HB := kh3 HB B D Y U; (try clear dC); (try clear uC); (try clear jB)) | ((with_reducible refine AJ rfl (N := 14) rfl (cs := #[.int .i64 0, .int .i64 0, .slice none 0 0, .slice none 0 0, .slice none 0 0]) (t := 33) ?hr ?_); (case hr => first | (go_simp; done) | (go_simp; rfl)); intro lC hg eN cD U; obtain ⟨J, L, bB, cB, tC, sC, bE, cE⟩ := tg8 hg U J L bB cB tC sC bE cE; obtain ⟨G, T, iC, aE⟩ := tb4 U G T iC aE; have vD := mk0 (cD); have jG := bs (be3 HB B D Y) hg; replace HB := kh3 HB B D Y U; have ⟨uF, sG⟩ := nn a hg; have ⟨wF, tG⟩ := nn b hg; have ⟨xF, uG⟩ := nn O hg; obtain ⟨a, b, O⟩ := tb3 U a b O; clear U cD hg; have ⟨zK, gL⟩ := no sG uF; have ⟨aL, hL⟩ := no tG wF; have ⟨bL, iL⟩ := no uG xF; have pM := cells5 vD.out; obtain ⟨eG, aG, qI⟩ := Kd.Bg aE.out; subst qI; obtain ⟨wG, lG, tI⟩ := Kd.Cw bE.out; subst tI; obtain ⟨xG, mG, uI⟩ := Kd.Cw cE.out; subst uI; have qM := cells5 O.out) | (go_at_call 24; (with_reducible refine (Bw.calls ?side1 ?side2 ?side3 ?side4 ?side5 ?side6 ?side7 ?side8 ?side9 ?side10 ?side11 ?side12 dK.out).mono ?_); (case side1 => refine (Kd.CZ (e := 73) (base := w.heap.size) (ok := fun l => ((some l ≠ (.slice kB hB.length lB : Value).ownBlock ∧ some l ≠ (v313 : Value).ownBlock) ∧ some l ≠ (.slice eG sF.length aG : Value).ownBlock)) (n := nD.length) (c := mE) ?_).2.2; exact (CS ((Kd.Ai (rI (q := lC) (Kd.Ao iC.out vD.out (by decide)) (fun _ z => z.2)) (fun _ h_ => h_.1))))); (case side2 => exact (Kd.CZ iC.out).2.1); (case side3 => refine (Kd.Ac (e := 30) (base := w.heap.size) (ok := fun l => (((((some l ≠ (.slice kB hB.length lB : Value).ownBlock ∧ (some l ≠ (.slice zB xB.length bC : Value).ownBlock ∧ (some l ≠ (.slice aC yB.length cC : Value).ownBlock ∧ (some l ≠ (v313 : Value).ownBlock ∧ (some l ≠ (.slice rE nD.length mE : Value).ownBlock ∧ (some l ≠ (.slice gF uD.length cF : Value).ownBlock ∧ (l ≠ x ∧ (l ≠ y ∧ l ≠ d)))))))) ∧ some l ≠ (.slice eG sF.length aG : Value).ownBlock) ∧ some l ≠ (.slice wG gG.length lG : Value).ownBlock) ∧ some l ≠ (.slice xG iG.length mG : Value).ownBlock) ∧ l ≠ lC)) (n := pE.length) (c := yG) ?_).2.2; exact (Bn ((vF (q := lC) tC (fun _ z => z.2))))); (case side4 => exact (Kd.Ac tC.out).2.1); (case side5 => refine (Kd.Db (e := 63) (base := w.heap.size) (ok := fun l => (((((some l ≠ (.slice kB hB.length lB : Value).ownBlock ∧ (some l ≠ (.slice zB xB.length bC : Value).ownBlock ∧ (some l ≠ (.slice aC yB.length cC : Value).ownBlock ∧ (some l ≠ (v313 : Value).ownBlock ∧ (some l ≠ (.slice rE nD.length mE : Value).ownBlock ∧ (l ≠ x ∧ (l ≠ y ∧ l ≠ d))))))) ∧ some l ≠ (.slice eG sF.length aG : Value).ownBlock) ∧ some l ≠ (.slice wG gG.length lG : Value).ownBlock) ∧ some l ≠ (.slice xG iG.length mG : Value).ownBlock) ∧ l ≠ lC)) (n := uD.length) (c := cF) ?_).2.2; exact (DC ((nF (q := lC) sC (fun _ z => z.2))))); (case side6 => exact (Kd.Db sC.out).2.1); (case side7 => refine (Kd.CZ (e := 73) (base := w.heap.size) (ok := fun l => (((True ∧ some l ≠ (.slice kB hB.length lB : Value).ownBlock) ∧ some l ≠ (v313 : Value).ownBlock) ∧ some l ≠ (.slice rE nD.length mE : Value).ownBlock)) (n := sF.length) (c := aG) ?_).2.2; exact (CS ((Kd.Ai (rI (q := lC) (Kd.Ao aE.out vD.out (by decide)) (fun _ z => z.2)) (fun _ h_ => h_.1))))); (case side8 => exact (Kd.CZ aE.out).2.1); (case side9 => refine (Kd.Db (e := 30) (base := w.heap.size) (ok := fun l => ((some l ≠ (.slice eG sF.length aG : Value).ownBlock ∧ (some l ≠ (.slice xG iG.length mG : Value).ownBlock ∧ (some l ≠ (.slice kB hB.length lB : Value).ownBlock ∧ (some l ≠ (.slice zB xB.length bC : Value).ownBlock ∧ (some l ≠ (.slice aC yB.length cC : Value).ownBlock ∧ (some l ≠ (v313 : Value).ownBlock ∧ (some l ≠ (v316 : Value).ownBlock ∧ (some l ≠ (v319 : Value).ownBlock ∧ (some l ≠ (.slice rE nD.length mE : Value).ownBlock ∧ (some l ≠ (.slice gF uD.length cF : Value).ownBlock ∧ (l ≠ x ∧ (l ≠ y ∧ l ≠ d)))))))))))) ∧ l ≠ lC)) (n := gG.length) (c := lG) ?_).2.2; exact (DC ((nF (q := lC) bE (fun _ z => z.2))))); (case side10 => exact (Kd.Db bE.out).2.1); (case side11 => refine (Kd.Db (e := 63) (base := w.heap.size) (ok := fun l => ((some l ≠ (.slice eG sF.length aG : Value).ownBlock ∧ (some l ≠ (.slice wG gG.length lG : Value).ownBlock ∧ (some l ≠ (.slice kB hB.length lB : Value).ownBlock ∧ (some l ≠ (.slice zB xB.length bC : Value).ownBlock ∧ (some l ≠ (.slice aC yB.length cC : Value).ownBlock ∧ (some l ≠ (v313 : Value).ownBlock ∧ (some l ≠ (v316 : Value).ownBlock ∧ (some l ≠ (v319 : Value).ownBlock ∧ (some l ≠ (.slice rE nD.length mE : Value).ownBlock ∧ (some l ≠ (.slice gF uD.length cF : Value).ownBlock ∧ (l ≠ x ∧ (l ≠ y ∧ l ≠ d)))))))))))) ∧ l ≠ lC)) (n := iG.length) (c := mG) ?_).2.2; exact (DC ((nF (q := lC) cE (fun _ z => z.2))))); (case side12 => exact (Kd.Db cE.out).2.1); rintro e fN ⟨rfl, U⟩; replace G := mk0 (Kd.EE (CS ((Kd.Ai (rI (q := lC) (Kd.Ao G.out vD.out (by decide)) (fun _ z => z.2)) (fun _ h_ => h_.1)))) U); replace J := mk0 (Kd.De (DC ((nF (q := lC) J (fun _ z => z.2)))) U); replace L := mk0 (Kd.De (DC ((nF (q := lC) L (fun _ z => z.2)))) U); replace T := mk0 (Kd.EE (CS ((Kd.Ai (rI (q := lC) (Kd.Ao T.out vD.out (by decide)) (fun _ z => z.2)) (fun _ h_ => h_.1)))) U); replace bB := mk0 (Kd.De (DC ((nF (q := lC) bB (fun _ z => z.2)))) U); replace cB := mk0 (Kd.De (DC ((nF (q := lC) cB (fun _ z => z.2)))) U); replace iC := mk0 (Kd.EE (CS ((Kd.Ai (rI (q := lC) (Kd.Ao iC.out vD.out (by decide)) (fun _ z => z.2)) (fun _ h_ => h_.1)))) U); replace tC := mk0 (Kd.CR (Bn ((vF (q := lC) tC (fun _ z => z.2)))) U); replace sC := mk0 (Kd.De (DC ((nF (q := lC) sC (fun _ z => z.2)))) U); replace aE := mk0 (Kd.EE (CS ((Kd.Ai (rI (q := lC) (Kd.Ao aE.out vD.out (by decide)) (fun _ z => z.2)) (fun _ h_ => h_.1)))) U); replace bE := mk0 (Kd.De (DC ((nF (q := lC) bE (fun _ z => z.2)))) U); replace cE := mk0 (Kd.De (DC ((nF (q := lC) cE (fun _ z => z.2)))) U); replace a := kF uF a U; replace b := kF wF b U; replace O := kF xF O U; replace vD := mk0 (AY (g := lC) (o := .cells #[.int .i64 hI, .int .i64 iI, .slice eG sF.length aG, .slice wG gG.length lG, .slice xG iG.length mG] 33 (0, 0)) (pB vD) U); replace HB := kh4 HB B D Y jG U) | (go_at_call 16; refine (Dt.calls k  zD _ (Al HG.out (be4 HB B D Y jG)) eK.out).mono ?_; rintro e gN ⟨rfl, U⟩; replace G := rb G U; replace J := nb J U; replace L := nb L U; replace T := rb T U; replace bB := nb bB U; replace cB := nb cB U; replace iC := rb iC U; replace tC := vb tC U; replace sC := nb sC U; replace aE := rb aE U; replace bE := nb bE U; replace cE := nb cE U; obtain ⟨a, b, O, vD⟩ := tb4 U a b O vD; replace HB := kh4 HB B D Y jG U))
 go_ret
 exact ⟨rfl, be4 HB B D Y jG⟩
end Go.Proofs.Ytojankgmedccdaa.PGn
