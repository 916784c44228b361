/- Lemmas for LawDriversKeeps. -/
import Derived.Test.YtojankgmedccdaaYKAwB
import Derived.Test.YtojankgmedccdaaYKPGnF21
import Derived.Test.YtojankgmedccdaaYKPGnF22
import Derived.Test.YtojankgmedccdaaYKPGnF35
namespace Go.Proofs.Ytojankgmedccdaa.PGn
open Go.RowKit Own PTy Hand PIs PAw YtojankgmedccdaaW.PrintWords YtojankgmedccdaaW.PrintLast YtojankgmedccdaaW.PrintMore
attribute [local go_sem] BN BO Be Bf BF BG BR BS
set_option linter.unusedVariables false
set_option linter.unusedSimpArgs false
def Ai.j0 : Nat → Bool → Int → Int → ByteArray → List ByteArray → List (S26) → Int → Int → List Int → List (S30) → List (S63) → Int → List (S30) → List Int → Bool → Int → Int → List Int → List (S30) → List (S63) → Option (Bool)
 | 0, _, _, _, _, _, _, _, _, _, _, _, _, _, _, _, _, _, _, _, _ => none
 | k + 1, G, d, e, g, h, i, m, n, o, p, q, a, B, c, D, r, s, u, v, w => if G = true then ((Dj.f k).bind fun x => (some x)) else ((Cj.f k m n o p q).bind fun b => (if 0 < (c.length : Int) then ((Af.f k d e g h i b.1 b.2.1 b.2.2.1 b.2.2.2.1 b.2.2.2.2 a (wrap64 ((wrap64 (a + (rd c 0))) - 1))).bind fun j => ((Af.f k d e g h i r s u v w a (wrap64 ((wrap64 (a + (rd c 0))) - 1))).bind fun l => (if j.2 = 0 then (if l.2 = 0 then ((DZ.f k j.1 l.1).bind fun y => (if y = true then ((Dj.f k).bind fun z => (some z)) else (some false))) else (some false)) else (some false)))) else (none)))
def Ai.f (k : Nat) (g : Int) (h : Int) (i : ByteArray) (m : List ByteArray) (n : List (S26)) (j : Int) (l : Int) (o : List Int) (p : List (S30)) (q : List (S63)) (c : Int) (e : List (S30)) (b : List Int) (d : Bool) : Option (Bool) := (Dc.f k g h i m n j l o p q c e b d).bind fun r => (if r = true then ((Bl.f k g h i m n j l o p q c e b d true).bind fun a => (if a.2.2.2.2.2 = 0 then (if 0 < (b.length : Int) then (Ai.j0 k ((rd b 0) == 0) g h i m n j l o p q c e b d a.1 a.2.1 a.2.2.1 a.2.2.2.1 a.2.2.2.2.1) else (none)) else (Ai.j0 k true g h i m n j l o p q c e b d a.1 a.2.1 a.2.2.1 a.2.2.2.1 a.2.2.2.2.1))) else ((Dj.f k).bind fun s => (some s)))
def Ai.T6 : Bool × List (List Nat × List Nat) := (true, [([], []), ([0], [0]), ([], []), ([2], [2]), ([3], [3]), ([], []), ([5], [5]), ([], []), ([7], [7]), ([], []), ([9], [9]), ([10], [10]), ([11], [11]), ([8, 12], [8, 12]), ([13], [13]), ([1, 4, 6, 14, 4], [1, 4, 6, 14]), ([15], [15]), ([16], [16]), ([16], [16]), ([17, 15, 0, 1, 2, 3, 4, 5, 6, 7, 8, 9, 10, 11, 12, 13, 14, 15, 16, 17], [17]), ([18, 19, 0, 1, 2, 3, 4, 5, 6, 7, 8, 9, 10, 11, 12, 13, 14, 15, 16, 17, 18, 19], [18])])
def Ai.B6 : List Nat := [0, 1, 0, 4, 12, 0, 32, 0, 128, 0, 512, 1536, 3584, 8064, 16256, 32767, 65535, 131071, 131071, 262143, 1048575]
theorem Ai.Ia : Cw .any (opsOf Try.f8 6) = Ai.T6 := by kernel_rfl
theorem Ai.F3 : CZ Ai.T6.2 Ai.B6 = true := by kernel_rfl
def Ai.T7 : Bool × List (List Nat × List Nat) := (true, [([], []), ([0], [0]), ([], []), ([], []), ([3], [3]), ([], []), ([5], [5]), ([], []), ([7], [7]), ([8], [8]), ([9], [9]), ([6, 10], [6, 10]), ([11], [11]), ([1, 2, 4, 12], [1, 2, 4, 12]), ([13], [13]), ([14], [14]), ([14], [14]), ([15, 13, 0, 1, 2, 3, 4, 5, 6, 7, 8, 9, 10, 11, 12, 13, 14, 15], [15]), ([16, 17, 0, 1, 2, 3, 4, 5, 6, 7, 8, 9, 10, 11, 12, 13, 14, 15, 16, 17], [16])])
def Ai.B7 : List Nat := [0, 1, 0, 0, 8, 0, 32, 0, 128, 384, 896, 2016, 4064, 8191, 16383, 32767, 32767, 65535, 262143]
theorem Ai.OD : Cw .any (opsOf Try.f8 7) = Ai.T7 := by kernel_rfl
theorem Ai.LH : CZ Ai.T7.2 Ai.B7 = true := by kernel_rfl
set_option maxHeartbeats 8000000 in
set_option maxRecDepth 100000 in
theorem Ai.calls (k : Nat) (eB : Int) (fB : Int) (gB : ByteArray) (cC : Option Addr) (eC : Nat) (cB : List ByteArray) (dC : Option Addr) (fC : Nat) (dB : List (S26)) (gC : Int) (hC : Int) (iC : Option Addr) (lC : Nat) (zB : List Int) (jC : Option Addr) (mC : Nat) (aC : List (S30)) (kC : Option Addr) (nC : Nat) (bC : List (S63)) (G : Int) (uB : Option Addr) (wB : Nat) (hB : List (S30)) (sD : Option Addr) (xB : Nat) (y : List Int) (oB : Bool) (r : Bool) (w : World) (hG : D8 w) (yI : Kd.C Kd.string w cC cB.length cB) (zH : cB.length ≤ eC) (zI : Kd.C k26 w dC dB.length dB) (aI : dB.length ≤ fC) (aJ : Kd.C (Kd.int .u8) w iC zB.length zB) (bI : zB.length ≤ lC) (bJ : Kd.C k30 w jC aC.length aC) (cI : aC.length ≤ mC) (cJ : Kd.C k63 w kC bC.length bC) (dI : bC.length ≤ nC) (tH : Kd.C k30 w uB hB.length hB) (rH : hB.length ≤ wB) (uH : Kd.C (Kd.int .i64) w sD y.length y) (sH : y.length ≤ xB) (h : Ai.f k eB fB gB cB dB gC hC zB aC bC G hB y oB = some r) :
  Calls Try.prog 8 #[.agg #[.int .i64 eB, .int .i64 fB, .string gB, .slice cC cB.length eC, .slice dC dB.length fC, .int .i64 gC, .int .i64 hC, .slice iC zB.length lC, .slice jC aC.length mC, .slice kC bC.length nC, .int .i64 G, .slice uB hB.length wB, .slice sD y.length xB, .bool oB]] w fun e w' => e = .returned (.bool r) ∧ Below w.heap.size w w' := by
 have HG := mk0 hG; clear hG
 have sP := Try.underlying40
 have rP := Try.underlying33
 have qP := Try.underlying26
 have vD := mk0 yI; have tD := mk0 zH; clear yI zH; have wD := mk0 zI; have uD := mk0 aI; clear zI aI; have cF := mk0 aJ; have yE := mk0 bI; clear aJ bI; have dF := mk0 bJ; have zE := mk0 cI; clear bJ cI; have eF := mk0 cJ; have aF := mk0 dI; clear cJ dI; have tG := mk0 tH; have rG := mk0 rH; clear tH rH; have pD := mk0 uH; have sG := mk0 sH; clear uH sH
 have U := mk0 (Below.refl w.heap.size w)
 have H := h; unfold Ai.f at H
 clear h
 replace H := bS H; obtain ⟨tP, A2, H⟩ := H
 replace H := iB' H; obtain ⟨rfl, H⟩ | ⟨rfl, H⟩ := H
 ·replace H := bS H; obtain ⟨hO, nO, H⟩ := H; obtain rfl := sI H
  go_enter Try.func8, Try.ntmps8
  go_wp2_with (first | ((with_reducible refine AR rfl (N := 1) rfl (cs := #[.int .i64 eB, .int .i64 fB, .string gB, .slice cC cB.length eC, .slice dC dB.length fC, .int .i64 gC, .int .i64 hC, .slice iC zB.length lC, .slice jC aC.length mC, .slice kC bC.length nC, .int .i64 G, .slice uB hB.length wB, .slice sD y.length xB, .bool oB]) (t := 40) ?hr ?_); (case hr => first | (go_simp; done) | (go_simp; rfl)); intro d hg rF sF Z; have a := mk0 (sF); have mH := bs (be U) hg; have L := bs (be U) hg; replace U := kh U Z; clear Z sF hg; have cN : rF.cell? ⟨d, 0, none⟩ = some (.int .i64 eB) := bc a 0; have dN : rF.cell? ⟨d, 1, none⟩ = some (.int .i64 fB) := bc a 1; have eN : rF.cell? ⟨d, 2, none⟩ = some (.string gB) := bc a 2; have fN : rF.cell? ⟨d, 3, none⟩ = some (.slice cC cB.length eC) := bc a 3; have gN : rF.cell? ⟨d, 4, none⟩ = some (.slice dC dB.length fC) := bc a 4; have hN : rF.cell? ⟨d, 5, none⟩ = some (.int .i64 gC) := bc a 5; have jN : rF.cell? ⟨d, 6, none⟩ = some (.int .i64 hC) := bc a 6; have kN : rF.cell? ⟨d, 7, none⟩ = some (.slice iC zB.length lC) := bc a 7; have lN : rF.cell? ⟨d, 8, none⟩ = some (.slice jC aC.length mC) := bc a 8; have mN : rF.cell? ⟨d, 9, none⟩ = some (.slice kC bC.length nC) := bc a 9; have wL : rF.cell? ⟨d, 10, none⟩ = some (.int .i64 G) := bc a 10; have xL : rF.cell? ⟨d, 11, none⟩ = some (.slice uB hB.length wB) := bc a 11; have yL : rF.cell? ⟨d, 12, none⟩ = some (.slice sD y.length xB) := bc a 12; have zL : rF.cell? ⟨d, 13, none⟩ = some (.bool oB) := bc a 13; have xN := AJ a.out 0; have yN := AJ a.out 1; have zN := AJ a.out 2; have aO := AJ a.out 3; have bO := AJ a.out 4; have cO := AJ a.out 5; have dO := AJ a.out 6; have eO := AJ a.out 7; have fO := AJ a.out 8; have gO := AJ a.out 9; have eM := AJ a.out 10; have fM := AJ a.out 11; have gM := AJ a.out 12; have hM := AJ a.out 13) | ((with_reducible refine AV (f := 21) rfl ?_); refine Cf Try.func21 (Dc.calls (cu vD U) tD.out (cu wD U) uD.out (cu cF U) yE.out (cu dF U) zE.out (cu eF U) aF.out (cu tG U) rG.out (cu pD U) sG.out A2.out) ?_; intro uQ Z; replace a := kb a Z; replace U := kh1 U L Z) | ((with_reducible refine AV (f := 16) rfl ?_); refine Cf Try.func16 (Dj.calls k  hO _ (Aj HG.out (be1 U L)) nO.out) ?_; intro vQ Z; replace a := kb a Z; replace U := kh1 U L Z))
  go_ret
  exact ⟨rfl, be1 U L⟩
 replace H := Option.bind_eq_some_iff.mp H
 obtain ⟨⟨xC, yC, X, vC, Y, iO⟩, jM, H⟩ := H
 replace H : (if iO = 0 then (if 0 < (y.length : Int) then (Ai.j0 k ((rd y 0) == 0) eB fB gB cB dB gC hC zB aC bC G hB y oB xC yC X vC Y) else (none)) else (Ai.j0 k true eB fB gB cB dB gC hC zB aC bC G hB y oB xC yC X vC Y)) = some r := H
 have A4 := mk0 jM; clear jM; have mL := mk0 H; clear H
 go_enter Try.func8, Try.ntmps8
 go_upto_region 4 with (first | ((with_reducible refine AR rfl (N := 1) rfl (cs := #[.int .i64 eB, .int .i64 fB, .string gB, .slice cC cB.length eC, .slice dC dB.length fC, .int .i64 gC, .int .i64 hC, .slice iC zB.length lC, .slice jC aC.length mC, .slice kC bC.length nC, .int .i64 G, .slice uB hB.length wB, .slice sD y.length xB, .bool oB]) (t := 40) ?hr ?_); (case hr => first | (go_simp; done) | (go_simp; rfl)); intro d hg w6 sF Z; have a := mk0 (sF); have mH := bs (be U) hg; have L := bs (be U) hg; replace U := kh U Z; clear Z sF hg; have iJ : w6.cell? ⟨d, 0, none⟩ = some (.int .i64 eB) := bc a 0; have jJ : w6.cell? ⟨d, 1, none⟩ = some (.int .i64 fB) := bc a 1; have kJ : w6.cell? ⟨d, 2, none⟩ = some (.string gB) := bc a 2; have lJ : w6.cell? ⟨d, 3, none⟩ = some (.slice cC cB.length eC) := bc a 3; have mJ : w6.cell? ⟨d, 4, none⟩ = some (.slice dC dB.length fC) := bc a 4; have nJ : w6.cell? ⟨d, 5, none⟩ = some (.int .i64 gC) := bc a 5; have oJ : w6.cell? ⟨d, 6, none⟩ = some (.int .i64 hC) := bc a 6; have pJ : w6.cell? ⟨d, 7, none⟩ = some (.slice iC zB.length lC) := bc a 7; have qJ : w6.cell? ⟨d, 8, none⟩ = some (.slice jC aC.length mC) := bc a 8; have rJ : w6.cell? ⟨d, 9, none⟩ = some (.slice kC bC.length nC) := bc a 9; have eI : w6.cell? ⟨d, 10, none⟩ = some (.int .i64 G) := bc a 10; have fI : w6.cell? ⟨d, 11, none⟩ = some (.slice uB hB.length wB) := bc a 11; have gI : w6.cell? ⟨d, 12, none⟩ = some (.slice sD y.length xB) := bc a 12; have hI : w6.cell? ⟨d, 13, none⟩ = some (.bool oB) := bc a 13; have cK := AJ a.out 0; have dK := AJ a.out 1; have eK := AJ a.out 2; have fK := AJ a.out 3; have gK := AJ a.out 4; have iK := AJ a.out 5; have jK := AJ a.out 6; have kK := AJ a.out 7; have lK := AJ a.out 8; have mK := AJ a.out 9; have mI := AJ a.out 10; have oI := AJ a.out 11; have pI := AJ a.out 12; have qI := AJ a.out 13) | ((with_reducible refine AV (f := 21) rfl ?_); refine Cf Try.func21 (Dc.calls (cu vD U) tD.out (cu wD U) uD.out (cu cF U) yE.out (cu dF U) zE.out (cu eF U) aF.out (cu tG U) rG.out (cu pD U) sG.out A2.out) ?_; intro w8 Z; replace a := kb a Z; replace U := kh1 U L Z; have sJ : w8.cell? ⟨d, 0, none⟩ = some (.int .i64 eB) := bc a 0; have tJ : w8.cell? ⟨d, 1, none⟩ = some (.int .i64 fB) := bc a 1; have uJ : w8.cell? ⟨d, 2, none⟩ = some (.string gB) := bc a 2; have vJ : w8.cell? ⟨d, 3, none⟩ = some (.slice cC cB.length eC) := bc a 3; have wJ : w8.cell? ⟨d, 4, none⟩ = some (.slice dC dB.length fC) := bc a 4; have xJ : w8.cell? ⟨d, 5, none⟩ = some (.int .i64 gC) := bc a 5; have yJ : w8.cell? ⟨d, 6, none⟩ = some (.int .i64 hC) := bc a 6; have zJ : w8.cell? ⟨d, 7, none⟩ = some (.slice iC zB.length lC) := bc a 7; have aK : w8.cell? ⟨d, 8, none⟩ = some (.slice jC aC.length mC) := bc a 8; have bK : w8.cell? ⟨d, 9, none⟩ = some (.slice kC bC.length nC) := bc a 9; have iI : w8.cell? ⟨d, 10, none⟩ = some (.int .i64 G) := bc a 10; have jI : w8.cell? ⟨d, 11, none⟩ = some (.slice uB hB.length wB) := bc a 11; have kI : w8.cell? ⟨d, 12, none⟩ = some (.slice sD y.length xB) := bc a 12; have lI : w8.cell? ⟨d, 13, none⟩ = some (.bool oB) := bc a 13; have nK := AJ a.out 0; have oK := AJ a.out 1; have pK := AJ a.out 2; have qK := AJ a.out 3; have rK := AJ a.out 4; have sK := AJ a.out 5; have tK := AJ a.out 6; have uK := AJ a.out 7; have vK := AJ a.out 8; have wK := AJ a.out 9; have tI := AJ a.out 10; have uI := AJ a.out 11; have wI := AJ a.out 12; have xI := AJ a.out 13) | ((with_reducible refine AV (f := 22) rfl ?_); refine Ip Try.func22 #[.agg #[.int .i64 eB, .int .i64 fB, .string gB, .slice cC cB.length eC, .slice dC dB.length fC, .int .i64 gC, .int .i64 hC, .slice iC zB.length lC, .slice jC aC.length mC, .slice kC bC.length nC, .int .i64 G, .slice uB hB.length wB, .slice sD y.length xB, .bool oB], .bool true] ?_; (with_reducible refine (Bl.calls (fun x => x < w.heap.size) ?side14 ?side1 ?side2 ?side3 ?side4 ?side5 ?side6 ?side7 ?side8 ?side9 ?side10 ?side11 ?side12 ?side13 A4.out).mono ?_); (case side1 => exact cu vD U); (case side2 => exact tD.out); (case side3 => exact cu wD U); (case side4 => exact uD.out); (case side5 => exact cu cF U); (case side6 => exact yE.out); (case side7 => exact cu dF U); (case side8 => exact zE.out); (case side9 => exact cu eF U); (case side10 => exact aF.out); (case side11 => exact Kd.DW rG.out (Kd.CS (Kd.C_F FR tG.out) (be1 U L))); (case side12 => exact cu pD U); (case side13 => exact sG.out); (case side14 => exact Aj HG.out (be1 U L)); rintro e zP ⟨v601, v604, v607, rfl, O, rD, oD, Z⟩; refine ⟨_, rfl, ?_⟩; have zF := mk0 (Kd.Cg (Kd.Ba (ok' := fun x => True) O (fun _ T => trivial)) (AX (be1 U L))); have aG := mk0 (Kd.Fe (Kd.AQ (ok' := fun x => some x ≠ (v601 : Value).ownBlock ∧ some x ≠ (v607 : Value).ownBlock ∧ x ≠ d) rD (fun x T => ⟨T.2.1, T.2.2, Or.elim T.1 (fun j => fun e_ => Nat.not_le.2 j (by rw [e_]; exact mH.out)) (fun jB => (Kd.Av (g := d) (o := .cells #[.int .i64 eB, .int .i64 fB, .string gB, .slice cC cB.length eC, .slice dC dB.length fC, .int .i64 gC, .int .i64 hC, .slice iC zB.length lC, .slice jC aC.length mC, .slice kC bC.length nC, .int .i64 G, .slice uB hB.length wB, .slice sD y.length xB, .bool oB] 40 (0, 0)) (Ae a.out) x jB))⟩)) (AX (be1 U L))); have bG := mk0 (Kd.Cn (Kd.Bh (ok' := fun x => some x ≠ (v601 : Value).ownBlock ∧ x ≠ d) oD (fun x T => ⟨T.2, Or.elim T.1 (fun j => fun e_ => Nat.not_le.2 j (by rw [e_]; exact mH.out)) (fun jB => (Kd.Av (g := d) (o := .cells #[.int .i64 eB, .int .i64 fB, .string gB, .slice cC cB.length eC, .slice dC dB.length fC, .int .i64 gC, .int .i64 hC, .slice iC zB.length lC, .slice jC aC.length mC, .slice kC bC.length nC, .int .i64 G, .slice uB hB.length wB, .slice sD y.length xB, .bool oB] 40 (0, 0)) (Ae a.out) x jB))⟩)) (AX (be1 U L))); replace a := kb a Z; replace U := kh1 U L Z; (try clear O); (try clear rD); (try clear oD)) | ((with_reducible refine AR rfl (N := 3) rfl (cs := #[.int .i64 0, .int .i64 0, .slice none 0 0, .slice none 0 0, .slice none 0 0]) (t := 33) ?hr ?_); (case hr => first | (go_simp; done) | (go_simp; rfl)); intro z hg qF sF Z; obtain ⟨aG, bG⟩ := tg2 hg Z aG bG; replace zF := rb zF Z; have l := mk0 (sF); have yF := bs (be1 U L) hg; have W := bs (be1 U L) hg; replace U := kh1 U L Z; have ⟨uE, cG⟩ := nn a hg; replace a := kb a Z; clear Z sF hg; have ⟨xO, zO⟩ := no cG uE; have uP := cells5 l.out; obtain ⟨aB, bB, lM⟩ := Kd.Bv zF.out; subst lM; obtain ⟨jD, kD, mM⟩ := Kd.Df aG.out; subst mM; obtain ⟨sB, tB, nM⟩ := Kd.Ch bG.out; subst nM))
 (try simp only [Act.put, List.setIfInBounds_toArray, List.set_cons_zero, List.set_cons_succ])
 go_cut [26] (fun v26 wc => ∃ (kq : Nat) (qH : Bool), v26 = .bool qH ∧ Aside0 (Ai.j0 kq qH eB fB gB cB dB gC hC zB aC bC G hB y oB xC yC X vC Y = some r) ∧ Aside0 (kq ≤ k) ∧ Aside0 (Kd.R (Kd.int .u8) 73 wc w.heap.size (fun _ => True) (.slice aB X.length bB) X) ∧ Aside0 (Kd.V k30 30 wc w.heap.size (fun x => some x ≠ ((.slice aB X.length bB) : Value).ownBlock ∧ some x ≠ ((.slice sB Y.length tB) : Value).ownBlock ∧ x ≠ d ∧ x ≠ z) (.slice jD vC.length kD) vC) ∧ Aside0 (Kd.N k63 63 wc w.heap.size (fun x => some x ≠ ((.slice aB X.length bB) : Value).ownBlock ∧ x ≠ d ∧ x ≠ z) (.slice sB Y.length tB) Y) ∧ Aside0 (wc.heap[d]? = some (.cells #[.int .i64 eB, .int .i64 fB, .string gB, (.slice cC cB.length eC), (.slice dC dB.length fC), .int .i64 gC, .int .i64 hC, (.slice iC zB.length lC), (.slice jC aC.length mC), (.slice kC bC.length nC), .int .i64 G, (.slice uB hB.length wB), (.slice sD y.length xB), .bool oB] 40 (0, 0))) ∧ Aside0 (wc.heap[z]? = some (.cells #[.int .i64 xC, .int .i64 yC, (.slice aB X.length bB), (.slice jD vC.length kD), (.slice sB Y.length tB)] 33 (0, 0))) ∧ Aside0 (Below w.heap.size w wc))
 case first =>
  have H := mL.out; clear mL
  replace H := iE' H; obtain ⟨xP, fG, nL, H⟩ | ⟨fG, nL, H⟩ := H
  ·(first | rw [fG] | (simp only [CE, DY]; rw [fG]) | skip)
   have H' := mk0 H
   clear H
   go_wp2
   go_meet
   case rel => exact ⟨_, (true), rfl, H', ⟨by omega⟩, ⟨Dn (Kd.Ba (rI (q := z) (Kd.AZ zF.out l.out (by decide)) (fun _ hk => hk.2)) (fun _ hk => trivial))⟩, ⟨BX (Kd.AQ (vI (q := z) (Kd.AQ aG.out (fun x hk => (⟨hk, hk.2⟩ : _ ∧ x ≠ z))) (fun _ hk => hk.2)) (fun _ hk => ⟨hk.1.1.1, ⟨hk.1.1.2.1, ⟨hk.1.1.2.2, hk.1.2⟩⟩⟩))⟩, ⟨Er (Kd.Bh (nI (q := z) (Kd.Bh bG.out (fun x hk => (⟨hk, hk.2⟩ : _ ∧ x ≠ z))) (fun _ hk => hk.2)) (fun _ hk => ⟨hk.1.1.1, ⟨hk.1.1.2, hk.1.2⟩⟩))⟩, ⟨bF uE a⟩, ⟨pB l⟩, ⟨be2 U L W⟩⟩
  (first | rw [fG] | (simp only [CE, DY]; rw [fG]) | skip)
  replace H := iN H; obtain ⟨qO, rO, H⟩ := H
  have sO : decide (0 < y.length) = true := decide_eq_true (by omega)
  clear qO
  have H' := mk0 H
  clear H; have ⟨yO, aP⟩ := no uE cG
  have sM : qF.cell? ⟨d, 0, none⟩ = some (.int .i64 eB) := bc a 0
  have tM : qF.cell? ⟨d, 1, none⟩ = some (.int .i64 fB) := bc a 1
  have uM : qF.cell? ⟨d, 2, none⟩ = some (.string gB) := bc a 2
  have vM : qF.cell? ⟨d, 3, none⟩ = some (.slice cC cB.length eC) := bc a 3
  have wM : qF.cell? ⟨d, 4, none⟩ = some (.slice dC dB.length fC) := bc a 4
  have xM : qF.cell? ⟨d, 5, none⟩ = some (.int .i64 gC) := bc a 5
  have yM : qF.cell? ⟨d, 6, none⟩ = some (.int .i64 hC) := bc a 6
  have zM : qF.cell? ⟨d, 7, none⟩ = some (.slice iC zB.length lC) := bc a 7
  have aN : qF.cell? ⟨d, 8, none⟩ = some (.slice jC aC.length mC) := bc a 8
  have bN : qF.cell? ⟨d, 9, none⟩ = some (.slice kC bC.length nC) := bc a 9
  have sL : qF.cell? ⟨d, 10, none⟩ = some (.int .i64 G) := bc a 10
  have tL : qF.cell? ⟨d, 11, none⟩ = some (.slice uB hB.length wB) := bc a 11
  have uL : qF.cell? ⟨d, 12, none⟩ = some (.slice sD y.length xB) := bc a 12
  have vL : qF.cell? ⟨d, 13, none⟩ = some (.bool oB) := bc a 13
  have nN := AJ a.out 0
  have oN := AJ a.out 1
  have pN := AJ a.out 2
  have qN := AJ a.out 3
  have rN := AJ a.out 4
  have sN := AJ a.out 5
  have tN := AJ a.out 6
  have uN := AJ a.out 7
  have vN := AJ a.out 8
  have wN := AJ a.out 9
  have aM := AJ a.out 10
  have bM := AJ a.out 11
  have cM := AJ a.out 12
  have dM := AJ a.out 13
  have dJ : 0 ≤ (0 : Int) := (by omega)
  have eJ : 0 < (y.length : Int) := od
  obtain ⟨dG, kM, oC⟩ := Kd.C8 pD.out 0 dJ eJ
  cases kM
  have bP : (0 < y.length) = True := eq_true (by omega)
  (try rw [show ((0 : Int)).toNat = 0 from rfl] at oC)
  (try rw [Addr.add_zero'] at oC)
  have gF : dG.block ≠ z := Nat.ne_of_lt (Nat.lt_of_lt_of_le (by have := World.block_lt_of_cell? _ _ oC; first | rwa [add_block] at this | exact this) yF.out)
  have hF : dG.block ≠ z := Nat.ne_of_lt (Nat.lt_of_lt_of_le (by have := World.block_lt_of_cell? _ _ oC; first | rwa [add_block] at this | exact this) yF.out)
  have jF : dG.block ≠ z := Nat.ne_of_lt (Nat.lt_of_lt_of_le (by have := World.block_lt_of_cell? _ _ oC; first | rwa [add_block] at this | exact this) yF.out)
  have lF : dG.block ≠ z := Nat.ne_of_lt (Nat.lt_of_lt_of_le (by have := World.block_lt_of_cell? _ _ oC; first | rwa [add_block] at this | exact this) yF.out)
  have mF : dG.block ≠ z := Nat.ne_of_lt (Nat.lt_of_lt_of_le (by have := World.block_lt_of_cell? _ _ oC; first | rwa [add_block] at this | exact this) yF.out)
  replace oC := AO U.out oC
  replace oC := (cell_far (p := ⟨z, 0, none⟩) (by first | (rw [add_block]; exact gF) | (show (Addr.add _ _).block ≠ _; rw [add_block]; exact gF) | exact gF) (.int .i64 xC)).trans oC
  replace oC := (cell_far (p := ⟨z, 1, none⟩) (by first | (rw [add_block]; exact hF) | (show (Addr.add _ _).block ≠ _; rw [add_block]; exact hF) | exact hF) (.int .i64 yC)).trans oC
  replace oC := (cell_far (p := ⟨z, 2, none⟩) (by first | (rw [add_block]; exact jF) | (show (Addr.add _ _).block ≠ _; rw [add_block]; exact jF) | exact jF) (.slice aB X.length bB)).trans oC
  replace oC := (cell_far (p := ⟨z, 3, none⟩) (by first | (rw [add_block]; exact lF) | (show (Addr.add _ _).block ≠ _; rw [add_block]; exact lF) | exact lF) (.slice jD vC.length kD)).trans oC
  replace oC := (cell_far (p := ⟨z, 4, none⟩) (by first | (rw [add_block]; exact mF) | (show (Addr.add _ _).block ≠ _; rw [add_block]; exact mF) | exact mF) (.slice sB Y.length tB)).trans oC
  clear gF; clear hF; clear jF; clear lF; clear mF; replace dJ := eq_true dJ; replace eJ := eq_true eJ
  go_wp2
  go_meet
  case rel => exact ⟨_, (((rd y 0) == 0)), rfl, H', ⟨by omega⟩, ⟨Dn (Kd.Ba (rI (q := z) (Kd.AZ zF.out l.out (by decide)) (fun _ hk => hk.2)) (fun _ hk => trivial))⟩, ⟨BX (Kd.AQ (vI (q := z) (Kd.AQ aG.out (fun x hk => (⟨hk, hk.2⟩ : _ ∧ x ≠ z))) (fun _ hk => hk.2)) (fun _ hk => ⟨hk.1.1.1, ⟨hk.1.1.2.1, ⟨hk.1.1.2.2, hk.1.2⟩⟩⟩))⟩, ⟨Er (Kd.Bh (nI (q := z) (Kd.Bh bG.out (fun x hk => (⟨hk, hk.2⟩ : _ ∧ x ≠ z))) (fun _ hk => hk.2)) (fun _ hk => ⟨hk.1.1.1, ⟨hk.1.1.2, hk.1.2⟩⟩))⟩, ⟨bF uE a⟩, ⟨pB l⟩, ⟨be2 U L W⟩⟩
 case rest =>
  clear mL; try clear iJ; try clear jJ; try clear eI; try clear fI; try clear gI; try clear hI; try clear kJ; try clear lJ; try clear mJ; try clear nJ; try clear oJ; try clear pJ; try clear qJ; try clear rJ; try clear cK; try clear dK; try clear mI; try clear oI; try clear pI; try clear qI; try clear eK; try clear fK; try clear gK; try clear iK; try clear jK; try clear kK; try clear lK; try clear mK; try clear sJ; try clear tJ; try clear iI; try clear jI; try clear kI; try clear lI; try clear uJ; try clear vJ; try clear wJ; try clear xJ; try clear yJ; try clear zJ; try clear aK; try clear bK; try clear nK; try clear oK; try clear tI; try clear uI; try clear wI; try clear xI; try clear pK; try clear qK; try clear rK; try clear sK; try clear tK; try clear uK; try clear vK; try clear wK
  obtain ⟨kq, qH, rfl, HA, wP, c, m, b, a, l, U⟩ := hcut
  cases kq with
  | zero => exact absurd HA.out (by simp [Ai.j0])
  | succ vE =>
   have H := HA.out; clear HA
   simp only [Ai.j0] at H
   replace H := iB H; obtain ⟨rfl, H⟩ | ⟨rfl, H⟩ := H
   ·replace H := bS H; obtain ⟨jO, lO, H⟩ := H; obtain rfl := sI H
    go_wp2_with ((with_reducible refine AV (f := 16) rfl ?_); refine Cf Try.func16 (Dj.calls vE  jO _ (Aj HG.out (be2 U L W)) lO.out) ?_; intro aQ Z; replace c := rb c Z; replace m := vb m Z; replace b := nb b Z; obtain ⟨a, l⟩ := tb2 Z a l; replace U := kh2 U L W Z)
    go_ret
    exact ⟨rfl, be2 U L W⟩
   replace H := Option.bind_eq_some_iff.mp H
   obtain ⟨⟨oF, pF, zC, lD, mD⟩, xK, H⟩ := H
   replace H : (if 0 < (y.length : Int) then ((Af.f vE eB fB gB cB dB oF pF zC lD mD G (wrap64 ((wrap64 (G + (rd y 0))) - 1))).bind fun yH => ((Af.f vE eB fB gB cB dB xC yC X vC Y G (wrap64 ((wrap64 (G + (rd y 0))) - 1))).bind fun eG => (if yH.2 = 0 then (if eG.2 = 0 then ((DZ.f vE yH.1 eG.1).bind fun qG => (if qG = true then ((Dj.f vE).bind fun nG => (some nG)) else (some false))) else (some false)) else (some false)))) else (none)) = some r := H
   have fJ := mk0 xK; clear xK
   replace H := iN H; obtain ⟨tO, uO, H⟩ := H
   have vO : decide (0 < y.length) = true := decide_eq_true (by omega)
   clear tO
   replace H := Option.bind_eq_some_iff.mp H
   obtain ⟨⟨oG, pG⟩, yK, H⟩ := H
   replace H : ((Af.f vE eB fB gB cB dB xC yC X vC Y G (wrap64 ((wrap64 (G + (rd y 0))) - 1))).bind fun eG => (if pG = 0 then (if eG.2 = 0 then ((DZ.f vE oG eG.1).bind fun qG => (if qG = true then ((Dj.f vE).bind fun nG => (some nG)) else (some false))) else (some false)) else (some false))) = some r := H
   have gJ := mk0 yK; clear yK
   replace H := Option.bind_eq_some_iff.mp H
   obtain ⟨⟨kH, lH⟩, zK, H⟩ := H
   replace H : (if pG = 0 then (if lH = 0 then ((DZ.f vE oG kH).bind fun qG => (if qG = true then ((Dj.f vE).bind fun nG => (some nG)) else (some false))) else (some false)) else (some false)) = some r := H
   have hJ := mk0 zK; clear zK
   replace H := iE' H; obtain ⟨c28, oL, pL, H⟩ | ⟨oL, pL, H⟩ := H
   ·obtain rfl := sI H
    try go_wp2
    have pC := mk0 (Kd.DX c.out)
    have qC := mk0 (Kd.Bg m.out)
    have rC := mk0 (Kd.DC b.out)
    have sC := mk0 (Aa a.out)
    have tC := mk0 (Aa l.out)
    have uC := mk0 (Ag U.out)
    clear c; clear m; clear b; clear a; clear l; clear U; have c := pC; have m := qC; have b := rC; have a := sC; have l := tC; have U := uC; clear pC qC rC sC tC uC
    have zD : 0 ≤ (0 : Int) := (by omega)
    have bE : 0 < (y.length : Int) := od
    obtain ⟨qB, lG, lB⟩ := Kd.C8 pD.out 0 zD bE
    have kB := lB
    (try rw [show ((0 : Int)).toNat = 0 from rfl] at kB)
    (try rw [show 0 * 1 = 0 from rfl] at kB)
    (try rw [Addr.add_zero'] at kB)
    cases lG
    have oH : (0 < y.length) = True := eq_true (by omega)
    (try rw [show ((0 : Int)).toNat = 0 from rfl] at lB)
    (try rw [Addr.add_zero'] at lB)
    replace lB := AO U.out lB
    replace zD := eq_true zD; replace bE := eq_true bE
    refine Cs (n := 21) (S := fun w' => w'.cell? ⟨d, 0, none⟩ = some (.int .i64 eB) ∧ w'.cell? ⟨d, 1, none⟩ = some (.int .i64 fB) ∧ w'.cell? ⟨d, 2, none⟩ = some (.string gB) ∧ w'.cell? ⟨d, 3, none⟩ = some (.slice cC cB.length eC) ∧ w'.cell? ⟨d, 4, none⟩ = some (.slice dC dB.length fC) ∧ w'.cell? ⟨d, 5, none⟩ = some (.int .i64 gC) ∧ w'.cell? ⟨d, 6, none⟩ = some (.int .i64 hC) ∧ w'.cell? ⟨d, 7, none⟩ = some (.slice iC zB.length lC) ∧ w'.cell? ⟨d, 8, none⟩ = some (.slice jC aC.length mC) ∧ w'.cell? ⟨d, 9, none⟩ = some (.slice kC bC.length nC) ∧ w'.cell? ⟨d, 10, none⟩ = some (.int .i64 G) ∧ w'.cell? ⟨d, 11, none⟩ = some (.slice uB hB.length wB) ∧ w'.cell? ⟨d, 12, none⟩ = some (.slice (some qB) y.length xB) ∧ w'.cell? ⟨d, 13, none⟩ = some (.bool oB) ∧ w'.cell? qB = some (.int .i64 (rd y 0))) (ds := []) (tf 0 21) (by kernel_rfl) rfl rfl ⟨bc a 0, bc a 1, bc a 2, bc a 3, bc a 4, bc a 5, bc a 6, bc a 7, bc a 8, bc a 9, bc a 10, bc a 11, bc a 12, bc a 13, (AO U.out kB)⟩ (fun J => ?_); refine Bq Ai.Ia Ai.F3 (fun B wC => ?_)
    generalize wc.drew = qQ at c m b a l U lB J ⊢
    refine pv 0 29 (tf 1 20) B ?_
    refine pv 2 31 #[true, false, true, false, false, false, false, false, false, false, false, false, false, false, false, false, false, false, false, false, false] B ?_
    refine pv 5 34 #[true, false, true, false, false, true, false, false, false, false, false, false, false, false, false, false, false, false, false, false, false] B ?_
    refine pv 7 36 #[true, false, true, false, false, true, false, true, false, false, false, false, false, false, false, false, false, false, false, false, false] B ?_
    refine pv 9 38 #[true, false, true, false, false, true, false, true, false, true, false, false, false, false, false, false, false, false, false, false, false] B ?_
    refine BI (i := 1) (N := some 30) (v := ?_) (a' := ?_) #[true, true, true, false, false, true, false, true, false, true, false, false, false, false, false, false, false, false, false, false, false] rfl rfl (Ad B.out wC.out (by kernel_rfl)) (fun _ _ _ h => h) (Or.inl ⟨by rfl, ?_⟩) J ?_ ?_
    rotate_left
    ·rintro w' ⟨s0, s1, s2, s3, s4, s5, s6, s7, s8, s9, dD, eD, fD, gD, hD⟩
     go_simp
     with_reducible rfl
    rotate_left
    ·simp only [ps]
     rfl
    refine BI (i := 3) (N := some 32) (v := ?_) (a' := ?_) #[true, true, true, true, false, true, false, true, false, true, false, false, false, false, false, false, false, false, false, false, false] rfl rfl (Ad B.out wC.out (by kernel_rfl)) (fun _ _ _ h => h) (Or.inl ⟨by rfl, ?_⟩) J ?_ ?_
    rotate_left
    ·rintro w' ⟨s0, s1, s2, s3, s4, s5, s6, s7, s8, s9, dD, eD, fD, gD, hD⟩
     go_simp
     with_reducible rfl
    rotate_left
    ·simp only [ps]
     rfl
    refine BI (i := 6) (N := some 35) (v := ?_) (a' := ?_) #[true, true, true, true, false, true, true, true, false, true, false, false, false, false, false, false, false, false, false, false, false] rfl rfl (Ad B.out wC.out (by kernel_rfl)) (fun _ _ _ h => h) (Or.inl ⟨by rfl, ?_⟩) J ?_ ?_
    rotate_left
    ·rintro w' ⟨s0, s1, s2, s3, s4, s5, s6, s7, s8, s9, dD, eD, fD, gD, hD⟩
     go_simp
     with_reducible rfl
    rotate_left
    ·simp only [ps]
     rfl
    refine BI (i := 8) (N := some 37) (v := ?_) (a' := ?_) #[true, true, true, true, false, true, true, true, true, true, false, false, false, false, false, false, false, false, false, false, false] rfl rfl (Ad B.out wC.out (by kernel_rfl)) (fun _ _ _ h => h) (Or.inl ⟨by rfl, ?_⟩) J ?_ ?_
    rotate_left
    ·rintro w' ⟨s0, s1, s2, s3, s4, s5, s6, s7, s8, s9, dD, eD, fD, gD, hD⟩
     go_simp
     with_reducible rfl
    rotate_left
    ·simp only [ps]
     rfl
    refine BI (i := 10) (N := some 39) (v := ?_) (a' := ?_) #[true, true, true, true, false, true, true, true, true, true, true, false, false, false, false, false, false, false, false, false, false] rfl rfl (Ad B.out wC.out (by kernel_rfl)) (fun _ _ _ h => h) (Or.inl ⟨by rfl, ?_⟩) J ?_ ?_
    rotate_left
    ·rintro w' ⟨s0, s1, s2, s3, s4, s5, s6, s7, s8, s9, dD, eD, fD, gD, hD⟩
     go_simp
     with_reducible rfl
    rotate_left
    ·simp only [ps]
     rfl
    refine pv 11 40 #[true, true, true, true, false, true, true, true, true, true, true, true, false, false, false, false, false, false, false, false, false] B ?_
    refine BI (i := 12) (N := some 41) (v := ?_) (a' := ?_) #[true, true, true, true, false, true, true, true, true, true, true, true, true, false, false, false, false, false, false, false, false] rfl rfl (Ad B.out wC.out (by kernel_rfl)) (fun _ _ _ h => h) (Or.inl ⟨by rfl, ?_⟩) J ?_ ?_
    rotate_left
    ·rintro w' ⟨s0, s1, s2, s3, s4, s5, s6, s7, s8, s9, dD, eD, fD, gD, hD⟩
     go_simp
     with_reducible rfl
    rotate_left
    ·simp only [ps]
     rfl
    refine pv 13 42 #[true, true, true, true, false, true, true, true, true, true, true, true, true, true, false, false, false, false, false, false, false] B ?_
    refine pv 14 43 #[true, true, true, true, false, true, true, true, true, true, true, true, true, true, true, false, false, false, false, false, false] B ?_
    refine C9 (i := 4) (N := some 33) (tf 15 6) rfl rfl (Bp B.out (by kernel_rfl)) (by decide) (fun K hK => ?_)
    refine Ca Try.func26 (by kernel_rfl) rfl #[.agg #[.int .i64 gC, .int .i64 hC, .slice iC zB.length lC, .slice jC aC.length mC, .slice kC bC.length nC]] (by rfl) rfl rfl (by (try simp only [List.map_toArray, List.map_cons, List.map_nil]); first | done | rfl | (simp only [List.length_drop, List.length_take]; rfl)) ?_
    with_reducible refine (Cj.calls ?side1 ?side2 ?side3 ?side4 ?side5 ?side6 fJ.out).mono ?_
    (case side1 => exact cu cF U)
    (case side2 => exact yE.out)
    (case side3 => exact cu dF U)
    (case side4 => exact zE.out)
    (case side5 => exact cu eF U)
    (case side6 => exact aF.out)
    rintro e rQ ⟨v616, v619, v622, rfl, O, rD, oD, Z⟩
    refine ⟨_, rfl, ?_⟩
    have pC := mk0 (Kd.EE (Ck c.out) (Kd.Aq O) Z)
    have qC := mk0 (Kd.AQ (Kd.Dp (Kd.Dp (Kd.Dp (Kd.I8 (Bu m.out) Z) (Kd.Aq O)) (by first | exact Kd.Aq rD | exact Kd.BZ rD)) (by first | exact Kd.Aq oD | exact Kd.BZ oD)) (fun _ h_ => h_.1))
    have rC := mk0 (Kd.Bh (Kd.Dx (Kd.Dx (Kd.Dx (Kd.I7 (CU b.out) Z) (Kd.Aq O)) (by first | exact Kd.Aq rD | exact Kd.BZ rD)) (by first | exact Kd.Aq oD | exact Kd.BZ oD)) (fun _ h_ => h_.1))
    have sC := mk0 (Kd.Cg (Kd.EM O (Kd.Da (Ck c.out))) (AX (be2 U L W)))
    have tC := mk0 (Kd.Cn (Kd.Bh (ok' := fun x => some x ≠ (v616 : Value).ownBlock ∧ some x ≠ (v622 : Value).ownBlock ∧ some x ≠ (.slice aB X.length bB : Value).ownBlock ∧ some x ≠ (.slice sB Y.length tB : Value).ownBlock ∧ x ≠ d ∧ x ≠ z) (Kd.R_N (Kd.Cz (Kd.AL rD (Kd.Dt oD) (by decide)))) (fun x T => ⟨T.1.1, T.1.2, (Kd.fresh' (Kd.Da (Ck c.out)) x T.2.1), (Kd.fresh' (Kd.EH (CU b.out)) x T.2.1), (Kd.Av (g := d) (o := .cells #[.int .i64 eB, .int .i64 fB, .string gB, .slice cC cB.length eC, .slice dC dB.length fC, .int .i64 gC, .int .i64 hC, .slice iC zB.length lC, .slice jC aC.length mC, .slice kC bC.length nC, .int .i64 G, .slice uB hB.length wB, .slice (some qB) y.length xB, .bool oB] 40 (0, 0)) (Ae a.out) x T.2.1), (Kd.Av (g := z) (o := .cells #[.int .i64 xC, .int .i64 yC, .slice aB X.length bB, .slice jD vC.length kD, .slice sB Y.length tB] 33 (0, 0)) (Ae l.out) x T.2.1)⟩)) (AX (be2 U L W)))
    have uC := mk0 (Kd.Cn (Kd.Bh (ok' := fun x => some x ≠ (v616 : Value).ownBlock ∧ some x ≠ (v619 : Value).ownBlock ∧ some x ≠ (.slice aB X.length bB : Value).ownBlock ∧ some x ≠ (.slice sB Y.length tB : Value).ownBlock ∧ x ≠ d ∧ x ≠ z) (Kd.R_N (Kd.Cz oD)) (fun x T => ⟨T.1.1, T.1.2, (Kd.fresh' (Kd.Da (Ck c.out)) x T.2.1), (Kd.fresh' (Kd.EH (CU b.out)) x T.2.1), (Kd.Av (g := d) (o := .cells #[.int .i64 eB, .int .i64 fB, .string gB, .slice cC cB.length eC, .slice dC dB.length fC, .int .i64 gC, .int .i64 hC, .slice iC zB.length lC, .slice jC aC.length mC, .slice kC bC.length nC, .int .i64 G, .slice uB hB.length wB, .slice (some qB) y.length xB, .bool oB] 40 (0, 0)) (Ae a.out) x T.2.1), (Kd.Av (g := z) (o := .cells #[.int .i64 xC, .int .i64 yC, .slice aB X.length bB, .slice jD vC.length kD, .slice sB Y.length tB] 33 (0, 0)) (Ae l.out) x T.2.1)⟩)) (AX (be2 U L W)))
    have aD := kb a Z
    have bD := kb l Z
    have cD := kh2 U L W Z
    clear c; clear m; clear b; clear a; clear l; clear U; have c := pC; have m := qC; have b := rC; have D := sC; have s := tC; have u := uC; have a := aD; have l := bD; have U := cD; clear pC qC rC sC tC uC aD bD cD
    try clear Z
    try clear O
    try clear rD
    try clear oD
    obtain ⟨xF, kG, jL⟩ := Kd.Bv D.out
    (first | subst jL | (injection jL with f1_ f2_ f3_; have xD := f1_.symm; have yD := f3_.symm; clear f1_ f2_ f3_; subst xD; subst yD))
    obtain ⟨aH, iH, kL⟩ := Kd.Ch s.out
    (first | subst kL | (injection kL with f1_ f2_ f3_; have xD := f1_.symm; have yD := f3_.symm; clear f1_ f2_ f3_; subst xD; subst yD))
    obtain ⟨bH, jH, lL⟩ := Kd.Ch u.out
    (first | subst lL | (injection lL with f1_ f2_ f3_; have xD := f1_.symm; have yD := f3_.symm; clear f1_ f2_ f3_; subst xD; subst yD))
    refine hK.out _ _ ⟨bc a 0, bc a 1, bc a 2, bc a 3, bc a 4, bc a 5, bc a 6, bc a 7, bc a 8, bc a 9, bc a 10, bc a 11, bc a 12, bc a 13, (AO U.out kB)⟩ (fun J => ?_)
    clear hK K
    refine Bz (a' := ?_) ?_ ?_
    rotate_left
    ·show Act.put _ (some 33) _ = _
     simp only [ps]
     rfl
    refine C9 (i := 15) (N := some 44) (tf 16 5) rfl rfl (Bp B.out (by kernel_rfl)) (by decide) (fun K hK => ?_)
    refine Ca Try.func33 (by kernel_rfl) rfl #[.agg #[.int .i64 eB, .int .i64 fB, .string gB, .slice cC cB.length eC, .slice dC dB.length fC], .agg #[.int .i64 oF, .int .i64 pF, .slice xF zC.length kG, .slice aH lD.length iH, .slice bH mD.length jH], .int .i64 G, .int .i64 (wrap64 ((wrap64 (G + (rd y 0))) - 1))] (by rfl) rfl rfl (by (try simp only [List.map_toArray, List.map_cons, List.map_nil]); first | done | rfl | (simp only [List.length_drop, List.length_take]; rfl)) ?_
    with_reducible refine (Af.calls vE eB fB gB _ _ cB _ _ dB oF pF (fun x => some x = (.slice xF zC.length kG : Value).ownBlock) _ _ zC (fun x => (some x ≠ (.slice xF zC.length kG : Value).ownBlock ∧ (some x ≠ (.slice bH mD.length jH : Value).ownBlock ∧ (some x ≠ (.slice aB X.length bB : Value).ownBlock ∧ (some x ≠ (.slice sB Y.length tB : Value).ownBlock ∧ (x ≠ d ∧ x ≠ z)))))) _ _ lD (fun x => (some x ≠ (.slice xF zC.length kG : Value).ownBlock ∧ (some x ≠ (.slice aH lD.length iH : Value).ownBlock ∧ (some x ≠ (.slice aB X.length bB : Value).ownBlock ∧ (some x ≠ (.slice sB Y.length tB : Value).ownBlock ∧ (x ≠ d ∧ x ≠ z)))))) _ _ mD G (wrap64 ((wrap64 (G + (rd y 0))) - 1)) oG pG _ ?side8 ?side1 ?side2 ?side3 ?side4 ?side5 ?side6 ?side7 gJ.out).mono ?_
    (case side1 => exact cu vD U)
    (case side2 => exact tD.out)
    (case side3 => exact cu wD U)
    (case side4 => exact uD.out)
    (case side5 => exact Kd.R_V (Kd.Ee rfl (Kd.AZ (Kd.AZ (Kd.AL (Kd.AL (Kd.AL (D.out) (Kd.AU b.out) (by decide)) (Kd.AU s.out) (by decide)) (Kd.AU u.out) (by decide)) a.out (by decide)) l.out (by decide))))
    (case side6 => exact Kd.N_V (s.out))
    (case side7 => exact Kd.N_V (u.out))
    (case side8 => exact Aj HG.out (be2 U L W))
    rintro e fP ⟨v626, rfl, O, Z⟩
    refine ⟨_, rfl, ?_⟩
    have pC := rb c Z
    have qC := mk0 (Kd.BL (Bu m.out) (by first | exact Kd.Aq O | exact Kd.BZ O) Z)
    have rC := mk0 (Kd.CF (CU b.out) (by first | exact Kd.Aq O | exact Kd.BZ O) Z)
    have sC := rb D Z
    have tC := mk0 (Kd.CF (CU s.out) (by first | exact Kd.Aq O | exact Kd.BZ O) Z)
    have uC := mk0 (Kd.CF (CU u.out) (by first | exact Kd.Aq O | exact Kd.BZ O) Z)
    have aD := mk0 (Kd.Cn (Kd.Bh (ok' := fun x => some x ≠ (.slice aB X.length bB : Value).ownBlock ∧ some x ≠ (.slice sB Y.length tB : Value).ownBlock ∧ x ≠ d ∧ x ≠ z) O (fun x T => ⟨Or.elim T (fun j => Or.elim j (fun j => ((Kd.AZ (Kd.AZ (Kd.AL (Kd.AL (Kd.AL (D.out) (Kd.AU b.out) (by decide)) (Kd.AU s.out) (by decide)) (Kd.AU u.out) (by decide)) a.out (by decide)) l.out (by decide)).1 x j.symm).1.1.1.1.1.2) (fun j => Or.elim j (fun j => j.2.2.1) (fun j => j.2.2.1))) (fun jB => (Kd.fresh' (Kd.Da (Ck c.out)) x jB)), Or.elim T (fun j => Or.elim j (fun j => ((Kd.AZ (Kd.AZ (Kd.AL (Kd.AL (Kd.AL (D.out) (Kd.AU b.out) (by decide)) (Kd.AU s.out) (by decide)) (Kd.AU u.out) (by decide)) a.out (by decide)) l.out (by decide)).1 x j.symm).1.1.1.1.2) (fun j => Or.elim j (fun j => j.2.2.2.1) (fun j => j.2.2.2.1))) (fun jB => (Kd.fresh' (Kd.EH (CU b.out)) x jB)), Or.elim T (fun j => Or.elim j (fun j => ((Kd.AZ (Kd.AZ (Kd.AL (Kd.AL (Kd.AL (D.out) (Kd.AU b.out) (by decide)) (Kd.AU s.out) (by decide)) (Kd.AU u.out) (by decide)) a.out (by decide)) l.out (by decide)).1 x j.symm).1.2) (fun j => Or.elim j (fun j => j.2.2.2.2.1) (fun j => j.2.2.2.2.1))) (fun jB => (Kd.Av (g := d) (o := .cells #[.int .i64 eB, .int .i64 fB, .string gB, .slice cC cB.length eC, .slice dC dB.length fC, .int .i64 gC, .int .i64 hC, .slice iC zB.length lC, .slice jC aC.length mC, .slice kC bC.length nC, .int .i64 G, .slice uB hB.length wB, .slice (some qB) y.length xB, .bool oB] 40 (0, 0)) (Ae a.out) x jB)), Or.elim T (fun j => Or.elim j (fun j => ((Kd.AZ (Kd.AZ (Kd.AL (Kd.AL (Kd.AL (D.out) (Kd.AU b.out) (by decide)) (Kd.AU s.out) (by decide)) (Kd.AU u.out) (by decide)) a.out (by decide)) l.out (by decide)).1 x j.symm).2) (fun j => Or.elim j (fun j => j.2.2.2.2.2) (fun j => j.2.2.2.2.2))) (fun jB => (Kd.Av (g := z) (o := .cells #[.int .i64 xC, .int .i64 yC, .slice aB X.length bB, .slice jD vC.length kD, .slice sB Y.length tB] 33 (0, 0)) (Ae l.out) x jB))⟩)) (AX (be2 U L W)))
    have bD := kb a Z
    have cD := kb l Z
    have nD := kh2 U L W Z
    clear c; clear m; clear b; clear D; clear s; clear u; clear a; clear l; clear U; have c := pC; have m := qC; have b := rC; have D := sC; have s := tC; have u := uC; have I := aD; have a := bD; have l := cD; have U := nD; clear pC qC rC sC tC uC aD bD cD nD
    try clear Z
    try clear O
    refine hK.out _ _ ⟨bc a 0, bc a 1, bc a 2, bc a 3, bc a 4, bc a 5, bc a 6, bc a 7, bc a 8, bc a 9, bc a 10, bc a 11, bc a 12, bc a 13, (AO U.out kB)⟩ (fun J => ?_)
    clear hK K
    refine Bz (a' := ?_) ?_ ?_
    rotate_left
    ·show Act.put _ (some 44) _ = _
     simp only [ps]
     rfl
    refine pv 16 28 (tf 17 4) B ?_
    refine pv 17 45 (tf 18 3) B ?_
    refine pv 18 46 (tf 19 2) B ?_
    refine pv 19 5 (tf 20 1) B ?_
    refine pv 20 6 (tf 21 0) B ?_
    refine Di (Co B.out (by kernel_rfl)) ?_
    try go_wp2
    have pC := mk0 (Kd.DX c.out)
    have qC := mk0 (Kd.Bg m.out)
    have rC := mk0 (Kd.DC b.out)
    have sC := mk0 (Kd.DX D.out)
    have tC := mk0 (Kd.DC s.out)
    have uC := mk0 (Kd.DC u.out)
    have aD := mk0 (Kd.DC I.out)
    have bD := mk0 (Aa a.out)
    have cD := mk0 (Aa l.out)
    have nD := mk0 (Ag U.out)
    clear c; clear m; clear b; clear D; clear s; clear u; clear I; clear a; clear l; clear U; have c := pC; have m := qC; have b := rC; have D := sC; have s := tC; have u := uC; have I := aD; have a := bD; have l := cD; have U := nD; clear pC qC rC sC tC uC aD bD cD nD
    have aE : 0 ≤ (0 : Int) := (by omega)
    have cE : 0 < (y.length : Int) := od
    obtain ⟨fF, mG, mB⟩ := Kd.C8 pD.out 0 aE cE
    have yB := mB
    (try rw [show ((0 : Int)).toNat = 0 from rfl] at yB)
    (try rw [show 0 * 1 = 0 from rfl] at yB)
    (try rw [Addr.add_zero'] at yB)
    obtain rfl : qB = fF := (by injection mG)
    have pH : (0 < y.length) = True := eq_true (by omega)
    (try rw [show ((0 : Int)).toNat = 0 from rfl] at mB)
    (try rw [Addr.add_zero'] at mB)
    replace mB := AO U.out mB
    replace aE := eq_true aE; replace cE := eq_true cE
    refine Cs (n := 19) (S := fun w' => w'.cell? ⟨d, 0, none⟩ = some (.int .i64 eB) ∧ w'.cell? ⟨d, 1, none⟩ = some (.int .i64 fB) ∧ w'.cell? ⟨d, 2, none⟩ = some (.string gB) ∧ w'.cell? ⟨d, 3, none⟩ = some (.slice cC cB.length eC) ∧ w'.cell? ⟨d, 4, none⟩ = some (.slice dC dB.length fC) ∧ w'.cell? ⟨d, 5, none⟩ = some (.int .i64 gC) ∧ w'.cell? ⟨d, 6, none⟩ = some (.int .i64 hC) ∧ w'.cell? ⟨d, 7, none⟩ = some (.slice iC zB.length lC) ∧ w'.cell? ⟨d, 8, none⟩ = some (.slice jC aC.length mC) ∧ w'.cell? ⟨d, 9, none⟩ = some (.slice kC bC.length nC) ∧ w'.cell? ⟨d, 10, none⟩ = some (.int .i64 G) ∧ w'.cell? ⟨d, 11, none⟩ = some (.slice uB hB.length wB) ∧ w'.cell? ⟨d, 12, none⟩ = some (.slice (some qB) y.length xB) ∧ w'.cell? ⟨d, 13, none⟩ = some (.bool oB) ∧ w'.cell? ⟨z, 0, none⟩ = some (.int .i64 xC) ∧ w'.cell? ⟨z, 1, none⟩ = some (.int .i64 yC) ∧ w'.cell? ⟨z, 2, none⟩ = some (.slice aB X.length bB) ∧ w'.cell? ⟨z, 3, none⟩ = some (.slice jD vC.length kD) ∧ w'.cell? ⟨z, 4, none⟩ = some (.slice sB Y.length tB) ∧ w'.cell? qB = some (.int .i64 (rd y 0))) (ds := []) (tf 0 19) (by kernel_rfl) rfl rfl ⟨bc a 0, bc a 1, bc a 2, bc a 3, bc a 4, bc a 5, bc a 6, bc a 7, bc a 8, bc a 9, bc a 10, bc a 11, bc a 12, bc a 13, bc l 0, bc l 1, bc l 2, bc l 3, bc l 4, (AO U.out yB)⟩ (fun J => ?_); refine Bq Ai.OD Ai.LH (fun B wC => ?_)
    generalize fP.drew = sQ at c m b D s u I a l U mB J ⊢
    refine pv 0 48 (tf 1 18) B ?_
    refine pv 3 51 #[true, false, false, true, false, false, false, false, false, false, false, false, false, false, false, false, false, false, false] B ?_
    refine pv 5 53 #[true, false, false, true, false, true, false, false, false, false, false, false, false, false, false, false, false, false, false] B ?_
    refine pv 7 55 #[true, false, false, true, false, true, false, true, false, false, false, false, false, false, false, false, false, false, false] B ?_
    refine BI (i := 1) (N := some 49) (v := ?_) (a' := ?_) #[true, true, false, true, false, true, false, true, false, false, false, false, false, false, false, false, false, false, false] rfl rfl (Ad B.out wC.out (by kernel_rfl)) (fun _ _ _ h => h) (Or.inl ⟨by rfl, ?_⟩) J ?_ ?_
    rotate_left
    ·rintro w' ⟨s0, s1, s2, s3, s4, s5, s6, s7, s8, s9, dD, eD, fD, gD, hD, fE, gE, hE, jE, kE⟩
     go_simp
     with_reducible rfl
    rotate_left
    ·simp only [ps]
     rfl
    refine BI (i := 2) (N := some 50) (v := ?_) (a' := ?_) #[true, true, true, true, false, true, false, true, false, false, false, false, false, false, false, false, false, false, false] rfl rfl (Ad B.out wC.out (by kernel_rfl)) (fun _ _ _ h => h) (Or.inl ⟨by rfl, ?_⟩) J ?_ ?_
    rotate_left
    ·rintro w' ⟨s0, s1, s2, s3, s4, s5, s6, s7, s8, s9, dD, eD, fD, gD, hD, fE, gE, hE, jE, kE⟩
     go_simp
     with_reducible rfl
    rotate_left
    ·simp only [ps]
     rfl
    refine BI (i := 4) (N := some 52) (v := ?_) (a' := ?_) #[true, true, true, true, true, true, false, true, false, false, false, false, false, false, false, false, false, false, false] rfl rfl (Ad B.out wC.out (by kernel_rfl)) (fun _ _ _ h => h) (Or.inl ⟨by rfl, ?_⟩) J ?_ ?_
    rotate_left
    ·rintro w' ⟨s0, s1, s2, s3, s4, s5, s6, s7, s8, s9, dD, eD, fD, gD, hD, fE, gE, hE, jE, kE⟩
     go_simp
     with_reducible rfl
    rotate_left
    ·simp only [ps]
     rfl
    refine BI (i := 6) (N := some 54) (v := ?_) (a' := ?_) (tf 8 11) rfl rfl (Ad B.out wC.out (by kernel_rfl)) (fun _ _ _ h => h) (Or.inl ⟨by rfl, ?_⟩) J ?_ ?_
    rotate_left
    ·rintro w' ⟨s0, s1, s2, s3, s4, s5, s6, s7, s8, s9, dD, eD, fD, gD, hD, fE, gE, hE, jE, kE⟩
     go_simp
     with_reducible rfl
    rotate_left
    ·simp only [ps]
     rfl
    refine BI (i := 8) (N := some 56) (v := ?_) (a' := ?_) (tf 9 10) rfl rfl (Ad B.out wC.out (by kernel_rfl)) (fun _ _ _ h => h) (Or.inl ⟨by rfl, ?_⟩) J ?_ ?_
    rotate_left
    ·rintro w' ⟨s0, s1, s2, s3, s4, s5, s6, s7, s8, s9, dD, eD, fD, gD, hD, fE, gE, hE, jE, kE⟩
     go_simp
     with_reducible rfl
    rotate_left
    ·simp only [ps]
     rfl
    refine pv 9 57 (tf 10 9) B ?_
    refine BI (i := 10) (N := some 58) (v := ?_) (a' := ?_) (tf 11 8) rfl rfl (Ad B.out wC.out (by kernel_rfl)) (fun _ _ _ h => h) (Or.inl ⟨by rfl, ?_⟩) J ?_ ?_
    rotate_left
    ·rintro w' ⟨s0, s1, s2, s3, s4, s5, s6, s7, s8, s9, dD, eD, fD, gD, hD, fE, gE, hE, jE, kE⟩
     go_simp
     with_reducible rfl
    rotate_left
    ·simp only [ps]
     rfl
    refine pv 11 59 (tf 12 7) B ?_
    refine pv 12 60 (tf 13 6) B ?_
    refine C9 (i := 13) (N := some 61) (tf 14 5) rfl rfl (Bp B.out (by kernel_rfl)) (by decide) (fun K hK => ?_)
    refine Ca Try.func33 (by kernel_rfl) rfl #[.agg #[.int .i64 eB, .int .i64 fB, .string gB, .slice cC cB.length eC, .slice dC dB.length fC], .agg #[.int .i64 xC, .int .i64 yC, .slice aB X.length bB, .slice jD vC.length kD, .slice sB Y.length tB], .int .i64 G, .int .i64 (wrap64 ((wrap64 (G + (rd y 0))) - 1))] (by rfl) rfl rfl (by (try simp only [List.map_toArray, List.map_cons, List.map_nil]); first | done | rfl | (simp only [List.length_drop, List.length_take]; rfl)) ?_
    with_reducible refine (Af.calls vE eB fB gB _ _ cB _ _ dB xC yC (fun x => some x = (.slice aB X.length bB : Value).ownBlock) _ _ X (fun x => (((((some x ≠ (.slice aB X.length bB : Value).ownBlock ∧ (some x ≠ (.slice sB Y.length tB : Value).ownBlock ∧ (x ≠ d ∧ x ≠ z))) ∧ some x ≠ (.slice xF zC.length kG : Value).ownBlock) ∧ some x ≠ (.slice aH lD.length iH : Value).ownBlock) ∧ some x ≠ (.slice bH mD.length jH : Value).ownBlock) ∧ some x ≠ (v626 : Value).ownBlock)) _ _ vC (fun x => (((((some x ≠ (.slice aB X.length bB : Value).ownBlock ∧ (x ≠ d ∧ x ≠ z)) ∧ some x ≠ (.slice xF zC.length kG : Value).ownBlock) ∧ some x ≠ (.slice aH lD.length iH : Value).ownBlock) ∧ some x ≠ (.slice bH mD.length jH : Value).ownBlock) ∧ some x ≠ (v626 : Value).ownBlock)) _ _ Y G (wrap64 ((wrap64 (G + (rd y 0))) - 1)) kH lH _ ?side8 ?side1 ?side2 ?side3 ?side4 ?side5 ?side6 ?side7 hJ.out).mono ?_
    (case side1 => exact cu vD U)
    (case side2 => exact tD.out)
    (case side3 => exact cu wD U)
    (case side4 => exact uD.out)
    (case side5 => exact Kd.R_V (Kd.Ee rfl (Kd.AZ (Kd.AZ (Kd.AL (Kd.AL (Kd.AL (Kd.AL (c.out) (Kd.AU b.out) (by decide)) (Kd.AU s.out) (by decide)) (Kd.AU u.out) (by decide)) (Kd.AU I.out) (by decide)) a.out (by decide)) l.out (by decide))))
    (case side6 => exact m.out)
    (case side7 => exact Kd.N_V (b.out))
    (case side8 => exact Aj HG.out (be2 U L W))
    rintro e tQ ⟨v631, rfl, O, Z⟩
    refine ⟨_, rfl, ?_⟩
    have pC := rb c Z
    have qC := mk0 (Kd.BL (Bu m.out) (by first | exact Kd.Aq O | exact Kd.BZ O) Z)
    have rC := mk0 (Kd.CF (CU b.out) (by first | exact Kd.Aq O | exact Kd.BZ O) Z)
    have sC := rb D Z
    have tC := mk0 (Kd.CF (CU s.out) (by first | exact Kd.Aq O | exact Kd.BZ O) Z)
    have uC := mk0 (Kd.CF (CU u.out) (by first | exact Kd.Aq O | exact Kd.BZ O) Z)
    have aD := mk0 (Kd.CF (CU I.out) (by first | exact Kd.Aq O | exact Kd.BZ O) Z)
    have bD := mk0 (Kd.Cn (Kd.Bh (ok' := fun x => some x ≠ (.slice xF zC.length kG : Value).ownBlock ∧ some x ≠ (.slice aH lD.length iH : Value).ownBlock ∧ some x ≠ (.slice bH mD.length jH : Value).ownBlock ∧ some x ≠ (v626 : Value).ownBlock ∧ x ≠ d ∧ x ≠ z) O (fun x T => ⟨Or.elim T (fun j => Or.elim j (fun j => ((Kd.AZ (Kd.AZ (Kd.AL (Kd.AL (Kd.AL (Kd.AL (c.out) (Kd.AU b.out) (by decide)) (Kd.AU s.out) (by decide)) (Kd.AU u.out) (by decide)) (Kd.AU I.out) (by decide)) a.out (by decide)) l.out (by decide)).1 x j.symm).1.1.1.1.1.1.2) (fun j => Or.elim j (fun j => j.1.1.1.2) (fun j => j.1.1.1.2))) (fun jB => (Kd.fresh' (Kd.Da (Ck D.out)) x jB)), Or.elim T (fun j => Or.elim j (fun j => ((Kd.AZ (Kd.AZ (Kd.AL (Kd.AL (Kd.AL (Kd.AL (c.out) (Kd.AU b.out) (by decide)) (Kd.AU s.out) (by decide)) (Kd.AU u.out) (by decide)) (Kd.AU I.out) (by decide)) a.out (by decide)) l.out (by decide)).1 x j.symm).1.1.1.1.2) (fun j => Or.elim j (fun j => j.1.1.2) (fun j => j.1.1.2))) (fun jB => (Kd.fresh' (Kd.EH (CU s.out)) x jB)), Or.elim T (fun j => Or.elim j (fun j => ((Kd.AZ (Kd.AZ (Kd.AL (Kd.AL (Kd.AL (Kd.AL (c.out) (Kd.AU b.out) (by decide)) (Kd.AU s.out) (by decide)) (Kd.AU u.out) (by decide)) (Kd.AU I.out) (by decide)) a.out (by decide)) l.out (by decide)).1 x j.symm).1.1.1.2) (fun j => Or.elim j (fun j => j.1.2) (fun j => j.1.2))) (fun jB => (Kd.fresh' (Kd.EH (CU u.out)) x jB)), Or.elim T (fun j => Or.elim j (fun j => ((Kd.AZ (Kd.AZ (Kd.AL (Kd.AL (Kd.AL (Kd.AL (c.out) (Kd.AU b.out) (by decide)) (Kd.AU s.out) (by decide)) (Kd.AU u.out) (by decide)) (Kd.AU I.out) (by decide)) a.out (by decide)) l.out (by decide)).1 x j.symm).1.1.2) (fun j => Or.elim j (fun j => j.2) (fun j => j.2))) (fun jB => (Kd.fresh' (Kd.EH (CU I.out)) x jB)), Or.elim T (fun j => Or.elim j (fun j => ((Kd.AZ (Kd.AZ (Kd.AL (Kd.AL (Kd.AL (Kd.AL (c.out) (Kd.AU b.out) (by decide)) (Kd.AU s.out) (by decide)) (Kd.AU u.out) (by decide)) (Kd.AU I.out) (by decide)) a.out (by decide)) l.out (by decide)).1 x j.symm).1.2) (fun j => Or.elim j (fun j => j.1.1.1.1.2.2.1) (fun j => j.1.1.1.1.2.1))) (fun jB => (Kd.Av (g := d) (o := .cells #[.int .i64 eB, .int .i64 fB, .string gB, .slice cC cB.length eC, .slice dC dB.length fC, .int .i64 gC, .int .i64 hC, .slice iC zB.length lC, .slice jC aC.length mC, .slice kC bC.length nC, .int .i64 G, .slice uB hB.length wB, .slice (some qB) y.length xB, .bool oB] 40 (0, 0)) (Ae a.out) x jB)), Or.elim T (fun j => Or.elim j (fun j => ((Kd.AZ (Kd.AZ (Kd.AL (Kd.AL (Kd.AL (Kd.AL (c.out) (Kd.AU b.out) (by decide)) (Kd.AU s.out) (by decide)) (Kd.AU u.out) (by decide)) (Kd.AU I.out) (by decide)) a.out (by decide)) l.out (by decide)).1 x j.symm).2) (fun j => Or.elim j (fun j => j.1.1.1.1.2.2.2) (fun j => j.1.1.1.1.2.2))) (fun jB => (Kd.Av (g := z) (o := .cells #[.int .i64 xC, .int .i64 yC, .slice aB X.length bB, .slice jD vC.length kD, .slice sB Y.length tB] 33 (0, 0)) (Ae l.out) x jB))⟩)) (AX (be2 U L W)))
    have cD := kb a Z
    have nD := kb l Z
    have xE := kh2 U L W Z
    clear c; clear m; clear b; clear D; clear s; clear u; clear I; clear a; clear l; clear U; have c := pC; have m := qC; have b := rC; have D := sC; have s := tC; have u := uC; have I := aD; have qD := bD; have a := cD; have l := nD; have U := xE; clear pC qC rC sC tC uC aD bD cD nD xE
    try clear Z
    try clear O
    refine hK.out _ _ ⟨bc a 0, bc a 1, bc a 2, bc a 3, bc a 4, bc a 5, bc a 6, bc a 7, bc a 8, bc a 9, bc a 10, bc a 11, bc a 12, bc a 13, bc l 0, bc l 1, bc l 2, bc l 3, bc l 4, (AO U.out yB)⟩ (fun J => ?_)
    clear hK K
    refine Bz (a' := ?_) ?_ ?_
    rotate_left
    ·show Act.put _ (some 61) _ = _
     simp only [ps]
     rfl
    refine pv 14 47 (tf 15 4) B ?_
    refine pv 15 62 (tf 16 3) B ?_
    refine pv 16 63 (tf 17 2) B ?_
    refine pv 17 7 (tf 18 1) B ?_
    refine pv 18 8 (tf 19 0) B ?_
    refine Di (Co B.out (by kernel_rfl)) ?_
    try go_wp2
    go_ret
    exact ⟨rfl, be2 U L W⟩
   replace H := iE' H; obtain ⟨yP, qL, rL, H⟩ | ⟨qL, rL, H⟩ := H
   ·obtain rfl := sI H
    try go_wp2
    have pC := mk0 (Kd.DX c.out)
    have qC := mk0 (Kd.Bg m.out)
    have rC := mk0 (Kd.DC b.out)
    have sC := mk0 (Aa a.out)
    have tC := mk0 (Aa l.out)
    have uC := mk0 (Ag U.out)
    clear c; clear m; clear b; clear a; clear l; clear U; have c := pC; have m := qC; have b := rC; have a := sC; have l := tC; have U := uC; clear pC qC rC sC tC uC
    have zD : 0 ≤ (0 : Int) := (by omega)
    have bE : 0 < (y.length : Int) := od
    obtain ⟨qB, lG, lB⟩ := Kd.C8 pD.out 0 zD bE
    have kB := lB
    (try rw [show ((0 : Int)).toNat = 0 from rfl] at kB)
    (try rw [show 0 * 1 = 0 from rfl] at kB)
    (try rw [Addr.add_zero'] at kB)
    cases lG
    have oH : (0 < y.length) = True := eq_true (by omega)
    (try rw [show ((0 : Int)).toNat = 0 from rfl] at lB)
    (try rw [Addr.add_zero'] at lB)
    replace lB := AO U.out lB
    replace zD := eq_true zD; replace bE := eq_true bE
    refine Cs (n := 21) (S := fun w' => w'.cell? ⟨d, 0, none⟩ = some (.int .i64 eB) ∧ w'.cell? ⟨d, 1, none⟩ = some (.int .i64 fB) ∧ w'.cell? ⟨d, 2, none⟩ = some (.string gB) ∧ w'.cell? ⟨d, 3, none⟩ = some (.slice cC cB.length eC) ∧ w'.cell? ⟨d, 4, none⟩ = some (.slice dC dB.length fC) ∧ w'.cell? ⟨d, 5, none⟩ = some (.int .i64 gC) ∧ w'.cell? ⟨d, 6, none⟩ = some (.int .i64 hC) ∧ w'.cell? ⟨d, 7, none⟩ = some (.slice iC zB.length lC) ∧ w'.cell? ⟨d, 8, none⟩ = some (.slice jC aC.length mC) ∧ w'.cell? ⟨d, 9, none⟩ = some (.slice kC bC.length nC) ∧ w'.cell? ⟨d, 10, none⟩ = some (.int .i64 G) ∧ w'.cell? ⟨d, 11, none⟩ = some (.slice uB hB.length wB) ∧ w'.cell? ⟨d, 12, none⟩ = some (.slice (some qB) y.length xB) ∧ w'.cell? ⟨d, 13, none⟩ = some (.bool oB) ∧ w'.cell? qB = some (.int .i64 (rd y 0))) (ds := []) (tf 0 21) (by kernel_rfl) rfl rfl ⟨bc a 0, bc a 1, bc a 2, bc a 3, bc a 4, bc a 5, bc a 6, bc a 7, bc a 8, bc a 9, bc a 10, bc a 11, bc a 12, bc a 13, (AO U.out kB)⟩ (fun J => ?_); refine Bq Ai.Ia Ai.F3 (fun B wC => ?_)
    generalize wc.drew = mQ at c m b a l U lB J ⊢
    refine pv 0 29 (tf 1 20) B ?_
    refine pv 2 31 #[true, false, true, false, false, false, false, false, false, false, false, false, false, false, false, false, false, false, false, false, false] B ?_
    refine pv 5 34 #[true, false, true, false, false, true, false, false, false, false, false, false, false, false, false, false, false, false, false, false, false] B ?_
    refine pv 7 36 #[true, false, true, false, false, true, false, true, false, false, false, false, false, false, false, false, false, false, false, false, false] B ?_
    refine pv 9 38 #[true, false, true, false, false, true, false, true, false, true, false, false, false, false, false, false, false, false, false, false, false] B ?_
    refine BI (i := 1) (N := some 30) (v := ?_) (a' := ?_) #[true, true, true, false, false, true, false, true, false, true, false, false, false, false, false, false, false, false, false, false, false] rfl rfl (Ad B.out wC.out (by kernel_rfl)) (fun _ _ _ h => h) (Or.inl ⟨by rfl, ?_⟩) J ?_ ?_
    rotate_left
    ·rintro w' ⟨s0, s1, s2, s3, s4, s5, s6, s7, s8, s9, dD, eD, fD, gD, hD⟩
     go_simp
     with_reducible rfl
    rotate_left
    ·simp only [ps]
     rfl
    refine BI (i := 3) (N := some 32) (v := ?_) (a' := ?_) #[true, true, true, true, false, true, false, true, false, true, false, false, false, false, false, false, false, false, false, false, false] rfl rfl (Ad B.out wC.out (by kernel_rfl)) (fun _ _ _ h => h) (Or.inl ⟨by rfl, ?_⟩) J ?_ ?_
    rotate_left
    ·rintro w' ⟨s0, s1, s2, s3, s4, s5, s6, s7, s8, s9, dD, eD, fD, gD, hD⟩
     go_simp
     with_reducible rfl
    rotate_left
    ·simp only [ps]
     rfl
    refine BI (i := 6) (N := some 35) (v := ?_) (a' := ?_) #[true, true, true, true, false, true, true, true, false, true, false, false, false, false, false, false, false, false, false, false, false] rfl rfl (Ad B.out wC.out (by kernel_rfl)) (fun _ _ _ h => h) (Or.inl ⟨by rfl, ?_⟩) J ?_ ?_
    rotate_left
    ·rintro w' ⟨s0, s1, s2, s3, s4, s5, s6, s7, s8, s9, dD, eD, fD, gD, hD⟩
     go_simp
     with_reducible rfl
    rotate_left
    ·simp only [ps]
     rfl
    refine BI (i := 8) (N := some 37) (v := ?_) (a' := ?_) #[true, true, true, true, false, true, true, true, true, true, false, false, false, false, false, false, false, false, false, false, false] rfl rfl (Ad B.out wC.out (by kernel_rfl)) (fun _ _ _ h => h) (Or.inl ⟨by rfl, ?_⟩) J ?_ ?_
    rotate_left
    ·rintro w' ⟨s0, s1, s2, s3, s4, s5, s6, s7, s8, s9, dD, eD, fD, gD, hD⟩
     go_simp
     with_reducible rfl
    rotate_left
    ·simp only [ps]
     rfl
    refine BI (i := 10) (N := some 39) (v := ?_) (a' := ?_) #[true, true, true, true, false, true, true, true, true, true, true, false, false, false, false, false, false, false, false, false, false] rfl rfl (Ad B.out wC.out (by kernel_rfl)) (fun _ _ _ h => h) (Or.inl ⟨by rfl, ?_⟩) J ?_ ?_
    rotate_left
    ·rintro w' ⟨s0, s1, s2, s3, s4, s5, s6, s7, s8, s9, dD, eD, fD, gD, hD⟩
     go_simp
     with_reducible rfl
    rotate_left
    ·simp only [ps]
     rfl
    refine pv 11 40 #[true, true, true, true, false, true, true, true, true, true, true, true, false, false, false, false, false, false, false, false, false] B ?_
    refine BI (i := 12) (N := some 41) (v := ?_) (a' := ?_) #[true, true, true, true, false, true, true, true, true, true, true, true, true, false, false, false, false, false, false, false, false] rfl rfl (Ad B.out wC.out (by kernel_rfl)) (fun _ _ _ h => h) (Or.inl ⟨by rfl, ?_⟩) J ?_ ?_
    rotate_left
    ·rintro w' ⟨s0, s1, s2, s3, s4, s5, s6, s7, s8, s9, dD, eD, fD, gD, hD⟩
     go_simp
     with_reducible rfl
    rotate_left
    ·simp only [ps]
     rfl
    refine pv 13 42 #[true, true, true, true, false, true, true, true, true, true, true, true, true, true, false, false, false, false, false, false, false] B ?_
    refine pv 14 43 #[true, true, true, true, false, true, true, true, true, true, true, true, true, true, true, false, false, false, false, false, false] B ?_
    refine C9 (i := 4) (N := some 33) (tf 15 6) rfl rfl (Bp B.out (by kernel_rfl)) (by decide) (fun K hK => ?_)
    refine Ca Try.func26 (by kernel_rfl) rfl #[.agg #[.int .i64 gC, .int .i64 hC, .slice iC zB.length lC, .slice jC aC.length mC, .slice kC bC.length nC]] (by rfl) rfl rfl (by (try simp only [List.map_toArray, List.map_cons, List.map_nil]); first | done | rfl | (simp only [List.length_drop, List.length_take]; rfl)) ?_
    with_reducible refine (Cj.calls ?side1 ?side2 ?side3 ?side4 ?side5 ?side6 fJ.out).mono ?_
    (case side1 => exact cu cF U)
    (case side2 => exact yE.out)
    (case side3 => exact cu dF U)
    (case side4 => exact zE.out)
    (case side5 => exact cu eF U)
    (case side6 => exact aF.out)
    rintro e nQ ⟨v616, v619, v622, rfl, O, rD, oD, Z⟩
    refine ⟨_, rfl, ?_⟩
    have pC := mk0 (Kd.EE (Ck c.out) (Kd.Aq O) Z)
    have qC := mk0 (Kd.AQ (Kd.Dp (Kd.Dp (Kd.Dp (Kd.I8 (Bu m.out) Z) (Kd.Aq O)) (by first | exact Kd.Aq rD | exact Kd.BZ rD)) (by first | exact Kd.Aq oD | exact Kd.BZ oD)) (fun _ h_ => h_.1))
    have rC := mk0 (Kd.Bh (Kd.Dx (Kd.Dx (Kd.Dx (Kd.I7 (CU b.out) Z) (Kd.Aq O)) (by first | exact Kd.Aq rD | exact Kd.BZ rD)) (by first | exact Kd.Aq oD | exact Kd.BZ oD)) (fun _ h_ => h_.1))
    have sC := mk0 (Kd.Cg (Kd.EM O (Kd.Da (Ck c.out))) (AX (be2 U L W)))
    have tC := mk0 (Kd.Cn (Kd.Bh (ok' := fun x => some x ≠ (v616 : Value).ownBlock ∧ some x ≠ (v622 : Value).ownBlock ∧ some x ≠ (.slice aB X.length bB : Value).ownBlock ∧ some x ≠ (.slice sB Y.length tB : Value).ownBlock ∧ x ≠ d ∧ x ≠ z) (Kd.R_N (Kd.Cz (Kd.AL rD (Kd.Dt oD) (by decide)))) (fun x T => ⟨T.1.1, T.1.2, (Kd.fresh' (Kd.Da (Ck c.out)) x T.2.1), (Kd.fresh' (Kd.EH (CU b.out)) x T.2.1), (Kd.Av (g := d) (o := .cells #[.int .i64 eB, .int .i64 fB, .string gB, .slice cC cB.length eC, .slice dC dB.length fC, .int .i64 gC, .int .i64 hC, .slice iC zB.length lC, .slice jC aC.length mC, .slice kC bC.length nC, .int .i64 G, .slice uB hB.length wB, .slice (some qB) y.length xB, .bool oB] 40 (0, 0)) (Ae a.out) x T.2.1), (Kd.Av (g := z) (o := .cells #[.int .i64 xC, .int .i64 yC, .slice aB X.length bB, .slice jD vC.length kD, .slice sB Y.length tB] 33 (0, 0)) (Ae l.out) x T.2.1)⟩)) (AX (be2 U L W)))
    have uC := mk0 (Kd.Cn (Kd.Bh (ok' := fun x => some x ≠ (v616 : Value).ownBlock ∧ some x ≠ (v619 : Value).ownBlock ∧ some x ≠ (.slice aB X.length bB : Value).ownBlock ∧ some x ≠ (.slice sB Y.length tB : Value).ownBlock ∧ x ≠ d ∧ x ≠ z) (Kd.R_N (Kd.Cz oD)) (fun x T => ⟨T.1.1, T.1.2, (Kd.fresh' (Kd.Da (Ck c.out)) x T.2.1), (Kd.fresh' (Kd.EH (CU b.out)) x T.2.1), (Kd.Av (g := d) (o := .cells #[.int .i64 eB, .int .i64 fB, .string gB, .slice cC cB.length eC, .slice dC dB.length fC, .int .i64 gC, .int .i64 hC, .slice iC zB.length lC, .slice jC aC.length mC, .slice kC bC.length nC, .int .i64 G, .slice uB hB.length wB, .slice (some qB) y.length xB, .bool oB] 40 (0, 0)) (Ae a.out) x T.2.1), (Kd.Av (g := z) (o := .cells #[.int .i64 xC, .int .i64 yC, .slice aB X.length bB, .slice jD vC.length kD, .slice sB Y.length tB] 33 (0, 0)) (Ae l.out) x T.2.1)⟩)) (AX (be2 U L W)))
    have aD := kb a Z
    have bD := kb l Z
    have cD := kh2 U L W Z
    clear c; clear m; clear b; clear a; clear l; clear U; have c := pC; have m := qC; have b := rC; have D := sC; have s := tC; have u := uC; have a := aD; have l := bD; have U := cD; clear pC qC rC sC tC uC aD bD cD
    try clear Z
    try clear O
    try clear rD
    try clear oD
    obtain ⟨wF, jG, gL⟩ := Kd.Bv D.out
    (first | subst gL | (injection gL with f1_ f2_ f3_; have xD := f1_.symm; have yD := f3_.symm; clear f1_ f2_ f3_; subst xD; subst yD))
    obtain ⟨yG, gH, hL⟩ := Kd.Ch s.out
    (first | subst hL | (injection hL with f1_ f2_ f3_; have xD := f1_.symm; have yD := f3_.symm; clear f1_ f2_ f3_; subst xD; subst yD))
    obtain ⟨zG, hH, iL⟩ := Kd.Ch u.out
    (first | subst iL | (injection iL with f1_ f2_ f3_; have xD := f1_.symm; have yD := f3_.symm; clear f1_ f2_ f3_; subst xD; subst yD))
    refine hK.out _ _ ⟨bc a 0, bc a 1, bc a 2, bc a 3, bc a 4, bc a 5, bc a 6, bc a 7, bc a 8, bc a 9, bc a 10, bc a 11, bc a 12, bc a 13, (AO U.out kB)⟩ (fun J => ?_)
    clear hK K
    refine Bz (a' := ?_) ?_ ?_
    rotate_left
    ·show Act.put _ (some 33) _ = _
     simp only [ps]
     rfl
    refine C9 (i := 15) (N := some 44) (tf 16 5) rfl rfl (Bp B.out (by kernel_rfl)) (by decide) (fun K hK => ?_)
    refine Ca Try.func33 (by kernel_rfl) rfl #[.agg #[.int .i64 eB, .int .i64 fB, .string gB, .slice cC cB.length eC, .slice dC dB.length fC], .agg #[.int .i64 oF, .int .i64 pF, .slice wF zC.length jG, .slice yG lD.length gH, .slice zG mD.length hH], .int .i64 G, .int .i64 (wrap64 ((wrap64 (G + (rd y 0))) - 1))] (by rfl) rfl rfl (by (try simp only [List.map_toArray, List.map_cons, List.map_nil]); first | done | rfl | (simp only [List.length_drop, List.length_take]; rfl)) ?_
    with_reducible refine (Af.calls vE eB fB gB _ _ cB _ _ dB oF pF (fun x => some x = (.slice wF zC.length jG : Value).ownBlock) _ _ zC (fun x => (some x ≠ (.slice wF zC.length jG : Value).ownBlock ∧ (some x ≠ (.slice zG mD.length hH : Value).ownBlock ∧ (some x ≠ (.slice aB X.length bB : Value).ownBlock ∧ (some x ≠ (.slice sB Y.length tB : Value).ownBlock ∧ (x ≠ d ∧ x ≠ z)))))) _ _ lD (fun x => (some x ≠ (.slice wF zC.length jG : Value).ownBlock ∧ (some x ≠ (.slice yG lD.length gH : Value).ownBlock ∧ (some x ≠ (.slice aB X.length bB : Value).ownBlock ∧ (some x ≠ (.slice sB Y.length tB : Value).ownBlock ∧ (x ≠ d ∧ x ≠ z)))))) _ _ mD G (wrap64 ((wrap64 (G + (rd y 0))) - 1)) oG pG _ ?side8 ?side1 ?side2 ?side3 ?side4 ?side5 ?side6 ?side7 gJ.out).mono ?_
    (case side1 => exact cu vD U)
    (case side2 => exact tD.out)
    (case side3 => exact cu wD U)
    (case side4 => exact uD.out)
    (case side5 => exact Kd.R_V (Kd.Ee rfl (Kd.AZ (Kd.AZ (Kd.AL (Kd.AL (Kd.AL (D.out) (Kd.AU b.out) (by decide)) (Kd.AU s.out) (by decide)) (Kd.AU u.out) (by decide)) a.out (by decide)) l.out (by decide))))
    (case side6 => exact Kd.N_V (s.out))
    (case side7 => exact Kd.N_V (u.out))
    (case side8 => exact Aj HG.out (be2 U L W))
    rintro e eP ⟨v626, rfl, O, Z⟩
    refine ⟨_, rfl, ?_⟩
    have pC := rb c Z
    have qC := mk0 (Kd.BL (Bu m.out) (by first | exact Kd.Aq O | exact Kd.BZ O) Z)
    have rC := mk0 (Kd.CF (CU b.out) (by first | exact Kd.Aq O | exact Kd.BZ O) Z)
    have sC := rb D Z
    have tC := mk0 (Kd.CF (CU s.out) (by first | exact Kd.Aq O | exact Kd.BZ O) Z)
    have uC := mk0 (Kd.CF (CU u.out) (by first | exact Kd.Aq O | exact Kd.BZ O) Z)
    have aD := mk0 (Kd.Cn (Kd.Bh (ok' := fun x => some x ≠ (.slice aB X.length bB : Value).ownBlock ∧ some x ≠ (.slice sB Y.length tB : Value).ownBlock ∧ x ≠ d ∧ x ≠ z) O (fun x T => ⟨Or.elim T (fun j => Or.elim j (fun j => ((Kd.AZ (Kd.AZ (Kd.AL (Kd.AL (Kd.AL (D.out) (Kd.AU b.out) (by decide)) (Kd.AU s.out) (by decide)) (Kd.AU u.out) (by decide)) a.out (by decide)) l.out (by decide)).1 x j.symm).1.1.1.1.1.2) (fun j => Or.elim j (fun j => j.2.2.1) (fun j => j.2.2.1))) (fun jB => (Kd.fresh' (Kd.Da (Ck c.out)) x jB)), Or.elim T (fun j => Or.elim j (fun j => ((Kd.AZ (Kd.AZ (Kd.AL (Kd.AL (Kd.AL (D.out) (Kd.AU b.out) (by decide)) (Kd.AU s.out) (by decide)) (Kd.AU u.out) (by decide)) a.out (by decide)) l.out (by decide)).1 x j.symm).1.1.1.1.2) (fun j => Or.elim j (fun j => j.2.2.2.1) (fun j => j.2.2.2.1))) (fun jB => (Kd.fresh' (Kd.EH (CU b.out)) x jB)), Or.elim T (fun j => Or.elim j (fun j => ((Kd.AZ (Kd.AZ (Kd.AL (Kd.AL (Kd.AL (D.out) (Kd.AU b.out) (by decide)) (Kd.AU s.out) (by decide)) (Kd.AU u.out) (by decide)) a.out (by decide)) l.out (by decide)).1 x j.symm).1.2) (fun j => Or.elim j (fun j => j.2.2.2.2.1) (fun j => j.2.2.2.2.1))) (fun jB => (Kd.Av (g := d) (o := .cells #[.int .i64 eB, .int .i64 fB, .string gB, .slice cC cB.length eC, .slice dC dB.length fC, .int .i64 gC, .int .i64 hC, .slice iC zB.length lC, .slice jC aC.length mC, .slice kC bC.length nC, .int .i64 G, .slice uB hB.length wB, .slice (some qB) y.length xB, .bool oB] 40 (0, 0)) (Ae a.out) x jB)), Or.elim T (fun j => Or.elim j (fun j => ((Kd.AZ (Kd.AZ (Kd.AL (Kd.AL (Kd.AL (D.out) (Kd.AU b.out) (by decide)) (Kd.AU s.out) (by decide)) (Kd.AU u.out) (by decide)) a.out (by decide)) l.out (by decide)).1 x j.symm).2) (fun j => Or.elim j (fun j => j.2.2.2.2.2) (fun j => j.2.2.2.2.2))) (fun jB => (Kd.Av (g := z) (o := .cells #[.int .i64 xC, .int .i64 yC, .slice aB X.length bB, .slice jD vC.length kD, .slice sB Y.length tB] 33 (0, 0)) (Ae l.out) x jB))⟩)) (AX (be2 U L W)))
    have bD := kb a Z
    have cD := kb l Z
    have nD := kh2 U L W Z
    clear c; clear m; clear b; clear D; clear s; clear u; clear a; clear l; clear U; have c := pC; have m := qC; have b := rC; have D := sC; have s := tC; have u := uC; have I := aD; have a := bD; have l := cD; have U := nD; clear pC qC rC sC tC uC aD bD cD nD
    try clear Z
    try clear O
    refine hK.out _ _ ⟨bc a 0, bc a 1, bc a 2, bc a 3, bc a 4, bc a 5, bc a 6, bc a 7, bc a 8, bc a 9, bc a 10, bc a 11, bc a 12, bc a 13, (AO U.out kB)⟩ (fun J => ?_)
    clear hK K
    refine Bz (a' := ?_) ?_ ?_
    rotate_left
    ·show Act.put _ (some 44) _ = _
     simp only [ps]
     rfl
    refine pv 16 28 (tf 17 4) B ?_
    refine pv 17 45 (tf 18 3) B ?_
    refine pv 18 46 (tf 19 2) B ?_
    refine pv 19 5 (tf 20 1) B ?_
    refine pv 20 6 (tf 21 0) B ?_
    refine Di (Co B.out (by kernel_rfl)) ?_
    try go_wp2
    have pC := mk0 (Kd.DX c.out)
    have qC := mk0 (Kd.Bg m.out)
    have rC := mk0 (Kd.DC b.out)
    have sC := mk0 (Kd.DX D.out)
    have tC := mk0 (Kd.DC s.out)
    have uC := mk0 (Kd.DC u.out)
    have aD := mk0 (Kd.DC I.out)
    have bD := mk0 (Aa a.out)
    have cD := mk0 (Aa l.out)
    have nD := mk0 (Ag U.out)
    clear c; clear m; clear b; clear D; clear s; clear u; clear I; clear a; clear l; clear U; have c := pC; have m := qC; have b := rC; have D := sC; have s := tC; have u := uC; have I := aD; have a := bD; have l := cD; have U := nD; clear pC qC rC sC tC uC aD bD cD nD
    have aE : 0 ≤ (0 : Int) := (by omega)
    have cE : 0 < (y.length : Int) := od
    obtain ⟨fF, mG, mB⟩ := Kd.C8 pD.out 0 aE cE
    have yB := mB
    (try rw [show ((0 : Int)).toNat = 0 from rfl] at yB)
    (try rw [show 0 * 1 = 0 from rfl] at yB)
    (try rw [Addr.add_zero'] at yB)
    obtain rfl : qB = fF := (by injection mG)
    have pH : (0 < y.length) = True := eq_true (by omega)
    (try rw [show ((0 : Int)).toNat = 0 from rfl] at mB)
    (try rw [Addr.add_zero'] at mB)
    replace mB := AO U.out mB
    replace aE := eq_true aE; replace cE := eq_true cE
    refine Cs (n := 19) (S := fun w' => w'.cell? ⟨d, 0, none⟩ = some (.int .i64 eB) ∧ w'.cell? ⟨d, 1, none⟩ = some (.int .i64 fB) ∧ w'.cell? ⟨d, 2, none⟩ = some (.string gB) ∧ w'.cell? ⟨d, 3, none⟩ = some (.slice cC cB.length eC) ∧ w'.cell? ⟨d, 4, none⟩ = some (.slice dC dB.length fC) ∧ w'.cell? ⟨d, 5, none⟩ = some (.int .i64 gC) ∧ w'.cell? ⟨d, 6, none⟩ = some (.int .i64 hC) ∧ w'.cell? ⟨d, 7, none⟩ = some (.slice iC zB.length lC) ∧ w'.cell? ⟨d, 8, none⟩ = some (.slice jC aC.length mC) ∧ w'.cell? ⟨d, 9, none⟩ = some (.slice kC bC.length nC) ∧ w'.cell? ⟨d, 10, none⟩ = some (.int .i64 G) ∧ w'.cell? ⟨d, 11, none⟩ = some (.slice uB hB.length wB) ∧ w'.cell? ⟨d, 12, none⟩ = some (.slice (some qB) y.length xB) ∧ w'.cell? ⟨d, 13, none⟩ = some (.bool oB) ∧ w'.cell? ⟨z, 0, none⟩ = some (.int .i64 xC) ∧ w'.cell? ⟨z, 1, none⟩ = some (.int .i64 yC) ∧ w'.cell? ⟨z, 2, none⟩ = some (.slice aB X.length bB) ∧ w'.cell? ⟨z, 3, none⟩ = some (.slice jD vC.length kD) ∧ w'.cell? ⟨z, 4, none⟩ = some (.slice sB Y.length tB) ∧ w'.cell? qB = some (.int .i64 (rd y 0))) (ds := []) (tf 0 19) (by kernel_rfl) rfl rfl ⟨bc a 0, bc a 1, bc a 2, bc a 3, bc a 4, bc a 5, bc a 6, bc a 7, bc a 8, bc a 9, bc a 10, bc a 11, bc a 12, bc a 13, bc l 0, bc l 1, bc l 2, bc l 3, bc l 4, (AO U.out yB)⟩ (fun J => ?_); refine Bq Ai.OD Ai.LH (fun B wC => ?_)
    generalize eP.drew = oQ at c m b D s u I a l U mB J ⊢
    refine pv 0 48 (tf 1 18) B ?_
    refine pv 3 51 #[true, false, false, true, false, false, false, false, false, false, false, false, false, false, false, false, false, false, false] B ?_
    refine pv 5 53 #[true, false, false, true, false, true, false, false, false, false, false, false, false, false, false, false, false, false, false] B ?_
    refine pv 7 55 #[true, false, false, true, false, true, false, true, false, false, false, false, false, false, false, false, false, false, false] B ?_
    refine BI (i := 1) (N := some 49) (v := ?_) (a' := ?_) #[true, true, false, true, false, true, false, true, false, false, false, false, false, false, false, false, false, false, false] rfl rfl (Ad B.out wC.out (by kernel_rfl)) (fun _ _ _ h => h) (Or.inl ⟨by rfl, ?_⟩) J ?_ ?_
    rotate_left
    ·rintro w' ⟨s0, s1, s2, s3, s4, s5, s6, s7, s8, s9, dD, eD, fD, gD, hD, fE, gE, hE, jE, kE⟩
     go_simp
     with_reducible rfl
    rotate_left
    ·simp only [ps]
     rfl
    refine BI (i := 2) (N := some 50) (v := ?_) (a' := ?_) #[true, true, true, true, false, true, false, true, false, false, false, false, false, false, false, false, false, false, false] rfl rfl (Ad B.out wC.out (by kernel_rfl)) (fun _ _ _ h => h) (Or.inl ⟨by rfl, ?_⟩) J ?_ ?_
    rotate_left
    ·rintro w' ⟨s0, s1, s2, s3, s4, s5, s6, s7, s8, s9, dD, eD, fD, gD, hD, fE, gE, hE, jE, kE⟩
     go_simp
     with_reducible rfl
    rotate_left
    ·simp only [ps]
     rfl
    refine BI (i := 4) (N := some 52) (v := ?_) (a' := ?_) #[true, true, true, true, true, true, false, true, false, false, false, false, false, false, false, false, false, false, false] rfl rfl (Ad B.out wC.out (by kernel_rfl)) (fun _ _ _ h => h) (Or.inl ⟨by rfl, ?_⟩) J ?_ ?_
    rotate_left
    ·rintro w' ⟨s0, s1, s2, s3, s4, s5, s6, s7, s8, s9, dD, eD, fD, gD, hD, fE, gE, hE, jE, kE⟩
     go_simp
     with_reducible rfl
    rotate_left
    ·simp only [ps]
     rfl
    refine BI (i := 6) (N := some 54) (v := ?_) (a' := ?_) (tf 8 11) rfl rfl (Ad B.out wC.out (by kernel_rfl)) (fun _ _ _ h => h) (Or.inl ⟨by rfl, ?_⟩) J ?_ ?_
    rotate_left
    ·rintro w' ⟨s0, s1, s2, s3, s4, s5, s6, s7, s8, s9, dD, eD, fD, gD, hD, fE, gE, hE, jE, kE⟩
     go_simp
     with_reducible rfl
    rotate_left
    ·simp only [ps]
     rfl
    refine BI (i := 8) (N := some 56) (v := ?_) (a' := ?_) (tf 9 10) rfl rfl (Ad B.out wC.out (by kernel_rfl)) (fun _ _ _ h => h) (Or.inl ⟨by rfl, ?_⟩) J ?_ ?_
    rotate_left
    ·rintro w' ⟨s0, s1, s2, s3, s4, s5, s6, s7, s8, s9, dD, eD, fD, gD, hD, fE, gE, hE, jE, kE⟩
     go_simp
     with_reducible rfl
    rotate_left
    ·simp only [ps]
     rfl
    refine pv 9 57 (tf 10 9) B ?_
    refine BI (i := 10) (N := some 58) (v := ?_) (a' := ?_) (tf 11 8) rfl rfl (Ad B.out wC.out (by kernel_rfl)) (fun _ _ _ h => h) (Or.inl ⟨by rfl, ?_⟩) J ?_ ?_
    rotate_left
    ·rintro w' ⟨s0, s1, s2, s3, s4, s5, s6, s7, s8, s9, dD, eD, fD, gD, hD, fE, gE, hE, jE, kE⟩
     go_simp
     with_reducible rfl
    rotate_left
    ·simp only [ps]
     rfl
    refine pv 11 59 (tf 12 7) B ?_
    refine pv 12 60 (tf 13 6) B ?_
    refine C9 (i := 13) (N := some 61) (tf 14 5) rfl rfl (Bp B.out (by kernel_rfl)) (by decide) (fun K hK => ?_)
    refine Ca Try.func33 (by kernel_rfl) rfl #[.agg #[.int .i64 eB, .int .i64 fB, .string gB, .slice cC cB.length eC, .slice dC dB.length fC], .agg #[.int .i64 xC, .int .i64 yC, .slice aB X.length bB, .slice jD vC.length kD, .slice sB Y.length tB], .int .i64 G, .int .i64 (wrap64 ((wrap64 (G + (rd y 0))) - 1))] (by rfl) rfl rfl (by (try simp only [List.map_toArray, List.map_cons, List.map_nil]); first | done | rfl | (simp only [List.length_drop, List.length_take]; rfl)) ?_
    with_reducible refine (Af.calls vE eB fB gB _ _ cB _ _ dB xC yC (fun x => some x = (.slice aB X.length bB : Value).ownBlock) _ _ X (fun x => (((((some x ≠ (.slice aB X.length bB : Value).ownBlock ∧ (some x ≠ (.slice sB Y.length tB : Value).ownBlock ∧ (x ≠ d ∧ x ≠ z))) ∧ some x ≠ (.slice wF zC.length jG : Value).ownBlock) ∧ some x ≠ (.slice yG lD.length gH : Value).ownBlock) ∧ some x ≠ (.slice zG mD.length hH : Value).ownBlock) ∧ some x ≠ (v626 : Value).ownBlock)) _ _ vC (fun x => (((((some x ≠ (.slice aB X.length bB : Value).ownBlock ∧ (x ≠ d ∧ x ≠ z)) ∧ some x ≠ (.slice wF zC.length jG : Value).ownBlock) ∧ some x ≠ (.slice yG lD.length gH : Value).ownBlock) ∧ some x ≠ (.slice zG mD.length hH : Value).ownBlock) ∧ some x ≠ (v626 : Value).ownBlock)) _ _ Y G (wrap64 ((wrap64 (G + (rd y 0))) - 1)) kH lH _ ?side8 ?side1 ?side2 ?side3 ?side4 ?side5 ?side6 ?side7 hJ.out).mono ?_
    (case side1 => exact cu vD U)
    (case side2 => exact tD.out)
    (case side3 => exact cu wD U)
    (case side4 => exact uD.out)
    (case side5 => exact Kd.R_V (Kd.Ee rfl (Kd.AZ (Kd.AZ (Kd.AL (Kd.AL (Kd.AL (Kd.AL (c.out) (Kd.AU b.out) (by decide)) (Kd.AU s.out) (by decide)) (Kd.AU u.out) (by decide)) (Kd.AU I.out) (by decide)) a.out (by decide)) l.out (by decide))))
    (case side6 => exact m.out)
    (case side7 => exact Kd.N_V (b.out))
    (case side8 => exact Aj HG.out (be2 U L W))
    rintro e pQ ⟨v631, rfl, O, Z⟩
    refine ⟨_, rfl, ?_⟩
    have pC := rb c Z
    have qC := mk0 (Kd.BL (Bu m.out) (by first | exact Kd.Aq O | exact Kd.BZ O) Z)
    have rC := mk0 (Kd.CF (CU b.out) (by first | exact Kd.Aq O | exact Kd.BZ O) Z)
    have sC := rb D Z
    have tC := mk0 (Kd.CF (CU s.out) (by first | exact Kd.Aq O | exact Kd.BZ O) Z)
    have uC := mk0 (Kd.CF (CU u.out) (by first | exact Kd.Aq O | exact Kd.BZ O) Z)
    have aD := mk0 (Kd.CF (CU I.out) (by first | exact Kd.Aq O | exact Kd.BZ O) Z)
    have bD := mk0 (Kd.Cn (Kd.Bh (ok' := fun x => some x ≠ (.slice wF zC.length jG : Value).ownBlock ∧ some x ≠ (.slice yG lD.length gH : Value).ownBlock ∧ some x ≠ (.slice zG mD.length hH : Value).ownBlock ∧ some x ≠ (v626 : Value).ownBlock ∧ x ≠ d ∧ x ≠ z) O (fun x T => ⟨Or.elim T (fun j => Or.elim j (fun j => ((Kd.AZ (Kd.AZ (Kd.AL (Kd.AL (Kd.AL (Kd.AL (c.out) (Kd.AU b.out) (by decide)) (Kd.AU s.out) (by decide)) (Kd.AU u.out) (by decide)) (Kd.AU I.out) (by decide)) a.out (by decide)) l.out (by decide)).1 x j.symm).1.1.1.1.1.1.2) (fun j => Or.elim j (fun j => j.1.1.1.2) (fun j => j.1.1.1.2))) (fun jB => (Kd.fresh' (Kd.Da (Ck D.out)) x jB)), Or.elim T (fun j => Or.elim j (fun j => ((Kd.AZ (Kd.AZ (Kd.AL (Kd.AL (Kd.AL (Kd.AL (c.out) (Kd.AU b.out) (by decide)) (Kd.AU s.out) (by decide)) (Kd.AU u.out) (by decide)) (Kd.AU I.out) (by decide)) a.out (by decide)) l.out (by decide)).1 x j.symm).1.1.1.1.2) (fun j => Or.elim j (fun j => j.1.1.2) (fun j => j.1.1.2))) (fun jB => (Kd.fresh' (Kd.EH (CU s.out)) x jB)), Or.elim T (fun j => Or.elim j (fun j => ((Kd.AZ (Kd.AZ (Kd.AL (Kd.AL (Kd.AL (Kd.AL (c.out) (Kd.AU b.out) (by decide)) (Kd.AU s.out) (by decide)) (Kd.AU u.out) (by decide)) (Kd.AU I.out) (by decide)) a.out (by decide)) l.out (by decide)).1 x j.symm).1.1.1.2) (fun j => Or.elim j (fun j => j.1.2) (fun j => j.1.2))) (fun jB => (Kd.fresh' (Kd.EH (CU u.out)) x jB)), Or.elim T (fun j => Or.elim j (fun j => ((Kd.AZ (Kd.AZ (Kd.AL (Kd.AL (Kd.AL (Kd.AL (c.out) (Kd.AU b.out) (by decide)) (Kd.AU s.out) (by decide)) (Kd.AU u.out) (by decide)) (Kd.AU I.out) (by decide)) a.out (by decide)) l.out (by decide)).1 x j.symm).1.1.2) (fun j => Or.elim j (fun j => j.2) (fun j => j.2))) (fun jB => (Kd.fresh' (Kd.EH (CU I.out)) x jB)), Or.elim T (fun j => Or.elim j (fun j => ((Kd.AZ (Kd.AZ (Kd.AL (Kd.AL (Kd.AL (Kd.AL (c.out) (Kd.AU b.out) (by decide)) (Kd.AU s.out) (by decide)) (Kd.AU u.out) (by decide)) (Kd.AU I.out) (by decide)) a.out (by decide)) l.out (by decide)).1 x j.symm).1.2) (fun j => Or.elim j (fun j => j.1.1.1.1.2.2.1) (fun j => j.1.1.1.1.2.1))) (fun jB => (Kd.Av (g := d) (o := .cells #[.int .i64 eB, .int .i64 fB, .string gB, .slice cC cB.length eC, .slice dC dB.length fC, .int .i64 gC, .int .i64 hC, .slice iC zB.length lC, .slice jC aC.length mC, .slice kC bC.length nC, .int .i64 G, .slice uB hB.length wB, .slice (some qB) y.length xB, .bool oB] 40 (0, 0)) (Ae a.out) x jB)), Or.elim T (fun j => Or.elim j (fun j => ((Kd.AZ (Kd.AZ (Kd.AL (Kd.AL (Kd.AL (Kd.AL (c.out) (Kd.AU b.out) (by decide)) (Kd.AU s.out) (by decide)) (Kd.AU u.out) (by decide)) (Kd.AU I.out) (by decide)) a.out (by decide)) l.out (by decide)).1 x j.symm).2) (fun j => Or.elim j (fun j => j.1.1.1.1.2.2.2) (fun j => j.1.1.1.1.2.2))) (fun jB => (Kd.Av (g := z) (o := .cells #[.int .i64 xC, .int .i64 yC, .slice aB X.length bB, .slice jD vC.length kD, .slice sB Y.length tB] 33 (0, 0)) (Ae l.out) x jB))⟩)) (AX (be2 U L W)))
    have cD := kb a Z
    have nD := kb l Z
    have xE := kh2 U L W Z
    clear c; clear m; clear b; clear D; clear s; clear u; clear I; clear a; clear l; clear U; have c := pC; have m := qC; have b := rC; have D := sC; have s := tC; have u := uC; have I := aD; have qD := bD; have a := cD; have l := nD; have U := xE; clear pC qC rC sC tC uC aD bD cD nD xE
    try clear Z
    try clear O
    refine hK.out _ _ ⟨bc a 0, bc a 1, bc a 2, bc a 3, bc a 4, bc a 5, bc a 6, bc a 7, bc a 8, bc a 9, bc a 10, bc a 11, bc a 12, bc a 13, bc l 0, bc l 1, bc l 2, bc l 3, bc l 4, (AO U.out yB)⟩ (fun J => ?_)
    clear hK K
    refine Bz (a' := ?_) ?_ ?_
    rotate_left
    ·show Act.put _ (some 61) _ = _
     simp only [ps]
     rfl
    refine pv 14 47 (tf 15 4) B ?_
    refine pv 15 62 (tf 16 3) B ?_
    refine pv 16 63 (tf 17 2) B ?_
    refine pv 17 7 (tf 18 1) B ?_
    refine pv 18 8 (tf 19 0) B ?_
    refine Di (Co B.out (by kernel_rfl)) ?_
    try go_wp2
    go_ret
    exact ⟨rfl, be2 U L W⟩
   replace H := bS H; obtain ⟨qG, iM, H⟩ := H
   replace H := iB' H; obtain ⟨rfl, H⟩ | ⟨rfl, H⟩ := H
   ·obtain rfl := sI H
    try go_wp2
    have pC := mk0 (Kd.DX c.out)
    have qC := mk0 (Kd.Bg m.out)
    have rC := mk0 (Kd.DC b.out)
    have sC := mk0 (Aa a.out)
    have tC := mk0 (Aa l.out)
    have uC := mk0 (Ag U.out)
    clear c; clear m; clear b; clear a; clear l; clear U; have c := pC; have m := qC; have b := rC; have a := sC; have l := tC; have U := uC; clear pC qC rC sC tC uC
    have zD : 0 ≤ (0 : Int) := (by omega)
    have bE : 0 < (y.length : Int) := od
    obtain ⟨qB, lG, lB⟩ := Kd.C8 pD.out 0 zD bE
    have kB := lB
    (try rw [show ((0 : Int)).toNat = 0 from rfl] at kB)
    (try rw [show 0 * 1 = 0 from rfl] at kB)
    (try rw [Addr.add_zero'] at kB)
    cases lG
    have oH : (0 < y.length) = True := eq_true (by omega)
    (try rw [show ((0 : Int)).toNat = 0 from rfl] at lB)
    (try rw [Addr.add_zero'] at lB)
    replace lB := AO U.out lB
    replace zD := eq_true zD; replace bE := eq_true bE
    refine Cs (n := 21) (S := fun w' => w'.cell? ⟨d, 0, none⟩ = some (.int .i64 eB) ∧ w'.cell? ⟨d, 1, none⟩ = some (.int .i64 fB) ∧ w'.cell? ⟨d, 2, none⟩ = some (.string gB) ∧ w'.cell? ⟨d, 3, none⟩ = some (.slice cC cB.length eC) ∧ w'.cell? ⟨d, 4, none⟩ = some (.slice dC dB.length fC) ∧ w'.cell? ⟨d, 5, none⟩ = some (.int .i64 gC) ∧ w'.cell? ⟨d, 6, none⟩ = some (.int .i64 hC) ∧ w'.cell? ⟨d, 7, none⟩ = some (.slice iC zB.length lC) ∧ w'.cell? ⟨d, 8, none⟩ = some (.slice jC aC.length mC) ∧ w'.cell? ⟨d, 9, none⟩ = some (.slice kC bC.length nC) ∧ w'.cell? ⟨d, 10, none⟩ = some (.int .i64 G) ∧ w'.cell? ⟨d, 11, none⟩ = some (.slice uB hB.length wB) ∧ w'.cell? ⟨d, 12, none⟩ = some (.slice (some qB) y.length xB) ∧ w'.cell? ⟨d, 13, none⟩ = some (.bool oB) ∧ w'.cell? qB = some (.int .i64 (rd y 0))) (ds := []) (tf 0 21) (by kernel_rfl) rfl rfl ⟨bc a 0, bc a 1, bc a 2, bc a 3, bc a 4, bc a 5, bc a 6, bc a 7, bc a 8, bc a 9, bc a 10, bc a 11, bc a 12, bc a 13, (AO U.out kB)⟩ (fun J => ?_); refine Bq Ai.Ia Ai.F3 (fun B wC => ?_)
    generalize wc.drew = hQ at c m b a l U lB J ⊢
    refine pv 0 29 (tf 1 20) B ?_
    refine pv 2 31 #[true, false, true, false, false, false, false, false, false, false, false, false, false, false, false, false, false, false, false, false, false] B ?_
    refine pv 5 34 #[true, false, true, false, false, true, false, false, false, false, false, false, false, false, false, false, false, false, false, false, false] B ?_
    refine pv 7 36 #[true, false, true, false, false, true, false, true, false, false, false, false, false, false, false, false, false, false, false, false, false] B ?_
    refine pv 9 38 #[true, false, true, false, false, true, false, true, false, true, false, false, false, false, false, false, false, false, false, false, false] B ?_
    refine BI (i := 1) (N := some 30) (v := ?_) (a' := ?_) #[true, true, true, false, false, true, false, true, false, true, false, false, false, false, false, false, false, false, false, false, false] rfl rfl (Ad B.out wC.out (by kernel_rfl)) (fun _ _ _ h => h) (Or.inl ⟨by rfl, ?_⟩) J ?_ ?_
    rotate_left
    ·rintro w' ⟨s0, s1, s2, s3, s4, s5, s6, s7, s8, s9, dD, eD, fD, gD, hD⟩
     go_simp
     with_reducible rfl
    rotate_left
    ·simp only [ps]
     rfl
    refine BI (i := 3) (N := some 32) (v := ?_) (a' := ?_) #[true, true, true, true, false, true, false, true, false, true, false, false, false, false, false, false, false, false, false, false, false] rfl rfl (Ad B.out wC.out (by kernel_rfl)) (fun _ _ _ h => h) (Or.inl ⟨by rfl, ?_⟩) J ?_ ?_
    rotate_left
    ·rintro w' ⟨s0, s1, s2, s3, s4, s5, s6, s7, s8, s9, dD, eD, fD, gD, hD⟩
     go_simp
     with_reducible rfl
    rotate_left
    ·simp only [ps]
     rfl
    refine BI (i := 6) (N := some 35) (v := ?_) (a' := ?_) #[true, true, true, true, false, true, true, true, false, true, false, false, false, false, false, false, false, false, false, false, false] rfl rfl (Ad B.out wC.out (by kernel_rfl)) (fun _ _ _ h => h) (Or.inl ⟨by rfl, ?_⟩) J ?_ ?_
    rotate_left
    ·rintro w' ⟨s0, s1, s2, s3, s4, s5, s6, s7, s8, s9, dD, eD, fD, gD, hD⟩
     go_simp
     with_reducible rfl
    rotate_left
    ·simp only [ps]
     rfl
    refine BI (i := 8) (N := some 37) (v := ?_) (a' := ?_) #[true, true, true, true, false, true, true, true, true, true, false, false, false, false, false, false, false, false, false, false, false] rfl rfl (Ad B.out wC.out (by kernel_rfl)) (fun _ _ _ h => h) (Or.inl ⟨by rfl, ?_⟩) J ?_ ?_
    rotate_left
    ·rintro w' ⟨s0, s1, s2, s3, s4, s5, s6, s7, s8, s9, dD, eD, fD, gD, hD⟩
     go_simp
     with_reducible rfl
    rotate_left
    ·simp only [ps]
     rfl
    refine BI (i := 10) (N := some 39) (v := ?_) (a' := ?_) #[true, true, true, true, false, true, true, true, true, true, true, false, false, false, false, false, false, false, false, false, false] rfl rfl (Ad B.out wC.out (by kernel_rfl)) (fun _ _ _ h => h) (Or.inl ⟨by rfl, ?_⟩) J ?_ ?_
    rotate_left
    ·rintro w' ⟨s0, s1, s2, s3, s4, s5, s6, s7, s8, s9, dD, eD, fD, gD, hD⟩
     go_simp
     with_reducible rfl
    rotate_left
    ·simp only [ps]
     rfl
    refine pv 11 40 #[true, true, true, true, false, true, true, true, true, true, true, true, false, false, false, false, false, false, false, false, false] B ?_
    refine BI (i := 12) (N := some 41) (v := ?_) (a' := ?_) #[true, true, true, true, false, true, true, true, true, true, true, true, true, false, false, false, false, false, false, false, false] rfl rfl (Ad B.out wC.out (by kernel_rfl)) (fun _ _ _ h => h) (Or.inl ⟨by rfl, ?_⟩) J ?_ ?_
    rotate_left
    ·rintro w' ⟨s0, s1, s2, s3, s4, s5, s6, s7, s8, s9, dD, eD, fD, gD, hD⟩
     go_simp
     with_reducible rfl
    rotate_left
    ·simp only [ps]
     rfl
    refine pv 13 42 #[true, true, true, true, false, true, true, true, true, true, true, true, true, true, false, false, false, false, false, false, false] B ?_
    refine pv 14 43 #[true, true, true, true, false, true, true, true, true, true, true, true, true, true, true, false, false, false, false, false, false] B ?_
    refine C9 (i := 4) (N := some 33) (tf 15 6) rfl rfl (Bp B.out (by kernel_rfl)) (by decide) (fun K hK => ?_)
    refine Ca Try.func26 (by kernel_rfl) rfl #[.agg #[.int .i64 gC, .int .i64 hC, .slice iC zB.length lC, .slice jC aC.length mC, .slice kC bC.length nC]] (by rfl) rfl rfl (by (try simp only [List.map_toArray, List.map_cons, List.map_nil]); first | done | rfl | (simp only [List.length_drop, List.length_take]; rfl)) ?_
    with_reducible refine (Cj.calls ?side1 ?side2 ?side3 ?side4 ?side5 ?side6 fJ.out).mono ?_
    (case side1 => exact cu cF U)
    (case side2 => exact yE.out)
    (case side3 => exact cu dF U)
    (case side4 => exact zE.out)
    (case side5 => exact cu eF U)
    (case side6 => exact aF.out)
    rintro e iQ ⟨v616, v619, v622, rfl, O, rD, oD, Z⟩
    refine ⟨_, rfl, ?_⟩
    have pC := mk0 (Kd.EE (Ck c.out) (Kd.Aq O) Z)
    have qC := mk0 (Kd.AQ (Kd.Dp (Kd.Dp (Kd.Dp (Kd.I8 (Bu m.out) Z) (Kd.Aq O)) (by first | exact Kd.Aq rD | exact Kd.BZ rD)) (by first | exact Kd.Aq oD | exact Kd.BZ oD)) (fun _ h_ => h_.1))
    have rC := mk0 (Kd.Bh (Kd.Dx (Kd.Dx (Kd.Dx (Kd.I7 (CU b.out) Z) (Kd.Aq O)) (by first | exact Kd.Aq rD | exact Kd.BZ rD)) (by first | exact Kd.Aq oD | exact Kd.BZ oD)) (fun _ h_ => h_.1))
    have sC := mk0 (Kd.Cg (Kd.EM O (Kd.Da (Ck c.out))) (AX (be2 U L W)))
    have tC := mk0 (Kd.Cn (Kd.Bh (ok' := fun x => some x ≠ (v616 : Value).ownBlock ∧ some x ≠ (v622 : Value).ownBlock ∧ some x ≠ (.slice aB X.length bB : Value).ownBlock ∧ some x ≠ (.slice sB Y.length tB : Value).ownBlock ∧ x ≠ d ∧ x ≠ z) (Kd.R_N (Kd.Cz (Kd.AL rD (Kd.Dt oD) (by decide)))) (fun x T => ⟨T.1.1, T.1.2, (Kd.fresh' (Kd.Da (Ck c.out)) x T.2.1), (Kd.fresh' (Kd.EH (CU b.out)) x T.2.1), (Kd.Av (g := d) (o := .cells #[.int .i64 eB, .int .i64 fB, .string gB, .slice cC cB.length eC, .slice dC dB.length fC, .int .i64 gC, .int .i64 hC, .slice iC zB.length lC, .slice jC aC.length mC, .slice kC bC.length nC, .int .i64 G, .slice uB hB.length wB, .slice (some qB) y.length xB, .bool oB] 40 (0, 0)) (Ae a.out) x T.2.1), (Kd.Av (g := z) (o := .cells #[.int .i64 xC, .int .i64 yC, .slice aB X.length bB, .slice jD vC.length kD, .slice sB Y.length tB] 33 (0, 0)) (Ae l.out) x T.2.1)⟩)) (AX (be2 U L W)))
    have uC := mk0 (Kd.Cn (Kd.Bh (ok' := fun x => some x ≠ (v616 : Value).ownBlock ∧ some x ≠ (v619 : Value).ownBlock ∧ some x ≠ (.slice aB X.length bB : Value).ownBlock ∧ some x ≠ (.slice sB Y.length tB : Value).ownBlock ∧ x ≠ d ∧ x ≠ z) (Kd.R_N (Kd.Cz oD)) (fun x T => ⟨T.1.1, T.1.2, (Kd.fresh' (Kd.Da (Ck c.out)) x T.2.1), (Kd.fresh' (Kd.EH (CU b.out)) x T.2.1), (Kd.Av (g := d) (o := .cells #[.int .i64 eB, .int .i64 fB, .string gB, .slice cC cB.length eC, .slice dC dB.length fC, .int .i64 gC, .int .i64 hC, .slice iC zB.length lC, .slice jC aC.length mC, .slice kC bC.length nC, .int .i64 G, .slice uB hB.length wB, .slice (some qB) y.length xB, .bool oB] 40 (0, 0)) (Ae a.out) x T.2.1), (Kd.Av (g := z) (o := .cells #[.int .i64 xC, .int .i64 yC, .slice aB X.length bB, .slice jD vC.length kD, .slice sB Y.length tB] 33 (0, 0)) (Ae l.out) x T.2.1)⟩)) (AX (be2 U L W)))
    have aD := kb a Z
    have bD := kb l Z
    have cD := kh2 U L W Z
    clear c; clear m; clear b; clear a; clear l; clear U; have c := pC; have m := qC; have b := rC; have D := sC; have s := tC; have u := uC; have a := aD; have l := bD; have U := cD; clear pC qC rC sC tC uC aD bD cD
    try clear Z
    try clear O
    try clear rD
    try clear oD
    obtain ⟨uF, iG, dL⟩ := Kd.Bv D.out
    (first | subst dL | (injection dL with f1_ f2_ f3_; have xD := f1_.symm; have yD := f3_.symm; clear f1_ f2_ f3_; subst xD; subst yD))
    obtain ⟨wG, eH, eL⟩ := Kd.Ch s.out
    (first | subst eL | (injection eL with f1_ f2_ f3_; have xD := f1_.symm; have yD := f3_.symm; clear f1_ f2_ f3_; subst xD; subst yD))
    obtain ⟨xG, fH, fL⟩ := Kd.Ch u.out
    (first | subst fL | (injection fL with f1_ f2_ f3_; have xD := f1_.symm; have yD := f3_.symm; clear f1_ f2_ f3_; subst xD; subst yD))
    refine hK.out _ _ ⟨bc a 0, bc a 1, bc a 2, bc a 3, bc a 4, bc a 5, bc a 6, bc a 7, bc a 8, bc a 9, bc a 10, bc a 11, bc a 12, bc a 13, (AO U.out kB)⟩ (fun J => ?_)
    clear hK K
    refine Bz (a' := ?_) ?_ ?_
    rotate_left
    ·show Act.put _ (some 33) _ = _
     simp only [ps]
     rfl
    refine C9 (i := 15) (N := some 44) (tf 16 5) rfl rfl (Bp B.out (by kernel_rfl)) (by decide) (fun K hK => ?_)
    refine Ca Try.func33 (by kernel_rfl) rfl #[.agg #[.int .i64 eB, .int .i64 fB, .string gB, .slice cC cB.length eC, .slice dC dB.length fC], .agg #[.int .i64 oF, .int .i64 pF, .slice uF zC.length iG, .slice wG lD.length eH, .slice xG mD.length fH], .int .i64 G, .int .i64 (wrap64 ((wrap64 (G + (rd y 0))) - 1))] (by rfl) rfl rfl (by (try simp only [List.map_toArray, List.map_cons, List.map_nil]); first | done | rfl | (simp only [List.length_drop, List.length_take]; rfl)) ?_
    with_reducible refine (Af.calls vE eB fB gB _ _ cB _ _ dB oF pF (fun x => some x = (.slice uF zC.length iG : Value).ownBlock) _ _ zC (fun x => (some x ≠ (.slice uF zC.length iG : Value).ownBlock ∧ (some x ≠ (.slice xG mD.length fH : Value).ownBlock ∧ (some x ≠ (.slice aB X.length bB : Value).ownBlock ∧ (some x ≠ (.slice sB Y.length tB : Value).ownBlock ∧ (x ≠ d ∧ x ≠ z)))))) _ _ lD (fun x => (some x ≠ (.slice uF zC.length iG : Value).ownBlock ∧ (some x ≠ (.slice wG lD.length eH : Value).ownBlock ∧ (some x ≠ (.slice aB X.length bB : Value).ownBlock ∧ (some x ≠ (.slice sB Y.length tB : Value).ownBlock ∧ (x ≠ d ∧ x ≠ z)))))) _ _ mD G (wrap64 ((wrap64 (G + (rd y 0))) - 1)) oG pG _ ?side8 ?side1 ?side2 ?side3 ?side4 ?side5 ?side6 ?side7 gJ.out).mono ?_
    (case side1 => exact cu vD U)
    (case side2 => exact tD.out)
    (case side3 => exact cu wD U)
    (case side4 => exact uD.out)
    (case side5 => exact Kd.R_V (Kd.Ee rfl (Kd.AZ (Kd.AZ (Kd.AL (Kd.AL (Kd.AL (D.out) (Kd.AU b.out) (by decide)) (Kd.AU s.out) (by decide)) (Kd.AU u.out) (by decide)) a.out (by decide)) l.out (by decide))))
    (case side6 => exact Kd.N_V (s.out))
    (case side7 => exact Kd.N_V (u.out))
    (case side8 => exact Aj HG.out (be2 U L W))
    rintro e dP ⟨v626, rfl, O, Z⟩
    refine ⟨_, rfl, ?_⟩
    have pC := rb c Z
    have qC := mk0 (Kd.BL (Bu m.out) (by first | exact Kd.Aq O | exact Kd.BZ O) Z)
    have rC := mk0 (Kd.CF (CU b.out) (by first | exact Kd.Aq O | exact Kd.BZ O) Z)
    have sC := rb D Z
    have tC := mk0 (Kd.CF (CU s.out) (by first | exact Kd.Aq O | exact Kd.BZ O) Z)
    have uC := mk0 (Kd.CF (CU u.out) (by first | exact Kd.Aq O | exact Kd.BZ O) Z)
    have aD := mk0 (Kd.Cn (Kd.Bh (ok' := fun x => some x ≠ (.slice aB X.length bB : Value).ownBlock ∧ some x ≠ (.slice sB Y.length tB : Value).ownBlock ∧ x ≠ d ∧ x ≠ z) O (fun x T => ⟨Or.elim T (fun j => Or.elim j (fun j => ((Kd.AZ (Kd.AZ (Kd.AL (Kd.AL (Kd.AL (D.out) (Kd.AU b.out) (by decide)) (Kd.AU s.out) (by decide)) (Kd.AU u.out) (by decide)) a.out (by decide)) l.out (by decide)).1 x j.symm).1.1.1.1.1.2) (fun j => Or.elim j (fun j => j.2.2.1) (fun j => j.2.2.1))) (fun jB => (Kd.fresh' (Kd.Da (Ck c.out)) x jB)), Or.elim T (fun j => Or.elim j (fun j => ((Kd.AZ (Kd.AZ (Kd.AL (Kd.AL (Kd.AL (D.out) (Kd.AU b.out) (by decide)) (Kd.AU s.out) (by decide)) (Kd.AU u.out) (by decide)) a.out (by decide)) l.out (by decide)).1 x j.symm).1.1.1.1.2) (fun j => Or.elim j (fun j => j.2.2.2.1) (fun j => j.2.2.2.1))) (fun jB => (Kd.fresh' (Kd.EH (CU b.out)) x jB)), Or.elim T (fun j => Or.elim j (fun j => ((Kd.AZ (Kd.AZ (Kd.AL (Kd.AL (Kd.AL (D.out) (Kd.AU b.out) (by decide)) (Kd.AU s.out) (by decide)) (Kd.AU u.out) (by decide)) a.out (by decide)) l.out (by decide)).1 x j.symm).1.2) (fun j => Or.elim j (fun j => j.2.2.2.2.1) (fun j => j.2.2.2.2.1))) (fun jB => (Kd.Av (g := d) (o := .cells #[.int .i64 eB, .int .i64 fB, .string gB, .slice cC cB.length eC, .slice dC dB.length fC, .int .i64 gC, .int .i64 hC, .slice iC zB.length lC, .slice jC aC.length mC, .slice kC bC.length nC, .int .i64 G, .slice uB hB.length wB, .slice (some qB) y.length xB, .bool oB] 40 (0, 0)) (Ae a.out) x jB)), Or.elim T (fun j => Or.elim j (fun j => ((Kd.AZ (Kd.AZ (Kd.AL (Kd.AL (Kd.AL (D.out) (Kd.AU b.out) (by decide)) (Kd.AU s.out) (by decide)) (Kd.AU u.out) (by decide)) a.out (by decide)) l.out (by decide)).1 x j.symm).2) (fun j => Or.elim j (fun j => j.2.2.2.2.2) (fun j => j.2.2.2.2.2))) (fun jB => (Kd.Av (g := z) (o := .cells #[.int .i64 xC, .int .i64 yC, .slice aB X.length bB, .slice jD vC.length kD, .slice sB Y.length tB] 33 (0, 0)) (Ae l.out) x jB))⟩)) (AX (be2 U L W)))
    have bD := kb a Z
    have cD := kb l Z
    have nD := kh2 U L W Z
    clear c; clear m; clear b; clear D; clear s; clear u; clear a; clear l; clear U; have c := pC; have m := qC; have b := rC; have D := sC; have s := tC; have u := uC; have I := aD; have a := bD; have l := cD; have U := nD; clear pC qC rC sC tC uC aD bD cD nD
    try clear Z
    try clear O
    refine hK.out _ _ ⟨bc a 0, bc a 1, bc a 2, bc a 3, bc a 4, bc a 5, bc a 6, bc a 7, bc a 8, bc a 9, bc a 10, bc a 11, bc a 12, bc a 13, (AO U.out kB)⟩ (fun J => ?_)
    clear hK K
    refine Bz (a' := ?_) ?_ ?_
    rotate_left
    ·show Act.put _ (some 44) _ = _
     simp only [ps]
     rfl
    refine pv 16 28 (tf 17 4) B ?_
    refine pv 17 45 (tf 18 3) B ?_
    refine pv 18 46 (tf 19 2) B ?_
    refine pv 19 5 (tf 20 1) B ?_
    refine pv 20 6 (tf 21 0) B ?_
    refine Di (Co B.out (by kernel_rfl)) ?_
    try go_wp2
    have pC := mk0 (Kd.DX c.out)
    have qC := mk0 (Kd.Bg m.out)
    have rC := mk0 (Kd.DC b.out)
    have sC := mk0 (Kd.DX D.out)
    have tC := mk0 (Kd.DC s.out)
    have uC := mk0 (Kd.DC u.out)
    have aD := mk0 (Kd.DC I.out)
    have bD := mk0 (Aa a.out)
    have cD := mk0 (Aa l.out)
    have nD := mk0 (Ag U.out)
    clear c; clear m; clear b; clear D; clear s; clear u; clear I; clear a; clear l; clear U; have c := pC; have m := qC; have b := rC; have D := sC; have s := tC; have u := uC; have I := aD; have a := bD; have l := cD; have U := nD; clear pC qC rC sC tC uC aD bD cD nD
    have aE : 0 ≤ (0 : Int) := (by omega)
    have cE : 0 < (y.length : Int) := od
    obtain ⟨fF, mG, mB⟩ := Kd.C8 pD.out 0 aE cE
    have yB := mB
    (try rw [show ((0 : Int)).toNat = 0 from rfl] at yB)
    (try rw [show 0 * 1 = 0 from rfl] at yB)
    (try rw [Addr.add_zero'] at yB)
    obtain rfl : qB = fF := (by injection mG)
    have pH : (0 < y.length) = True := eq_true (by omega)
    (try rw [show ((0 : Int)).toNat = 0 from rfl] at mB)
    (try rw [Addr.add_zero'] at mB)
    replace mB := AO U.out mB
    replace aE := eq_true aE; replace cE := eq_true cE
    refine Cs (n := 19) (S := fun w' => w'.cell? ⟨d, 0, none⟩ = some (.int .i64 eB) ∧ w'.cell? ⟨d, 1, none⟩ = some (.int .i64 fB) ∧ w'.cell? ⟨d, 2, none⟩ = some (.string gB) ∧ w'.cell? ⟨d, 3, none⟩ = some (.slice cC cB.length eC) ∧ w'.cell? ⟨d, 4, none⟩ = some (.slice dC dB.length fC) ∧ w'.cell? ⟨d, 5, none⟩ = some (.int .i64 gC) ∧ w'.cell? ⟨d, 6, none⟩ = some (.int .i64 hC) ∧ w'.cell? ⟨d, 7, none⟩ = some (.slice iC zB.length lC) ∧ w'.cell? ⟨d, 8, none⟩ = some (.slice jC aC.length mC) ∧ w'.cell? ⟨d, 9, none⟩ = some (.slice kC bC.length nC) ∧ w'.cell? ⟨d, 10, none⟩ = some (.int .i64 G) ∧ w'.cell? ⟨d, 11, none⟩ = some (.slice uB hB.length wB) ∧ w'.cell? ⟨d, 12, none⟩ = some (.slice (some qB) y.length xB) ∧ w'.cell? ⟨d, 13, none⟩ = some (.bool oB) ∧ w'.cell? ⟨z, 0, none⟩ = some (.int .i64 xC) ∧ w'.cell? ⟨z, 1, none⟩ = some (.int .i64 yC) ∧ w'.cell? ⟨z, 2, none⟩ = some (.slice aB X.length bB) ∧ w'.cell? ⟨z, 3, none⟩ = some (.slice jD vC.length kD) ∧ w'.cell? ⟨z, 4, none⟩ = some (.slice sB Y.length tB) ∧ w'.cell? qB = some (.int .i64 (rd y 0))) (ds := []) (tf 0 19) (by kernel_rfl) rfl rfl ⟨bc a 0, bc a 1, bc a 2, bc a 3, bc a 4, bc a 5, bc a 6, bc a 7, bc a 8, bc a 9, bc a 10, bc a 11, bc a 12, bc a 13, bc l 0, bc l 1, bc l 2, bc l 3, bc l 4, (AO U.out yB)⟩ (fun J => ?_); refine Bq Ai.OD Ai.LH (fun B wC => ?_)
    generalize dP.drew = jQ at c m b D s u I a l U mB J ⊢
    refine pv 0 48 (tf 1 18) B ?_
    refine pv 3 51 #[true, false, false, true, false, false, false, false, false, false, false, false, false, false, false, false, false, false, false] B ?_
    refine pv 5 53 #[true, false, false, true, false, true, false, false, false, false, false, false, false, false, false, false, false, false, false] B ?_
    refine pv 7 55 #[true, false, false, true, false, true, false, true, false, false, false, false, false, false, false, false, false, false, false] B ?_
    refine BI (i := 1) (N := some 49) (v := ?_) (a' := ?_) #[true, true, false, true, false, true, false, true, false, false, false, false, false, false, false, false, false, false, false] rfl rfl (Ad B.out wC.out (by kernel_rfl)) (fun _ _ _ h => h) (Or.inl ⟨by rfl, ?_⟩) J ?_ ?_
    rotate_left
    ·rintro w' ⟨s0, s1, s2, s3, s4, s5, s6, s7, s8, s9, dD, eD, fD, gD, hD, fE, gE, hE, jE, kE⟩
     go_simp
     with_reducible rfl
    rotate_left
    ·simp only [ps]
     rfl
    refine BI (i := 2) (N := some 50) (v := ?_) (a' := ?_) #[true, true, true, true, false, true, false, true, false, false, false, false, false, false, false, false, false, false, false] rfl rfl (Ad B.out wC.out (by kernel_rfl)) (fun _ _ _ h => h) (Or.inl ⟨by rfl, ?_⟩) J ?_ ?_
    rotate_left
    ·rintro w' ⟨s0, s1, s2, s3, s4, s5, s6, s7, s8, s9, dD, eD, fD, gD, hD, fE, gE, hE, jE, kE⟩
     go_simp
     with_reducible rfl
    rotate_left
    ·simp only [ps]
     rfl
    refine BI (i := 4) (N := some 52) (v := ?_) (a' := ?_) #[true, true, true, true, true, true, false, true, false, false, false, false, false, false, false, false, false, false, false] rfl rfl (Ad B.out wC.out (by kernel_rfl)) (fun _ _ _ h => h) (Or.inl ⟨by rfl, ?_⟩) J ?_ ?_
    rotate_left
    ·rintro w' ⟨s0, s1, s2, s3, s4, s5, s6, s7, s8, s9, dD, eD, fD, gD, hD, fE, gE, hE, jE, kE⟩
     go_simp
     with_reducible rfl
    rotate_left
    ·simp only [ps]
     rfl
    refine BI (i := 6) (N := some 54) (v := ?_) (a' := ?_) (tf 8 11) rfl rfl (Ad B.out wC.out (by kernel_rfl)) (fun _ _ _ h => h) (Or.inl ⟨by rfl, ?_⟩) J ?_ ?_
    rotate_left
    ·rintro w' ⟨s0, s1, s2, s3, s4, s5, s6, s7, s8, s9, dD, eD, fD, gD, hD, fE, gE, hE, jE, kE⟩
     go_simp
     with_reducible rfl
    rotate_left
    ·simp only [ps]
     rfl
    refine BI (i := 8) (N := some 56) (v := ?_) (a' := ?_) (tf 9 10) rfl rfl (Ad B.out wC.out (by kernel_rfl)) (fun _ _ _ h => h) (Or.inl ⟨by rfl, ?_⟩) J ?_ ?_
    rotate_left
    ·rintro w' ⟨s0, s1, s2, s3, s4, s5, s6, s7, s8, s9, dD, eD, fD, gD, hD, fE, gE, hE, jE, kE⟩
     go_simp
     with_reducible rfl
    rotate_left
    ·simp only [ps]
     rfl
    refine pv 9 57 (tf 10 9) B ?_
    refine BI (i := 10) (N := some 58) (v := ?_) (a' := ?_) (tf 11 8) rfl rfl (Ad B.out wC.out (by kernel_rfl)) (fun _ _ _ h => h) (Or.inl ⟨by rfl, ?_⟩) J ?_ ?_
    rotate_left
    ·rintro w' ⟨s0, s1, s2, s3, s4, s5, s6, s7, s8, s9, dD, eD, fD, gD, hD, fE, gE, hE, jE, kE⟩
     go_simp
     with_reducible rfl
    rotate_left
    ·simp only [ps]
     rfl
    refine pv 11 59 (tf 12 7) B ?_
    refine pv 12 60 (tf 13 6) B ?_
    refine C9 (i := 13) (N := some 61) (tf 14 5) rfl rfl (Bp B.out (by kernel_rfl)) (by decide) (fun K hK => ?_)
    refine Ca Try.func33 (by kernel_rfl) rfl #[.agg #[.int .i64 eB, .int .i64 fB, .string gB, .slice cC cB.length eC, .slice dC dB.length fC], .agg #[.int .i64 xC, .int .i64 yC, .slice aB X.length bB, .slice jD vC.length kD, .slice sB Y.length tB], .int .i64 G, .int .i64 (wrap64 ((wrap64 (G + (rd y 0))) - 1))] (by rfl) rfl rfl (by (try simp only [List.map_toArray, List.map_cons, List.map_nil]); first | done | rfl | (simp only [List.length_drop, List.length_take]; rfl)) ?_
    with_reducible refine (Af.calls vE eB fB gB _ _ cB _ _ dB xC yC (fun x => some x = (.slice aB X.length bB : Value).ownBlock) _ _ X (fun x => (((((some x ≠ (.slice aB X.length bB : Value).ownBlock ∧ (some x ≠ (.slice sB Y.length tB : Value).ownBlock ∧ (x ≠ d ∧ x ≠ z))) ∧ some x ≠ (.slice uF zC.length iG : Value).ownBlock) ∧ some x ≠ (.slice wG lD.length eH : Value).ownBlock) ∧ some x ≠ (.slice xG mD.length fH : Value).ownBlock) ∧ some x ≠ (v626 : Value).ownBlock)) _ _ vC (fun x => (((((some x ≠ (.slice aB X.length bB : Value).ownBlock ∧ (x ≠ d ∧ x ≠ z)) ∧ some x ≠ (.slice uF zC.length iG : Value).ownBlock) ∧ some x ≠ (.slice wG lD.length eH : Value).ownBlock) ∧ some x ≠ (.slice xG mD.length fH : Value).ownBlock) ∧ some x ≠ (v626 : Value).ownBlock)) _ _ Y G (wrap64 ((wrap64 (G + (rd y 0))) - 1)) kH lH _ ?side8 ?side1 ?side2 ?side3 ?side4 ?side5 ?side6 ?side7 hJ.out).mono ?_
    (case side1 => exact cu vD U)
    (case side2 => exact tD.out)
    (case side3 => exact cu wD U)
    (case side4 => exact uD.out)
    (case side5 => exact Kd.R_V (Kd.Ee rfl (Kd.AZ (Kd.AZ (Kd.AL (Kd.AL (Kd.AL (Kd.AL (c.out) (Kd.AU b.out) (by decide)) (Kd.AU s.out) (by decide)) (Kd.AU u.out) (by decide)) (Kd.AU I.out) (by decide)) a.out (by decide)) l.out (by decide))))
    (case side6 => exact m.out)
    (case side7 => exact Kd.N_V (b.out))
    (case side8 => exact Aj HG.out (be2 U L W))
    rintro e kQ ⟨v631, rfl, O, Z⟩
    refine ⟨_, rfl, ?_⟩
    have pC := rb c Z
    have qC := mk0 (Kd.BL (Bu m.out) (by first | exact Kd.Aq O | exact Kd.BZ O) Z)
    have rC := mk0 (Kd.CF (CU b.out) (by first | exact Kd.Aq O | exact Kd.BZ O) Z)
    have sC := rb D Z
    have tC := mk0 (Kd.CF (CU s.out) (by first | exact Kd.Aq O | exact Kd.BZ O) Z)
    have uC := mk0 (Kd.CF (CU u.out) (by first | exact Kd.Aq O | exact Kd.BZ O) Z)
    have aD := mk0 (Kd.CF (CU I.out) (by first | exact Kd.Aq O | exact Kd.BZ O) Z)
    have bD := mk0 (Kd.Cn (Kd.Bh (ok' := fun x => some x ≠ (.slice uF zC.length iG : Value).ownBlock ∧ some x ≠ (.slice wG lD.length eH : Value).ownBlock ∧ some x ≠ (.slice xG mD.length fH : Value).ownBlock ∧ some x ≠ (v626 : Value).ownBlock ∧ x ≠ d ∧ x ≠ z) O (fun x T => ⟨Or.elim T (fun j => Or.elim j (fun j => ((Kd.AZ (Kd.AZ (Kd.AL (Kd.AL (Kd.AL (Kd.AL (c.out) (Kd.AU b.out) (by decide)) (Kd.AU s.out) (by decide)) (Kd.AU u.out) (by decide)) (Kd.AU I.out) (by decide)) a.out (by decide)) l.out (by decide)).1 x j.symm).1.1.1.1.1.1.2) (fun j => Or.elim j (fun j => j.1.1.1.2) (fun j => j.1.1.1.2))) (fun jB => (Kd.fresh' (Kd.Da (Ck D.out)) x jB)), Or.elim T (fun j => Or.elim j (fun j => ((Kd.AZ (Kd.AZ (Kd.AL (Kd.AL (Kd.AL (Kd.AL (c.out) (Kd.AU b.out) (by decide)) (Kd.AU s.out) (by decide)) (Kd.AU u.out) (by decide)) (Kd.AU I.out) (by decide)) a.out (by decide)) l.out (by decide)).1 x j.symm).1.1.1.1.2) (fun j => Or.elim j (fun j => j.1.1.2) (fun j => j.1.1.2))) (fun jB => (Kd.fresh' (Kd.EH (CU s.out)) x jB)), Or.elim T (fun j => Or.elim j (fun j => ((Kd.AZ (Kd.AZ (Kd.AL (Kd.AL (Kd.AL (Kd.AL (c.out) (Kd.AU b.out) (by decide)) (Kd.AU s.out) (by decide)) (Kd.AU u.out) (by decide)) (Kd.AU I.out) (by decide)) a.out (by decide)) l.out (by decide)).1 x j.symm).1.1.1.2) (fun j => Or.elim j (fun j => j.1.2) (fun j => j.1.2))) (fun jB => (Kd.fresh' (Kd.EH (CU u.out)) x jB)), Or.elim T (fun j => Or.elim j (fun j => ((Kd.AZ (Kd.AZ (Kd.AL (Kd.AL (Kd.AL (Kd.AL (c.out) (Kd.AU b.out) (by decide)) (Kd.AU s.out) (by decide)) (Kd.AU u.out) (by decide)) (Kd.AU I.out) (by decide)) a.out (by decide)) l.out (by decide)).1 x j.symm).1.1.2) (fun j => Or.elim j (fun j => j.2) (fun j => j.2))) (fun jB => (Kd.fresh' (Kd.EH (CU I.out)) x jB)), Or.elim T (fun j => Or.elim j (fun j => ((Kd.AZ (Kd.AZ (Kd.AL (Kd.AL (Kd.AL (Kd.AL (c.out) (Kd.AU b.out) (by decide)) (Kd.AU s.out) (by decide)) (Kd.AU u.out) (by decide)) (Kd.AU I.out) (by decide)) a.out (by decide)) l.out (by decide)).1 x j.symm).1.2) (fun j => Or.elim j (fun j => j.1.1.1.1.2.2.1) (fun j => j.1.1.1.1.2.1))) (fun jB => (Kd.Av (g := d) (o := .cells #[.int .i64 eB, .int .i64 fB, .string gB, .slice cC cB.length eC, .slice dC dB.length fC, .int .i64 gC, .int .i64 hC, .slice iC zB.length lC, .slice jC aC.length mC, .slice kC bC.length nC, .int .i64 G, .slice uB hB.length wB, .slice (some qB) y.length xB, .bool oB] 40 (0, 0)) (Ae a.out) x jB)), Or.elim T (fun j => Or.elim j (fun j => ((Kd.AZ (Kd.AZ (Kd.AL (Kd.AL (Kd.AL (Kd.AL (c.out) (Kd.AU b.out) (by decide)) (Kd.AU s.out) (by decide)) (Kd.AU u.out) (by decide)) (Kd.AU I.out) (by decide)) a.out (by decide)) l.out (by decide)).1 x j.symm).2) (fun j => Or.elim j (fun j => j.1.1.1.1.2.2.2) (fun j => j.1.1.1.1.2.2))) (fun jB => (Kd.Av (g := z) (o := .cells #[.int .i64 xC, .int .i64 yC, .slice aB X.length bB, .slice jD vC.length kD, .slice sB Y.length tB] 33 (0, 0)) (Ae l.out) x jB))⟩)) (AX (be2 U L W)))
    have cD := kb a Z
    have nD := kb l Z
    have xE := kh2 U L W Z
    clear c; clear m; clear b; clear D; clear s; clear u; clear I; clear a; clear l; clear U; have c := pC; have m := qC; have b := rC; have D := sC; have s := tC; have u := uC; have I := aD; have qD := bD; have a := cD; have l := nD; have U := xE; clear pC qC rC sC tC uC aD bD cD nD xE
    try clear Z
    try clear O
    refine hK.out _ _ ⟨bc a 0, bc a 1, bc a 2, bc a 3, bc a 4, bc a 5, bc a 6, bc a 7, bc a 8, bc a 9, bc a 10, bc a 11, bc a 12, bc a 13, bc l 0, bc l 1, bc l 2, bc l 3, bc l 4, (AO U.out yB)⟩ (fun J => ?_)
    clear hK K
    refine Bz (a' := ?_) ?_ ?_
    rotate_left
    ·show Act.put _ (some 61) _ = _
     simp only [ps]
     rfl
    refine pv 14 47 (tf 15 4) B ?_
    refine pv 15 62 (tf 16 3) B ?_
    refine pv 16 63 (tf 17 2) B ?_
    refine pv 17 7 (tf 18 1) B ?_
    refine pv 18 8 (tf 19 0) B ?_
    refine Di (Co B.out (by kernel_rfl)) ?_
    obtain ⟨jP, nP, qM⟩ := Kd.Ch I.out
    subst qM
    obtain ⟨kP, oP, rM⟩ := Kd.Ch qD.out
    subst rM
    try go_wp2_with (go_at_call 35; (with_reducible refine (DZ.calls ?side1 ?side2 ?side3 ?side4 iM.out).mono ?_); (case side1 => repeat (first | exact (Kd.DR I.out).2.2 | (with_reducible refine Kd.CV ?_ _) | (with_reducible refine Kd.CW ?_ _) | (with_reducible refine Kd.Cr ?_))); (case side2 => exact (Kd.DR I.out).2.1); (case side3 => repeat (first | exact (Kd.DR qD.out).2.2 | (with_reducible refine Kd.CV ?_ _) | (with_reducible refine Kd.CW ?_ _) | (with_reducible refine Kd.Cr ?_))); (case side4 => exact (Kd.DR qD.out).2.1); rintro e lQ ⟨rfl, Z⟩; replace c := rb c Z; replace m := vb m Z; replace b := nb b Z; replace D := rb D Z; replace s := nb s Z; replace u := nb u Z; replace I := nb I Z; replace qD := nb qD Z; obtain ⟨a, l⟩ := tb2 Z a l; replace U := kh2 U L W Z)
    go_ret
    exact ⟨rfl, be2 U L W⟩
   replace H := bS H; obtain ⟨nG, mO, H⟩ := H; obtain rfl := sI H
   try go_wp2
   have pC := mk0 (Kd.DX c.out)
   have qC := mk0 (Kd.Bg m.out)
   have rC := mk0 (Kd.DC b.out)
   have sC := mk0 (Aa a.out)
   have tC := mk0 (Aa l.out)
   have uC := mk0 (Ag U.out)
   clear c; clear m; clear b; clear a; clear l; clear U; have c := pC; have m := qC; have b := rC; have a := sC; have l := tC; have U := uC; clear pC qC rC sC tC uC
   have zD : 0 ≤ (0 : Int) := (by omega)
   have bE : 0 < (y.length : Int) := od
   obtain ⟨qB, lG, lB⟩ := Kd.C8 pD.out 0 zD bE
   have kB := lB
   (try rw [show ((0 : Int)).toNat = 0 from rfl] at kB)
   (try rw [show 0 * 1 = 0 from rfl] at kB)
   (try rw [Addr.add_zero'] at kB)
   cases lG
   have oH : (0 < y.length) = True := eq_true (by omega)
   (try rw [show ((0 : Int)).toNat = 0 from rfl] at lB)
   (try rw [Addr.add_zero'] at lB)
   replace lB := AO U.out lB
   replace zD := eq_true zD; replace bE := eq_true bE
   refine Cs (n := 21) (S := fun w' => w'.cell? ⟨d, 0, none⟩ = some (.int .i64 eB) ∧ w'.cell? ⟨d, 1, none⟩ = some (.int .i64 fB) ∧ w'.cell? ⟨d, 2, none⟩ = some (.string gB) ∧ w'.cell? ⟨d, 3, none⟩ = some (.slice cC cB.length eC) ∧ w'.cell? ⟨d, 4, none⟩ = some (.slice dC dB.length fC) ∧ w'.cell? ⟨d, 5, none⟩ = some (.int .i64 gC) ∧ w'.cell? ⟨d, 6, none⟩ = some (.int .i64 hC) ∧ w'.cell? ⟨d, 7, none⟩ = some (.slice iC zB.length lC) ∧ w'.cell? ⟨d, 8, none⟩ = some (.slice jC aC.length mC) ∧ w'.cell? ⟨d, 9, none⟩ = some (.slice kC bC.length nC) ∧ w'.cell? ⟨d, 10, none⟩ = some (.int .i64 G) ∧ w'.cell? ⟨d, 11, none⟩ = some (.slice uB hB.length wB) ∧ w'.cell? ⟨d, 12, none⟩ = some (.slice (some qB) y.length xB) ∧ w'.cell? ⟨d, 13, none⟩ = some (.bool oB) ∧ w'.cell? qB = some (.int .i64 (rd y 0))) (ds := []) (tf 0 21) (by kernel_rfl) rfl rfl ⟨bc a 0, bc a 1, bc a 2, bc a 3, bc a 4, bc a 5, bc a 6, bc a 7, bc a 8, bc a 9, bc a 10, bc a 11, bc a 12, bc a 13, (AO U.out kB)⟩ (fun J => ?_); refine Bq Ai.Ia Ai.F3 (fun B wC => ?_)
   generalize wc.drew = bQ at c m b a l U lB J ⊢
   refine pv 0 29 (tf 1 20) B ?_
   refine pv 2 31 #[true, false, true, false, false, false, false, false, false, false, false, false, false, false, false, false, false, false, false, false, false] B ?_
   refine pv 5 34 #[true, false, true, false, false, true, false, false, false, false, false, false, false, false, false, false, false, false, false, false, false] B ?_
   refine pv 7 36 #[true, false, true, false, false, true, false, true, false, false, false, false, false, false, false, false, false, false, false, false, false] B ?_
   refine pv 9 38 #[true, false, true, false, false, true, false, true, false, true, false, false, false, false, false, false, false, false, false, false, false] B ?_
   refine BI (i := 1) (N := some 30) (v := ?_) (a' := ?_) #[true, true, true, false, false, true, false, true, false, true, false, false, false, false, false, false, false, false, false, false, false] rfl rfl (Ad B.out wC.out (by kernel_rfl)) (fun _ _ _ h => h) (Or.inl ⟨by rfl, ?_⟩) J ?_ ?_
   rotate_left
   ·rintro w' ⟨s0, s1, s2, s3, s4, s5, s6, s7, s8, s9, dD, eD, fD, gD, hD⟩
    go_simp
    with_reducible rfl
   rotate_left
   ·simp only [ps]
    rfl
   refine BI (i := 3) (N := some 32) (v := ?_) (a' := ?_) #[true, true, true, true, false, true, false, true, false, true, false, false, false, false, false, false, false, false, false, false, false] rfl rfl (Ad B.out wC.out (by kernel_rfl)) (fun _ _ _ h => h) (Or.inl ⟨by rfl, ?_⟩) J ?_ ?_
   rotate_left
   ·rintro w' ⟨s0, s1, s2, s3, s4, s5, s6, s7, s8, s9, dD, eD, fD, gD, hD⟩
    go_simp
    with_reducible rfl
   rotate_left
   ·simp only [ps]
    rfl
   refine BI (i := 6) (N := some 35) (v := ?_) (a' := ?_) #[true, true, true, true, false, true, true, true, false, true, false, false, false, false, false, false, false, false, false, false, false] rfl rfl (Ad B.out wC.out (by kernel_rfl)) (fun _ _ _ h => h) (Or.inl ⟨by rfl, ?_⟩) J ?_ ?_
   rotate_left
   ·rintro w' ⟨s0, s1, s2, s3, s4, s5, s6, s7, s8, s9, dD, eD, fD, gD, hD⟩
    go_simp
    with_reducible rfl
   rotate_left
   ·simp only [ps]
    rfl
   refine BI (i := 8) (N := some 37) (v := ?_) (a' := ?_) #[true, true, true, true, false, true, true, true, true, true, false, false, false, false, false, false, false, false, false, false, false] rfl rfl (Ad B.out wC.out (by kernel_rfl)) (fun _ _ _ h => h) (Or.inl ⟨by rfl, ?_⟩) J ?_ ?_
   rotate_left
   ·rintro w' ⟨s0, s1, s2, s3, s4, s5, s6, s7, s8, s9, dD, eD, fD, gD, hD⟩
    go_simp
    with_reducible rfl
   rotate_left
   ·simp only [ps]
    rfl
   refine BI (i := 10) (N := some 39) (v := ?_) (a' := ?_) #[true, true, true, true, false, true, true, true, true, true, true, false, false, false, false, false, false, false, false, false, false] rfl rfl (Ad B.out wC.out (by kernel_rfl)) (fun _ _ _ h => h) (Or.inl ⟨by rfl, ?_⟩) J ?_ ?_
   rotate_left
   ·rintro w' ⟨s0, s1, s2, s3, s4, s5, s6, s7, s8, s9, dD, eD, fD, gD, hD⟩
    go_simp
    with_reducible rfl
   rotate_left
   ·simp only [ps]
    rfl
   refine pv 11 40 #[true, true, true, true, false, true, true, true, true, true, true, true, false, false, false, false, false, false, false, false, false] B ?_
   refine BI (i := 12) (N := some 41) (v := ?_) (a' := ?_) #[true, true, true, true, false, true, true, true, true, true, true, true, true, false, false, false, false, false, false, false, false] rfl rfl (Ad B.out wC.out (by kernel_rfl)) (fun _ _ _ h => h) (Or.inl ⟨by rfl, ?_⟩) J ?_ ?_
   rotate_left
   ·rintro w' ⟨s0, s1, s2, s3, s4, s5, s6, s7, s8, s9, dD, eD, fD, gD, hD⟩
    go_simp
    with_reducible rfl
   rotate_left
   ·simp only [ps]
    rfl
   refine pv 13 42 #[true, true, true, true, false, true, true, true, true, true, true, true, true, true, false, false, false, false, false, false, false] B ?_
   refine pv 14 43 #[true, true, true, true, false, true, true, true, true, true, true, true, true, true, true, false, false, false, false, false, false] B ?_
   refine C9 (i := 4) (N := some 33) (tf 15 6) rfl rfl (Bp B.out (by kernel_rfl)) (by decide) (fun K hK => ?_)
   refine Ca Try.func26 (by kernel_rfl) rfl #[.agg #[.int .i64 gC, .int .i64 hC, .slice iC zB.length lC, .slice jC aC.length mC, .slice kC bC.length nC]] (by rfl) rfl rfl (by (try simp only [List.map_toArray, List.map_cons, List.map_nil]); first | done | rfl | (simp only [List.length_drop, List.length_take]; rfl)) ?_
   with_reducible refine (Cj.calls ?side1 ?side2 ?side3 ?side4 ?side5 ?side6 fJ.out).mono ?_
   (case side1 => exact cu cF U)
   (case side2 => exact yE.out)
   (case side3 => exact cu dF U)
   (case side4 => exact zE.out)
   (case side5 => exact cu eF U)
   (case side6 => exact aF.out)
   rintro e cQ ⟨v616, v619, v622, rfl, O, rD, oD, Z⟩
   refine ⟨_, rfl, ?_⟩
   have pC := mk0 (Kd.EE (Ck c.out) (Kd.Aq O) Z)
   have qC := mk0 (Kd.AQ (Kd.Dp (Kd.Dp (Kd.Dp (Kd.I8 (Bu m.out) Z) (Kd.Aq O)) (by first | exact Kd.Aq rD | exact Kd.BZ rD)) (by first | exact Kd.Aq oD | exact Kd.BZ oD)) (fun _ h_ => h_.1))
   have rC := mk0 (Kd.Bh (Kd.Dx (Kd.Dx (Kd.Dx (Kd.I7 (CU b.out) Z) (Kd.Aq O)) (by first | exact Kd.Aq rD | exact Kd.BZ rD)) (by first | exact Kd.Aq oD | exact Kd.BZ oD)) (fun _ h_ => h_.1))
   have sC := mk0 (Kd.Cg (Kd.EM O (Kd.Da (Ck c.out))) (AX (be2 U L W)))
   have tC := mk0 (Kd.Cn (Kd.Bh (ok' := fun x => some x ≠ (v616 : Value).ownBlock ∧ some x ≠ (v622 : Value).ownBlock ∧ some x ≠ (.slice aB X.length bB : Value).ownBlock ∧ some x ≠ (.slice sB Y.length tB : Value).ownBlock ∧ x ≠ d ∧ x ≠ z) (Kd.R_N (Kd.Cz (Kd.AL rD (Kd.Dt oD) (by decide)))) (fun x T => ⟨T.1.1, T.1.2, (Kd.fresh' (Kd.Da (Ck c.out)) x T.2.1), (Kd.fresh' (Kd.EH (CU b.out)) x T.2.1), (Kd.Av (g := d) (o := .cells #[.int .i64 eB, .int .i64 fB, .string gB, .slice cC cB.length eC, .slice dC dB.length fC, .int .i64 gC, .int .i64 hC, .slice iC zB.length lC, .slice jC aC.length mC, .slice kC bC.length nC, .int .i64 G, .slice uB hB.length wB, .slice (some qB) y.length xB, .bool oB] 40 (0, 0)) (Ae a.out) x T.2.1), (Kd.Av (g := z) (o := .cells #[.int .i64 xC, .int .i64 yC, .slice aB X.length bB, .slice jD vC.length kD, .slice sB Y.length tB] 33 (0, 0)) (Ae l.out) x T.2.1)⟩)) (AX (be2 U L W)))
   have uC := mk0 (Kd.Cn (Kd.Bh (ok' := fun x => some x ≠ (v616 : Value).ownBlock ∧ some x ≠ (v619 : Value).ownBlock ∧ some x ≠ (.slice aB X.length bB : Value).ownBlock ∧ some x ≠ (.slice sB Y.length tB : Value).ownBlock ∧ x ≠ d ∧ x ≠ z) (Kd.R_N (Kd.Cz oD)) (fun x T => ⟨T.1.1, T.1.2, (Kd.fresh' (Kd.Da (Ck c.out)) x T.2.1), (Kd.fresh' (Kd.EH (CU b.out)) x T.2.1), (Kd.Av (g := d) (o := .cells #[.int .i64 eB, .int .i64 fB, .string gB, .slice cC cB.length eC, .slice dC dB.length fC, .int .i64 gC, .int .i64 hC, .slice iC zB.length lC, .slice jC aC.length mC, .slice kC bC.length nC, .int .i64 G, .slice uB hB.length wB, .slice (some qB) y.length xB, .bool oB] 40 (0, 0)) (Ae a.out) x T.2.1), (Kd.Av (g := z) (o := .cells #[.int .i64 xC, .int .i64 yC, .slice aB X.length bB, .slice jD vC.length kD, .slice sB Y.length tB] 33 (0, 0)) (Ae l.out) x T.2.1)⟩)) (AX (be2 U L W)))
   have aD := kb a Z
   have bD := kb l Z
   have cD := kh2 U L W Z
   clear c; clear m; clear b; clear a; clear l; clear U; have c := pC; have m := qC; have b := rC; have D := sC; have s := tC; have u := uC; have a := aD; have l := bD; have U := cD; clear pC qC rC sC tC uC aD bD cD
   try clear Z
   try clear O
   try clear rD
   try clear oD
   obtain ⟨tF, gG, aL⟩ := Kd.Bv D.out
   (first | subst aL | (injection aL with f1_ f2_ f3_; have xD := f1_.symm; have yD := f3_.symm; clear f1_ f2_ f3_; subst xD; subst yD))
   obtain ⟨uG, cH, bL⟩ := Kd.Ch s.out
   (first | subst bL | (injection bL with f1_ f2_ f3_; have xD := f1_.symm; have yD := f3_.symm; clear f1_ f2_ f3_; subst xD; subst yD))
   obtain ⟨vG, dH, cL⟩ := Kd.Ch u.out
   (first | subst cL | (injection cL with f1_ f2_ f3_; have xD := f1_.symm; have yD := f3_.symm; clear f1_ f2_ f3_; subst xD; subst yD))
   refine hK.out _ _ ⟨bc a 0, bc a 1, bc a 2, bc a 3, bc a 4, bc a 5, bc a 6, bc a 7, bc a 8, bc a 9, bc a 10, bc a 11, bc a 12, bc a 13, (AO U.out kB)⟩ (fun J => ?_)
   clear hK K
   refine Bz (a' := ?_) ?_ ?_
   rotate_left
   ·show Act.put _ (some 33) _ = _
    simp only [ps]
    rfl
   refine C9 (i := 15) (N := some 44) (tf 16 5) rfl rfl (Bp B.out (by kernel_rfl)) (by decide) (fun K hK => ?_)
   refine Ca Try.func33 (by kernel_rfl) rfl #[.agg #[.int .i64 eB, .int .i64 fB, .string gB, .slice cC cB.length eC, .slice dC dB.length fC], .agg #[.int .i64 oF, .int .i64 pF, .slice tF zC.length gG, .slice uG lD.length cH, .slice vG mD.length dH], .int .i64 G, .int .i64 (wrap64 ((wrap64 (G + (rd y 0))) - 1))] (by rfl) rfl rfl (by (try simp only [List.map_toArray, List.map_cons, List.map_nil]); first | done | rfl | (simp only [List.length_drop, List.length_take]; rfl)) ?_
   with_reducible refine (Af.calls vE eB fB gB _ _ cB _ _ dB oF pF (fun x => some x = (.slice tF zC.length gG : Value).ownBlock) _ _ zC (fun x => (some x ≠ (.slice tF zC.length gG : Value).ownBlock ∧ (some x ≠ (.slice vG mD.length dH : Value).ownBlock ∧ (some x ≠ (.slice aB X.length bB : Value).ownBlock ∧ (some x ≠ (.slice sB Y.length tB : Value).ownBlock ∧ (x ≠ d ∧ x ≠ z)))))) _ _ lD (fun x => (some x ≠ (.slice tF zC.length gG : Value).ownBlock ∧ (some x ≠ (.slice uG lD.length cH : Value).ownBlock ∧ (some x ≠ (.slice aB X.length bB : Value).ownBlock ∧ (some x ≠ (.slice sB Y.length tB : Value).ownBlock ∧ (x ≠ d ∧ x ≠ z)))))) _ _ mD G (wrap64 ((wrap64 (G + (rd y 0))) - 1)) oG pG _ ?side8 ?side1 ?side2 ?side3 ?side4 ?side5 ?side6 ?side7 gJ.out).mono ?_
   (case side1 => exact cu vD U)
   (case side2 => exact tD.out)
   (case side3 => exact cu wD U)
   (case side4 => exact uD.out)
   (case side5 => exact Kd.R_V (Kd.Ee rfl (Kd.AZ (Kd.AZ (Kd.AL (Kd.AL (Kd.AL (D.out) (Kd.AU b.out) (by decide)) (Kd.AU s.out) (by decide)) (Kd.AU u.out) (by decide)) a.out (by decide)) l.out (by decide))))
   (case side6 => exact Kd.N_V (s.out))
   (case side7 => exact Kd.N_V (u.out))
   (case side8 => exact Aj HG.out (be2 U L W))
   rintro e cP ⟨v626, rfl, O, Z⟩
   refine ⟨_, rfl, ?_⟩
   have pC := rb c Z
   have qC := mk0 (Kd.BL (Bu m.out) (by first | exact Kd.Aq O | exact Kd.BZ O) Z)
   have rC := mk0 (Kd.CF (CU b.out) (by first | exact Kd.Aq O | exact Kd.BZ O) Z)
   have sC := rb D Z
   have tC := mk0 (Kd.CF (CU s.out) (by first | exact Kd.Aq O | exact Kd.BZ O) Z)
   have uC := mk0 (Kd.CF (CU u.out) (by first | exact Kd.Aq O | exact Kd.BZ O) Z)
   have aD := mk0 (Kd.Cn (Kd.Bh (ok' := fun x => some x ≠ (.slice aB X.length bB : Value).ownBlock ∧ some x ≠ (.slice sB Y.length tB : Value).ownBlock ∧ x ≠ d ∧ x ≠ z) O (fun x T => ⟨Or.elim T (fun j => Or.elim j (fun j => ((Kd.AZ (Kd.AZ (Kd.AL (Kd.AL (Kd.AL (D.out) (Kd.AU b.out) (by decide)) (Kd.AU s.out) (by decide)) (Kd.AU u.out) (by decide)) a.out (by decide)) l.out (by decide)).1 x j.symm).1.1.1.1.1.2) (fun j => Or.elim j (fun j => j.2.2.1) (fun j => j.2.2.1))) (fun jB => (Kd.fresh' (Kd.Da (Ck c.out)) x jB)), Or.elim T (fun j => Or.elim j (fun j => ((Kd.AZ (Kd.AZ (Kd.AL (Kd.AL (Kd.AL (D.out) (Kd.AU b.out) (by decide)) (Kd.AU s.out) (by decide)) (Kd.AU u.out) (by decide)) a.out (by decide)) l.out (by decide)).1 x j.symm).1.1.1.1.2) (fun j => Or.elim j (fun j => j.2.2.2.1) (fun j => j.2.2.2.1))) (fun jB => (Kd.fresh' (Kd.EH (CU b.out)) x jB)), Or.elim T (fun j => Or.elim j (fun j => ((Kd.AZ (Kd.AZ (Kd.AL (Kd.AL (Kd.AL (D.out) (Kd.AU b.out) (by decide)) (Kd.AU s.out) (by decide)) (Kd.AU u.out) (by decide)) a.out (by decide)) l.out (by decide)).1 x j.symm).1.2) (fun j => Or.elim j (fun j => j.2.2.2.2.1) (fun j => j.2.2.2.2.1))) (fun jB => (Kd.Av (g := d) (o := .cells #[.int .i64 eB, .int .i64 fB, .string gB, .slice cC cB.length eC, .slice dC dB.length fC, .int .i64 gC, .int .i64 hC, .slice iC zB.length lC, .slice jC aC.length mC, .slice kC bC.length nC, .int .i64 G, .slice uB hB.length wB, .slice (some qB) y.length xB, .bool oB] 40 (0, 0)) (Ae a.out) x jB)), Or.elim T (fun j => Or.elim j (fun j => ((Kd.AZ (Kd.AZ (Kd.AL (Kd.AL (Kd.AL (D.out) (Kd.AU b.out) (by decide)) (Kd.AU s.out) (by decide)) (Kd.AU u.out) (by decide)) a.out (by decide)) l.out (by decide)).1 x j.symm).2) (fun j => Or.elim j (fun j => j.2.2.2.2.2) (fun j => j.2.2.2.2.2))) (fun jB => (Kd.Av (g := z) (o := .cells #[.int .i64 xC, .int .i64 yC, .slice aB X.length bB, .slice jD vC.length kD, .slice sB Y.length tB] 33 (0, 0)) (Ae l.out) x jB))⟩)) (AX (be2 U L W)))
   have bD := kb a Z
   have cD := kb l Z
   have nD := kh2 U L W Z
   clear c; clear m; clear b; clear D; clear s; clear u; clear a; clear l; clear U; have c := pC; have m := qC; have b := rC; have D := sC; have s := tC; have u := uC; have I := aD; have a := bD; have l := cD; have U := nD; clear pC qC rC sC tC uC aD bD cD nD
   try clear Z
   try clear O
   refine hK.out _ _ ⟨bc a 0, bc a 1, bc a 2, bc a 3, bc a 4, bc a 5, bc a 6, bc a 7, bc a 8, bc a 9, bc a 10, bc a 11, bc a 12, bc a 13, (AO U.out kB)⟩ (fun J => ?_)
   clear hK K
   refine Bz (a' := ?_) ?_ ?_
   rotate_left
   ·show Act.put _ (some 44) _ = _
    simp only [ps]
    rfl
   refine pv 16 28 (tf 17 4) B ?_
   refine pv 17 45 (tf 18 3) B ?_
   refine pv 18 46 (tf 19 2) B ?_
   refine pv 19 5 (tf 20 1) B ?_
   refine pv 20 6 (tf 21 0) B ?_
   refine Di (Co B.out (by kernel_rfl)) ?_
   try go_wp2
   have pC := mk0 (Kd.DX c.out)
   have qC := mk0 (Kd.Bg m.out)
   have rC := mk0 (Kd.DC b.out)
   have sC := mk0 (Kd.DX D.out)
   have tC := mk0 (Kd.DC s.out)
   have uC := mk0 (Kd.DC u.out)
   have aD := mk0 (Kd.DC I.out)
   have bD := mk0 (Aa a.out)
   have cD := mk0 (Aa l.out)
   have nD := mk0 (Ag U.out)
   clear c; clear m; clear b; clear D; clear s; clear u; clear I; clear a; clear l; clear U; have c := pC; have m := qC; have b := rC; have D := sC; have s := tC; have u := uC; have I := aD; have a := bD; have l := cD; have U := nD; clear pC qC rC sC tC uC aD bD cD nD
   have aE : 0 ≤ (0 : Int) := (by omega)
   have cE : 0 < (y.length : Int) := od
   obtain ⟨fF, mG, mB⟩ := Kd.C8 pD.out 0 aE cE
   have yB := mB
   (try rw [show ((0 : Int)).toNat = 0 from rfl] at yB)
   (try rw [show 0 * 1 = 0 from rfl] at yB)
   (try rw [Addr.add_zero'] at yB)
   obtain rfl : qB = fF := (by injection mG)
   have pH : (0 < y.length) = True := eq_true (by omega)
   (try rw [show ((0 : Int)).toNat = 0 from rfl] at mB)
   (try rw [Addr.add_zero'] at mB)
   replace mB := AO U.out mB
   replace aE := eq_true aE; replace cE := eq_true cE
   refine Cs (n := 19) (S := fun w' => w'.cell? ⟨d, 0, none⟩ = some (.int .i64 eB) ∧ w'.cell? ⟨d, 1, none⟩ = some (.int .i64 fB) ∧ w'.cell? ⟨d, 2, none⟩ = some (.string gB) ∧ w'.cell? ⟨d, 3, none⟩ = some (.slice cC cB.length eC) ∧ w'.cell? ⟨d, 4, none⟩ = some (.slice dC dB.length fC) ∧ w'.cell? ⟨d, 5, none⟩ = some (.int .i64 gC) ∧ w'.cell? ⟨d, 6, none⟩ = some (.int .i64 hC) ∧ w'.cell? ⟨d, 7, none⟩ = some (.slice iC zB.length lC) ∧ w'.cell? ⟨d, 8, none⟩ = some (.slice jC aC.length mC) ∧ w'.cell? ⟨d, 9, none⟩ = some (.slice kC bC.length nC) ∧ w'.cell? ⟨d, 10, none⟩ = some (.int .i64 G) ∧ w'.cell? ⟨d, 11, none⟩ = some (.slice uB hB.length wB) ∧ w'.cell? ⟨d, 12, none⟩ = some (.slice (some qB) y.length xB) ∧ w'.cell? ⟨d, 13, none⟩ = some (.bool oB) ∧ w'.cell? ⟨z, 0, none⟩ = some (.int .i64 xC) ∧ w'.cell? ⟨z, 1, none⟩ = some (.int .i64 yC) ∧ w'.cell? ⟨z, 2, none⟩ = some (.slice aB X.length bB) ∧ w'.cell? ⟨z, 3, none⟩ = some (.slice jD vC.length kD) ∧ w'.cell? ⟨z, 4, none⟩ = some (.slice sB Y.length tB) ∧ w'.cell? qB = some (.int .i64 (rd y 0))) (ds := []) (tf 0 19) (by kernel_rfl) rfl rfl ⟨bc a 0, bc a 1, bc a 2, bc a 3, bc a 4, bc a 5, bc a 6, bc a 7, bc a 8, bc a 9, bc a 10, bc a 11, bc a 12, bc a 13, bc l 0, bc l 1, bc l 2, bc l 3, bc l 4, (AO U.out yB)⟩ (fun J => ?_); refine Bq Ai.OD Ai.LH (fun B wC => ?_)
   generalize cP.drew = dQ at c m b D s u I a l U mB J ⊢
   refine pv 0 48 (tf 1 18) B ?_
   refine pv 3 51 #[true, false, false, true, false, false, false, false, false, false, false, false, false, false, false, false, false, false, false] B ?_
   refine pv 5 53 #[true, false, false, true, false, true, false, false, false, false, false, false, false, false, false, false, false, false, false] B ?_
   refine pv 7 55 #[true, false, false, true, false, true, false, true, false, false, false, false, false, false, false, false, false, false, false] B ?_
   refine BI (i := 1) (N := some 49) (v := ?_) (a' := ?_) #[true, true, false, true, false, true, false, true, false, false, false, false, false, false, false, false, false, false, false] rfl rfl (Ad B.out wC.out (by kernel_rfl)) (fun _ _ _ h => h) (Or.inl ⟨by rfl, ?_⟩) J ?_ ?_
   rotate_left
   ·rintro w' ⟨s0, s1, s2, s3, s4, s5, s6, s7, s8, s9, dD, eD, fD, gD, hD, fE, gE, hE, jE, kE⟩
    go_simp
    with_reducible rfl
   rotate_left
   ·simp only [ps]
    rfl
   refine BI (i := 2) (N := some 50) (v := ?_) (a' := ?_) #[true, true, true, true, false, true, false, true, false, false, false, false, false, false, false, false, false, false, false] rfl rfl (Ad B.out wC.out (by kernel_rfl)) (fun _ _ _ h => h) (Or.inl ⟨by rfl, ?_⟩) J ?_ ?_
   rotate_left
   ·rintro w' ⟨s0, s1, s2, s3, s4, s5, s6, s7, s8, s9, dD, eD, fD, gD, hD, fE, gE, hE, jE, kE⟩
    go_simp
    with_reducible rfl
   rotate_left
   ·simp only [ps]
    rfl
   refine BI (i := 4) (N := some 52) (v := ?_) (a' := ?_) #[true, true, true, true, true, true, false, true, false, false, false, false, false, false, false, false, false, false, false] rfl rfl (Ad B.out wC.out (by kernel_rfl)) (fun _ _ _ h => h) (Or.inl ⟨by rfl, ?_⟩) J ?_ ?_
   rotate_left
   ·rintro w' ⟨s0, s1, s2, s3, s4, s5, s6, s7, s8, s9, dD, eD, fD, gD, hD, fE, gE, hE, jE, kE⟩
    go_simp
    with_reducible rfl
   rotate_left
   ·simp only [ps]
    rfl
   refine BI (i := 6) (N := some 54) (v := ?_) (a' := ?_) (tf 8 11) rfl rfl (Ad B.out wC.out (by kernel_rfl)) (fun _ _ _ h => h) (Or.inl ⟨by rfl, ?_⟩) J ?_ ?_
   rotate_left
   ·rintro w' ⟨s0, s1, s2, s3, s4, s5, s6, s7, s8, s9, dD, eD, fD, gD, hD, fE, gE, hE, jE, kE⟩
    go_simp
    with_reducible rfl
   rotate_left
   ·simp only [ps]
    rfl
   refine BI (i := 8) (N := some 56) (v := ?_) (a' := ?_) (tf 9 10) rfl rfl (Ad B.out wC.out (by kernel_rfl)) (fun _ _ _ h => h) (Or.inl ⟨by rfl, ?_⟩) J ?_ ?_
   rotate_left
   ·rintro w' ⟨s0, s1, s2, s3, s4, s5, s6, s7, s8, s9, dD, eD, fD, gD, hD, fE, gE, hE, jE, kE⟩
    go_simp
    with_reducible rfl
   rotate_left
   ·simp only [ps]
    rfl
   refine pv 9 57 (tf 10 9) B ?_
   refine BI (i := 10) (N := some 58) (v := ?_) (a' := ?_) (tf 11 8) rfl rfl (Ad B.out wC.out (by kernel_rfl)) (fun _ _ _ h => h) (Or.inl ⟨by rfl, ?_⟩) J ?_ ?_
   rotate_left
   ·rintro w' ⟨s0, s1, s2, s3, s4, s5, s6, s7, s8, s9, dD, eD, fD, gD, hD, fE, gE, hE, jE, kE⟩
    go_simp
    with_reducible rfl
   rotate_left
   ·simp only [ps]
    rfl
   refine pv 11 59 (tf 12 7) B ?_
   refine pv 12 60 (tf 13 6) B ?_
   refine C9 (i := 13) (N := some 61) (tf 14 5) rfl rfl (Bp B.out (by kernel_rfl)) (by decide) (fun K hK => ?_)
   refine Ca Try.func33 (by kernel_rfl) rfl #[.agg #[.int .i64 eB, .int .i64 fB, .string gB, .slice cC cB.length eC, .slice dC dB.length fC], .agg #[.int .i64 xC, .int .i64 yC, .slice aB X.length bB, .slice jD vC.length kD, .slice sB Y.length tB], .int .i64 G, .int .i64 (wrap64 ((wrap64 (G + (rd y 0))) - 1))] (by rfl) rfl rfl (by (try simp only [List.map_toArray, List.map_cons, List.map_nil]); first | done | rfl | (simp only [List.length_drop, List.length_take]; rfl)) ?_
   with_reducible refine (Af.calls vE eB fB gB _ _ cB _ _ dB xC yC (fun x => some x = (.slice aB X.length bB : Value).ownBlock) _ _ X (fun x => (((((some x ≠ (.slice aB X.length bB : Value).ownBlock ∧ (some x ≠ (.slice sB Y.length tB : Value).ownBlock ∧ (x ≠ d ∧ x ≠ z))) ∧ some x ≠ (.slice tF zC.length gG : Value).ownBlock) ∧ some x ≠ (.slice uG lD.length cH : Value).ownBlock) ∧ some x ≠ (.slice vG mD.length dH : Value).ownBlock) ∧ some x ≠ (v626 : Value).ownBlock)) _ _ vC (fun x => (((((some x ≠ (.slice aB X.length bB : Value).ownBlock ∧ (x ≠ d ∧ x ≠ z)) ∧ some x ≠ (.slice tF zC.length gG : Value).ownBlock) ∧ some x ≠ (.slice uG lD.length cH : Value).ownBlock) ∧ some x ≠ (.slice vG mD.length dH : Value).ownBlock) ∧ some x ≠ (v626 : Value).ownBlock)) _ _ Y G (wrap64 ((wrap64 (G + (rd y 0))) - 1)) kH lH _ ?side8 ?side1 ?side2 ?side3 ?side4 ?side5 ?side6 ?side7 hJ.out).mono ?_
   (case side1 => exact cu vD U)
   (case side2 => exact tD.out)
   (case side3 => exact cu wD U)
   (case side4 => exact uD.out)
   (case side5 => exact Kd.R_V (Kd.Ee rfl (Kd.AZ (Kd.AZ (Kd.AL (Kd.AL (Kd.AL (Kd.AL (c.out) (Kd.AU b.out) (by decide)) (Kd.AU s.out) (by decide)) (Kd.AU u.out) (by decide)) (Kd.AU I.out) (by decide)) a.out (by decide)) l.out (by decide))))
   (case side6 => exact m.out)
   (case side7 => exact Kd.N_V (b.out))
   (case side8 => exact Aj HG.out (be2 U L W))
   rintro e eQ ⟨v631, rfl, O, Z⟩
   refine ⟨_, rfl, ?_⟩
   have pC := rb c Z
   have qC := mk0 (Kd.BL (Bu m.out) (by first | exact Kd.Aq O | exact Kd.BZ O) Z)
   have rC := mk0 (Kd.CF (CU b.out) (by first | exact Kd.Aq O | exact Kd.BZ O) Z)
   have sC := rb D Z
   have tC := mk0 (Kd.CF (CU s.out) (by first | exact Kd.Aq O | exact Kd.BZ O) Z)
   have uC := mk0 (Kd.CF (CU u.out) (by first | exact Kd.Aq O | exact Kd.BZ O) Z)
   have aD := mk0 (Kd.CF (CU I.out) (by first | exact Kd.Aq O | exact Kd.BZ O) Z)
   have bD := mk0 (Kd.Cn (Kd.Bh (ok' := fun x => some x ≠ (.slice tF zC.length gG : Value).ownBlock ∧ some x ≠ (.slice uG lD.length cH : Value).ownBlock ∧ some x ≠ (.slice vG mD.length dH : Value).ownBlock ∧ some x ≠ (v626 : Value).ownBlock ∧ x ≠ d ∧ x ≠ z) O (fun x T => ⟨Or.elim T (fun j => Or.elim j (fun j => ((Kd.AZ (Kd.AZ (Kd.AL (Kd.AL (Kd.AL (Kd.AL (c.out) (Kd.AU b.out) (by decide)) (Kd.AU s.out) (by decide)) (Kd.AU u.out) (by decide)) (Kd.AU I.out) (by decide)) a.out (by decide)) l.out (by decide)).1 x j.symm).1.1.1.1.1.1.2) (fun j => Or.elim j (fun j => j.1.1.1.2) (fun j => j.1.1.1.2))) (fun jB => (Kd.fresh' (Kd.Da (Ck D.out)) x jB)), Or.elim T (fun j => Or.elim j (fun j => ((Kd.AZ (Kd.AZ (Kd.AL (Kd.AL (Kd.AL (Kd.AL (c.out) (Kd.AU b.out) (by decide)) (Kd.AU s.out) (by decide)) (Kd.AU u.out) (by decide)) (Kd.AU I.out) (by decide)) a.out (by decide)) l.out (by decide)).1 x j.symm).1.1.1.1.2) (fun j => Or.elim j (fun j => j.1.1.2) (fun j => j.1.1.2))) (fun jB => (Kd.fresh' (Kd.EH (CU s.out)) x jB)), Or.elim T (fun j => Or.elim j (fun j => ((Kd.AZ (Kd.AZ (Kd.AL (Kd.AL (Kd.AL (Kd.AL (c.out) (Kd.AU b.out) (by decide)) (Kd.AU s.out) (by decide)) (Kd.AU u.out) (by decide)) (Kd.AU I.out) (by decide)) a.out (by decide)) l.out (by decide)).1 x j.symm).1.1.1.2) (fun j => Or.elim j (fun j => j.1.2) (fun j => j.1.2))) (fun jB => (Kd.fresh' (Kd.EH (CU u.out)) x jB)), Or.elim T (fun j => Or.elim j (fun j => ((Kd.AZ (Kd.AZ (Kd.AL (Kd.AL (Kd.AL (Kd.AL (c.out) (Kd.AU b.out) (by decide)) (Kd.AU s.out) (by decide)) (Kd.AU u.out) (by decide)) (Kd.AU I.out) (by decide)) a.out (by decide)) l.out (by decide)).1 x j.symm).1.1.2) (fun j => Or.elim j (fun j => j.2) (fun j => j.2))) (fun jB => (Kd.fresh' (Kd.EH (CU I.out)) x jB)), Or.elim T (fun j => Or.elim j (fun j => ((Kd.AZ (Kd.AZ (Kd.AL (Kd.AL (Kd.AL (Kd.AL (c.out) (Kd.AU b.out) (by decide)) (Kd.AU s.out) (by decide)) (Kd.AU u.out) (by decide)) (Kd.AU I.out) (by decide)) a.out (by decide)) l.out (by decide)).1 x j.symm).1.2) (fun j => Or.elim j (fun j => j.1.1.1.1.2.2.1) (fun j => j.1.1.1.1.2.1))) (fun jB => (Kd.Av (g := d) (o := .cells #[.int .i64 eB, .int .i64 fB, .string gB, .slice cC cB.length eC, .slice dC dB.length fC, .int .i64 gC, .int .i64 hC, .slice iC zB.length lC, .slice jC aC.length mC, .slice kC bC.length nC, .int .i64 G, .slice uB hB.length wB, .slice (some qB) y.length xB, .bool oB] 40 (0, 0)) (Ae a.out) x jB)), Or.elim T (fun j => Or.elim j (fun j => ((Kd.AZ (Kd.AZ (Kd.AL (Kd.AL (Kd.AL (Kd.AL (c.out) (Kd.AU b.out) (by decide)) (Kd.AU s.out) (by decide)) (Kd.AU u.out) (by decide)) (Kd.AU I.out) (by decide)) a.out (by decide)) l.out (by decide)).1 x j.symm).2) (fun j => Or.elim j (fun j => j.1.1.1.1.2.2.2) (fun j => j.1.1.1.1.2.2))) (fun jB => (Kd.Av (g := z) (o := .cells #[.int .i64 xC, .int .i64 yC, .slice aB X.length bB, .slice jD vC.length kD, .slice sB Y.length tB] 33 (0, 0)) (Ae l.out) x jB))⟩)) (AX (be2 U L W)))
   have cD := kb a Z
   have nD := kb l Z
   have xE := kh2 U L W Z
   clear c; clear m; clear b; clear D; clear s; clear u; clear I; clear a; clear l; clear U; have c := pC; have m := qC; have b := rC; have D := sC; have s := tC; have u := uC; have I := aD; have qD := bD; have a := cD; have l := nD; have U := xE; clear pC qC rC sC tC uC aD bD cD nD xE
   try clear Z
   try clear O
   refine hK.out _ _ ⟨bc a 0, bc a 1, bc a 2, bc a 3, bc a 4, bc a 5, bc a 6, bc a 7, bc a 8, bc a 9, bc a 10, bc a 11, bc a 12, bc a 13, bc l 0, bc l 1, bc l 2, bc l 3, bc l 4, (AO U.out yB)⟩ (fun J => ?_)
   clear hK K
   refine Bz (a' := ?_) ?_ ?_
   rotate_left
   ·show Act.put _ (some 61) _ = _
    simp only [ps]
    rfl
   refine pv 14 47 (tf 15 4) B ?_
   refine pv 15 62 (tf 16 3) B ?_
   refine pv 16 63 (tf 17 2) B ?_
   refine pv 17 7 (tf 18 1) B ?_
   refine pv 18 8 (tf 19 0) B ?_
   refine Di (Co B.out (by kernel_rfl)) ?_
   obtain ⟨hP, lP, oM⟩ := Kd.Ch I.out
   subst oM
   obtain ⟨iP, mP, pM⟩ := Kd.Ch qD.out
   subst pM
   try go_wp2_with (first | (go_at_call 35; (with_reducible refine (DZ.calls ?side1 ?side2 ?side3 ?side4 iM.out).mono ?_); (case side1 => repeat (first | exact (Kd.DR I.out).2.2 | (with_reducible refine Kd.CV ?_ _) | (with_reducible refine Kd.CW ?_ _) | (with_reducible refine Kd.Cr ?_))); (case side2 => exact (Kd.DR I.out).2.1); (case side3 => repeat (first | exact (Kd.DR qD.out).2.2 | (with_reducible refine Kd.CV ?_ _) | (with_reducible refine Kd.CW ?_ _) | (with_reducible refine Kd.Cr ?_))); (case side4 => exact (Kd.DR qD.out).2.1); rintro e fQ ⟨rfl, Z⟩; replace c := rb c Z; replace m := vb m Z; replace b := nb b Z; replace D := rb D Z; replace s := nb s Z; replace u := nb u Z; replace I := nb I Z; replace qD := nb qD Z; obtain ⟨a, l⟩ := tb2 Z a l; replace U := kh2 U L W Z) | (go_at_call 16; refine (Dj.calls vE  nG _ (Aj HG.out (be2 U L W)) mO.out).mono ?_; rintro e gQ ⟨rfl, Z⟩; replace c := rb c Z; replace m := vb m Z; replace b := nb b Z; replace D := rb D Z; replace s := nb s Z; replace u := nb u Z; replace I := nb I Z; replace qD := nb qD Z; obtain ⟨a, l⟩ := tb2 Z a l; replace U := kh2 U L W Z))
   go_ret
   exact ⟨rfl, be2 U L W⟩
end Go.Proofs.Ytojankgmedccdaa.PGn
