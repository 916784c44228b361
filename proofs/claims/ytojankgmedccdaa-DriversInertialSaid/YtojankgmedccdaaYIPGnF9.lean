/- Lemmas for LawDriversInertial. -/
import Derived.Test.YtojankgmedccdaaYIAwB
import Derived.Test.YtojankgmedccdaaYIPGnF21
import Derived.Test.YtojankgmedccdaaYIPGnF22
namespace Go.Proofs.Ytojankgmedccdaa.PGn
open Go.RowKit Own PTy Hand PIs PAw YtojankgmedccdaaW.PrintWords YtojankgmedccdaaW.PrintLast YtojankgmedccdaaW.PrintMore
attribute [local go_sem] BI BJ Bc Bd Av Ay BK BL
set_option linter.unusedVariables false
set_option linter.unusedSimpArgs false
def AL.l0 : Nat → List (S63) → Int → Int → Int → Int → ByteArray → List ByteArray → List (S26) → Int → Int → List Int → List (S30) → List (S63) → Int → List (S30) → List Int → Bool → Int → Int → List Int → List (S30) → List (S63) → Option (Bool)
 | 0, _, _, _, _, _, _, _, _, _, _, _, _, _, _, _, _, _, _, _, _, _, _ => none
 | k + 1, q, y, x24, e, g, h, i, j, r, s, u, v, w, d, a, b, x, l, m, n, o, p => if x24 < y then (if 0 ≤ x24 then (if x24 < (q.length : Int) then (if 0 < (b.length : Int) then (if ((AA q x24).f0) < (wrap64 (d + (rd b 0))) then (if 0 < (a.length : Int) then ((Ba.f k ((AA q x24).f1.f0) ((AA q x24).f1.f1) ((AA q x24).f1.f2) ((AA q x24).f1.f3) ((AC a 0).f0) ((AC a 0).f1) ((AC a 0).f2) ((AC a 0).f3)).bind fun z => (if z = true then (AL.l0 k q y (wrap64 (x24 + 1)) e g h i j r s u v w d a b x l m n o p) else (some false))) else (none)) else (AL.l0 k q y (wrap64 (x24 + 1)) e g h i j r s u v w d a b x l m n o p)) else (none)) else (none)) else (none)) else (if 0 < (b.length : Int) then (if (rd b 0) = 0 then ((Cv.f k).bind fun B => (some B)) else ((Ah.f k e g h i j l m n o p d (wrap64 ((wrap64 (d + (rd b 0))) - 1))).bind fun c => (if c.2 = 0 then (if (c.1.length : Int) = 0 then ((Cv.f k).bind fun D => (some D)) else (if (c.1.length : Int) = 1 then (if 0 < (c.1.length : Int) then (if 0 < (a.length : Int) then ((Ba.f k ((AA c.1 0).f1.f0) ((AA c.1 0).f1.f1) ((AA c.1 0).f1.f2) ((AA c.1 0).f1.f3) ((AC a 0).f0) ((AC a 0).f1) ((AC a 0).f2) ((AC a 0).f3)).bind fun G => (if G = true then ((Cv.f k).bind fun I => (some I)) else (some false))) else (none)) else (none)) else (some false))) else (some false)))) else (none))
def AL.f (k : Nat) (g : Int) (h : Int) (i : ByteArray) (m : List ByteArray) (n : List (S26)) (j : Int) (l : Int) (o : List Int) (p : List (S30)) (q : List (S63)) (b : Int) (d : List (S30)) (e : List Int) (c : Bool) : Option (Bool) := (DR.f k g h i m n j l o p q b d e c).bind fun r => (if r = true then ((Bi.f k g h i m n j l o p q b d e c false).bind fun a => (if a.2.2.2.2.2 = 0 then (AL.l0 k a.2.2.2.2.1 (a.2.2.2.2.1.length : Int) 0 g h i m n j l o p q b d e c a.1 a.2.1 a.2.2.1 a.2.2.2.1 a.2.2.2.2.1) else ((Cv.f k).bind fun u => (some u)))) else ((Cv.f k).bind fun s => (some s)))
def AL.T9 : Bool × List (List Nat × List Nat) := (true, [([], []), ([0], [0]), ([], []), ([2], [2]), ([], []), ([4], [4]), ([5], [5]), ([6], [6]), ([3, 7], [3, 7]), ([1, 8], [1, 8]), ([9], [9]), ([10], [10]), ([11, 10], [10, 11]), ([10], [10]), ([13, 10], [10, 13]), ([14, 10], [10, 14]), ([15, 10], [10, 15]), ([12, 16, 10, 10], [10, 12, 16]), ([17, 10], [10, 17]), ([10, 18], [10, 18])])
def AL.B9 : List Nat := [0, 1, 0, 4, 0, 16, 48, 112, 252, 511, 1023, 2047, 4095, 2047, 10239, 26623, 59391, 131071, 262143, 524287]
theorem AL.O9 : Cs .any (opsOf Try.f9 9) = AL.T9 := by kernel_rfl
theorem AL.NL : CX AL.T9.2 AL.B9 = true := by kernel_rfl
def AL.T14 : Bool × List (List Nat × List Nat) := (true, [([], []), ([0], [0]), ([], []), ([], []), ([3], [3]), ([], []), ([5], [5]), ([], []), ([7], [7]), ([8], [8]), ([9], [9]), ([6, 10], [6, 10]), ([11], [11]), ([1, 2, 4, 12], [1, 2, 4, 12]), ([13], [13]), ([14], [14]), ([14], [14]), ([15, 13, 0, 1, 2, 3, 4, 5, 6, 7, 8, 9, 10, 11, 12, 13, 14, 15], [15]), ([16, 17, 0, 1, 2, 3, 4, 5, 6, 7, 8, 9, 10, 11, 12, 13, 14, 15, 16, 17], [16])])
def AL.B14 : List Nat := [0, 1, 0, 0, 8, 0, 32, 0, 128, 384, 896, 2016, 4064, 8191, 16383, 32767, 32767, 65535, 262143]
theorem AL.J7 : Cs .any (opsOf Try.f9 14) = AL.T14 := by kernel_rfl
theorem AL.IU : CX AL.T14.2 AL.B14 = true := by kernel_rfl
def AL.T15 : Bool × List (List Nat × List Nat) := (true, [([], []), ([0], [0]), ([1], [1]), ([2], [2]), ([3, 2], [2, 3]), ([4, 2], [2, 4]), ([5, 2, 2], [2, 5]), ([6], [6]), ([7, 6], [6, 7]), ([8, 6], [6, 8]), ([9, 6, 6], [6, 9]), ([10], [10]), ([11, 10], [10, 11]), ([12, 10], [10, 12]), ([13, 10], [10, 13]), ([10], [10]), ([15, 10], [10, 15]), ([16, 10], [10, 16]), ([17, 10], [10, 17]), ([14, 18, 10, 10], [10, 14, 18]), ([10, 19, 6], [6, 10, 19]), ([6, 20, 2], [2, 6, 20]), ([2, 21], [2, 21]), ([22, 19], [22]), ([23, 23], [23]), ([23, 24], [23, 24]), ([25, 24, 0, 1, 2, 3, 4, 5, 6, 7, 8, 9, 10, 11, 12, 13, 14, 15, 16, 17, 18, 19, 20, 21, 22, 23, 24, 25], [25])])
def AL.B15 : List Nat := [0, 1, 3, 7, 15, 31, 63, 127, 255, 511, 1023, 2047, 4095, 8191, 16383, 2047, 34815, 100351, 231423, 524287, 1048575, 2097151, 4194303, 8388607, 16777215, 33554431, 67108863]
theorem AL.J8 : Cs .any (opsOf Try.f9 15) = AL.T15 := by kernel_rfl
theorem AL.IV : CX AL.T15.2 AL.B15 = true := by kernel_rfl
set_option maxHeartbeats 8000000 in
set_option maxRecDepth 100000 in
theorem AL.calls (k : Nat) (cC : Int) (dC : Int) (eC : ByteArray) (iC : Option Addr) (kC : Nat) (oB : List ByteArray) (jC : Option Addr) (lC : Nat) (qB : List (S26)) (rC : Int) (sC : Int) (tC : Option Addr) (wC : Nat) (mC : List Int) (uC : Option Addr) (xC : Nat) (nC : List (S30)) (vC : Option Addr) (yC : Nat) (oC : List (S63)) (L : Int) (gC : Option Addr) (sB : Nat) (z : List (S30)) (bD : Option Addr) (tB : Nat) (B : List Int) (kB : Bool) (r : Bool) (w : World) (hG : D5 w) (rM : Kd.C Kd.string w iC oB.length oB) (uL : oB.length ≤ kC) (sM : Kd.C k26 w jC qB.length qB) (vL : qB.length ≤ lC) (tM : Kd.C (Kd.int .u8) w tC mC.length mC) (wL : mC.length ≤ wC) (uM : Kd.C k30 w uC nC.length nC) (xL : nC.length ≤ xC) (vM : Kd.C k63 w vC oC.length oC) (yL : oC.length ≤ yC) (jL : Kd.C k30 w gC z.length z) (hL : z.length ≤ sB) (kL : Kd.C (Kd.int .i64) w bD B.length B) (iL : B.length ≤ tB) (h : AL.f k cC dC eC oB qB rC sC mC nC oC L z B kB = some r) :
  Calls Try.prog 9 #[.agg #[.int .i64 cC, .int .i64 dC, .string eC, .slice iC oB.length kC, .slice jC qB.length lC, .int .i64 rC, .int .i64 sC, .slice tC mC.length wC, .slice uC nC.length xC, .slice vC oC.length yC, .int .i64 L, .slice gC z.length sB, .slice bD B.length tB, .bool kB]] w fun e w' => e = .returned (.bool r) ∧ Below w.heap.size w w' := by
 have HG := mk0 hG; clear hG
 have y3 := Try.underlying40
 have r3 := Try.underlying33
 have b4 := Try.underlying63
 have q3 := Try.underlying30
 have p3 := Try.underlying26
 have iH := mk0 rM; have eH := mk0 uL; clear rM uL; have jH := mk0 sM; have fH := mk0 vL; clear sM vL; have aK := mk0 tM; have rJ := mk0 wL; clear tM wL; have bK := mk0 uM; have sJ := mk0 xL; clear uM xL; have cK := mk0 vM; have tJ := mk0 yL; clear vM yL; have sG := mk0 jL; have wI := mk0 hL; clear jL hL; have sD := mk0 kL; have xI := mk0 iL; clear kL iL
 have G := mk0 (Below.refl w.heap.size w)
 have H := h; unfold AL.f at H
 clear h
 replace H := bS H; obtain ⟨e4, A2, H⟩ := H
 replace H := iB' H; obtain ⟨rfl, H⟩ | ⟨rfl, H⟩ := H
 ·replace H := bS H; obtain ⟨aA, pT, H⟩ := H; obtain rfl := sI H
  go_enter Try.func9, Try.ntmps9
  go_wp2_with (first | ((with_reducible refine AP rfl (N := 1) rfl (cs := #[.int .i64 cC, .int .i64 dC, .string eC, .slice iC oB.length kC, .slice jC qB.length lC, .int .i64 rC, .int .i64 sC, .slice tC mC.length wC, .slice uC nC.length xC, .slice vC oC.length yC, .int .i64 L, .slice gC z.length sB, .slice bD B.length tB, .bool kB]) (t := 40) ?hr ?_); (case hr => first | (go_simp; done) | (go_simp; rfl)); intro b hg cH cF hb; have a := mk0 (cF); have nJ := bs (be G) hg; have I := bs (be G) hg; replace G := kh G hb; clear hb cF hg; have iQ : cH.cell? ⟨b, 0, none⟩ = some (.int .i64 cC) := bc a 0; have jQ : cH.cell? ⟨b, 1, none⟩ = some (.int .i64 dC) := bc a 1; have kQ : cH.cell? ⟨b, 2, none⟩ = some (.string eC) := bc a 2; have lQ : cH.cell? ⟨b, 3, none⟩ = some (.slice iC oB.length kC) := bc a 3; have mQ : cH.cell? ⟨b, 4, none⟩ = some (.slice jC qB.length lC) := bc a 4; have nQ : cH.cell? ⟨b, 5, none⟩ = some (.int .i64 rC) := bc a 5; have oQ : cH.cell? ⟨b, 6, none⟩ = some (.int .i64 sC) := bc a 6; have pQ : cH.cell? ⟨b, 7, none⟩ = some (.slice tC mC.length wC) := bc a 7; have qQ : cH.cell? ⟨b, 8, none⟩ = some (.slice uC nC.length xC) := bc a 8; have rQ : cH.cell? ⟨b, 9, none⟩ = some (.slice vC oC.length yC) := bc a 9; have wP : cH.cell? ⟨b, 10, none⟩ = some (.int .i64 L) := bc a 10; have xP : cH.cell? ⟨b, 11, none⟩ = some (.slice gC z.length sB) := bc a 11; have yP : cH.cell? ⟨b, 12, none⟩ = some (.slice bD B.length tB) := bc a 12; have zP : cH.cell? ⟨b, 13, none⟩ = some (.bool kB) := bc a 13; have yR := AB a.out 0; have zR := AB a.out 1; have aS := AB a.out 2; have cS := AB a.out 3; have dS := AB a.out 4; have eS := AB a.out 5; have fS := AB a.out 6; have gS := AB a.out 7; have hS := AB a.out 8; have iS := AB a.out 9; have aQ := AB a.out 10; have bQ := AB a.out 11; have cQ := AB a.out 12; have dQ := AB a.out 13) | ((with_reducible refine AR (f := 21) rfl ?_); refine Cb Try.func21 (DR.calls (cu iH G) eH.out (cu jH G) fH.out (cu aK G) rJ.out (cu bK G) sJ.out (cu cK G) tJ.out (cu sG G) wI.out (cu sD G) xI.out A2.out) ?_; intro n4 hb; replace a := kb a hb; replace G := kh1 G I hb) | ((with_reducible refine AR (f := 16) rfl ?_); refine Cb Try.func16 (Cv.calls k  aA _ (Ad HG.out (be1 G I)) pT.out) ?_; intro o4 hb; replace a := kb a hb; replace G := kh1 G I hb))
  go_ret
  exact ⟨rfl, be1 G I⟩
 replace H := Option.bind_eq_some_iff.mp H
 obtain ⟨⟨jE, kE, eB, nD, m, bA⟩, rT, H⟩ := H
 replace H : (if bA = 0 then (AL.l0 k m (m.length : Int) 0 cC dC eC oB qB rC sC mC nC oC L z B kB jE kE eB nD m) else ((Cv.f k).bind fun xM => (some xM))) = some r := H
 have A4 := mk0 rT; clear rT
 replace H := iE' H; obtain ⟨c5, vO, wO, H⟩ | ⟨vO, wO, H⟩ := H
 ·replace H := bS H; obtain ⟨xM, jA, H⟩ := H; obtain rfl := sI H
  go_enter Try.func9, Try.ntmps9
  go_wp2_with (first | ((with_reducible refine AP rfl (N := 1) rfl (cs := #[.int .i64 cC, .int .i64 dC, .string eC, .slice iC oB.length kC, .slice jC qB.length lC, .int .i64 rC, .int .i64 sC, .slice tC mC.length wC, .slice uC nC.length xC, .slice vC oC.length yC, .int .i64 L, .slice gC z.length sB, .slice bD B.length tB, .bool kB]) (t := 40) ?hr ?_); (case hr => first | (go_simp; done) | (go_simp; rfl)); intro b hg lJ cF hb; have a := mk0 (cF); have nJ := bs (be G) hg; have I := bs (be G) hg; replace G := kh G hb; clear hb cF hg; have eW : lJ.cell? ⟨b, 0, none⟩ = some (.int .i64 cC) := bc a 0; have fW : lJ.cell? ⟨b, 1, none⟩ = some (.int .i64 dC) := bc a 1; have gW : lJ.cell? ⟨b, 2, none⟩ = some (.string eC) := bc a 2; have hW : lJ.cell? ⟨b, 3, none⟩ = some (.slice iC oB.length kC) := bc a 3; have iW : lJ.cell? ⟨b, 4, none⟩ = some (.slice jC qB.length lC) := bc a 4; have jW : lJ.cell? ⟨b, 5, none⟩ = some (.int .i64 rC) := bc a 5; have kW : lJ.cell? ⟨b, 6, none⟩ = some (.int .i64 sC) := bc a 6; have lW : lJ.cell? ⟨b, 7, none⟩ = some (.slice tC mC.length wC) := bc a 7; have mW : lJ.cell? ⟨b, 8, none⟩ = some (.slice uC nC.length xC) := bc a 8; have nW : lJ.cell? ⟨b, 9, none⟩ = some (.slice vC oC.length yC) := bc a 9; have qR : lJ.cell? ⟨b, 10, none⟩ = some (.int .i64 L) := bc a 10; have rR : lJ.cell? ⟨b, 11, none⟩ = some (.slice gC z.length sB) := bc a 11; have sR : lJ.cell? ⟨b, 12, none⟩ = some (.slice bD B.length tB) := bc a 12; have tR : lJ.cell? ⟨b, 13, none⟩ = some (.bool kB) := bc a 13; have gZ := AB a.out 0; have hZ := AB a.out 1; have iZ := AB a.out 2; have jZ := AB a.out 3; have kZ := AB a.out 4; have lZ := AB a.out 5; have mZ := AB a.out 6; have nZ := AB a.out 7; have oZ := AB a.out 8; have pZ := AB a.out 9; have hT := AB a.out 10; have iT := AB a.out 11; have jT := AB a.out 12; have kT := AB a.out 13) | ((with_reducible refine AR (f := 21) rfl ?_); refine Cb Try.func21 (DR.calls (cu iH G) eH.out (cu jH G) fH.out (cu aK G) rJ.out (cu bK G) sJ.out (cu cK G) tJ.out (cu sG G) wI.out (cu sD G) xI.out A2.out) ?_; intro mJ hb; replace a := kb a hb; replace G := kh1 G I hb; have oW : mJ.cell? ⟨b, 0, none⟩ = some (.int .i64 cC) := bc a 0; have pW : mJ.cell? ⟨b, 1, none⟩ = some (.int .i64 dC) := bc a 1; have qW : mJ.cell? ⟨b, 2, none⟩ = some (.string eC) := bc a 2; have rW : mJ.cell? ⟨b, 3, none⟩ = some (.slice iC oB.length kC) := bc a 3; have sW : mJ.cell? ⟨b, 4, none⟩ = some (.slice jC qB.length lC) := bc a 4; have tW : mJ.cell? ⟨b, 5, none⟩ = some (.int .i64 rC) := bc a 5; have uW : mJ.cell? ⟨b, 6, none⟩ = some (.int .i64 sC) := bc a 6; have vW : mJ.cell? ⟨b, 7, none⟩ = some (.slice tC mC.length wC) := bc a 7; have wW : mJ.cell? ⟨b, 8, none⟩ = some (.slice uC nC.length xC) := bc a 8; have xW : mJ.cell? ⟨b, 9, none⟩ = some (.slice vC oC.length yC) := bc a 9; have uR : mJ.cell? ⟨b, 10, none⟩ = some (.int .i64 L) := bc a 10; have vR : mJ.cell? ⟨b, 11, none⟩ = some (.slice gC z.length sB) := bc a 11; have wR : mJ.cell? ⟨b, 12, none⟩ = some (.slice bD B.length tB) := bc a 12; have xR : mJ.cell? ⟨b, 13, none⟩ = some (.bool kB) := bc a 13; have qZ := AB a.out 0; have rZ := AB a.out 1; have sZ := AB a.out 2; have tZ := AB a.out 3; have uZ := AB a.out 4; have vZ := AB a.out 5; have wZ := AB a.out 6; have xZ := AB a.out 7; have yZ := AB a.out 8; have zZ := AB a.out 9; have lT := AB a.out 10; have mT := AB a.out 11; have nT := AB a.out 12; have oT := AB a.out 13) | ((with_reducible refine AR (f := 22) rfl ?_); refine Ii Try.func22 #[.agg #[.int .i64 cC, .int .i64 dC, .string eC, .slice iC oB.length kC, .slice jC qB.length lC, .int .i64 rC, .int .i64 sC, .slice tC mC.length wC, .slice uC nC.length xC, .slice vC oC.length yC, .int .i64 L, .slice gC z.length sB, .slice bD B.length tB, .bool kB], .bool false] ?_; (with_reducible refine (Bi.calls (fun J => J < w.heap.size) ?side14 ?side1 ?side2 ?side3 ?side4 ?side5 ?side6 ?side7 ?side8 ?side9 ?side10 ?side11 ?side12 ?side13 A4.out).mono ?_); (case side1 => exact cu iH G); (case side2 => exact eH.out); (case side3 => exact cu jH G); (case side4 => exact fH.out); (case side5 => exact cu aK G); (case side6 => exact rJ.out); (case side7 => exact cu bK G); (case side8 => exact sJ.out); (case side9 => exact cu cK G); (case side10 => exact tJ.out); (case side11 => exact Kd.Cu wI.out (Kd.CR (Kd.C_F Eg sG.out) (be1 G I))); (case side12 => exact cu sD G); (case side13 => exact xI.out); (case side14 => exact Ad HG.out (be1 G I)); rintro e n6 ⟨v642, v645, v648, rfl, qD, pM, qM, hb⟩; refine ⟨_, rfl, ?_⟩; have gH := mk0 (Kd.Cm (Kd.BS (ok' := fun J => True) qD (fun _ tF => trivial)) (AZ (be1 G I))); have hH := mk0 (Kd.Ej (Kd.AO (ok' := fun J => some J ≠ (v642 : Value).ownBlock ∧ some J ≠ (v648 : Value).ownBlock ∧ J ≠ b) pM (fun J tF => ⟨tF.2.1, tF.2.2, Or.elim tF.1 (fun bB => fun e_ => Nat.not_le.2 bB (by rw [e_]; exact nJ.out)) (fun aG => (Kd.BG (g := b) (o := .cells #[.int .i64 cC, .int .i64 dC, .string eC, .slice iC oB.length kC, .slice jC qB.length lC, .int .i64 rC, .int .i64 sC, .slice tC mC.length wC, .slice uC nC.length xC, .slice vC oC.length yC, .int .i64 L, .slice gC z.length sB, .slice bD B.length tB, .bool kB] 40 (0, 0)) (Af a.out) J aG))⟩)) (AZ (be1 G I))); have tG := mk0 (Kd.DY (Kd.Be (ok' := fun J => some J ≠ (v642 : Value).ownBlock ∧ J ≠ b) qM (fun J tF => ⟨tF.2, Or.elim tF.1 (fun bB => fun e_ => Nat.not_le.2 bB (by rw [e_]; exact nJ.out)) (fun aG => (Kd.BG (g := b) (o := .cells #[.int .i64 cC, .int .i64 dC, .string eC, .slice iC oB.length kC, .slice jC qB.length lC, .int .i64 rC, .int .i64 sC, .slice tC mC.length wC, .slice uC nC.length xC, .slice vC oC.length yC, .int .i64 L, .slice gC z.length sB, .slice bD B.length tB, .bool kB] 40 (0, 0)) (Af a.out) J aG))⟩)) (AZ (be1 G I))); replace a := kb a hb; replace G := kh1 G I hb; (try clear qD); (try clear pM); (try clear qM)) | ((with_reducible refine AP rfl (N := 3) rfl (cs := #[.int .i64 0, .int .i64 0, .slice none 0 0, .slice none 0 0, .slice none 0 0]) (t := 33) ?hr ?_); (case hr => first | (go_simp; done) | (go_simp; rfl)); intro D hg l4 cF hb; obtain ⟨hH, tG⟩ := tg2 hg hb hH tG; replace gH := rb gH hb; have s := mk0 (cF); have fB := bs (be1 G I) hg; replace G := kh1 G I hb; have ⟨tD, lE⟩ := nn a hg; replace a := kb a hb; clear hb cF hg; have ⟨dA, eA⟩ := no lE tD; have y2 := cells5 s.out; obtain ⟨cP, qP, tP⟩ := Kd.Bw gH.out; subst tP; obtain ⟨dP, rP, uP⟩ := Kd.DU hH.out; subst uP; obtain ⟨eP, sP, vP⟩ := Kd.Cw tG.out; subst vP) | ((with_reducible refine AR (f := 16) rfl ?_); refine Cb Try.func16 (Cv.calls k  xM _ (Ad HG.out (be2 G I fB)) jA.out) ?_; intro m4 hb; replace gH := mk0 (Kd.EM (DZ ((Kd.BS (rI (q := D) (Kd.Ao gH.out s.out (by decide)) (fun _ T => T.2)) (fun _ h_ => h_.1)))) hb); replace hH := mk0 (Kd.Bj (BH ((vF (q := D) hH (fun _ T => T.2)))) hb); replace tG := mk0 (Kd.Dk (Dt ((nF (q := D) tG (fun _ T => T.2)))) hb); replace a := kF tD a hb; replace s := mk0 (AY (g := D) (o := .cells #[.int .i64 jE, .int .i64 kE, .slice cP eB.length qP, .slice dP nD.length rP, .slice eP m.length sP] 33 (0, 0)) (pB s) hb); replace G := kh2 G I fB hb))
  go_ret
  exact ⟨rfl, be2 G I fB⟩
 have H' := mk0 H
 clear H
 go_enter Try.func9, Try.ntmps9
 go_wp2_with (first | ((with_reducible refine AP rfl (N := 1) rfl (cs := #[.int .i64 cC, .int .i64 dC, .string eC, .slice iC oB.length kC, .slice jC qB.length lC, .int .i64 rC, .int .i64 sC, .slice tC mC.length wC, .slice uC nC.length xC, .slice vC oC.length yC, .int .i64 L, .slice gC z.length sB, .slice bD B.length tB, .bool kB]) (t := 40) ?hr ?_); (case hr => first | (go_simp; done) | (go_simp; rfl)); intro b hg w6 cF hb; have a := mk0 (cF); have nJ := bs (be G) hg; have I := bs (be G) hg; replace G := kh G hb; clear hb cF hg; have fN : w6.cell? ⟨b, 0, none⟩ = some (.int .i64 cC) := bc a 0; have gN : w6.cell? ⟨b, 1, none⟩ = some (.int .i64 dC) := bc a 1; have hN : w6.cell? ⟨b, 2, none⟩ = some (.string eC) := bc a 2; have jN : w6.cell? ⟨b, 3, none⟩ = some (.slice iC oB.length kC) := bc a 3; have kN : w6.cell? ⟨b, 4, none⟩ = some (.slice jC qB.length lC) := bc a 4; have lN : w6.cell? ⟨b, 5, none⟩ = some (.int .i64 rC) := bc a 5; have mN : w6.cell? ⟨b, 6, none⟩ = some (.int .i64 sC) := bc a 6; have nN : w6.cell? ⟨b, 7, none⟩ = some (.slice tC mC.length wC) := bc a 7; have oN : w6.cell? ⟨b, 8, none⟩ = some (.slice uC nC.length xC) := bc a 8; have pN : w6.cell? ⟨b, 9, none⟩ = some (.slice vC oC.length yC) := bc a 9; have zL : w6.cell? ⟨b, 10, none⟩ = some (.int .i64 L) := bc a 10; have aM : w6.cell? ⟨b, 11, none⟩ = some (.slice gC z.length sB) := bc a 11; have bM : w6.cell? ⟨b, 12, none⟩ = some (.slice bD B.length tB) := bc a 12; have cM : w6.cell? ⟨b, 13, none⟩ = some (.bool kB) := bc a 13; have aO := AB a.out 0; have bO := AB a.out 1; have cO := AB a.out 2; have dO := AB a.out 3; have eO := AB a.out 4; have fO := AB a.out 5; have gO := AB a.out 6; have hO := AB a.out 7; have iO := AB a.out 8; have jO := AB a.out 9; have hM := AB a.out 10; have iM := AB a.out 11; have jM := AB a.out 12; have kM := AB a.out 13) | ((with_reducible refine AR (f := 21) rfl ?_); refine Cb Try.func21 (DR.calls (cu iH G) eH.out (cu jH G) fH.out (cu aK G) rJ.out (cu bK G) sJ.out (cu cK G) tJ.out (cu sG G) wI.out (cu sD G) xI.out A2.out) ?_; intro w8 hb; replace a := kb a hb; replace G := kh1 G I hb; have qN : w8.cell? ⟨b, 0, none⟩ = some (.int .i64 cC) := bc a 0; have rN : w8.cell? ⟨b, 1, none⟩ = some (.int .i64 dC) := bc a 1; have sN : w8.cell? ⟨b, 2, none⟩ = some (.string eC) := bc a 2; have tN : w8.cell? ⟨b, 3, none⟩ = some (.slice iC oB.length kC) := bc a 3; have uN : w8.cell? ⟨b, 4, none⟩ = some (.slice jC qB.length lC) := bc a 4; have vN : w8.cell? ⟨b, 5, none⟩ = some (.int .i64 rC) := bc a 5; have wN : w8.cell? ⟨b, 6, none⟩ = some (.int .i64 sC) := bc a 6; have xN : w8.cell? ⟨b, 7, none⟩ = some (.slice tC mC.length wC) := bc a 7; have yN : w8.cell? ⟨b, 8, none⟩ = some (.slice uC nC.length xC) := bc a 8; have zN : w8.cell? ⟨b, 9, none⟩ = some (.slice vC oC.length yC) := bc a 9; have dM : w8.cell? ⟨b, 10, none⟩ = some (.int .i64 L) := bc a 10; have eM : w8.cell? ⟨b, 11, none⟩ = some (.slice gC z.length sB) := bc a 11; have fM : w8.cell? ⟨b, 12, none⟩ = some (.slice bD B.length tB) := bc a 12; have gM : w8.cell? ⟨b, 13, none⟩ = some (.bool kB) := bc a 13; have kO := AB a.out 0; have lO := AB a.out 1; have mO := AB a.out 2; have nO := AB a.out 3; have oO := AB a.out 4; have pO := AB a.out 5; have qO := AB a.out 6; have rO := AB a.out 7; have sO := AB a.out 8; have tO := AB a.out 9; have lM := AB a.out 10; have mM := AB a.out 11; have nM := AB a.out 12; have oM := AB a.out 13) | ((with_reducible refine AR (f := 22) rfl ?_); refine Ii Try.func22 #[.agg #[.int .i64 cC, .int .i64 dC, .string eC, .slice iC oB.length kC, .slice jC qB.length lC, .int .i64 rC, .int .i64 sC, .slice tC mC.length wC, .slice uC nC.length xC, .slice vC oC.length yC, .int .i64 L, .slice gC z.length sB, .slice bD B.length tB, .bool kB], .bool false] ?_; (with_reducible refine (Bi.calls (fun J => J < w.heap.size) ?side14 ?side1 ?side2 ?side3 ?side4 ?side5 ?side6 ?side7 ?side8 ?side9 ?side10 ?side11 ?side12 ?side13 A4.out).mono ?_); (case side1 => exact cu iH G); (case side2 => exact eH.out); (case side3 => exact cu jH G); (case side4 => exact fH.out); (case side5 => exact cu aK G); (case side6 => exact rJ.out); (case side7 => exact cu bK G); (case side8 => exact sJ.out); (case side9 => exact cu cK G); (case side10 => exact tJ.out); (case side11 => exact Kd.Cu wI.out (Kd.CR (Kd.C_F Eg sG.out) (be1 G I))); (case side12 => exact cu sD G); (case side13 => exact xI.out); (case side14 => exact Ad HG.out (be1 G I)); rintro e f5 ⟨v642, v645, v648, rfl, qD, pM, qM, hb⟩; refine ⟨_, rfl, ?_⟩; have gH := mk0 (Kd.Cm (Kd.BS (ok' := fun J => True) qD (fun _ tF => trivial)) (AZ (be1 G I))); have hH := mk0 (Kd.Ej (Kd.AO (ok' := fun J => some J ≠ (v642 : Value).ownBlock ∧ some J ≠ (v648 : Value).ownBlock ∧ J ≠ b) pM (fun J tF => ⟨tF.2.1, tF.2.2, Or.elim tF.1 (fun bB => fun e_ => Nat.not_le.2 bB (by rw [e_]; exact nJ.out)) (fun aG => (Kd.BG (g := b) (o := .cells #[.int .i64 cC, .int .i64 dC, .string eC, .slice iC oB.length kC, .slice jC qB.length lC, .int .i64 rC, .int .i64 sC, .slice tC mC.length wC, .slice uC nC.length xC, .slice vC oC.length yC, .int .i64 L, .slice gC z.length sB, .slice bD B.length tB, .bool kB] 40 (0, 0)) (Af a.out) J aG))⟩)) (AZ (be1 G I))); have tG := mk0 (Kd.DY (Kd.Be (ok' := fun J => some J ≠ (v642 : Value).ownBlock ∧ J ≠ b) qM (fun J tF => ⟨tF.2, Or.elim tF.1 (fun bB => fun e_ => Nat.not_le.2 bB (by rw [e_]; exact nJ.out)) (fun aG => (Kd.BG (g := b) (o := .cells #[.int .i64 cC, .int .i64 dC, .string eC, .slice iC oB.length kC, .slice jC qB.length lC, .int .i64 rC, .int .i64 sC, .slice tC mC.length wC, .slice uC nC.length xC, .slice vC oC.length yC, .int .i64 L, .slice gC z.length sB, .slice bD B.length tB, .bool kB] 40 (0, 0)) (Af a.out) J aG))⟩)) (AZ (be1 G I))); replace a := kb a hb; replace G := kh1 G I hb; (try clear qD); (try clear pM); (try clear qM)) | ((with_reducible refine AP rfl (N := 3) rfl (cs := #[.int .i64 0, .int .i64 0, .slice none 0 0, .slice none 0 0, .slice none 0 0]) (t := 33) ?hr ?_); (case hr => first | (go_simp; done) | (go_simp; rfl)); intro D hg g5 cF hb; obtain ⟨hH, tG⟩ := tg2 hg hb hH tG; replace gH := rb gH hb; have s := mk0 (cF); have fB := bs (be1 G I) hg; replace G := kh1 G I hb; have ⟨tD, lE⟩ := nn a hg; replace a := kb a hb; clear hb cF hg; have ⟨g0, j1⟩ := no lE tD; have p4 := cells5 s.out; obtain ⟨lB, mB, tT⟩ := Kd.Bw gH.out; subst tT; obtain ⟨tE, yE, uT⟩ := Kd.DU hH.out; subst uT; obtain ⟨dE, fC, vT⟩ := Kd.Cw tG.out; subst vT))
 go_loopg [24] k (fun kq v24 w' => ∃ (d : Int), v24 = .int .i64 d ∧ Aside0 (AL.l0 kq m (m.length : Int) d cC dC eC oB qB rC sC mC nC oC L z B kB jE kE eB nD m = some r) ∧ Aside0 (kq ≤ k) ∧ Aside0 (Kd.N k63 63 w' w.heap.size (fun J => some J ≠ ((.slice lB eB.length mB) : Value).ownBlock ∧ J ≠ b ∧ J ≠ D) (.slice dE m.length fC) m) ∧ Aside0 (Kd.R (Kd.int .u8) 73 w' w.heap.size (fun _ => True) (.slice lB eB.length mB) eB) ∧ Aside0 (Kd.V k30 30 w' w.heap.size (fun J => some J ≠ ((.slice dE m.length fC) : Value).ownBlock ∧ some J ≠ ((.slice lB eB.length mB) : Value).ownBlock ∧ some J ≠ ((.slice dE m.length fC) : Value).ownBlock ∧ J ≠ b ∧ J ≠ D) (.slice tE nD.length yE) nD) ∧ Aside0 (Kd.N k63 63 w' w.heap.size (fun J => some J ≠ ((.slice lB eB.length mB) : Value).ownBlock ∧ J ≠ b ∧ J ≠ D) (.slice dE m.length fC) m) ∧ Aside0 (w'.heap[b]? = some (.cells #[.int .i64 cC, .int .i64 dC, .string eC, (.slice iC oB.length kC), (.slice jC qB.length lC), .int .i64 rC, .int .i64 sC, (.slice tC mC.length wC), (.slice uC nC.length xC), (.slice vC oC.length yC), .int .i64 L, (.slice gC z.length sB), (.slice bD B.length tB), .bool kB] 40 (0, 0))) ∧ Aside0 (w'.heap[D]? = some (.cells #[.int .i64 jE, .int .i64 kE, (.slice lB eB.length mB), (.slice tE nD.length yE), (.slice dE m.length fC)] 33 (0, 0))) ∧ Aside0 (Below w.heap.size w w'))
 case atStart => exact ⟨(0), rfl, H', ⟨Nat.le_refl _⟩, ⟨Dt (Kd.Be (nI (q := D) (Kd.Be tG.out (fun J T => (⟨T, T.2⟩ : _ ∧ J ≠ D))) (fun _ T => T.2)) (fun _ T => ⟨T.1.1.1, ⟨T.1.1.2, T.1.2⟩⟩))⟩, ⟨DZ (Kd.BS (rI (q := D) (Kd.Ao gH.out s.out (by decide)) (fun _ T => T.2)) (fun _ T => trivial))⟩, ⟨BH (Kd.AO (vI (q := D) (Kd.AO hH.out (fun J T => (⟨T, T.2⟩ : _ ∧ J ≠ D))) (fun _ T => T.2)) (fun _ T => ⟨T.1.1.2.1, ⟨T.1.1.1, ⟨T.1.1.2.1, ⟨T.1.1.2.2, T.1.2⟩⟩⟩⟩))⟩, ⟨Dt (Kd.Be (nI (q := D) (Kd.Be tG.out (fun J T => (⟨T, T.2⟩ : _ ∧ J ≠ D))) (fun _ T => T.2)) (fun _ T => ⟨T.1.1.1, ⟨T.1.1.2, T.1.2⟩⟩))⟩, ⟨bF tD a⟩, ⟨pB s⟩, ⟨be2 G I fB⟩⟩
 case round =>
  clear H'
  try clear c5; try clear vO; try clear wO; try clear fN; try clear gN; try clear zL; try clear aM; try clear bM; try clear cM; try clear hN; try clear jN; try clear kN; try clear lN; try clear mN; try clear nN; try clear oN; try clear pN; try clear aO; try clear bO; try clear hM; try clear iM; try clear jM; try clear kM; try clear cO; try clear dO; try clear eO; try clear fO; try clear gO; try clear hO; try clear iO; try clear jO; try clear qN; try clear rN; try clear dM; try clear eM; try clear fM; try clear gM; try clear sN; try clear tN; try clear uN; try clear vN; try clear wN; try clear xN; try clear yN; try clear zN; try clear kO; try clear lO; try clear lM; try clear mM; try clear nM; try clear oM; try clear mO; try clear nO; try clear oO; try clear pO; try clear qO; try clear rO; try clear sO; try clear tO
  obtain ⟨d, rfl, HA, eN, x, j, p, c, a, s, G⟩ := hrel
  cases gk with
  | zero => exact absurd HA.out (by simp [AL.l0])
  | succ k1 =>
   have H := HA.out; clear HA
   simp only [AL.l0] at H
   replace H := iD H; obtain ⟨-, fP, H⟩ | ⟨-, fP, H⟩ := H
   ·replace H := iN H; obtain ⟨-, lA, H⟩ := H
    replace H := iN H; obtain ⟨-, mA, H⟩ := H
    replace H := iN H; obtain ⟨c20, nA, H⟩ := H
    have oA : decide (0 < B.length) = true := decide_eq_true (by omega)
    clear c20
    replace H := iD' H; obtain ⟨-, gP, H⟩ | ⟨-, gP, H⟩ := H
    ·have H' := mk0 H
     clear H
     have aH : 0 ≤ (d : Int) := od
     have bH : d < (m.length : Int) := od
     obtain ⟨uD, U, X, W, Y, vK, xK, yK, zK, hI, iI, fG, dG, gG, eG⟩ := DF (Kd.Cy x.out).2.2 d aH bH
     cases vK
     obtain ⟨qL, iJ, hJ, uF⟩ := Kd.Jj x.out z63 d aH (by first | exact bH | exact of_decide_eq_true (by assumption) | (have e_ := (Kd.Cy x.out).1; omega))
     obtain ⟨bL, dL, cL, eL, rfl, rF, zE, sF, aF⟩ := DK hJ
     have eE := uF 3 _ rfl
     rw [BO _ _ 3 (by omega)] at eE
     replace eE := Option.some.inj (eE.symm.trans hI)
     injection eE with hva_ hvn_ hvc_
     rw [hva_] at zE
     rw [hvc_] at rF
     have Z := mk0 (show Kd.V (Kd.int .u8) 73 _ w.heap.size _ _ ((AA m d).f1.f2) from Kd.Cu rF zE)
     clear hva_ hvn_ hvc_ zE rF
     have fE := uF 4 _ rfl
     rw [BO _ _ 4 (by omega)] at fE
     replace fE := Option.some.inj (fE.symm.trans iI)
     injection fE with hva_ hvn_ hvc_
     rw [hva_] at aF
     rw [hvc_] at sF
     have aB := mk0 (show Kd.V k30 30 _ w.heap.size _ _ ((AA m d).f1.f3) from Kd.Cu sF aF)
     clear hva_ hvn_ hvc_ aF sF; clear uF iJ; have bG := mk0 dG; have yI := mk0 fG; clear dG fG; have cG := mk0 eG; have zI := mk0 gG; clear eG gG; replace aH := eq_true aH; replace bH := eq_true bH
     try go_wp2_with ((with_reducible refine AP rfl (N := 6) rfl (cs := #[.int .i64 0, .int .i64 0, .int .i64 0, .slice none 0 0, .slice none 0 0]) (t := 63) ?hr ?_); (case hr => first | (go_simp; done) | (go_simp; rfl)); intro l hg qK cF hb; obtain ⟨x, p, c, Z, aB⟩ := tg5 hg hb x p c Z aB; obtain ⟨j, bG, cG⟩ := tb3 hb j bG cG; have O := mk0 (cF); have dH := bs (be2 G I fB) hg; replace G := kh2 G I fB hb; have ⟨uE, uG⟩ := nn a hg; have ⟨vE, vG⟩ := nn s hg; obtain ⟨a, s⟩ := tb2 hb a s; clear hb cF hg; have ⟨q0, q1⟩ := no uG uE; have ⟨r0, r1⟩ := no vG vE; have y4 := cells5 O.out)
     have uB : Aside0 (Kd.N k63 63 (((((qK.setCell ⟨l, 0, none⟩ (.int .i64 ((AA m d).f0))).setCell ⟨l, 1, none⟩ (.int .i64 ((AA m d).f1.f0))).setCell ⟨l, 2, none⟩ (.int .i64 ((AA m d).f1.f1))).setCell ⟨l, 3, none⟩ (.slice U ((AA m d).f1.f2).length X)).setCell ⟨l, 4, none⟩ (.slice W ((AA m d).f1.f3).length Y)) w.heap.size (fun J => some J ≠ (.slice lB eB.length mB : Value).ownBlock ∧ J ≠ b ∧ J ≠ D ∧ J ≠ l) (.slice (some uD) m.length fC) m) := ⟨Dt (Kd.Be (nI (q := l) (Kd.Be x.out (fun J T => (⟨T, T.2⟩ : _ ∧ J ≠ l))) (fun _ T => T.2)) (fun _ T => ⟨T.1.1.1, ⟨T.1.1.2.1, ⟨T.1.1.2.2, T.1.2⟩⟩⟩))⟩
     have wB : Aside0 (Kd.R (Kd.int .u8) 73 (((((qK.setCell ⟨l, 0, none⟩ (.int .i64 ((AA m d).f0))).setCell ⟨l, 1, none⟩ (.int .i64 ((AA m d).f1.f0))).setCell ⟨l, 2, none⟩ (.int .i64 ((AA m d).f1.f1))).setCell ⟨l, 3, none⟩ (.slice U ((AA m d).f1.f2).length X)).setCell ⟨l, 4, none⟩ (.slice W ((AA m d).f1.f3).length Y)) w.heap.size (fun _ => True) (.slice lB eB.length mB) eB) := ⟨DZ (Kd.BS (rI (q := l) (Kd.Ao j.out O.out (by decide)) (fun _ T => T.2)) (fun _ T => trivial))⟩
     have xB : Aside0 (Kd.V k30 30 (((((qK.setCell ⟨l, 0, none⟩ (.int .i64 ((AA m d).f0))).setCell ⟨l, 1, none⟩ (.int .i64 ((AA m d).f1.f0))).setCell ⟨l, 2, none⟩ (.int .i64 ((AA m d).f1.f1))).setCell ⟨l, 3, none⟩ (.slice U ((AA m d).f1.f2).length X)).setCell ⟨l, 4, none⟩ (.slice W ((AA m d).f1.f3).length Y)) w.heap.size (fun J => some J ≠ (.slice (some uD) m.length fC : Value).ownBlock ∧ some J ≠ (.slice lB eB.length mB : Value).ownBlock ∧ some J ≠ (.slice (some uD) m.length fC : Value).ownBlock ∧ J ≠ b ∧ J ≠ D ∧ J ≠ l) (.slice tE nD.length yE) nD) := ⟨BH (Kd.AO (vI (q := l) (Kd.AO p.out (fun J T => (⟨T, T.2⟩ : _ ∧ J ≠ l))) (fun _ T => T.2)) (fun _ T => ⟨T.1.1.1, ⟨T.1.1.2.1, ⟨T.1.1.2.2.1, ⟨T.1.1.2.2.2.1, ⟨T.1.1.2.2.2.2, T.1.2⟩⟩⟩⟩⟩))⟩
     have yB : Aside0 (Kd.N k63 63 (((((qK.setCell ⟨l, 0, none⟩ (.int .i64 ((AA m d).f0))).setCell ⟨l, 1, none⟩ (.int .i64 ((AA m d).f1.f0))).setCell ⟨l, 2, none⟩ (.int .i64 ((AA m d).f1.f1))).setCell ⟨l, 3, none⟩ (.slice U ((AA m d).f1.f2).length X)).setCell ⟨l, 4, none⟩ (.slice W ((AA m d).f1.f3).length Y)) w.heap.size (fun J => some J ≠ (.slice lB eB.length mB : Value).ownBlock ∧ J ≠ b ∧ J ≠ D ∧ J ≠ l) (.slice (some uD) m.length fC) m) := ⟨Dt (Kd.Be (nI (q := l) (Kd.Be c.out (fun J T => (⟨T, T.2⟩ : _ ∧ J ≠ l))) (fun _ T => T.2)) (fun _ T => ⟨T.1.1.1, ⟨T.1.1.2.1, ⟨T.1.1.2.2, T.1.2⟩⟩⟩))⟩
     have zB : Aside0 (Kd.V (Kd.int .u8) 73 (((((qK.setCell ⟨l, 0, none⟩ (.int .i64 ((AA m d).f0))).setCell ⟨l, 1, none⟩ (.int .i64 ((AA m d).f1.f0))).setCell ⟨l, 2, none⟩ (.int .i64 ((AA m d).f1.f1))).setCell ⟨l, 3, none⟩ (.slice U ((AA m d).f1.f2).length X)).setCell ⟨l, 4, none⟩ (.slice W ((AA m d).f1.f3).length Y)) w.heap.size (fun J => some J ≠ (.slice (some uD) m.length fC : Value).ownBlock ∧ some J ≠ (.slice lB eB.length mB : Value).ownBlock ∧ J ≠ b ∧ J ≠ D ∧ J ≠ l) (.slice U ((AA m d).f1.f2).length X) ((AA m d).f1.f2)) := ⟨BH (Kd.AO (vI (q := l) (Kd.AO Z.out (fun J T => (⟨T, T.2⟩ : _ ∧ J ≠ l))) (fun _ T => T.2)) (fun _ T => ⟨T.1.1.2, ⟨T.1.1.1.1, ⟨T.1.1.1.2.1, ⟨T.1.1.1.2.2, T.1.2⟩⟩⟩⟩))⟩
     have aC : Aside0 (Kd.V k30 30 (((((qK.setCell ⟨l, 0, none⟩ (.int .i64 ((AA m d).f0))).setCell ⟨l, 1, none⟩ (.int .i64 ((AA m d).f1.f0))).setCell ⟨l, 2, none⟩ (.int .i64 ((AA m d).f1.f1))).setCell ⟨l, 3, none⟩ (.slice U ((AA m d).f1.f2).length X)).setCell ⟨l, 4, none⟩ (.slice W ((AA m d).f1.f3).length Y)) w.heap.size (fun J => some J ≠ (.slice (some uD) m.length fC : Value).ownBlock ∧ some J ≠ (.slice lB eB.length mB : Value).ownBlock ∧ J ≠ b ∧ J ≠ D ∧ J ≠ l) (.slice W ((AA m d).f1.f3).length Y) ((AA m d).f1.f3)) := ⟨BH (Kd.AO (vI (q := l) (Kd.AO aB.out (fun J T => (⟨T, T.2⟩ : _ ∧ J ≠ l))) (fun _ T => T.2)) (fun _ T => ⟨T.1.1.2, ⟨T.1.1.1.1, ⟨T.1.1.1.2.1, ⟨T.1.1.1.2.2, T.1.2⟩⟩⟩⟩))⟩
     have bC : Aside0 ((((((qK.setCell ⟨l, 0, none⟩ (.int .i64 ((AA m d).f0))).setCell ⟨l, 1, none⟩ (.int .i64 ((AA m d).f1.f0))).setCell ⟨l, 2, none⟩ (.int .i64 ((AA m d).f1.f1))).setCell ⟨l, 3, none⟩ (.slice U ((AA m d).f1.f2).length X)).setCell ⟨l, 4, none⟩ (.slice W ((AA m d).f1.f3).length Y)).heap[b]? = some (.cells #[.int .i64 cC, .int .i64 dC, .string eC, .slice iC oB.length kC, .slice jC qB.length lC, .int .i64 rC, .int .i64 sC, .slice tC mC.length wC, .slice uC nC.length xC, .slice vC oC.length yC, .int .i64 L, .slice gC z.length sB, .slice bD B.length tB, .bool kB] 40 (0, 0))) := ⟨bF uE a⟩
     have pC : Aside0 ((((((qK.setCell ⟨l, 0, none⟩ (.int .i64 ((AA m d).f0))).setCell ⟨l, 1, none⟩ (.int .i64 ((AA m d).f1.f0))).setCell ⟨l, 2, none⟩ (.int .i64 ((AA m d).f1.f1))).setCell ⟨l, 3, none⟩ (.slice U ((AA m d).f1.f2).length X)).setCell ⟨l, 4, none⟩ (.slice W ((AA m d).f1.f3).length Y)).heap[D]? = some (.cells #[.int .i64 jE, .int .i64 kE, .slice lB eB.length mB, .slice tE nD.length yE, .slice (some uD) m.length fC] 33 (0, 0))) := ⟨bF vE s⟩
     have mF : Aside0 ((((((qK.setCell ⟨l, 0, none⟩ (.int .i64 ((AA m d).f0))).setCell ⟨l, 1, none⟩ (.int .i64 ((AA m d).f1.f0))).setCell ⟨l, 2, none⟩ (.int .i64 ((AA m d).f1.f1))).setCell ⟨l, 3, none⟩ (.slice U ((AA m d).f1.f2).length X)).setCell ⟨l, 4, none⟩ (.slice W ((AA m d).f1.f3).length Y)).heap[l]? = some (.cells #[.int .i64 ((AA m d).f0), .int .i64 ((AA m d).f1.f0), .int .i64 ((AA m d).f1.f1), .slice U ((AA m d).f1.f2).length X, .slice W ((AA m d).f1.f3).length Y] 63 (0, 0))) := ⟨pB O⟩
     have oF : Aside0 (Below w.heap.size w (((((qK.setCell ⟨l, 0, none⟩ (.int .i64 ((AA m d).f0))).setCell ⟨l, 1, none⟩ (.int .i64 ((AA m d).f1.f0))).setCell ⟨l, 2, none⟩ (.int .i64 ((AA m d).f1.f1))).setCell ⟨l, 3, none⟩ (.slice U ((AA m d).f1.f2).length X)).setCell ⟨l, 4, none⟩ (.slice W ((AA m d).f1.f3).length Y))) := ⟨be3 G I fB dH⟩
     try clear x
     try clear j
     try clear p
     try clear c
     try clear Z
     try clear aB
     try clear a
     try clear s
     try clear O
     try clear G
     generalize (((((qK.setCell ⟨l, 0, none⟩ (.int .i64 ((AA m d).f0))).setCell ⟨l, 1, none⟩ (.int .i64 ((AA m d).f1.f0))).setCell ⟨l, 2, none⟩ (.int .i64 ((AA m d).f1.f1))).setCell ⟨l, 3, none⟩ (.slice U ((AA m d).f1.f2).length X)).setCell ⟨l, 4, none⟩ (.slice W ((AA m d).f1.f3).length Y)) = m2 at uB wB xB yB zB aC bC pC mF oF ⊢
     have x := uB; have j := wB; have p := xB; have c := yB; have Z := zB; have aB := aC; have a := bC; have s := pC; have O := mF; have G := oF; clear uB wB xB yB zB aC bC pC mF oF
     have uB := mk0 (Kd.CU x.out)
     have wB := mk0 (Kd.DT j.out)
     have xB := mk0 (Kd.BU p.out)
     have yB := mk0 (Kd.CU c.out)
     have zB := mk0 (Kd.BU Z.out)
     have aC := mk0 (Kd.BU aB.out)
     have bC := mk0 (AV a.out)
     have pC := mk0 (AV s.out)
     have mF := mk0 (AV O.out)
     have oF := mk0 (Aa G.out)
     clear x; clear j; clear p; clear c; clear Z; clear aB; clear a; clear s; clear O; clear G; have x := uB; have j := wB; have p := xB; have c := yB; have Z := zB; have aB := aC; have a := bC; have s := pC; have O := mF; have G := oF; clear uB wB xB yB zB aC bC pC mF oF
     have jI : 0 ≤ (0 : Int) := (by omega)
     have kI : 0 < (B.length : Int) := od
     obtain ⟨tH, wK, zC⟩ := Kd.Cj sD.out 0 jI kI
     have rD := zC
     (try rw [show ((0 : Int)).toNat = 0 from rfl] at rD)
     (try rw [show 0 * 1 = 0 from rfl] at rD)
     (try rw [Addr.add_zero'] at rD)
     cases wK
     have wM : (0 < B.length) = True := eq_true (by omega)
     (try rw [show ((0 : Int)).toNat = 0 from rfl] at zC)
     (try rw [Addr.add_zero'] at zC)
     replace zC := AX G.out zC
     replace jI := eq_true jI; replace kI := eq_true kI
     refine Ch (n := 20) (S := fun w' => w'.cell? ⟨l, 0, none⟩ = some (.int .i64 ((AA m d).f0)) ∧ w'.cell? ⟨l, 1, none⟩ = some (.int .i64 ((AA m d).f1.f0)) ∧ w'.cell? ⟨l, 2, none⟩ = some (.int .i64 ((AA m d).f1.f1)) ∧ w'.cell? ⟨l, 3, none⟩ = some (.slice U ((AA m d).f1.f2).length X) ∧ w'.cell? ⟨l, 4, none⟩ = some (.slice W ((AA m d).f1.f3).length Y) ∧ w'.cell? ⟨b, 0, none⟩ = some (.int .i64 cC) ∧ w'.cell? ⟨b, 1, none⟩ = some (.int .i64 dC) ∧ w'.cell? ⟨b, 2, none⟩ = some (.string eC) ∧ w'.cell? ⟨b, 3, none⟩ = some (.slice iC oB.length kC) ∧ w'.cell? ⟨b, 4, none⟩ = some (.slice jC qB.length lC) ∧ w'.cell? ⟨b, 5, none⟩ = some (.int .i64 rC) ∧ w'.cell? ⟨b, 6, none⟩ = some (.int .i64 sC) ∧ w'.cell? ⟨b, 7, none⟩ = some (.slice tC mC.length wC) ∧ w'.cell? ⟨b, 8, none⟩ = some (.slice uC nC.length xC) ∧ w'.cell? ⟨b, 9, none⟩ = some (.slice vC oC.length yC) ∧ w'.cell? ⟨b, 10, none⟩ = some (.int .i64 L) ∧ w'.cell? ⟨b, 11, none⟩ = some (.slice gC z.length sB) ∧ w'.cell? ⟨b, 12, none⟩ = some (.slice (some tH) B.length tB) ∧ w'.cell? ⟨b, 13, none⟩ = some (.bool kB) ∧ w'.cell? tH = some (.int .i64 (rd B 0))) (ds := []) (tf 0 20) (by kernel_rfl) rfl rfl ⟨bc O 0, bc O 1, bc O 2, bc O 3, bc O 4, bc a 0, bc a 1, bc a 2, bc a 3, bc a 4, bc a 5, bc a 6, bc a 7, bc a 8, bc a 9, bc a 10, bc a 11, bc a 12, bc a 13, (AX G.out rD)⟩ (fun y => ?_); refine Bl AL.O9 AL.NL (fun u qC => ?_)
     generalize m2.drew = n5 at x j p c Z aB a s O G zC y ⊢
     refine pv 0 28 (tf 1 19) u ?_
     refine pv 2 30 #[true, false, true, false, false, false, false, false, false, false, false, false, false, false, false, false, false, false, false, false] u ?_
     refine pv 4 32 #[true, false, true, false, true, false, false, false, false, false, false, false, false, false, false, false, false, false, false, false] u ?_
     refine BR (i := 1) (N := some 29) (v := ?_) (a' := ?_) #[true, true, true, false, true, false, false, false, false, false, false, false, false, false, false, false, false, false, false, false] rfl rfl (Ae u.out qC.out (by kernel_rfl)) (fun _ _ _ h => h) (Or.inl ⟨by rfl, ?_⟩) y ?_ ?_
     rotate_left
     ·rintro w' ⟨s0, s1, s2, s3, s4, s5, s6, s7, s8, s9, cD, dD, eD, fD, gD, hD, jD, kD, lD, mD⟩
      go_simp
      with_reducible rfl
     rotate_left
     ·simp only [ps]
      rfl
     refine BR (i := 3) (N := some 31) (v := ?_) (a' := ?_) (tf 5 15) rfl rfl (Ae u.out qC.out (by kernel_rfl)) (fun _ _ _ h => h) (Or.inl ⟨by rfl, ?_⟩) y ?_ ?_
     rotate_left
     ·rintro w' ⟨s0, s1, s2, s3, s4, s5, s6, s7, s8, s9, cD, dD, eD, fD, gD, hD, jD, kD, lD, mD⟩
      go_simp
      with_reducible rfl
     rotate_left
     ·simp only [ps]
      rfl
     refine BR (i := 5) (N := some 33) (v := ?_) (a' := ?_) (tf 6 14) rfl rfl (Ae u.out qC.out (by kernel_rfl)) (fun _ _ _ h => h) (Or.inl ⟨by rfl, ?_⟩) y ?_ ?_
     rotate_left
     ·rintro w' ⟨s0, s1, s2, s3, s4, s5, s6, s7, s8, s9, cD, dD, eD, fD, gD, hD, jD, kD, lD, mD⟩
      go_simp
      with_reducible rfl
     rotate_left
     ·simp only [ps]
      rfl
     refine pv 6 34 (tf 7 13) u ?_
     refine BR (i := 7) (N := some 35) (v := ?_) (a' := ?_) (tf 8 12) rfl rfl (Ae u.out qC.out (by kernel_rfl)) (fun _ _ _ h => h) (Or.inl ⟨by rfl, ?_⟩) y ?_ ?_
     rotate_left
     ·rintro w' ⟨s0, s1, s2, s3, s4, s5, s6, s7, s8, s9, cD, dD, eD, fD, gD, hD, jD, kD, lD, mD⟩
      go_simp
      with_reducible rfl
     rotate_left
     ·simp only [ps]
      rfl
     refine pv 8 36 (tf 9 11) u ?_
     refine pv 9 37 (tf 10 10) u ?_
     refine pv 10 38 (tf 11 9) u ?_
     refine pw 11 39 (tf 12 8) u ?_
     refine pw 12 40 (tf 13 7) u ?_
     refine pw 13 41 (tf 14 6) u ?_
     refine pw 14 42 (tf 15 5) u ?_
     refine pw 15 43 (tf 16 4) u ?_
     refine pw 16 44 (tf 17 3) u ?_
     refine pw 17 45 (tf 18 2) u ?_
     refine pw 18 46 (tf 19 1) u ?_
     refine pv 19 47 (tf 20 0) u ?_
     refine DV (Ce u.out (by kernel_rfl)) ?_
     try go_wp2
     go_roundg k1
     case measure => have := eN.out; omega
     case rel => exact ⟨(wrap64 (d + 1)), rfl, H', ⟨by have := eN.out; omega⟩, ⟨Dt (Kd.Be x.out (fun _ T => ⟨T.1, ⟨T.2.1, T.2.2.1⟩⟩))⟩, ⟨DJ j.out⟩, ⟨BH (Kd.AO p.out (fun _ T => ⟨T.1, ⟨T.2.1, ⟨T.2.2.1, ⟨T.2.2.2.1, T.2.2.2.2.1⟩⟩⟩⟩))⟩, ⟨Dt (Kd.Be c.out (fun _ T => ⟨T.1, ⟨T.2.1, T.2.2.1⟩⟩))⟩, ⟨bu a⟩, ⟨bu s⟩, ⟨be3 G I fB dH⟩⟩
    replace H := iN H; obtain ⟨pA, qA, H⟩ := H
    have rA : decide (0 < z.length) = true := decide_eq_true (by omega)
    clear pA
    replace H := bS H; obtain ⟨g4, qT, H⟩ := H
    replace H := iB' H; obtain ⟨rfl, H⟩ | ⟨rfl, H⟩ := H
    ·obtain rfl := sI H
     have aH : 0 ≤ (d : Int) := od
     have bH : d < (m.length : Int) := od
     obtain ⟨uD, U, X, W, Y, vK, xK, yK, zK, hI, iI, fG, dG, gG, eG⟩ := DF (Kd.Cy x.out).2.2 d aH bH
     cases vK
     obtain ⟨qL, iJ, hJ, uF⟩ := Kd.Jj x.out z63 d aH (by first | exact bH | exact of_decide_eq_true (by assumption) | (have e_ := (Kd.Cy x.out).1; omega))
     obtain ⟨bL, dL, cL, eL, rfl, rF, zE, sF, aF⟩ := DK hJ
     have eE := uF 3 _ rfl
     rw [BO _ _ 3 (by omega)] at eE
     replace eE := Option.some.inj (eE.symm.trans hI)
     injection eE with hva_ hvn_ hvc_
     rw [hva_] at zE
     rw [hvc_] at rF
     have Z := mk0 (show Kd.V (Kd.int .u8) 73 _ w.heap.size _ _ ((AA m d).f1.f2) from Kd.Cu rF zE)
     clear hva_ hvn_ hvc_ zE rF
     have fE := uF 4 _ rfl
     rw [BO _ _ 4 (by omega)] at fE
     replace fE := Option.some.inj (fE.symm.trans iI)
     injection fE with hva_ hvn_ hvc_
     rw [hva_] at aF
     rw [hvc_] at sF
     have aB := mk0 (show Kd.V k30 30 _ w.heap.size _ _ ((AA m d).f1.f3) from Kd.Cu sF aF)
     clear hva_ hvn_ hvc_ aF sF; clear uF iJ; have bG := mk0 dG; have yI := mk0 fG; clear dG fG; have cG := mk0 eG; have zI := mk0 gG; clear eG gG; replace aH := eq_true aH; replace bH := eq_true bH
     try go_wp2_with ((with_reducible refine AP rfl (N := 6) rfl (cs := #[.int .i64 0, .int .i64 0, .int .i64 0, .slice none 0 0, .slice none 0 0]) (t := 63) ?hr ?_); (case hr => first | (go_simp; done) | (go_simp; rfl)); intro l hg pK cF hb; obtain ⟨x, p, c, Z, aB⟩ := tg5 hg hb x p c Z aB; obtain ⟨j, bG, cG⟩ := tb3 hb j bG cG; have O := mk0 (cF); have dH := bs (be2 G I fB) hg; replace G := kh2 G I fB hb; have ⟨uE, uG⟩ := nn a hg; have ⟨vE, vG⟩ := nn s hg; obtain ⟨a, s⟩ := tb2 hb a s; clear hb cF hg; have ⟨o0, o1⟩ := no uG uE; have ⟨p0, p1⟩ := no vG vE; have r4 := cells5 O.out)
     have uB : Aside0 (Kd.N k63 63 (((((pK.setCell ⟨l, 0, none⟩ (.int .i64 ((AA m d).f0))).setCell ⟨l, 1, none⟩ (.int .i64 ((AA m d).f1.f0))).setCell ⟨l, 2, none⟩ (.int .i64 ((AA m d).f1.f1))).setCell ⟨l, 3, none⟩ (.slice U ((AA m d).f1.f2).length X)).setCell ⟨l, 4, none⟩ (.slice W ((AA m d).f1.f3).length Y)) w.heap.size (fun J => some J ≠ (.slice lB eB.length mB : Value).ownBlock ∧ J ≠ b ∧ J ≠ D ∧ J ≠ l) (.slice (some uD) m.length fC) m) := ⟨Dt (Kd.Be (nI (q := l) (Kd.Be x.out (fun J T => (⟨T, T.2⟩ : _ ∧ J ≠ l))) (fun _ T => T.2)) (fun _ T => ⟨T.1.1.1, ⟨T.1.1.2.1, ⟨T.1.1.2.2, T.1.2⟩⟩⟩))⟩
     have wB : Aside0 (Kd.R (Kd.int .u8) 73 (((((pK.setCell ⟨l, 0, none⟩ (.int .i64 ((AA m d).f0))).setCell ⟨l, 1, none⟩ (.int .i64 ((AA m d).f1.f0))).setCell ⟨l, 2, none⟩ (.int .i64 ((AA m d).f1.f1))).setCell ⟨l, 3, none⟩ (.slice U ((AA m d).f1.f2).length X)).setCell ⟨l, 4, none⟩ (.slice W ((AA m d).f1.f3).length Y)) w.heap.size (fun _ => True) (.slice lB eB.length mB) eB) := ⟨DZ (Kd.BS (rI (q := l) (Kd.Ao j.out O.out (by decide)) (fun _ T => T.2)) (fun _ T => trivial))⟩
     have xB : Aside0 (Kd.V k30 30 (((((pK.setCell ⟨l, 0, none⟩ (.int .i64 ((AA m d).f0))).setCell ⟨l, 1, none⟩ (.int .i64 ((AA m d).f1.f0))).setCell ⟨l, 2, none⟩ (.int .i64 ((AA m d).f1.f1))).setCell ⟨l, 3, none⟩ (.slice U ((AA m d).f1.f2).length X)).setCell ⟨l, 4, none⟩ (.slice W ((AA m d).f1.f3).length Y)) w.heap.size (fun J => some J ≠ (.slice (some uD) m.length fC : Value).ownBlock ∧ some J ≠ (.slice lB eB.length mB : Value).ownBlock ∧ some J ≠ (.slice (some uD) m.length fC : Value).ownBlock ∧ J ≠ b ∧ J ≠ D ∧ J ≠ l) (.slice tE nD.length yE) nD) := ⟨BH (Kd.AO (vI (q := l) (Kd.AO p.out (fun J T => (⟨T, T.2⟩ : _ ∧ J ≠ l))) (fun _ T => T.2)) (fun _ T => ⟨T.1.1.1, ⟨T.1.1.2.1, ⟨T.1.1.2.2.1, ⟨T.1.1.2.2.2.1, ⟨T.1.1.2.2.2.2, T.1.2⟩⟩⟩⟩⟩))⟩
     have yB : Aside0 (Kd.N k63 63 (((((pK.setCell ⟨l, 0, none⟩ (.int .i64 ((AA m d).f0))).setCell ⟨l, 1, none⟩ (.int .i64 ((AA m d).f1.f0))).setCell ⟨l, 2, none⟩ (.int .i64 ((AA m d).f1.f1))).setCell ⟨l, 3, none⟩ (.slice U ((AA m d).f1.f2).length X)).setCell ⟨l, 4, none⟩ (.slice W ((AA m d).f1.f3).length Y)) w.heap.size (fun J => some J ≠ (.slice lB eB.length mB : Value).ownBlock ∧ J ≠ b ∧ J ≠ D ∧ J ≠ l) (.slice (some uD) m.length fC) m) := ⟨Dt (Kd.Be (nI (q := l) (Kd.Be c.out (fun J T => (⟨T, T.2⟩ : _ ∧ J ≠ l))) (fun _ T => T.2)) (fun _ T => ⟨T.1.1.1, ⟨T.1.1.2.1, ⟨T.1.1.2.2, T.1.2⟩⟩⟩))⟩
     have zB : Aside0 (Kd.V (Kd.int .u8) 73 (((((pK.setCell ⟨l, 0, none⟩ (.int .i64 ((AA m d).f0))).setCell ⟨l, 1, none⟩ (.int .i64 ((AA m d).f1.f0))).setCell ⟨l, 2, none⟩ (.int .i64 ((AA m d).f1.f1))).setCell ⟨l, 3, none⟩ (.slice U ((AA m d).f1.f2).length X)).setCell ⟨l, 4, none⟩ (.slice W ((AA m d).f1.f3).length Y)) w.heap.size (fun J => some J ≠ (.slice (some uD) m.length fC : Value).ownBlock ∧ some J ≠ (.slice lB eB.length mB : Value).ownBlock ∧ J ≠ b ∧ J ≠ D ∧ J ≠ l) (.slice U ((AA m d).f1.f2).length X) ((AA m d).f1.f2)) := ⟨BH (Kd.AO (vI (q := l) (Kd.AO Z.out (fun J T => (⟨T, T.2⟩ : _ ∧ J ≠ l))) (fun _ T => T.2)) (fun _ T => ⟨T.1.1.2, ⟨T.1.1.1.1, ⟨T.1.1.1.2.1, ⟨T.1.1.1.2.2, T.1.2⟩⟩⟩⟩))⟩
     have aC : Aside0 (Kd.V k30 30 (((((pK.setCell ⟨l, 0, none⟩ (.int .i64 ((AA m d).f0))).setCell ⟨l, 1, none⟩ (.int .i64 ((AA m d).f1.f0))).setCell ⟨l, 2, none⟩ (.int .i64 ((AA m d).f1.f1))).setCell ⟨l, 3, none⟩ (.slice U ((AA m d).f1.f2).length X)).setCell ⟨l, 4, none⟩ (.slice W ((AA m d).f1.f3).length Y)) w.heap.size (fun J => some J ≠ (.slice (some uD) m.length fC : Value).ownBlock ∧ some J ≠ (.slice lB eB.length mB : Value).ownBlock ∧ J ≠ b ∧ J ≠ D ∧ J ≠ l) (.slice W ((AA m d).f1.f3).length Y) ((AA m d).f1.f3)) := ⟨BH (Kd.AO (vI (q := l) (Kd.AO aB.out (fun J T => (⟨T, T.2⟩ : _ ∧ J ≠ l))) (fun _ T => T.2)) (fun _ T => ⟨T.1.1.2, ⟨T.1.1.1.1, ⟨T.1.1.1.2.1, ⟨T.1.1.1.2.2, T.1.2⟩⟩⟩⟩))⟩
     have bC : Aside0 ((((((pK.setCell ⟨l, 0, none⟩ (.int .i64 ((AA m d).f0))).setCell ⟨l, 1, none⟩ (.int .i64 ((AA m d).f1.f0))).setCell ⟨l, 2, none⟩ (.int .i64 ((AA m d).f1.f1))).setCell ⟨l, 3, none⟩ (.slice U ((AA m d).f1.f2).length X)).setCell ⟨l, 4, none⟩ (.slice W ((AA m d).f1.f3).length Y)).heap[b]? = some (.cells #[.int .i64 cC, .int .i64 dC, .string eC, .slice iC oB.length kC, .slice jC qB.length lC, .int .i64 rC, .int .i64 sC, .slice tC mC.length wC, .slice uC nC.length xC, .slice vC oC.length yC, .int .i64 L, .slice gC z.length sB, .slice bD B.length tB, .bool kB] 40 (0, 0))) := ⟨bF uE a⟩
     have pC : Aside0 ((((((pK.setCell ⟨l, 0, none⟩ (.int .i64 ((AA m d).f0))).setCell ⟨l, 1, none⟩ (.int .i64 ((AA m d).f1.f0))).setCell ⟨l, 2, none⟩ (.int .i64 ((AA m d).f1.f1))).setCell ⟨l, 3, none⟩ (.slice U ((AA m d).f1.f2).length X)).setCell ⟨l, 4, none⟩ (.slice W ((AA m d).f1.f3).length Y)).heap[D]? = some (.cells #[.int .i64 jE, .int .i64 kE, .slice lB eB.length mB, .slice tE nD.length yE, .slice (some uD) m.length fC] 33 (0, 0))) := ⟨bF vE s⟩
     have mF : Aside0 ((((((pK.setCell ⟨l, 0, none⟩ (.int .i64 ((AA m d).f0))).setCell ⟨l, 1, none⟩ (.int .i64 ((AA m d).f1.f0))).setCell ⟨l, 2, none⟩ (.int .i64 ((AA m d).f1.f1))).setCell ⟨l, 3, none⟩ (.slice U ((AA m d).f1.f2).length X)).setCell ⟨l, 4, none⟩ (.slice W ((AA m d).f1.f3).length Y)).heap[l]? = some (.cells #[.int .i64 ((AA m d).f0), .int .i64 ((AA m d).f1.f0), .int .i64 ((AA m d).f1.f1), .slice U ((AA m d).f1.f2).length X, .slice W ((AA m d).f1.f3).length Y] 63 (0, 0))) := ⟨pB O⟩
     have oF : Aside0 (Below w.heap.size w (((((pK.setCell ⟨l, 0, none⟩ (.int .i64 ((AA m d).f0))).setCell ⟨l, 1, none⟩ (.int .i64 ((AA m d).f1.f0))).setCell ⟨l, 2, none⟩ (.int .i64 ((AA m d).f1.f1))).setCell ⟨l, 3, none⟩ (.slice U ((AA m d).f1.f2).length X)).setCell ⟨l, 4, none⟩ (.slice W ((AA m d).f1.f3).length Y))) := ⟨be3 G I fB dH⟩
     try clear x
     try clear j
     try clear p
     try clear c
     try clear Z
     try clear aB
     try clear a
     try clear s
     try clear O
     try clear G
     generalize (((((pK.setCell ⟨l, 0, none⟩ (.int .i64 ((AA m d).f0))).setCell ⟨l, 1, none⟩ (.int .i64 ((AA m d).f1.f0))).setCell ⟨l, 2, none⟩ (.int .i64 ((AA m d).f1.f1))).setCell ⟨l, 3, none⟩ (.slice U ((AA m d).f1.f2).length X)).setCell ⟨l, 4, none⟩ (.slice W ((AA m d).f1.f3).length Y)) = i2 at uB wB xB yB zB aC bC pC mF oF ⊢
     have x := uB; have j := wB; have p := xB; have c := yB; have Z := zB; have aB := aC; have a := bC; have s := pC; have O := mF; have G := oF; clear uB wB xB yB zB aC bC pC mF oF
     have uB := mk0 (Kd.CU x.out)
     have wB := mk0 (Kd.DT j.out)
     have xB := mk0 (Kd.BU p.out)
     have yB := mk0 (Kd.CU c.out)
     have zB := mk0 (Kd.BU Z.out)
     have aC := mk0 (Kd.BU aB.out)
     have bC := mk0 (AV a.out)
     have pC := mk0 (AV s.out)
     have mF := mk0 (AV O.out)
     have oF := mk0 (Aa G.out)
     clear x; clear j; clear p; clear c; clear Z; clear aB; clear a; clear s; clear O; clear G; have x := uB; have j := wB; have p := xB; have c := yB; have Z := zB; have aB := aC; have a := bC; have s := pC; have O := mF; have G := oF; clear uB wB xB yB zB aC bC pC mF oF
     have jI : 0 ≤ (0 : Int) := (by omega)
     have kI : 0 < (B.length : Int) := od
     obtain ⟨tH, wK, zC⟩ := Kd.Cj sD.out 0 jI kI
     have rD := zC
     (try rw [show ((0 : Int)).toNat = 0 from rfl] at rD)
     (try rw [show 0 * 1 = 0 from rfl] at rD)
     (try rw [Addr.add_zero'] at rD)
     cases wK
     have wM : (0 < B.length) = True := eq_true (by omega)
     (try rw [show ((0 : Int)).toNat = 0 from rfl] at zC)
     (try rw [Addr.add_zero'] at zC)
     replace zC := AX G.out zC
     replace jI := eq_true jI; replace kI := eq_true kI
     have jK : 0 ≤ (0 : Int) := (by omega)
     have lK : 0 < (z.length : Int) := od
     obtain ⟨wE, mI, aJ, oI, bJ, rL, vD, wD, xD, yD, bI, vH, cI, wH⟩ := Da sG.out 0 jK lK
     have gF := yD
     (try rw [show ((0 : Int)).toNat = 0 from rfl] at gF)
     (try rw [show 0 * 4 = 0 from rfl] at gF)
     (try rw [Addr.add_zero'] at gF)
     have fF := xD
     (try rw [show ((0 : Int)).toNat = 0 from rfl] at fF)
     (try rw [show 0 * 4 = 0 from rfl] at fF)
     (try rw [Addr.add_zero'] at fF)
     have eF := wD
     (try rw [show ((0 : Int)).toNat = 0 from rfl] at eF)
     (try rw [show 0 * 4 = 0 from rfl] at eF)
     (try rw [Addr.add_zero'] at eF)
     have dF := vD
     (try rw [show ((0 : Int)).toNat = 0 from rfl] at dF)
     (try rw [show 0 * 4 = 0 from rfl] at dF)
     (try rw [Addr.add_zero'] at dF)
     cases rL
     have eQ : (0 < z.length) = True := eq_true (by omega)
     (try rw [show ((0 : Int)).toNat = 0 from rfl] at vD)
     (try rw [show 0 * 4 = 0 from rfl] at vD)
     (try rw [Addr.add_zero'] at vD)
     (try rw [show ((0 : Int)).toNat = 0 from rfl] at wD)
     (try rw [show 0 * 4 = 0 from rfl] at wD)
     (try rw [Addr.add_zero'] at wD)
     (try rw [show ((0 : Int)).toNat = 0 from rfl] at xD)
     (try rw [show 0 * 4 = 0 from rfl] at xD)
     (try rw [Addr.add_zero'] at xD)
     (try rw [show ((0 : Int)).toNat = 0 from rfl] at yD)
     (try rw [show 0 * 4 = 0 from rfl] at yD)
     (try rw [Addr.add_zero'] at yD)
     replace vD := AX G.out vD
     replace wD := AX G.out wD
     replace xD := AX G.out xD
     replace yD := AX G.out yD
     have pH := mk0 vH; have uJ := mk0 bI; clear vH bI; have qH := mk0 wH; have vJ := mk0 cI; clear wH cI; replace jK := eq_true jK; replace lK := eq_true lK
     refine Ch (n := 20) (S := fun w' => w'.cell? ⟨l, 0, none⟩ = some (.int .i64 ((AA m d).f0)) ∧ w'.cell? ⟨l, 1, none⟩ = some (.int .i64 ((AA m d).f1.f0)) ∧ w'.cell? ⟨l, 2, none⟩ = some (.int .i64 ((AA m d).f1.f1)) ∧ w'.cell? ⟨l, 3, none⟩ = some (.slice U ((AA m d).f1.f2).length X) ∧ w'.cell? ⟨l, 4, none⟩ = some (.slice W ((AA m d).f1.f3).length Y) ∧ w'.cell? ⟨b, 0, none⟩ = some (.int .i64 cC) ∧ w'.cell? ⟨b, 1, none⟩ = some (.int .i64 dC) ∧ w'.cell? ⟨b, 2, none⟩ = some (.string eC) ∧ w'.cell? ⟨b, 3, none⟩ = some (.slice iC oB.length kC) ∧ w'.cell? ⟨b, 4, none⟩ = some (.slice jC qB.length lC) ∧ w'.cell? ⟨b, 5, none⟩ = some (.int .i64 rC) ∧ w'.cell? ⟨b, 6, none⟩ = some (.int .i64 sC) ∧ w'.cell? ⟨b, 7, none⟩ = some (.slice tC mC.length wC) ∧ w'.cell? ⟨b, 8, none⟩ = some (.slice uC nC.length xC) ∧ w'.cell? ⟨b, 9, none⟩ = some (.slice vC oC.length yC) ∧ w'.cell? ⟨b, 10, none⟩ = some (.int .i64 L) ∧ w'.cell? ⟨b, 11, none⟩ = some (.slice (some wE) z.length sB) ∧ w'.cell? ⟨b, 12, none⟩ = some (.slice (some tH) B.length tB) ∧ w'.cell? ⟨b, 13, none⟩ = some (.bool kB) ∧ w'.cell? tH = some (.int .i64 (rd B 0)) ∧ w'.cell? wE = some (.int .i64 ((AC z 0).f0)) ∧ w'.cell? ⟨wE.block, wE.off + 1, none⟩ = some (.int .i64 ((AC z 0).f1)) ∧ w'.cell? ⟨wE.block, wE.off + 2, none⟩ = some (.slice mI ((AC z 0).f2).length aJ) ∧ w'.cell? ⟨wE.block, wE.off + 3, none⟩ = some (.slice oI ((AC z 0).f3).length bJ)) (ds := []) (tf 0 20) (by kernel_rfl) rfl rfl ⟨bc O 0, bc O 1, bc O 2, bc O 3, bc O 4, bc a 0, bc a 1, bc a 2, bc a 3, bc a 4, bc a 5, bc a 6, bc a 7, bc a 8, bc a 9, bc a 10, bc a 11, bc a 12, bc a 13, (AX G.out rD), (AX G.out dF), (AX G.out eF), (AX G.out fF), (AX G.out gF)⟩ (fun y => ?_); refine Bl AL.O9 AL.NL (fun u qC => ?_)
     generalize i2.drew = l5 at x j p c Z aB a s O G pH qH zC vD wD xD yD y ⊢
     refine pv 0 28 (tf 1 19) u ?_
     refine pv 2 30 #[true, false, true, false, false, false, false, false, false, false, false, false, false, false, false, false, false, false, false, false] u ?_
     refine pv 4 32 #[true, false, true, false, true, false, false, false, false, false, false, false, false, false, false, false, false, false, false, false] u ?_
     refine BR (i := 1) (N := some 29) (v := ?_) (a' := ?_) #[true, true, true, false, true, false, false, false, false, false, false, false, false, false, false, false, false, false, false, false] rfl rfl (Ae u.out qC.out (by kernel_rfl)) (fun _ _ _ h => h) (Or.inl ⟨by rfl, ?_⟩) y ?_ ?_
     rotate_left
     ·rintro w' ⟨s0, s1, s2, s3, s4, s5, s6, s7, s8, s9, cD, dD, eD, fD, gD, hD, jD, kD, lD, mD, mH, nH, oH, oJ⟩
      go_simp
      with_reducible rfl
     rotate_left
     ·simp only [ps]
      rfl
     refine BR (i := 3) (N := some 31) (v := ?_) (a' := ?_) (tf 5 15) rfl rfl (Ae u.out qC.out (by kernel_rfl)) (fun _ _ _ h => h) (Or.inl ⟨by rfl, ?_⟩) y ?_ ?_
     rotate_left
     ·rintro w' ⟨s0, s1, s2, s3, s4, s5, s6, s7, s8, s9, cD, dD, eD, fD, gD, hD, jD, kD, lD, mD, mH, nH, oH, oJ⟩
      go_simp
      with_reducible rfl
     rotate_left
     ·simp only [ps]
      rfl
     refine BR (i := 5) (N := some 33) (v := ?_) (a' := ?_) (tf 6 14) rfl rfl (Ae u.out qC.out (by kernel_rfl)) (fun _ _ _ h => h) (Or.inl ⟨by rfl, ?_⟩) y ?_ ?_
     rotate_left
     ·rintro w' ⟨s0, s1, s2, s3, s4, s5, s6, s7, s8, s9, cD, dD, eD, fD, gD, hD, jD, kD, lD, mD, mH, nH, oH, oJ⟩
      go_simp
      with_reducible rfl
     rotate_left
     ·simp only [ps]
      rfl
     refine pv 6 34 (tf 7 13) u ?_
     refine BR (i := 7) (N := some 35) (v := ?_) (a' := ?_) (tf 8 12) rfl rfl (Ae u.out qC.out (by kernel_rfl)) (fun _ _ _ h => h) (Or.inl ⟨by rfl, ?_⟩) y ?_ ?_
     rotate_left
     ·rintro w' ⟨s0, s1, s2, s3, s4, s5, s6, s7, s8, s9, cD, dD, eD, fD, gD, hD, jD, kD, lD, mD, mH, nH, oH, oJ⟩
      go_simp
      with_reducible rfl
     rotate_left
     ·simp only [ps]
      rfl
     refine pv 8 36 (tf 9 11) u ?_
     refine pv 9 37 (tf 10 10) u ?_
     refine pv 10 38 (tf 11 9) u ?_
     refine pv 11 39 (tf 12 8) u ?_
     refine pv 13 41 #[true, true, true, true, true, true, true, true, true, true, true, true, false, true, false, false, false, false, false, false] u ?_
     refine BR (i := 12) (N := some 40) (v := ?_) (a' := ?_) (tf 14 6) rfl rfl (Ae u.out qC.out (by kernel_rfl)) (fun _ _ _ h => h) (Or.inl ⟨by rfl, ?_⟩) y ?_ ?_
     rotate_left
     ·rintro w' ⟨s0, s1, s2, s3, s4, s5, s6, s7, s8, s9, cD, dD, eD, fD, gD, hD, jD, kD, lD, mD, mH, nH, oH, oJ⟩
      go_simp
      with_reducible rfl
     rotate_left
     ·simp only [ps]
      rfl
     refine BR (i := 14) (N := some 42) (v := ?_) (a' := ?_) (tf 15 5) rfl rfl (Ae u.out qC.out (by kernel_rfl)) (fun _ _ _ h => h) (Or.inl ⟨by rfl, ?_⟩) y ?_ ?_
     rotate_left
     ·rintro w' ⟨s0, s1, s2, s3, s4, s5, s6, s7, s8, s9, cD, dD, eD, fD, gD, hD, jD, kD, lD, mD, mH, nH, oH, oJ⟩
      go_simp
      with_reducible rfl
     rotate_left
     ·simp only [ps]
      rfl
     refine pv 15 43 (tf 16 4) u ?_
     refine BR (i := 16) (N := some 44) (v := ?_) (a' := ?_) (tf 17 3) rfl rfl (Ae u.out qC.out (by kernel_rfl)) (fun _ _ _ h => h) (Or.inl ⟨by rfl, ?_⟩) y ?_ ?_
     rotate_left
     ·rintro w' ⟨s0, s1, s2, s3, s4, s5, s6, s7, s8, s9, cD, dD, eD, fD, gD, hD, jD, kD, lD, mD, mH, nH, oH, oJ⟩
      go_simp
      with_reducible rfl
     rotate_left
     ·simp only [ps]
      rfl
     refine Cz (i := 17) (N := some 45) (tf 18 2) rfl rfl (Bq u.out (by kernel_rfl)) (by decide) (fun K hK => ?_)
     refine Cg Try.func32 (by kernel_rfl) rfl #[.agg #[.int .i64 ((AA m d).f1.f0), .int .i64 ((AA m d).f1.f1), .slice U ((AA m d).f1.f2).length X, .slice W ((AA m d).f1.f3).length Y], .agg #[.int .i64 ((AC z 0).f0), .int .i64 ((AC z 0).f1), .slice mI ((AC z 0).f2).length aJ, .slice oI ((AC z 0).f3).length bJ]] (by rfl) rfl rfl (by (try simp only [List.map_toArray, List.map_cons, List.map_nil]); first | done | rfl | (simp only [List.length_drop, List.length_take]; rfl)) ?_
     with_reducible refine (Ba.calls k1 ((AA m d).f1.f0) ((AA m d).f1.f1) _ _ ((AA m d).f1.f2) _ _ ((AA m d).f1.f3) ((AC z 0).f0) ((AC z 0).f1) _ _ ((AC z 0).f2) _ _ ((AC z 0).f3) false _ ?side1 ?side2 ?side3 ?side4 ?side5 ?side6 ?side7 ?side8 qT.out).mono ?_
     (case side1 => exact ((Kd.AU (Br Z.out)).2.2))
     (case side2 => exact yI.out)
     (case side3 => exact ((Kd.AU (Br aB.out)).2.2))
     (case side4 => exact zI.out)
     (case side5 => exact cu pH G)
     (case side6 => exact uJ.out)
     (case side7 => exact cu qH G)
     (case side8 => exact vJ.out)
     rintro e m5 ⟨rfl, hb⟩
     refine ⟨_, rfl, ?_⟩
     have uB := nb x hb
     have wB := rb j hb
     have xB := vb p hb
     have yB := nb c hb
     have zB := vb Z hb
     have aC := vb aB hb
     have bC := kb a hb
     have pC := kb s hb
     have mF := kb O hb
     have oF := kh3 G I fB dH hb
     clear x; clear j; clear p; clear c; clear Z; clear aB; clear a; clear s; clear O; clear G; have x := uB; have j := wB; have p := xB; have c := yB; have Z := zB; have aB := aC; have a := bC; have s := pC; have O := mF; have G := oF; clear uB wB xB yB zB aC bC pC mF oF
     try clear hb
     try clear T
     refine hK.out _ _ ⟨bc O 0, bc O 1, bc O 2, bc O 3, bc O 4, bc a 0, bc a 1, bc a 2, bc a 3, bc a 4, bc a 5, bc a 6, bc a 7, bc a 8, bc a 9, bc a 10, bc a 11, bc a 12, bc a 13, (AX G.out rD), (AX G.out dF), (AX G.out eF), (AX G.out fF), (AX G.out gF)⟩ (fun y => ?_)
     clear hK K
     refine CB (a' := ?_) ?_ ?_
     rotate_left
     ·show Act.put _ (some 45) _ = _
      simp only [ps]
      rfl
     refine pv 18 46 (tf 19 1) u ?_
     refine pv 19 47 (tf 20 0) u ?_
     refine DV (Ce u.out (by kernel_rfl)) ?_
     try go_wp2
     go_ret
     exact ⟨rfl, be3 G I fB dH⟩
    have H' := mk0 H
    clear H
    have aH : 0 ≤ (d : Int) := od
    have bH : d < (m.length : Int) := od
    obtain ⟨uD, U, X, W, Y, vK, xK, yK, zK, hI, iI, fG, dG, gG, eG⟩ := DF (Kd.Cy x.out).2.2 d aH bH
    cases vK
    obtain ⟨qL, iJ, hJ, uF⟩ := Kd.Jj x.out z63 d aH (by first | exact bH | exact of_decide_eq_true (by assumption) | (have e_ := (Kd.Cy x.out).1; omega))
    obtain ⟨bL, dL, cL, eL, rfl, rF, zE, sF, aF⟩ := DK hJ
    have eE := uF 3 _ rfl
    rw [BO _ _ 3 (by omega)] at eE
    replace eE := Option.some.inj (eE.symm.trans hI)
    injection eE with hva_ hvn_ hvc_
    rw [hva_] at zE
    rw [hvc_] at rF
    have Z := mk0 (show Kd.V (Kd.int .u8) 73 _ w.heap.size _ _ ((AA m d).f1.f2) from Kd.Cu rF zE)
    clear hva_ hvn_ hvc_ zE rF
    have fE := uF 4 _ rfl
    rw [BO _ _ 4 (by omega)] at fE
    replace fE := Option.some.inj (fE.symm.trans iI)
    injection fE with hva_ hvn_ hvc_
    rw [hva_] at aF
    rw [hvc_] at sF
    have aB := mk0 (show Kd.V k30 30 _ w.heap.size _ _ ((AA m d).f1.f3) from Kd.Cu sF aF)
    clear hva_ hvn_ hvc_ aF sF; clear uF iJ; have bG := mk0 dG; have yI := mk0 fG; clear dG fG; have cG := mk0 eG; have zI := mk0 gG; clear eG gG; replace aH := eq_true aH; replace bH := eq_true bH
    try go_wp2_with ((with_reducible refine AP rfl (N := 6) rfl (cs := #[.int .i64 0, .int .i64 0, .int .i64 0, .slice none 0 0, .slice none 0 0]) (t := 63) ?hr ?_); (case hr => first | (go_simp; done) | (go_simp; rfl)); intro l hg oK cF hb; obtain ⟨x, p, c, Z, aB⟩ := tg5 hg hb x p c Z aB; obtain ⟨j, bG, cG⟩ := tb3 hb j bG cG; have O := mk0 (cF); have dH := bs (be2 G I fB) hg; replace G := kh2 G I fB hb; have ⟨uE, uG⟩ := nn a hg; have ⟨vE, vG⟩ := nn s hg; obtain ⟨a, s⟩ := tb2 hb a s; clear hb cF hg; have ⟨m0, m1⟩ := no uG uE; have ⟨n0, n1⟩ := no vG vE; have q4 := cells5 O.out)
    have uB : Aside0 (Kd.N k63 63 (((((oK.setCell ⟨l, 0, none⟩ (.int .i64 ((AA m d).f0))).setCell ⟨l, 1, none⟩ (.int .i64 ((AA m d).f1.f0))).setCell ⟨l, 2, none⟩ (.int .i64 ((AA m d).f1.f1))).setCell ⟨l, 3, none⟩ (.slice U ((AA m d).f1.f2).length X)).setCell ⟨l, 4, none⟩ (.slice W ((AA m d).f1.f3).length Y)) w.heap.size (fun J => some J ≠ (.slice lB eB.length mB : Value).ownBlock ∧ J ≠ b ∧ J ≠ D ∧ J ≠ l) (.slice (some uD) m.length fC) m) := ⟨Dt (Kd.Be (nI (q := l) (Kd.Be x.out (fun J T => (⟨T, T.2⟩ : _ ∧ J ≠ l))) (fun _ T => T.2)) (fun _ T => ⟨T.1.1.1, ⟨T.1.1.2.1, ⟨T.1.1.2.2, T.1.2⟩⟩⟩))⟩
    have wB : Aside0 (Kd.R (Kd.int .u8) 73 (((((oK.setCell ⟨l, 0, none⟩ (.int .i64 ((AA m d).f0))).setCell ⟨l, 1, none⟩ (.int .i64 ((AA m d).f1.f0))).setCell ⟨l, 2, none⟩ (.int .i64 ((AA m d).f1.f1))).setCell ⟨l, 3, none⟩ (.slice U ((AA m d).f1.f2).length X)).setCell ⟨l, 4, none⟩ (.slice W ((AA m d).f1.f3).length Y)) w.heap.size (fun _ => True) (.slice lB eB.length mB) eB) := ⟨DZ (Kd.BS (rI (q := l) (Kd.Ao j.out O.out (by decide)) (fun _ T => T.2)) (fun _ T => trivial))⟩
    have xB : Aside0 (Kd.V k30 30 (((((oK.setCell ⟨l, 0, none⟩ (.int .i64 ((AA m d).f0))).setCell ⟨l, 1, none⟩ (.int .i64 ((AA m d).f1.f0))).setCell ⟨l, 2, none⟩ (.int .i64 ((AA m d).f1.f1))).setCell ⟨l, 3, none⟩ (.slice U ((AA m d).f1.f2).length X)).setCell ⟨l, 4, none⟩ (.slice W ((AA m d).f1.f3).length Y)) w.heap.size (fun J => some J ≠ (.slice (some uD) m.length fC : Value).ownBlock ∧ some J ≠ (.slice lB eB.length mB : Value).ownBlock ∧ some J ≠ (.slice (some uD) m.length fC : Value).ownBlock ∧ J ≠ b ∧ J ≠ D ∧ J ≠ l) (.slice tE nD.length yE) nD) := ⟨BH (Kd.AO (vI (q := l) (Kd.AO p.out (fun J T => (⟨T, T.2⟩ : _ ∧ J ≠ l))) (fun _ T => T.2)) (fun _ T => ⟨T.1.1.1, ⟨T.1.1.2.1, ⟨T.1.1.2.2.1, ⟨T.1.1.2.2.2.1, ⟨T.1.1.2.2.2.2, T.1.2⟩⟩⟩⟩⟩))⟩
    have yB : Aside0 (Kd.N k63 63 (((((oK.setCell ⟨l, 0, none⟩ (.int .i64 ((AA m d).f0))).setCell ⟨l, 1, none⟩ (.int .i64 ((AA m d).f1.f0))).setCell ⟨l, 2, none⟩ (.int .i64 ((AA m d).f1.f1))).setCell ⟨l, 3, none⟩ (.slice U ((AA m d).f1.f2).length X)).setCell ⟨l, 4, none⟩ (.slice W ((AA m d).f1.f3).length Y)) w.heap.size (fun J => some J ≠ (.slice lB eB.length mB : Value).ownBlock ∧ J ≠ b ∧ J ≠ D ∧ J ≠ l) (.slice (some uD) m.length fC) m) := ⟨Dt (Kd.Be (nI (q := l) (Kd.Be c.out (fun J T => (⟨T, T.2⟩ : _ ∧ J ≠ l))) (fun _ T => T.2)) (fun _ T => ⟨T.1.1.1, ⟨T.1.1.2.1, ⟨T.1.1.2.2, T.1.2⟩⟩⟩))⟩
    have zB : Aside0 (Kd.V (Kd.int .u8) 73 (((((oK.setCell ⟨l, 0, none⟩ (.int .i64 ((AA m d).f0))).setCell ⟨l, 1, none⟩ (.int .i64 ((AA m d).f1.f0))).setCell ⟨l, 2, none⟩ (.int .i64 ((AA m d).f1.f1))).setCell ⟨l, 3, none⟩ (.slice U ((AA m d).f1.f2).length X)).setCell ⟨l, 4, none⟩ (.slice W ((AA m d).f1.f3).length Y)) w.heap.size (fun J => some J ≠ (.slice (some uD) m.length fC : Value).ownBlock ∧ some J ≠ (.slice lB eB.length mB : Value).ownBlock ∧ J ≠ b ∧ J ≠ D ∧ J ≠ l) (.slice U ((AA m d).f1.f2).length X) ((AA m d).f1.f2)) := ⟨BH (Kd.AO (vI (q := l) (Kd.AO Z.out (fun J T => (⟨T, T.2⟩ : _ ∧ J ≠ l))) (fun _ T => T.2)) (fun _ T => ⟨T.1.1.2, ⟨T.1.1.1.1, ⟨T.1.1.1.2.1, ⟨T.1.1.1.2.2, T.1.2⟩⟩⟩⟩))⟩
    have aC : Aside0 (Kd.V k30 30 (((((oK.setCell ⟨l, 0, none⟩ (.int .i64 ((AA m d).f0))).setCell ⟨l, 1, none⟩ (.int .i64 ((AA m d).f1.f0))).setCell ⟨l, 2, none⟩ (.int .i64 ((AA m d).f1.f1))).setCell ⟨l, 3, none⟩ (.slice U ((AA m d).f1.f2).length X)).setCell ⟨l, 4, none⟩ (.slice W ((AA m d).f1.f3).length Y)) w.heap.size (fun J => some J ≠ (.slice (some uD) m.length fC : Value).ownBlock ∧ some J ≠ (.slice lB eB.length mB : Value).ownBlock ∧ J ≠ b ∧ J ≠ D ∧ J ≠ l) (.slice W ((AA m d).f1.f3).length Y) ((AA m d).f1.f3)) := ⟨BH (Kd.AO (vI (q := l) (Kd.AO aB.out (fun J T => (⟨T, T.2⟩ : _ ∧ J ≠ l))) (fun _ T => T.2)) (fun _ T => ⟨T.1.1.2, ⟨T.1.1.1.1, ⟨T.1.1.1.2.1, ⟨T.1.1.1.2.2, T.1.2⟩⟩⟩⟩))⟩
    have bC : Aside0 ((((((oK.setCell ⟨l, 0, none⟩ (.int .i64 ((AA m d).f0))).setCell ⟨l, 1, none⟩ (.int .i64 ((AA m d).f1.f0))).setCell ⟨l, 2, none⟩ (.int .i64 ((AA m d).f1.f1))).setCell ⟨l, 3, none⟩ (.slice U ((AA m d).f1.f2).length X)).setCell ⟨l, 4, none⟩ (.slice W ((AA m d).f1.f3).length Y)).heap[b]? = some (.cells #[.int .i64 cC, .int .i64 dC, .string eC, .slice iC oB.length kC, .slice jC qB.length lC, .int .i64 rC, .int .i64 sC, .slice tC mC.length wC, .slice uC nC.length xC, .slice vC oC.length yC, .int .i64 L, .slice gC z.length sB, .slice bD B.length tB, .bool kB] 40 (0, 0))) := ⟨bF uE a⟩
    have pC : Aside0 ((((((oK.setCell ⟨l, 0, none⟩ (.int .i64 ((AA m d).f0))).setCell ⟨l, 1, none⟩ (.int .i64 ((AA m d).f1.f0))).setCell ⟨l, 2, none⟩ (.int .i64 ((AA m d).f1.f1))).setCell ⟨l, 3, none⟩ (.slice U ((AA m d).f1.f2).length X)).setCell ⟨l, 4, none⟩ (.slice W ((AA m d).f1.f3).length Y)).heap[D]? = some (.cells #[.int .i64 jE, .int .i64 kE, .slice lB eB.length mB, .slice tE nD.length yE, .slice (some uD) m.length fC] 33 (0, 0))) := ⟨bF vE s⟩
    have mF : Aside0 ((((((oK.setCell ⟨l, 0, none⟩ (.int .i64 ((AA m d).f0))).setCell ⟨l, 1, none⟩ (.int .i64 ((AA m d).f1.f0))).setCell ⟨l, 2, none⟩ (.int .i64 ((AA m d).f1.f1))).setCell ⟨l, 3, none⟩ (.slice U ((AA m d).f1.f2).length X)).setCell ⟨l, 4, none⟩ (.slice W ((AA m d).f1.f3).length Y)).heap[l]? = some (.cells #[.int .i64 ((AA m d).f0), .int .i64 ((AA m d).f1.f0), .int .i64 ((AA m d).f1.f1), .slice U ((AA m d).f1.f2).length X, .slice W ((AA m d).f1.f3).length Y] 63 (0, 0))) := ⟨pB O⟩
    have oF : Aside0 (Below w.heap.size w (((((oK.setCell ⟨l, 0, none⟩ (.int .i64 ((AA m d).f0))).setCell ⟨l, 1, none⟩ (.int .i64 ((AA m d).f1.f0))).setCell ⟨l, 2, none⟩ (.int .i64 ((AA m d).f1.f1))).setCell ⟨l, 3, none⟩ (.slice U ((AA m d).f1.f2).length X)).setCell ⟨l, 4, none⟩ (.slice W ((AA m d).f1.f3).length Y))) := ⟨be3 G I fB dH⟩
    try clear x
    try clear j
    try clear p
    try clear c
    try clear Z
    try clear aB
    try clear a
    try clear s
    try clear O
    try clear G
    generalize (((((oK.setCell ⟨l, 0, none⟩ (.int .i64 ((AA m d).f0))).setCell ⟨l, 1, none⟩ (.int .i64 ((AA m d).f1.f0))).setCell ⟨l, 2, none⟩ (.int .i64 ((AA m d).f1.f1))).setCell ⟨l, 3, none⟩ (.slice U ((AA m d).f1.f2).length X)).setCell ⟨l, 4, none⟩ (.slice W ((AA m d).f1.f3).length Y)) = g2 at uB wB xB yB zB aC bC pC mF oF ⊢
    have x := uB; have j := wB; have p := xB; have c := yB; have Z := zB; have aB := aC; have a := bC; have s := pC; have O := mF; have G := oF; clear uB wB xB yB zB aC bC pC mF oF
    have uB := mk0 (Kd.CU x.out)
    have wB := mk0 (Kd.DT j.out)
    have xB := mk0 (Kd.BU p.out)
    have yB := mk0 (Kd.CU c.out)
    have zB := mk0 (Kd.BU Z.out)
    have aC := mk0 (Kd.BU aB.out)
    have bC := mk0 (AV a.out)
    have pC := mk0 (AV s.out)
    have mF := mk0 (AV O.out)
    have oF := mk0 (Aa G.out)
    clear x; clear j; clear p; clear c; clear Z; clear aB; clear a; clear s; clear O; clear G; have x := uB; have j := wB; have p := xB; have c := yB; have Z := zB; have aB := aC; have a := bC; have s := pC; have O := mF; have G := oF; clear uB wB xB yB zB aC bC pC mF oF
    have jI : 0 ≤ (0 : Int) := (by omega)
    have kI : 0 < (B.length : Int) := od
    obtain ⟨tH, wK, zC⟩ := Kd.Cj sD.out 0 jI kI
    have rD := zC
    (try rw [show ((0 : Int)).toNat = 0 from rfl] at rD)
    (try rw [show 0 * 1 = 0 from rfl] at rD)
    (try rw [Addr.add_zero'] at rD)
    cases wK
    have wM : (0 < B.length) = True := eq_true (by omega)
    (try rw [show ((0 : Int)).toNat = 0 from rfl] at zC)
    (try rw [Addr.add_zero'] at zC)
    replace zC := AX G.out zC
    replace jI := eq_true jI; replace kI := eq_true kI
    have jK : 0 ≤ (0 : Int) := (by omega)
    have lK : 0 < (z.length : Int) := od
    obtain ⟨wE, mI, aJ, oI, bJ, rL, vD, wD, xD, yD, bI, vH, cI, wH⟩ := Da sG.out 0 jK lK
    have gF := yD
    (try rw [show ((0 : Int)).toNat = 0 from rfl] at gF)
    (try rw [show 0 * 4 = 0 from rfl] at gF)
    (try rw [Addr.add_zero'] at gF)
    have fF := xD
    (try rw [show ((0 : Int)).toNat = 0 from rfl] at fF)
    (try rw [show 0 * 4 = 0 from rfl] at fF)
    (try rw [Addr.add_zero'] at fF)
    have eF := wD
    (try rw [show ((0 : Int)).toNat = 0 from rfl] at eF)
    (try rw [show 0 * 4 = 0 from rfl] at eF)
    (try rw [Addr.add_zero'] at eF)
    have dF := vD
    (try rw [show ((0 : Int)).toNat = 0 from rfl] at dF)
    (try rw [show 0 * 4 = 0 from rfl] at dF)
    (try rw [Addr.add_zero'] at dF)
    cases rL
    have eQ : (0 < z.length) = True := eq_true (by omega)
    (try rw [show ((0 : Int)).toNat = 0 from rfl] at vD)
    (try rw [show 0 * 4 = 0 from rfl] at vD)
    (try rw [Addr.add_zero'] at vD)
    (try rw [show ((0 : Int)).toNat = 0 from rfl] at wD)
    (try rw [show 0 * 4 = 0 from rfl] at wD)
    (try rw [Addr.add_zero'] at wD)
    (try rw [show ((0 : Int)).toNat = 0 from rfl] at xD)
    (try rw [show 0 * 4 = 0 from rfl] at xD)
    (try rw [Addr.add_zero'] at xD)
    (try rw [show ((0 : Int)).toNat = 0 from rfl] at yD)
    (try rw [show 0 * 4 = 0 from rfl] at yD)
    (try rw [Addr.add_zero'] at yD)
    replace vD := AX G.out vD
    replace wD := AX G.out wD
    replace xD := AX G.out xD
    replace yD := AX G.out yD
    have pH := mk0 vH; have uJ := mk0 bI; clear vH bI; have qH := mk0 wH; have vJ := mk0 cI; clear wH cI; replace jK := eq_true jK; replace lK := eq_true lK
    refine Ch (n := 20) (S := fun w' => w'.cell? ⟨l, 0, none⟩ = some (.int .i64 ((AA m d).f0)) ∧ w'.cell? ⟨l, 1, none⟩ = some (.int .i64 ((AA m d).f1.f0)) ∧ w'.cell? ⟨l, 2, none⟩ = some (.int .i64 ((AA m d).f1.f1)) ∧ w'.cell? ⟨l, 3, none⟩ = some (.slice U ((AA m d).f1.f2).length X) ∧ w'.cell? ⟨l, 4, none⟩ = some (.slice W ((AA m d).f1.f3).length Y) ∧ w'.cell? ⟨b, 0, none⟩ = some (.int .i64 cC) ∧ w'.cell? ⟨b, 1, none⟩ = some (.int .i64 dC) ∧ w'.cell? ⟨b, 2, none⟩ = some (.string eC) ∧ w'.cell? ⟨b, 3, none⟩ = some (.slice iC oB.length kC) ∧ w'.cell? ⟨b, 4, none⟩ = some (.slice jC qB.length lC) ∧ w'.cell? ⟨b, 5, none⟩ = some (.int .i64 rC) ∧ w'.cell? ⟨b, 6, none⟩ = some (.int .i64 sC) ∧ w'.cell? ⟨b, 7, none⟩ = some (.slice tC mC.length wC) ∧ w'.cell? ⟨b, 8, none⟩ = some (.slice uC nC.length xC) ∧ w'.cell? ⟨b, 9, none⟩ = some (.slice vC oC.length yC) ∧ w'.cell? ⟨b, 10, none⟩ = some (.int .i64 L) ∧ w'.cell? ⟨b, 11, none⟩ = some (.slice (some wE) z.length sB) ∧ w'.cell? ⟨b, 12, none⟩ = some (.slice (some tH) B.length tB) ∧ w'.cell? ⟨b, 13, none⟩ = some (.bool kB) ∧ w'.cell? tH = some (.int .i64 (rd B 0)) ∧ w'.cell? wE = some (.int .i64 ((AC z 0).f0)) ∧ w'.cell? ⟨wE.block, wE.off + 1, none⟩ = some (.int .i64 ((AC z 0).f1)) ∧ w'.cell? ⟨wE.block, wE.off + 2, none⟩ = some (.slice mI ((AC z 0).f2).length aJ) ∧ w'.cell? ⟨wE.block, wE.off + 3, none⟩ = some (.slice oI ((AC z 0).f3).length bJ)) (ds := []) (tf 0 20) (by kernel_rfl) rfl rfl ⟨bc O 0, bc O 1, bc O 2, bc O 3, bc O 4, bc a 0, bc a 1, bc a 2, bc a 3, bc a 4, bc a 5, bc a 6, bc a 7, bc a 8, bc a 9, bc a 10, bc a 11, bc a 12, bc a 13, (AX G.out rD), (AX G.out dF), (AX G.out eF), (AX G.out fF), (AX G.out gF)⟩ (fun y => ?_); refine Bl AL.O9 AL.NL (fun u qC => ?_)
    generalize g2.drew = i5 at x j p c Z aB a s O G pH qH zC vD wD xD yD y ⊢
    refine pv 0 28 (tf 1 19) u ?_
    refine pv 2 30 #[true, false, true, false, false, false, false, false, false, false, false, false, false, false, false, false, false, false, false, false] u ?_
    refine pv 4 32 #[true, false, true, false, true, false, false, false, false, false, false, false, false, false, false, false, false, false, false, false] u ?_
    refine BR (i := 1) (N := some 29) (v := ?_) (a' := ?_) #[true, true, true, false, true, false, false, false, false, false, false, false, false, false, false, false, false, false, false, false] rfl rfl (Ae u.out qC.out (by kernel_rfl)) (fun _ _ _ h => h) (Or.inl ⟨by rfl, ?_⟩) y ?_ ?_
    rotate_left
    ·rintro w' ⟨s0, s1, s2, s3, s4, s5, s6, s7, s8, s9, cD, dD, eD, fD, gD, hD, jD, kD, lD, mD, mH, nH, oH, oJ⟩
     go_simp
     with_reducible rfl
    rotate_left
    ·simp only [ps]
     rfl
    refine BR (i := 3) (N := some 31) (v := ?_) (a' := ?_) (tf 5 15) rfl rfl (Ae u.out qC.out (by kernel_rfl)) (fun _ _ _ h => h) (Or.inl ⟨by rfl, ?_⟩) y ?_ ?_
    rotate_left
    ·rintro w' ⟨s0, s1, s2, s3, s4, s5, s6, s7, s8, s9, cD, dD, eD, fD, gD, hD, jD, kD, lD, mD, mH, nH, oH, oJ⟩
     go_simp
     with_reducible rfl
    rotate_left
    ·simp only [ps]
     rfl
    refine BR (i := 5) (N := some 33) (v := ?_) (a' := ?_) (tf 6 14) rfl rfl (Ae u.out qC.out (by kernel_rfl)) (fun _ _ _ h => h) (Or.inl ⟨by rfl, ?_⟩) y ?_ ?_
    rotate_left
    ·rintro w' ⟨s0, s1, s2, s3, s4, s5, s6, s7, s8, s9, cD, dD, eD, fD, gD, hD, jD, kD, lD, mD, mH, nH, oH, oJ⟩
     go_simp
     with_reducible rfl
    rotate_left
    ·simp only [ps]
     rfl
    refine pv 6 34 (tf 7 13) u ?_
    refine BR (i := 7) (N := some 35) (v := ?_) (a' := ?_) (tf 8 12) rfl rfl (Ae u.out qC.out (by kernel_rfl)) (fun _ _ _ h => h) (Or.inl ⟨by rfl, ?_⟩) y ?_ ?_
    rotate_left
    ·rintro w' ⟨s0, s1, s2, s3, s4, s5, s6, s7, s8, s9, cD, dD, eD, fD, gD, hD, jD, kD, lD, mD, mH, nH, oH, oJ⟩
     go_simp
     with_reducible rfl
    rotate_left
    ·simp only [ps]
     rfl
    refine pv 8 36 (tf 9 11) u ?_
    refine pv 9 37 (tf 10 10) u ?_
    refine pv 10 38 (tf 11 9) u ?_
    refine pv 11 39 (tf 12 8) u ?_
    refine pv 13 41 #[true, true, true, true, true, true, true, true, true, true, true, true, false, true, false, false, false, false, false, false] u ?_
    refine BR (i := 12) (N := some 40) (v := ?_) (a' := ?_) (tf 14 6) rfl rfl (Ae u.out qC.out (by kernel_rfl)) (fun _ _ _ h => h) (Or.inl ⟨by rfl, ?_⟩) y ?_ ?_
    rotate_left
    ·rintro w' ⟨s0, s1, s2, s3, s4, s5, s6, s7, s8, s9, cD, dD, eD, fD, gD, hD, jD, kD, lD, mD, mH, nH, oH, oJ⟩
     go_simp
     with_reducible rfl
    rotate_left
    ·simp only [ps]
     rfl
    refine BR (i := 14) (N := some 42) (v := ?_) (a' := ?_) (tf 15 5) rfl rfl (Ae u.out qC.out (by kernel_rfl)) (fun _ _ _ h => h) (Or.inl ⟨by rfl, ?_⟩) y ?_ ?_
    rotate_left
    ·rintro w' ⟨s0, s1, s2, s3, s4, s5, s6, s7, s8, s9, cD, dD, eD, fD, gD, hD, jD, kD, lD, mD, mH, nH, oH, oJ⟩
     go_simp
     with_reducible rfl
    rotate_left
    ·simp only [ps]
     rfl
    refine pv 15 43 (tf 16 4) u ?_
    refine BR (i := 16) (N := some 44) (v := ?_) (a' := ?_) (tf 17 3) rfl rfl (Ae u.out qC.out (by kernel_rfl)) (fun _ _ _ h => h) (Or.inl ⟨by rfl, ?_⟩) y ?_ ?_
    rotate_left
    ·rintro w' ⟨s0, s1, s2, s3, s4, s5, s6, s7, s8, s9, cD, dD, eD, fD, gD, hD, jD, kD, lD, mD, mH, nH, oH, oJ⟩
     go_simp
     with_reducible rfl
    rotate_left
    ·simp only [ps]
     rfl
    refine Cz (i := 17) (N := some 45) (tf 18 2) rfl rfl (Bq u.out (by kernel_rfl)) (by decide) (fun K hK => ?_)
    refine Cg Try.func32 (by kernel_rfl) rfl #[.agg #[.int .i64 ((AA m d).f1.f0), .int .i64 ((AA m d).f1.f1), .slice U ((AA m d).f1.f2).length X, .slice W ((AA m d).f1.f3).length Y], .agg #[.int .i64 ((AC z 0).f0), .int .i64 ((AC z 0).f1), .slice mI ((AC z 0).f2).length aJ, .slice oI ((AC z 0).f3).length bJ]] (by rfl) rfl rfl (by (try simp only [List.map_toArray, List.map_cons, List.map_nil]); first | done | rfl | (simp only [List.length_drop, List.length_take]; rfl)) ?_
    with_reducible refine (Ba.calls k1 ((AA m d).f1.f0) ((AA m d).f1.f1) _ _ ((AA m d).f1.f2) _ _ ((AA m d).f1.f3) ((AC z 0).f0) ((AC z 0).f1) _ _ ((AC z 0).f2) _ _ ((AC z 0).f3) true _ ?side1 ?side2 ?side3 ?side4 ?side5 ?side6 ?side7 ?side8 qT.out).mono ?_
    (case side1 => exact ((Kd.AU (Br Z.out)).2.2))
    (case side2 => exact yI.out)
    (case side3 => exact ((Kd.AU (Br aB.out)).2.2))
    (case side4 => exact zI.out)
    (case side5 => exact cu pH G)
    (case side6 => exact uJ.out)
    (case side7 => exact cu qH G)
    (case side8 => exact vJ.out)
    rintro e j5 ⟨rfl, hb⟩
    refine ⟨_, rfl, ?_⟩
    have uB := nb x hb
    have wB := rb j hb
    have xB := vb p hb
    have yB := nb c hb
    have zB := vb Z hb
    have aC := vb aB hb
    have bC := kb a hb
    have pC := kb s hb
    have mF := kb O hb
    have oF := kh3 G I fB dH hb
    clear x; clear j; clear p; clear c; clear Z; clear aB; clear a; clear s; clear O; clear G; have x := uB; have j := wB; have p := xB; have c := yB; have Z := zB; have aB := aC; have a := bC; have s := pC; have O := mF; have G := oF; clear uB wB xB yB zB aC bC pC mF oF
    try clear hb
    try clear T
    refine hK.out _ _ ⟨bc O 0, bc O 1, bc O 2, bc O 3, bc O 4, bc a 0, bc a 1, bc a 2, bc a 3, bc a 4, bc a 5, bc a 6, bc a 7, bc a 8, bc a 9, bc a 10, bc a 11, bc a 12, bc a 13, (AX G.out rD), (AX G.out dF), (AX G.out eF), (AX G.out fF), (AX G.out gF)⟩ (fun y => ?_)
    clear hK K
    refine CB (a' := ?_) ?_ ?_
    rotate_left
    ·show Act.put _ (some 45) _ = _
     simp only [ps]
     rfl
    refine pv 18 46 (tf 19 1) u ?_
    refine pv 19 47 (tf 20 0) u ?_
    refine DV (Ce u.out (by kernel_rfl)) ?_
    try go_wp2
    go_roundg k1
    case measure => have := eN.out; omega
    case rel => exact ⟨(wrap64 (d + 1)), rfl, H', ⟨by have := eN.out; omega⟩, ⟨Dt (Kd.Be x.out (fun _ T => ⟨T.1, ⟨T.2.1, T.2.2.1⟩⟩))⟩, ⟨DJ j.out⟩, ⟨BH (Kd.AO p.out (fun _ T => ⟨T.1, ⟨T.2.1, ⟨T.2.2.1, ⟨T.2.2.2.1, T.2.2.2.2.1⟩⟩⟩⟩))⟩, ⟨Dt (Kd.Be c.out (fun _ T => ⟨T.1, ⟨T.2.1, T.2.2.1⟩⟩))⟩, ⟨bu a⟩, ⟨bu s⟩, ⟨be3 G I fB dH⟩⟩
   replace H := iN H; obtain ⟨sA, tA, H⟩ := H
   have uA : decide (0 < B.length) = true := decide_eq_true (by omega)
   clear sA
   replace H := iE H; obtain ⟨hP, iP, H⟩ | ⟨c46, hP, iP, H⟩ := H
   ·replace H := bS H; obtain ⟨cA, gA, H⟩ := H; obtain rfl := sI H; have ⟨y0, y1⟩ := no tD lE
    have wT : wr.cell? ⟨b, 0, none⟩ = some (.int .i64 cC) := bc a 0
    have xT : wr.cell? ⟨b, 1, none⟩ = some (.int .i64 dC) := bc a 1
    have yT : wr.cell? ⟨b, 2, none⟩ = some (.string eC) := bc a 2
    have zT : wr.cell? ⟨b, 3, none⟩ = some (.slice iC oB.length kC) := bc a 3
    have aU : wr.cell? ⟨b, 4, none⟩ = some (.slice jC qB.length lC) := bc a 4
    have bU : wr.cell? ⟨b, 5, none⟩ = some (.int .i64 rC) := bc a 5
    have cU : wr.cell? ⟨b, 6, none⟩ = some (.int .i64 sC) := bc a 6
    have dU : wr.cell? ⟨b, 7, none⟩ = some (.slice tC mC.length wC) := bc a 7
    have eU : wr.cell? ⟨b, 8, none⟩ = some (.slice uC nC.length xC) := bc a 8
    have fU : wr.cell? ⟨b, 9, none⟩ = some (.slice vC oC.length yC) := bc a 9
    have sQ : wr.cell? ⟨b, 10, none⟩ = some (.int .i64 L) := bc a 10
    have tQ : wr.cell? ⟨b, 11, none⟩ = some (.slice gC z.length sB) := bc a 11
    have uQ : wr.cell? ⟨b, 12, none⟩ = some (.slice bD B.length tB) := bc a 12
    have vQ : wr.cell? ⟨b, 13, none⟩ = some (.bool kB) := bc a 13
    have yW := AB a.out 0
    have zW := AB a.out 1
    have aX := AB a.out 2
    have bX := AB a.out 3
    have cX := AB a.out 4
    have dX := AB a.out 5
    have eX := AB a.out 6
    have fX := AB a.out 7
    have gX := AB a.out 8
    have hX := AB a.out 9
    have jS := AB a.out 10
    have kS := AB a.out 11
    have lS := AB a.out 12
    have mS := AB a.out 13
    have pF : 0 ≤ (0 : Int) := (by omega)
    have qF : 0 < (B.length : Int) := od
    obtain ⟨aD, uH, jB⟩ := Kd.Cj sD.out 0 pF qF
    cases uH
    have nK : (0 < B.length) = True := eq_true (by omega)
    (try rw [show ((0 : Int)).toNat = 0 from rfl] at jB)
    (try rw [Addr.add_zero'] at jB)
    replace jB := AX G.out jB
    replace pF := eq_true pF; replace qF := eq_true qF
    go_wp2_with ((with_reducible refine AR (f := 16) rfl ?_); refine Cb Try.func16 (Cv.calls k1  cA _ (Ad HG.out (be2 G I fB)) gA.out) ?_; intro o5 hb; replace x := nb x hb; replace j := rb j hb; replace p := vb p hb; replace c := nb c hb; obtain ⟨a, s⟩ := tb2 hb a s; replace G := kh2 G I fB hb)
    go_ret
    exact ⟨rfl, be2 G I fB⟩
   replace H := Option.bind_eq_some_iff.mp H
   obtain ⟨⟨hC, rK⟩, uO, H⟩ := H
   replace H : (if rK = 0 then (if (hC.length : Int) = 0 then ((Cv.f k1).bind fun yM => (some yM)) else (if (hC.length : Int) = 1 then (if 0 < (hC.length : Int) then (if 0 < (z.length : Int) then ((Ba.f k1 ((AA hC 0).f1.f0) ((AA hC 0).f1.f1) ((AA hC 0).f1.f2) ((AA hC 0).f1.f3) ((AC z 0).f0) ((AC z 0).f1) ((AC z 0).f2) ((AC z 0).f3)).bind fun bP => (if bP = true then ((Cv.f k1).bind fun zM => (some zM)) else (some false))) else (none)) else (none)) else (some false))) else (some false)) = some r := H
   have pL := mk0 uO; clear uO
   replace H := iE' H; obtain ⟨d5, jP, kP, H⟩ | ⟨jP, kP, H⟩ := H
   ·obtain rfl := sI H; have ⟨i1, e2⟩ := no tD lE
    have uV : wr.cell? ⟨b, 0, none⟩ = some (.int .i64 cC) := bc a 0
    have vV : wr.cell? ⟨b, 1, none⟩ = some (.int .i64 dC) := bc a 1
    have wV : wr.cell? ⟨b, 2, none⟩ = some (.string eC) := bc a 2
    have xV : wr.cell? ⟨b, 3, none⟩ = some (.slice iC oB.length kC) := bc a 3
    have yV : wr.cell? ⟨b, 4, none⟩ = some (.slice jC qB.length lC) := bc a 4
    have zV : wr.cell? ⟨b, 5, none⟩ = some (.int .i64 rC) := bc a 5
    have aW : wr.cell? ⟨b, 6, none⟩ = some (.int .i64 sC) := bc a 6
    have bW : wr.cell? ⟨b, 7, none⟩ = some (.slice tC mC.length wC) := bc a 7
    have cW : wr.cell? ⟨b, 8, none⟩ = some (.slice uC nC.length xC) := bc a 8
    have dW : wr.cell? ⟨b, 9, none⟩ = some (.slice vC oC.length yC) := bc a 9
    have mR : wr.cell? ⟨b, 10, none⟩ = some (.int .i64 L) := bc a 10
    have nR : wr.cell? ⟨b, 11, none⟩ = some (.slice gC z.length sB) := bc a 11
    have oR : wr.cell? ⟨b, 12, none⟩ = some (.slice bD B.length tB) := bc a 12
    have pR : wr.cell? ⟨b, 13, none⟩ = some (.bool kB) := bc a 13
    have wY := AB a.out 0
    have xY := AB a.out 1
    have yY := AB a.out 2
    have zY := AB a.out 3
    have aZ := AB a.out 4
    have bZ := AB a.out 5
    have cZ := AB a.out 6
    have dZ := AB a.out 7
    have eZ := AB a.out 8
    have fZ := AB a.out 9
    have dT := AB a.out 10
    have eT := AB a.out 11
    have fT := AB a.out 12
    have gT := AB a.out 13
    have pF : 0 ≤ (0 : Int) := (by omega)
    have qF : 0 < (B.length : Int) := od
    obtain ⟨aD, uH, jB⟩ := Kd.Cj sD.out 0 pF qF
    cases uH
    have nK : (0 < B.length) = True := eq_true (by omega)
    (try rw [show ((0 : Int)).toNat = 0 from rfl] at jB)
    (try rw [Addr.add_zero'] at jB)
    replace jB := AX G.out jB
    replace pF := eq_true pF; replace qF := eq_true qF
    try go_wp2
    have uB := mk0 (Kd.CU x.out)
    have wB := mk0 (Kd.DT j.out)
    have xB := mk0 (Kd.BU p.out)
    have yB := mk0 (Kd.CU c.out)
    have zB := mk0 (AV a.out)
    have aC := mk0 (AV s.out)
    have bC := mk0 (Aa G.out)
    clear x; clear j; clear p; clear c; clear a; clear s; clear G; have x := uB; have j := wB; have p := xB; have c := yB; have a := zB; have s := aC; have G := bC; clear uB wB xB yB zB aC bC
    have yF : 0 ≤ (0 : Int) := (by omega)
    have zF : 0 < (B.length : Int) := od
    obtain ⟨kH, gJ, cB⟩ := Kd.Cj sD.out 0 yF zF
    have hB := cB
    (try rw [show ((0 : Int)).toNat = 0 from rfl] at hB)
    (try rw [show 0 * 1 = 0 from rfl] at hB)
    (try rw [Addr.add_zero'] at hB)
    obtain rfl : aD = kH := (by injection gJ)
    have uK : (0 < B.length) = True := eq_true (by omega)
    (try rw [show ((0 : Int)).toNat = 0 from rfl] at cB)
    (try rw [Addr.add_zero'] at cB)
    replace cB := AX G.out cB
    replace yF := eq_true yF; replace zF := eq_true zF
    refine Ch (n := 19) (S := fun w' => w'.cell? ⟨b, 0, none⟩ = some (.int .i64 cC) ∧ w'.cell? ⟨b, 1, none⟩ = some (.int .i64 dC) ∧ w'.cell? ⟨b, 2, none⟩ = some (.string eC) ∧ w'.cell? ⟨b, 3, none⟩ = some (.slice iC oB.length kC) ∧ w'.cell? ⟨b, 4, none⟩ = some (.slice jC qB.length lC) ∧ w'.cell? ⟨b, 5, none⟩ = some (.int .i64 rC) ∧ w'.cell? ⟨b, 6, none⟩ = some (.int .i64 sC) ∧ w'.cell? ⟨b, 7, none⟩ = some (.slice tC mC.length wC) ∧ w'.cell? ⟨b, 8, none⟩ = some (.slice uC nC.length xC) ∧ w'.cell? ⟨b, 9, none⟩ = some (.slice vC oC.length yC) ∧ w'.cell? ⟨b, 10, none⟩ = some (.int .i64 L) ∧ w'.cell? ⟨b, 11, none⟩ = some (.slice gC z.length sB) ∧ w'.cell? ⟨b, 12, none⟩ = some (.slice (some aD) B.length tB) ∧ w'.cell? ⟨b, 13, none⟩ = some (.bool kB) ∧ w'.cell? ⟨D, 0, none⟩ = some (.int .i64 jE) ∧ w'.cell? ⟨D, 1, none⟩ = some (.int .i64 kE) ∧ w'.cell? ⟨D, 2, none⟩ = some (.slice lB eB.length mB) ∧ w'.cell? ⟨D, 3, none⟩ = some (.slice tE nD.length yE) ∧ w'.cell? ⟨D, 4, none⟩ = some (.slice dE m.length fC) ∧ w'.cell? aD = some (.int .i64 (rd B 0))) (ds := []) (tf 0 19) (by kernel_rfl) rfl rfl ⟨bc a 0, bc a 1, bc a 2, bc a 3, bc a 4, bc a 5, bc a 6, bc a 7, bc a 8, bc a 9, bc a 10, bc a 11, bc a 12, bc a 13, bc s 0, bc s 1, bc s 2, bc s 3, bc s 4, (AX G.out hB)⟩ (fun y => ?_); refine Bl AL.J7 AL.IU (fun u qC => ?_)
    generalize wr.drew = l6 at x j p c a s G cB y ⊢
    refine pv 0 56 (tf 1 18) u ?_
    refine pv 3 59 #[true, false, false, true, false, false, false, false, false, false, false, false, false, false, false, false, false, false, false] u ?_
    refine pv 5 61 #[true, false, false, true, false, true, false, false, false, false, false, false, false, false, false, false, false, false, false] u ?_
    refine pv 7 63 #[true, false, false, true, false, true, false, true, false, false, false, false, false, false, false, false, false, false, false] u ?_
    refine BR (i := 1) (N := some 57) (v := ?_) (a' := ?_) #[true, true, false, true, false, true, false, true, false, false, false, false, false, false, false, false, false, false, false] rfl rfl (Ae u.out qC.out (by kernel_rfl)) (fun _ _ _ h => h) (Or.inl ⟨by rfl, ?_⟩) y ?_ ?_
    rotate_left
    ·rintro w' ⟨s0, s1, s2, s3, s4, s5, s6, s7, s8, s9, cD, dD, eD, fD, gD, hD, jD, kD, lD, mD⟩
     go_simp
     with_reducible rfl
    rotate_left
    ·simp only [ps]
     rfl
    refine BR (i := 2) (N := some 58) (v := ?_) (a' := ?_) #[true, true, true, true, false, true, false, true, false, false, false, false, false, false, false, false, false, false, false] rfl rfl (Ae u.out qC.out (by kernel_rfl)) (fun _ _ _ h => h) (Or.inl ⟨by rfl, ?_⟩) y ?_ ?_
    rotate_left
    ·rintro w' ⟨s0, s1, s2, s3, s4, s5, s6, s7, s8, s9, cD, dD, eD, fD, gD, hD, jD, kD, lD, mD⟩
     go_simp
     with_reducible rfl
    rotate_left
    ·simp only [ps]
     rfl
    refine BR (i := 4) (N := some 60) (v := ?_) (a' := ?_) #[true, true, true, true, true, true, false, true, false, false, false, false, false, false, false, false, false, false, false] rfl rfl (Ae u.out qC.out (by kernel_rfl)) (fun _ _ _ h => h) (Or.inl ⟨by rfl, ?_⟩) y ?_ ?_
    rotate_left
    ·rintro w' ⟨s0, s1, s2, s3, s4, s5, s6, s7, s8, s9, cD, dD, eD, fD, gD, hD, jD, kD, lD, mD⟩
     go_simp
     with_reducible rfl
    rotate_left
    ·simp only [ps]
     rfl
    refine BR (i := 6) (N := some 62) (v := ?_) (a' := ?_) (tf 8 11) rfl rfl (Ae u.out qC.out (by kernel_rfl)) (fun _ _ _ h => h) (Or.inl ⟨by rfl, ?_⟩) y ?_ ?_
    rotate_left
    ·rintro w' ⟨s0, s1, s2, s3, s4, s5, s6, s7, s8, s9, cD, dD, eD, fD, gD, hD, jD, kD, lD, mD⟩
     go_simp
     with_reducible rfl
    rotate_left
    ·simp only [ps]
     rfl
    refine BR (i := 8) (N := some 64) (v := ?_) (a' := ?_) (tf 9 10) rfl rfl (Ae u.out qC.out (by kernel_rfl)) (fun _ _ _ h => h) (Or.inl ⟨by rfl, ?_⟩) y ?_ ?_
    rotate_left
    ·rintro w' ⟨s0, s1, s2, s3, s4, s5, s6, s7, s8, s9, cD, dD, eD, fD, gD, hD, jD, kD, lD, mD⟩
     go_simp
     with_reducible rfl
    rotate_left
    ·simp only [ps]
     rfl
    refine pv 9 65 (tf 10 9) u ?_
    refine BR (i := 10) (N := some 66) (v := ?_) (a' := ?_) (tf 11 8) rfl rfl (Ae u.out qC.out (by kernel_rfl)) (fun _ _ _ h => h) (Or.inl ⟨by rfl, ?_⟩) y ?_ ?_
    rotate_left
    ·rintro w' ⟨s0, s1, s2, s3, s4, s5, s6, s7, s8, s9, cD, dD, eD, fD, gD, hD, jD, kD, lD, mD⟩
     go_simp
     with_reducible rfl
    rotate_left
    ·simp only [ps]
     rfl
    refine pv 11 67 (tf 12 7) u ?_
    refine pv 12 68 (tf 13 6) u ?_
    refine Cz (i := 13) (N := some 69) (tf 14 5) rfl rfl (Bq u.out (by kernel_rfl)) (by decide) (fun K hK => ?_)
    refine Cg Try.func33 (by kernel_rfl) rfl #[.agg #[.int .i64 cC, .int .i64 dC, .string eC, .slice iC oB.length kC, .slice jC qB.length lC], .agg #[.int .i64 jE, .int .i64 kE, .slice lB eB.length mB, .slice tE nD.length yE, .slice dE m.length fC], .int .i64 L, .int .i64 (wrap64 ((wrap64 (L + (rd B 0))) - 1))] (by rfl) rfl rfl (by (try simp only [List.map_toArray, List.map_cons, List.map_nil]); first | done | rfl | (simp only [List.length_drop, List.length_take]; rfl)) ?_
    with_reducible refine (Ah.calls k1 cC dC eC _ _ oB _ _ qB jE kE (fun J => some J = (.slice lB eB.length mB : Value).ownBlock) _ _ eB (fun J => (some J ≠ (.slice dE m.length fC : Value).ownBlock ∧ (some J ≠ (.slice lB eB.length mB : Value).ownBlock ∧ (some J ≠ (.slice dE m.length fC : Value).ownBlock ∧ (J ≠ b ∧ J ≠ D))))) _ _ nD (fun J => (some J ≠ (.slice lB eB.length mB : Value).ownBlock ∧ (J ≠ b ∧ J ≠ D))) _ _ m L (wrap64 ((wrap64 (L + (rd B 0))) - 1)) hC rK _ ?side8 ?side1 ?side2 ?side3 ?side4 ?side5 ?side6 ?side7 pL.out).mono ?_
    (case side1 => exact cu iH G)
    (case side2 => exact eH.out)
    (case side3 => exact cu jH G)
    (case side4 => exact fH.out)
    (case side5 => exact Kd.R_V (Kd.F3 rfl (Kd.Ao (Kd.Ao (Kd.Bh (Kd.Bh (j.out) (Kd.Bz x.out) (by decide)) (Kd.Bz c.out) (by decide)) a.out (by decide)) s.out (by decide))))
    (case side6 => exact p.out)
    (case side7 => exact Kd.N_V (c.out))
    (case side8 => exact Ad HG.out (be2 G I fB))
    rintro e r2 ⟨v662, rfl, qD, hb⟩
    refine ⟨_, rfl, ?_⟩
    have uB := mk0 (Kd.DW (EI x.out) (by first | exact Kd.Bf qD | exact Kd.CO qD) hb)
    have wB := rb j hb
    have xB := mk0 (Kd.BX (Br p.out) (by first | exact Kd.Bf qD | exact Kd.CO qD) hb)
    have yB := mk0 (Kd.DW (EI c.out) (by first | exact Kd.Bf qD | exact Kd.CO qD) hb)
    have zB := mk0 (Kd.DY (Kd.Be (ok' := fun J => J ≠ b ∧ J ≠ D) qD (fun J tF => ⟨Or.elim tF (fun bB => Or.elim bB (fun bB => ((Kd.Ao (Kd.Ao (Kd.Bh (Kd.Bh (j.out) (Kd.Bz x.out) (by decide)) (Kd.Bz c.out) (by decide)) a.out (by decide)) s.out (by decide)).1 J bB.symm).1.2) (fun bB => Or.elim bB (fun bB => bB.2.2.2.1) (fun bB => bB.2.1))) (fun aG => (Kd.BG (g := b) (o := .cells #[.int .i64 cC, .int .i64 dC, .string eC, .slice iC oB.length kC, .slice jC qB.length lC, .int .i64 rC, .int .i64 sC, .slice tC mC.length wC, .slice uC nC.length xC, .slice vC oC.length yC, .int .i64 L, .slice gC z.length sB, .slice (some aD) B.length tB, .bool kB] 40 (0, 0)) (Af a.out) J aG)), Or.elim tF (fun bB => Or.elim bB (fun bB => ((Kd.Ao (Kd.Ao (Kd.Bh (Kd.Bh (j.out) (Kd.Bz x.out) (by decide)) (Kd.Bz c.out) (by decide)) a.out (by decide)) s.out (by decide)).1 J bB.symm).2) (fun bB => Or.elim bB (fun bB => bB.2.2.2.2) (fun bB => bB.2.2))) (fun aG => (Kd.BG (g := D) (o := .cells #[.int .i64 jE, .int .i64 kE, .slice lB eB.length mB, .slice tE nD.length yE, .slice dE m.length fC] 33 (0, 0)) (Af s.out) J aG))⟩)) (AZ (be2 G I fB)))
    have aC := kb a hb
    have bC := kb s hb
    have pC := kh2 G I fB hb
    clear x; clear j; clear p; clear c; clear a; clear s; clear G; have x := uB; have j := wB; have p := xB; have c := yB; have gB := zB; have a := aC; have s := bC; have G := pC; clear uB wB xB yB zB aC bC pC
    try clear hb
    try clear qD
    refine hK.out _ _ ⟨bc a 0, bc a 1, bc a 2, bc a 3, bc a 4, bc a 5, bc a 6, bc a 7, bc a 8, bc a 9, bc a 10, bc a 11, bc a 12, bc a 13, bc s 0, bc s 1, bc s 2, bc s 3, bc s 4, (AX G.out hB)⟩ (fun y => ?_)
    clear hK K
    refine CB (a' := ?_) ?_ ?_
    rotate_left
    ·show Act.put _ (some 69) _ = _
     simp only [ps]
     rfl
    refine pv 14 55 (tf 15 4) u ?_
    refine pv 15 70 (tf 16 3) u ?_
    refine pv 16 71 (tf 17 2) u ?_
    refine pv 17 7 (tf 18 1) u ?_
    refine pv 18 8 (tf 19 0) u ?_
    refine DV (Ce u.out (by kernel_rfl)) ?_
    try go_wp2
    have uB := mk0 (Kd.CU x.out)
    have wB := mk0 (Kd.DT j.out)
    have xB := mk0 (Kd.BU p.out)
    have yB := mk0 (Kd.CU c.out)
    have zB := mk0 (Kd.CU gB.out)
    have aC := mk0 (AV a.out)
    have bC := mk0 (AV s.out)
    have pC := mk0 (Aa G.out)
    clear x; clear j; clear p; clear c; clear gB; clear a; clear s; clear G; have x := uB; have j := wB; have p := xB; have c := yB; have gB := zB; have a := aC; have s := bC; have G := pC; clear uB wB xB yB zB aC bC pC
    refine Ch (n := 27) (S := fun w' => True) (ds := []) (tf 0 27) (by kernel_rfl) rfl rfl trivial (fun y => ?_); refine Bl AL.J8 AL.IV (fun u qC => ?_)
    generalize r2.drew = m6 at x j p c gB a s G y ⊢
    refine pv 0 72 (tf 1 26) u ?_
    refine pv 1 73 (tf 2 25) u ?_
    refine pv 2 74 (tf 3 24) u ?_
    refine pw 3 75 (tf 4 23) u ?_
    refine pw 4 76 (tf 5 22) u ?_
    refine pw 5 77 (tf 6 21) u ?_
    refine pw 6 78 (tf 7 20) u ?_
    refine pw 7 79 (tf 8 19) u ?_
    refine pw 8 80 (tf 9 18) u ?_
    refine pw 9 81 (tf 10 17) u ?_
    refine pw 10 82 (tf 11 16) u ?_
    refine pw 11 83 (tf 12 15) u ?_
    refine pw 12 84 (tf 13 14) u ?_
    refine pw 13 85 (tf 14 13) u ?_
    refine pw 14 86 (tf 15 12) u ?_
    refine pw 15 87 (tf 16 11) u ?_
    refine pw 16 88 (tf 17 10) u ?_
    refine pw 17 89 (tf 18 9) u ?_
    refine pw 18 90 (tf 19 8) u ?_
    refine pw 19 91 (tf 20 7) u ?_
    refine pw 20 92 (tf 21 6) u ?_
    refine pw 21 93 (tf 22 5) u ?_
    refine pv 22 94 (tf 23 4) u ?_
    refine pv 23 95 (tf 24 3) u ?_
    refine pw 24 96 (tf 25 2) u ?_
    refine pv 25 97 (tf 26 1) u ?_
    refine pv 26 2 (tf 27 0) u ?_
    refine DV (Ce u.out (by kernel_rfl)) ?_
    try go_wp2
    go_ret
    exact ⟨rfl, be2 G I fB⟩
   replace H := iE H; obtain ⟨lP, mP, H⟩ | ⟨c53, lP, mP, H⟩ := H
   ·replace H := bS H; obtain ⟨yM, hA, H⟩ := H; obtain rfl := sI H; have ⟨a1, z1⟩ := no tD lE
    have gU : wr.cell? ⟨b, 0, none⟩ = some (.int .i64 cC) := bc a 0
    have hU : wr.cell? ⟨b, 1, none⟩ = some (.int .i64 dC) := bc a 1
    have iU : wr.cell? ⟨b, 2, none⟩ = some (.string eC) := bc a 2
    have jU : wr.cell? ⟨b, 3, none⟩ = some (.slice iC oB.length kC) := bc a 3
    have kU : wr.cell? ⟨b, 4, none⟩ = some (.slice jC qB.length lC) := bc a 4
    have lU : wr.cell? ⟨b, 5, none⟩ = some (.int .i64 rC) := bc a 5
    have mU : wr.cell? ⟨b, 6, none⟩ = some (.int .i64 sC) := bc a 6
    have nU : wr.cell? ⟨b, 7, none⟩ = some (.slice tC mC.length wC) := bc a 7
    have oU : wr.cell? ⟨b, 8, none⟩ = some (.slice uC nC.length xC) := bc a 8
    have pU : wr.cell? ⟨b, 9, none⟩ = some (.slice vC oC.length yC) := bc a 9
    have wQ : wr.cell? ⟨b, 10, none⟩ = some (.int .i64 L) := bc a 10
    have xQ : wr.cell? ⟨b, 11, none⟩ = some (.slice gC z.length sB) := bc a 11
    have yQ : wr.cell? ⟨b, 12, none⟩ = some (.slice bD B.length tB) := bc a 12
    have zQ : wr.cell? ⟨b, 13, none⟩ = some (.bool kB) := bc a 13
    have iX := AB a.out 0
    have jX := AB a.out 1
    have kX := AB a.out 2
    have lX := AB a.out 3
    have mX := AB a.out 4
    have nX := AB a.out 5
    have oX := AB a.out 6
    have pX := AB a.out 7
    have qX := AB a.out 8
    have rX := AB a.out 9
    have nS := AB a.out 10
    have oS := AB a.out 11
    have pS := AB a.out 12
    have qS := AB a.out 13
    have pF : 0 ≤ (0 : Int) := (by omega)
    have qF : 0 < (B.length : Int) := od
    obtain ⟨aD, uH, jB⟩ := Kd.Cj sD.out 0 pF qF
    cases uH
    have nK : (0 < B.length) = True := eq_true (by omega)
    (try rw [show ((0 : Int)).toNat = 0 from rfl] at jB)
    (try rw [Addr.add_zero'] at jB)
    replace jB := AX G.out jB
    replace pF := eq_true pF; replace qF := eq_true qF
    try go_wp2
    have uB := mk0 (Kd.CU x.out)
    have wB := mk0 (Kd.DT j.out)
    have xB := mk0 (Kd.BU p.out)
    have yB := mk0 (Kd.CU c.out)
    have zB := mk0 (AV a.out)
    have aC := mk0 (AV s.out)
    have bC := mk0 (Aa G.out)
    clear x; clear j; clear p; clear c; clear a; clear s; clear G; have x := uB; have j := wB; have p := xB; have c := yB; have a := zB; have s := aC; have G := bC; clear uB wB xB yB zB aC bC
    have yF : 0 ≤ (0 : Int) := (by omega)
    have zF : 0 < (B.length : Int) := od
    obtain ⟨kH, gJ, cB⟩ := Kd.Cj sD.out 0 yF zF
    have hB := cB
    (try rw [show ((0 : Int)).toNat = 0 from rfl] at hB)
    (try rw [show 0 * 1 = 0 from rfl] at hB)
    (try rw [Addr.add_zero'] at hB)
    obtain rfl : aD = kH := (by injection gJ)
    have uK : (0 < B.length) = True := eq_true (by omega)
    (try rw [show ((0 : Int)).toNat = 0 from rfl] at cB)
    (try rw [Addr.add_zero'] at cB)
    replace cB := AX G.out cB
    replace yF := eq_true yF; replace zF := eq_true zF
    refine Ch (n := 19) (S := fun w' => w'.cell? ⟨b, 0, none⟩ = some (.int .i64 cC) ∧ w'.cell? ⟨b, 1, none⟩ = some (.int .i64 dC) ∧ w'.cell? ⟨b, 2, none⟩ = some (.string eC) ∧ w'.cell? ⟨b, 3, none⟩ = some (.slice iC oB.length kC) ∧ w'.cell? ⟨b, 4, none⟩ = some (.slice jC qB.length lC) ∧ w'.cell? ⟨b, 5, none⟩ = some (.int .i64 rC) ∧ w'.cell? ⟨b, 6, none⟩ = some (.int .i64 sC) ∧ w'.cell? ⟨b, 7, none⟩ = some (.slice tC mC.length wC) ∧ w'.cell? ⟨b, 8, none⟩ = some (.slice uC nC.length xC) ∧ w'.cell? ⟨b, 9, none⟩ = some (.slice vC oC.length yC) ∧ w'.cell? ⟨b, 10, none⟩ = some (.int .i64 L) ∧ w'.cell? ⟨b, 11, none⟩ = some (.slice gC z.length sB) ∧ w'.cell? ⟨b, 12, none⟩ = some (.slice (some aD) B.length tB) ∧ w'.cell? ⟨b, 13, none⟩ = some (.bool kB) ∧ w'.cell? ⟨D, 0, none⟩ = some (.int .i64 jE) ∧ w'.cell? ⟨D, 1, none⟩ = some (.int .i64 kE) ∧ w'.cell? ⟨D, 2, none⟩ = some (.slice lB eB.length mB) ∧ w'.cell? ⟨D, 3, none⟩ = some (.slice tE nD.length yE) ∧ w'.cell? ⟨D, 4, none⟩ = some (.slice dE m.length fC) ∧ w'.cell? aD = some (.int .i64 (rd B 0))) (ds := []) (tf 0 19) (by kernel_rfl) rfl rfl ⟨bc a 0, bc a 1, bc a 2, bc a 3, bc a 4, bc a 5, bc a 6, bc a 7, bc a 8, bc a 9, bc a 10, bc a 11, bc a 12, bc a 13, bc s 0, bc s 1, bc s 2, bc s 3, bc s 4, (AX G.out hB)⟩ (fun y => ?_); refine Bl AL.J7 AL.IU (fun u qC => ?_)
    generalize wr.drew = p5 at x j p c a s G cB y ⊢
    refine pv 0 56 (tf 1 18) u ?_
    refine pv 3 59 #[true, false, false, true, false, false, false, false, false, false, false, false, false, false, false, false, false, false, false] u ?_
    refine pv 5 61 #[true, false, false, true, false, true, false, false, false, false, false, false, false, false, false, false, false, false, false] u ?_
    refine pv 7 63 #[true, false, false, true, false, true, false, true, false, false, false, false, false, false, false, false, false, false, false] u ?_
    refine BR (i := 1) (N := some 57) (v := ?_) (a' := ?_) #[true, true, false, true, false, true, false, true, false, false, false, false, false, false, false, false, false, false, false] rfl rfl (Ae u.out qC.out (by kernel_rfl)) (fun _ _ _ h => h) (Or.inl ⟨by rfl, ?_⟩) y ?_ ?_
    rotate_left
    ·rintro w' ⟨s0, s1, s2, s3, s4, s5, s6, s7, s8, s9, cD, dD, eD, fD, gD, hD, jD, kD, lD, mD⟩
     go_simp
     with_reducible rfl
    rotate_left
    ·simp only [ps]
     rfl
    refine BR (i := 2) (N := some 58) (v := ?_) (a' := ?_) #[true, true, true, true, false, true, false, true, false, false, false, false, false, false, false, false, false, false, false] rfl rfl (Ae u.out qC.out (by kernel_rfl)) (fun _ _ _ h => h) (Or.inl ⟨by rfl, ?_⟩) y ?_ ?_
    rotate_left
    ·rintro w' ⟨s0, s1, s2, s3, s4, s5, s6, s7, s8, s9, cD, dD, eD, fD, gD, hD, jD, kD, lD, mD⟩
     go_simp
     with_reducible rfl
    rotate_left
    ·simp only [ps]
     rfl
    refine BR (i := 4) (N := some 60) (v := ?_) (a' := ?_) #[true, true, true, true, true, true, false, true, false, false, false, false, false, false, false, false, false, false, false] rfl rfl (Ae u.out qC.out (by kernel_rfl)) (fun _ _ _ h => h) (Or.inl ⟨by rfl, ?_⟩) y ?_ ?_
    rotate_left
    ·rintro w' ⟨s0, s1, s2, s3, s4, s5, s6, s7, s8, s9, cD, dD, eD, fD, gD, hD, jD, kD, lD, mD⟩
     go_simp
     with_reducible rfl
    rotate_left
    ·simp only [ps]
     rfl
    refine BR (i := 6) (N := some 62) (v := ?_) (a' := ?_) (tf 8 11) rfl rfl (Ae u.out qC.out (by kernel_rfl)) (fun _ _ _ h => h) (Or.inl ⟨by rfl, ?_⟩) y ?_ ?_
    rotate_left
    ·rintro w' ⟨s0, s1, s2, s3, s4, s5, s6, s7, s8, s9, cD, dD, eD, fD, gD, hD, jD, kD, lD, mD⟩
     go_simp
     with_reducible rfl
    rotate_left
    ·simp only [ps]
     rfl
    refine BR (i := 8) (N := some 64) (v := ?_) (a' := ?_) (tf 9 10) rfl rfl (Ae u.out qC.out (by kernel_rfl)) (fun _ _ _ h => h) (Or.inl ⟨by rfl, ?_⟩) y ?_ ?_
    rotate_left
    ·rintro w' ⟨s0, s1, s2, s3, s4, s5, s6, s7, s8, s9, cD, dD, eD, fD, gD, hD, jD, kD, lD, mD⟩
     go_simp
     with_reducible rfl
    rotate_left
    ·simp only [ps]
     rfl
    refine pv 9 65 (tf 10 9) u ?_
    refine BR (i := 10) (N := some 66) (v := ?_) (a' := ?_) (tf 11 8) rfl rfl (Ae u.out qC.out (by kernel_rfl)) (fun _ _ _ h => h) (Or.inl ⟨by rfl, ?_⟩) y ?_ ?_
    rotate_left
    ·rintro w' ⟨s0, s1, s2, s3, s4, s5, s6, s7, s8, s9, cD, dD, eD, fD, gD, hD, jD, kD, lD, mD⟩
     go_simp
     with_reducible rfl
    rotate_left
    ·simp only [ps]
     rfl
    refine pv 11 67 (tf 12 7) u ?_
    refine pv 12 68 (tf 13 6) u ?_
    refine Cz (i := 13) (N := some 69) (tf 14 5) rfl rfl (Bq u.out (by kernel_rfl)) (by decide) (fun K hK => ?_)
    refine Cg Try.func33 (by kernel_rfl) rfl #[.agg #[.int .i64 cC, .int .i64 dC, .string eC, .slice iC oB.length kC, .slice jC qB.length lC], .agg #[.int .i64 jE, .int .i64 kE, .slice lB eB.length mB, .slice tE nD.length yE, .slice dE m.length fC], .int .i64 L, .int .i64 (wrap64 ((wrap64 (L + (rd B 0))) - 1))] (by rfl) rfl rfl (by (try simp only [List.map_toArray, List.map_cons, List.map_nil]); first | done | rfl | (simp only [List.length_drop, List.length_take]; rfl)) ?_
    with_reducible refine (Ah.calls k1 cC dC eC _ _ oB _ _ qB jE kE (fun J => some J = (.slice lB eB.length mB : Value).ownBlock) _ _ eB (fun J => (some J ≠ (.slice dE m.length fC : Value).ownBlock ∧ (some J ≠ (.slice lB eB.length mB : Value).ownBlock ∧ (some J ≠ (.slice dE m.length fC : Value).ownBlock ∧ (J ≠ b ∧ J ≠ D))))) _ _ nD (fun J => (some J ≠ (.slice lB eB.length mB : Value).ownBlock ∧ (J ≠ b ∧ J ≠ D))) _ _ m L (wrap64 ((wrap64 (L + (rd B 0))) - 1)) hC rK _ ?side8 ?side1 ?side2 ?side3 ?side4 ?side5 ?side6 ?side7 pL.out).mono ?_
    (case side1 => exact cu iH G)
    (case side2 => exact eH.out)
    (case side3 => exact cu jH G)
    (case side4 => exact fH.out)
    (case side5 => exact Kd.R_V (Kd.F3 rfl (Kd.Ao (Kd.Ao (Kd.Bh (Kd.Bh (j.out) (Kd.Bz x.out) (by decide)) (Kd.Bz c.out) (by decide)) a.out (by decide)) s.out (by decide))))
    (case side6 => exact p.out)
    (case side7 => exact Kd.N_V (c.out))
    (case side8 => exact Ad HG.out (be2 G I fB))
    rintro e n2 ⟨v662, rfl, qD, hb⟩
    refine ⟨_, rfl, ?_⟩
    have uB := mk0 (Kd.DW (EI x.out) (by first | exact Kd.Bf qD | exact Kd.CO qD) hb)
    have wB := rb j hb
    have xB := mk0 (Kd.BX (Br p.out) (by first | exact Kd.Bf qD | exact Kd.CO qD) hb)
    have yB := mk0 (Kd.DW (EI c.out) (by first | exact Kd.Bf qD | exact Kd.CO qD) hb)
    have zB := mk0 (Kd.DY (Kd.Be (ok' := fun J => J ≠ b ∧ J ≠ D) qD (fun J tF => ⟨Or.elim tF (fun bB => Or.elim bB (fun bB => ((Kd.Ao (Kd.Ao (Kd.Bh (Kd.Bh (j.out) (Kd.Bz x.out) (by decide)) (Kd.Bz c.out) (by decide)) a.out (by decide)) s.out (by decide)).1 J bB.symm).1.2) (fun bB => Or.elim bB (fun bB => bB.2.2.2.1) (fun bB => bB.2.1))) (fun aG => (Kd.BG (g := b) (o := .cells #[.int .i64 cC, .int .i64 dC, .string eC, .slice iC oB.length kC, .slice jC qB.length lC, .int .i64 rC, .int .i64 sC, .slice tC mC.length wC, .slice uC nC.length xC, .slice vC oC.length yC, .int .i64 L, .slice gC z.length sB, .slice (some aD) B.length tB, .bool kB] 40 (0, 0)) (Af a.out) J aG)), Or.elim tF (fun bB => Or.elim bB (fun bB => ((Kd.Ao (Kd.Ao (Kd.Bh (Kd.Bh (j.out) (Kd.Bz x.out) (by decide)) (Kd.Bz c.out) (by decide)) a.out (by decide)) s.out (by decide)).1 J bB.symm).2) (fun bB => Or.elim bB (fun bB => bB.2.2.2.2) (fun bB => bB.2.2))) (fun aG => (Kd.BG (g := D) (o := .cells #[.int .i64 jE, .int .i64 kE, .slice lB eB.length mB, .slice tE nD.length yE, .slice dE m.length fC] 33 (0, 0)) (Af s.out) J aG))⟩)) (AZ (be2 G I fB)))
    have aC := kb a hb
    have bC := kb s hb
    have pC := kh2 G I fB hb
    clear x; clear j; clear p; clear c; clear a; clear s; clear G; have x := uB; have j := wB; have p := xB; have c := yB; have gB := zB; have a := aC; have s := bC; have G := pC; clear uB wB xB yB zB aC bC pC
    try clear hb
    try clear qD
    refine hK.out _ _ ⟨bc a 0, bc a 1, bc a 2, bc a 3, bc a 4, bc a 5, bc a 6, bc a 7, bc a 8, bc a 9, bc a 10, bc a 11, bc a 12, bc a 13, bc s 0, bc s 1, bc s 2, bc s 3, bc s 4, (AX G.out hB)⟩ (fun y => ?_)
    clear hK K
    refine CB (a' := ?_) ?_ ?_
    rotate_left
    ·show Act.put _ (some 69) _ = _
     simp only [ps]
     rfl
    refine pv 14 55 (tf 15 4) u ?_
    refine pv 15 70 (tf 16 3) u ?_
    refine pv 16 71 (tf 17 2) u ?_
    refine pv 17 7 (tf 18 1) u ?_
    refine pv 18 8 (tf 19 0) u ?_
    refine DV (Ce u.out (by kernel_rfl)) ?_
    try go_wp2
    have uB := mk0 (Kd.CU x.out)
    have wB := mk0 (Kd.DT j.out)
    have xB := mk0 (Kd.BU p.out)
    have yB := mk0 (Kd.CU c.out)
    have zB := mk0 (Kd.CU gB.out)
    have aC := mk0 (AV a.out)
    have bC := mk0 (AV s.out)
    have pC := mk0 (Aa G.out)
    clear x; clear j; clear p; clear c; clear gB; clear a; clear s; clear G; have x := uB; have j := wB; have p := xB; have c := yB; have gB := zB; have a := aC; have s := bC; have G := pC; clear uB wB xB yB zB aC bC pC
    obtain ⟨b3, j3, xO⟩ := Kd.Cw gB.out
    (first | subst xO | (injection xO with f1_ f2_ f3_; have fL := f1_.symm; have gL := f3_.symm; clear f1_ f2_ f3_; subst fL; subst gL))
    refine Ch (n := 27) (S := fun w' => True) (ds := []) (tf 0 27) (by kernel_rfl) rfl rfl trivial (fun y => ?_); refine Bl AL.J8 AL.IV (fun u qC => ?_)
    generalize n2.drew = q5 at x j p c gB a s G y ⊢
    refine pv 0 72 (tf 1 26) u ?_
    refine pv 1 73 (tf 2 25) u ?_
    refine pv 2 74 (tf 3 24) u ?_
    refine pv 3 75 (tf 4 23) u ?_
    refine pv 4 76 (tf 5 22) u ?_
    refine pv 5 77 (tf 6 21) u ?_
    refine pv 6 78 (tf 7 20) u ?_
    refine pw 7 79 (tf 8 19) u ?_
    refine pw 8 80 (tf 9 18) u ?_
    refine pw 9 81 (tf 10 17) u ?_
    refine pw 10 82 (tf 11 16) u ?_
    refine pw 11 83 (tf 12 15) u ?_
    refine pw 12 84 (tf 13 14) u ?_
    refine pw 13 85 (tf 14 13) u ?_
    refine pw 14 86 (tf 15 12) u ?_
    refine pw 15 87 (tf 16 11) u ?_
    refine pw 16 88 (tf 17 10) u ?_
    refine pw 17 89 (tf 18 9) u ?_
    refine pw 18 90 (tf 19 8) u ?_
    refine pw 19 91 (tf 20 7) u ?_
    refine pw 20 92 (tf 21 6) u ?_
    refine pv 21 93 (tf 22 5) u ?_
    refine pv 22 94 (tf 23 4) u ?_
    refine pv 23 95 (tf 24 3) u ?_
    refine Cz (i := 24) (N := some 96) (tf 25 2) rfl rfl (Bq u.out (by kernel_rfl)) (by decide) (fun K hK => ?_)
    refine Cg Try.func16 (by kernel_rfl) rfl #[] (by rfl) rfl rfl (by (try simp only [List.map_toArray, List.map_cons, List.map_nil]); first | done | rfl | (simp only [List.length_drop, List.length_take]; rfl)) ?_
    with_reducible refine (Cv.calls k1  yM _ ?side1 hA.out).mono ?_
    (case side1 => exact Ad HG.out (be2 G I fB))
    rintro e r5 ⟨rfl, hb⟩
    refine ⟨_, rfl, ?_⟩
    have uB := nb x hb
    have wB := rb j hb
    have xB := vb p hb
    have yB := nb c hb
    have zB := nb gB hb
    have aC := kb a hb
    have bC := kb s hb
    have pC := kh2 G I fB hb
    clear x; clear j; clear p; clear c; clear gB; clear a; clear s; clear G; have x := uB; have j := wB; have p := xB; have c := yB; have gB := zB; have a := aC; have s := bC; have G := pC; clear uB wB xB yB zB aC bC pC
    try clear hb
    refine hK.out _ _ trivial (fun y => ?_)
    clear hK K
    refine CB (a' := ?_) ?_ ?_
    rotate_left
    ·show Act.put _ (some 96) _ = _
     simp only [ps]
     rfl
    refine pv 25 97 (tf 26 1) u ?_
    refine pv 26 2 (tf 27 0) u ?_
    refine DV (Ce u.out (by kernel_rfl)) ?_
    try go_wp2
    go_ret
    exact ⟨rfl, be2 G I fB⟩
   have vA : ¬ (hC = []) := fun h_ => c53 (by rw [h_]; rfl)
   replace H := iE' H; obtain ⟨e5, nP, oP, H⟩ | ⟨nP, oP, H⟩ := H
   ·obtain rfl := sI H; have ⟨e1, d2⟩ := no tD lE
    have kV : wr.cell? ⟨b, 0, none⟩ = some (.int .i64 cC) := bc a 0
    have lV : wr.cell? ⟨b, 1, none⟩ = some (.int .i64 dC) := bc a 1
    have mV : wr.cell? ⟨b, 2, none⟩ = some (.string eC) := bc a 2
    have nV : wr.cell? ⟨b, 3, none⟩ = some (.slice iC oB.length kC) := bc a 3
    have oV : wr.cell? ⟨b, 4, none⟩ = some (.slice jC qB.length lC) := bc a 4
    have pV : wr.cell? ⟨b, 5, none⟩ = some (.int .i64 rC) := bc a 5
    have qV : wr.cell? ⟨b, 6, none⟩ = some (.int .i64 sC) := bc a 6
    have rV : wr.cell? ⟨b, 7, none⟩ = some (.slice tC mC.length wC) := bc a 7
    have sV : wr.cell? ⟨b, 8, none⟩ = some (.slice uC nC.length xC) := bc a 8
    have tV : wr.cell? ⟨b, 9, none⟩ = some (.slice vC oC.length yC) := bc a 9
    have iR : wr.cell? ⟨b, 10, none⟩ = some (.int .i64 L) := bc a 10
    have jR : wr.cell? ⟨b, 11, none⟩ = some (.slice gC z.length sB) := bc a 11
    have kR : wr.cell? ⟨b, 12, none⟩ = some (.slice bD B.length tB) := bc a 12
    have lR : wr.cell? ⟨b, 13, none⟩ = some (.bool kB) := bc a 13
    have mY := AB a.out 0
    have nY := AB a.out 1
    have oY := AB a.out 2
    have pY := AB a.out 3
    have qY := AB a.out 4
    have rY := AB a.out 5
    have sY := AB a.out 6
    have tY := AB a.out 7
    have uY := AB a.out 8
    have vY := AB a.out 9
    have zS := AB a.out 10
    have aT := AB a.out 11
    have bT := AB a.out 12
    have cT := AB a.out 13
    have pF : 0 ≤ (0 : Int) := (by omega)
    have qF : 0 < (B.length : Int) := od
    obtain ⟨aD, uH, jB⟩ := Kd.Cj sD.out 0 pF qF
    cases uH
    have nK : (0 < B.length) = True := eq_true (by omega)
    (try rw [show ((0 : Int)).toNat = 0 from rfl] at jB)
    (try rw [Addr.add_zero'] at jB)
    replace jB := AX G.out jB
    replace pF := eq_true pF; replace qF := eq_true qF
    try go_wp2
    have uB := mk0 (Kd.CU x.out)
    have wB := mk0 (Kd.DT j.out)
    have xB := mk0 (Kd.BU p.out)
    have yB := mk0 (Kd.CU c.out)
    have zB := mk0 (AV a.out)
    have aC := mk0 (AV s.out)
    have bC := mk0 (Aa G.out)
    clear x; clear j; clear p; clear c; clear a; clear s; clear G; have x := uB; have j := wB; have p := xB; have c := yB; have a := zB; have s := aC; have G := bC; clear uB wB xB yB zB aC bC
    have yF : 0 ≤ (0 : Int) := (by omega)
    have zF : 0 < (B.length : Int) := od
    obtain ⟨kH, gJ, cB⟩ := Kd.Cj sD.out 0 yF zF
    have hB := cB
    (try rw [show ((0 : Int)).toNat = 0 from rfl] at hB)
    (try rw [show 0 * 1 = 0 from rfl] at hB)
    (try rw [Addr.add_zero'] at hB)
    obtain rfl : aD = kH := (by injection gJ)
    have uK : (0 < B.length) = True := eq_true (by omega)
    (try rw [show ((0 : Int)).toNat = 0 from rfl] at cB)
    (try rw [Addr.add_zero'] at cB)
    replace cB := AX G.out cB
    replace yF := eq_true yF; replace zF := eq_true zF
    refine Ch (n := 19) (S := fun w' => w'.cell? ⟨b, 0, none⟩ = some (.int .i64 cC) ∧ w'.cell? ⟨b, 1, none⟩ = some (.int .i64 dC) ∧ w'.cell? ⟨b, 2, none⟩ = some (.string eC) ∧ w'.cell? ⟨b, 3, none⟩ = some (.slice iC oB.length kC) ∧ w'.cell? ⟨b, 4, none⟩ = some (.slice jC qB.length lC) ∧ w'.cell? ⟨b, 5, none⟩ = some (.int .i64 rC) ∧ w'.cell? ⟨b, 6, none⟩ = some (.int .i64 sC) ∧ w'.cell? ⟨b, 7, none⟩ = some (.slice tC mC.length wC) ∧ w'.cell? ⟨b, 8, none⟩ = some (.slice uC nC.length xC) ∧ w'.cell? ⟨b, 9, none⟩ = some (.slice vC oC.length yC) ∧ w'.cell? ⟨b, 10, none⟩ = some (.int .i64 L) ∧ w'.cell? ⟨b, 11, none⟩ = some (.slice gC z.length sB) ∧ w'.cell? ⟨b, 12, none⟩ = some (.slice (some aD) B.length tB) ∧ w'.cell? ⟨b, 13, none⟩ = some (.bool kB) ∧ w'.cell? ⟨D, 0, none⟩ = some (.int .i64 jE) ∧ w'.cell? ⟨D, 1, none⟩ = some (.int .i64 kE) ∧ w'.cell? ⟨D, 2, none⟩ = some (.slice lB eB.length mB) ∧ w'.cell? ⟨D, 3, none⟩ = some (.slice tE nD.length yE) ∧ w'.cell? ⟨D, 4, none⟩ = some (.slice dE m.length fC) ∧ w'.cell? aD = some (.int .i64 (rd B 0))) (ds := []) (tf 0 19) (by kernel_rfl) rfl rfl ⟨bc a 0, bc a 1, bc a 2, bc a 3, bc a 4, bc a 5, bc a 6, bc a 7, bc a 8, bc a 9, bc a 10, bc a 11, bc a 12, bc a 13, bc s 0, bc s 1, bc s 2, bc s 3, bc s 4, (AX G.out hB)⟩ (fun y => ?_); refine Bl AL.J7 AL.IU (fun u qC => ?_)
    generalize wr.drew = i6 at x j p c a s G cB y ⊢
    refine pv 0 56 (tf 1 18) u ?_
    refine pv 3 59 #[true, false, false, true, false, false, false, false, false, false, false, false, false, false, false, false, false, false, false] u ?_
    refine pv 5 61 #[true, false, false, true, false, true, false, false, false, false, false, false, false, false, false, false, false, false, false] u ?_
    refine pv 7 63 #[true, false, false, true, false, true, false, true, false, false, false, false, false, false, false, false, false, false, false] u ?_
    refine BR (i := 1) (N := some 57) (v := ?_) (a' := ?_) #[true, true, false, true, false, true, false, true, false, false, false, false, false, false, false, false, false, false, false] rfl rfl (Ae u.out qC.out (by kernel_rfl)) (fun _ _ _ h => h) (Or.inl ⟨by rfl, ?_⟩) y ?_ ?_
    rotate_left
    ·rintro w' ⟨s0, s1, s2, s3, s4, s5, s6, s7, s8, s9, cD, dD, eD, fD, gD, hD, jD, kD, lD, mD⟩
     go_simp
     with_reducible rfl
    rotate_left
    ·simp only [ps]
     rfl
    refine BR (i := 2) (N := some 58) (v := ?_) (a' := ?_) #[true, true, true, true, false, true, false, true, false, false, false, false, false, false, false, false, false, false, false] rfl rfl (Ae u.out qC.out (by kernel_rfl)) (fun _ _ _ h => h) (Or.inl ⟨by rfl, ?_⟩) y ?_ ?_
    rotate_left
    ·rintro w' ⟨s0, s1, s2, s3, s4, s5, s6, s7, s8, s9, cD, dD, eD, fD, gD, hD, jD, kD, lD, mD⟩
     go_simp
     with_reducible rfl
    rotate_left
    ·simp only [ps]
     rfl
    refine BR (i := 4) (N := some 60) (v := ?_) (a' := ?_) #[true, true, true, true, true, true, false, true, false, false, false, false, false, false, false, false, false, false, false] rfl rfl (Ae u.out qC.out (by kernel_rfl)) (fun _ _ _ h => h) (Or.inl ⟨by rfl, ?_⟩) y ?_ ?_
    rotate_left
    ·rintro w' ⟨s0, s1, s2, s3, s4, s5, s6, s7, s8, s9, cD, dD, eD, fD, gD, hD, jD, kD, lD, mD⟩
     go_simp
     with_reducible rfl
    rotate_left
    ·simp only [ps]
     rfl
    refine BR (i := 6) (N := some 62) (v := ?_) (a' := ?_) (tf 8 11) rfl rfl (Ae u.out qC.out (by kernel_rfl)) (fun _ _ _ h => h) (Or.inl ⟨by rfl, ?_⟩) y ?_ ?_
    rotate_left
    ·rintro w' ⟨s0, s1, s2, s3, s4, s5, s6, s7, s8, s9, cD, dD, eD, fD, gD, hD, jD, kD, lD, mD⟩
     go_simp
     with_reducible rfl
    rotate_left
    ·simp only [ps]
     rfl
    refine BR (i := 8) (N := some 64) (v := ?_) (a' := ?_) (tf 9 10) rfl rfl (Ae u.out qC.out (by kernel_rfl)) (fun _ _ _ h => h) (Or.inl ⟨by rfl, ?_⟩) y ?_ ?_
    rotate_left
    ·rintro w' ⟨s0, s1, s2, s3, s4, s5, s6, s7, s8, s9, cD, dD, eD, fD, gD, hD, jD, kD, lD, mD⟩
     go_simp
     with_reducible rfl
    rotate_left
    ·simp only [ps]
     rfl
    refine pv 9 65 (tf 10 9) u ?_
    refine BR (i := 10) (N := some 66) (v := ?_) (a' := ?_) (tf 11 8) rfl rfl (Ae u.out qC.out (by kernel_rfl)) (fun _ _ _ h => h) (Or.inl ⟨by rfl, ?_⟩) y ?_ ?_
    rotate_left
    ·rintro w' ⟨s0, s1, s2, s3, s4, s5, s6, s7, s8, s9, cD, dD, eD, fD, gD, hD, jD, kD, lD, mD⟩
     go_simp
     with_reducible rfl
    rotate_left
    ·simp only [ps]
     rfl
    refine pv 11 67 (tf 12 7) u ?_
    refine pv 12 68 (tf 13 6) u ?_
    refine Cz (i := 13) (N := some 69) (tf 14 5) rfl rfl (Bq u.out (by kernel_rfl)) (by decide) (fun K hK => ?_)
    refine Cg Try.func33 (by kernel_rfl) rfl #[.agg #[.int .i64 cC, .int .i64 dC, .string eC, .slice iC oB.length kC, .slice jC qB.length lC], .agg #[.int .i64 jE, .int .i64 kE, .slice lB eB.length mB, .slice tE nD.length yE, .slice dE m.length fC], .int .i64 L, .int .i64 (wrap64 ((wrap64 (L + (rd B 0))) - 1))] (by rfl) rfl rfl (by (try simp only [List.map_toArray, List.map_cons, List.map_nil]); first | done | rfl | (simp only [List.length_drop, List.length_take]; rfl)) ?_
    with_reducible refine (Ah.calls k1 cC dC eC _ _ oB _ _ qB jE kE (fun J => some J = (.slice lB eB.length mB : Value).ownBlock) _ _ eB (fun J => (some J ≠ (.slice dE m.length fC : Value).ownBlock ∧ (some J ≠ (.slice lB eB.length mB : Value).ownBlock ∧ (some J ≠ (.slice dE m.length fC : Value).ownBlock ∧ (J ≠ b ∧ J ≠ D))))) _ _ nD (fun J => (some J ≠ (.slice lB eB.length mB : Value).ownBlock ∧ (J ≠ b ∧ J ≠ D))) _ _ m L (wrap64 ((wrap64 (L + (rd B 0))) - 1)) hC rK _ ?side8 ?side1 ?side2 ?side3 ?side4 ?side5 ?side6 ?side7 pL.out).mono ?_
    (case side1 => exact cu iH G)
    (case side2 => exact eH.out)
    (case side3 => exact cu jH G)
    (case side4 => exact fH.out)
    (case side5 => exact Kd.R_V (Kd.F3 rfl (Kd.Ao (Kd.Ao (Kd.Bh (Kd.Bh (j.out) (Kd.Bz x.out) (by decide)) (Kd.Bz c.out) (by decide)) a.out (by decide)) s.out (by decide))))
    (case side6 => exact p.out)
    (case side7 => exact Kd.N_V (c.out))
    (case side8 => exact Ad HG.out (be2 G I fB))
    rintro e q2 ⟨v662, rfl, qD, hb⟩
    refine ⟨_, rfl, ?_⟩
    have uB := mk0 (Kd.DW (EI x.out) (by first | exact Kd.Bf qD | exact Kd.CO qD) hb)
    have wB := rb j hb
    have xB := mk0 (Kd.BX (Br p.out) (by first | exact Kd.Bf qD | exact Kd.CO qD) hb)
    have yB := mk0 (Kd.DW (EI c.out) (by first | exact Kd.Bf qD | exact Kd.CO qD) hb)
    have zB := mk0 (Kd.DY (Kd.Be (ok' := fun J => J ≠ b ∧ J ≠ D) qD (fun J tF => ⟨Or.elim tF (fun bB => Or.elim bB (fun bB => ((Kd.Ao (Kd.Ao (Kd.Bh (Kd.Bh (j.out) (Kd.Bz x.out) (by decide)) (Kd.Bz c.out) (by decide)) a.out (by decide)) s.out (by decide)).1 J bB.symm).1.2) (fun bB => Or.elim bB (fun bB => bB.2.2.2.1) (fun bB => bB.2.1))) (fun aG => (Kd.BG (g := b) (o := .cells #[.int .i64 cC, .int .i64 dC, .string eC, .slice iC oB.length kC, .slice jC qB.length lC, .int .i64 rC, .int .i64 sC, .slice tC mC.length wC, .slice uC nC.length xC, .slice vC oC.length yC, .int .i64 L, .slice gC z.length sB, .slice (some aD) B.length tB, .bool kB] 40 (0, 0)) (Af a.out) J aG)), Or.elim tF (fun bB => Or.elim bB (fun bB => ((Kd.Ao (Kd.Ao (Kd.Bh (Kd.Bh (j.out) (Kd.Bz x.out) (by decide)) (Kd.Bz c.out) (by decide)) a.out (by decide)) s.out (by decide)).1 J bB.symm).2) (fun bB => Or.elim bB (fun bB => bB.2.2.2.2) (fun bB => bB.2.2))) (fun aG => (Kd.BG (g := D) (o := .cells #[.int .i64 jE, .int .i64 kE, .slice lB eB.length mB, .slice tE nD.length yE, .slice dE m.length fC] 33 (0, 0)) (Af s.out) J aG))⟩)) (AZ (be2 G I fB)))
    have aC := kb a hb
    have bC := kb s hb
    have pC := kh2 G I fB hb
    clear x; clear j; clear p; clear c; clear a; clear s; clear G; have x := uB; have j := wB; have p := xB; have c := yB; have gB := zB; have a := aC; have s := bC; have G := pC; clear uB wB xB yB zB aC bC pC
    try clear hb
    try clear qD
    refine hK.out _ _ ⟨bc a 0, bc a 1, bc a 2, bc a 3, bc a 4, bc a 5, bc a 6, bc a 7, bc a 8, bc a 9, bc a 10, bc a 11, bc a 12, bc a 13, bc s 0, bc s 1, bc s 2, bc s 3, bc s 4, (AX G.out hB)⟩ (fun y => ?_)
    clear hK K
    refine CB (a' := ?_) ?_ ?_
    rotate_left
    ·show Act.put _ (some 69) _ = _
     simp only [ps]
     rfl
    refine pv 14 55 (tf 15 4) u ?_
    refine pv 15 70 (tf 16 3) u ?_
    refine pv 16 71 (tf 17 2) u ?_
    refine pv 17 7 (tf 18 1) u ?_
    refine pv 18 8 (tf 19 0) u ?_
    refine DV (Ce u.out (by kernel_rfl)) ?_
    try go_wp2
    have uB := mk0 (Kd.CU x.out)
    have wB := mk0 (Kd.DT j.out)
    have xB := mk0 (Kd.BU p.out)
    have yB := mk0 (Kd.CU c.out)
    have zB := mk0 (Kd.CU gB.out)
    have aC := mk0 (AV a.out)
    have bC := mk0 (AV s.out)
    have pC := mk0 (Aa G.out)
    clear x; clear j; clear p; clear c; clear gB; clear a; clear s; clear G; have x := uB; have j := wB; have p := xB; have c := yB; have gB := zB; have a := aC; have s := bC; have G := pC; clear uB wB xB yB zB aC bC pC
    obtain ⟨g3, n3, aP⟩ := Kd.Cw gB.out
    (first | subst aP | (injection aP with f1_ f2_ f3_; have fL := f1_.symm; have gL := f3_.symm; clear f1_ f2_ f3_; subst fL; subst gL))
    refine Ch (n := 27) (S := fun w' => True) (ds := []) (tf 0 27) (by kernel_rfl) rfl rfl trivial (fun y => ?_); refine Bl AL.J8 AL.IV (fun u qC => ?_)
    generalize q2.drew = j6 at x j p c gB a s G y ⊢
    refine pv 0 72 (tf 1 26) u ?_
    refine pv 1 73 (tf 2 25) u ?_
    refine pv 2 74 (tf 3 24) u ?_
    refine pv 3 75 (tf 4 23) u ?_
    refine pv 4 76 (tf 5 22) u ?_
    refine pv 5 77 (tf 6 21) u ?_
    refine pv 6 78 (tf 7 20) u ?_
    refine pv 7 79 (tf 8 19) u ?_
    refine pv 8 80 (tf 9 18) u ?_
    refine pv 9 81 (tf 10 17) u ?_
    refine pv 10 82 (tf 11 16) u ?_
    refine pw 11 83 (tf 12 15) u ?_
    refine pw 12 84 (tf 13 14) u ?_
    refine pw 13 85 (tf 14 13) u ?_
    refine pw 14 86 (tf 15 12) u ?_
    refine pw 15 87 (tf 16 11) u ?_
    refine pw 16 88 (tf 17 10) u ?_
    refine pw 17 89 (tf 18 9) u ?_
    refine pw 18 90 (tf 19 8) u ?_
    refine pw 19 91 (tf 20 7) u ?_
    refine pv 20 92 (tf 21 6) u ?_
    refine pv 21 93 (tf 22 5) u ?_
    refine pv 22 94 (tf 23 4) u ?_
    refine pv 23 95 (tf 24 3) u ?_
    refine pw 24 96 (tf 25 2) u ?_
    refine pv 25 97 (tf 26 1) u ?_
    refine pv 26 2 (tf 27 0) u ?_
    refine DV (Ce u.out (by kernel_rfl)) ?_
    try go_wp2
    go_ret
    exact ⟨rfl, be2 G I fB⟩
   replace H := iN H; obtain ⟨wA, xA, H⟩ := H
   have yA : decide (0 < hC.length) = true := decide_eq_true (by omega)
   clear wA
   replace H := iN H; obtain ⟨zA, b0, H⟩ := H
   have d0 : decide (0 < z.length) = true := decide_eq_true (by omega)
   clear zA
   replace H := bS H; obtain ⟨bP, sT, H⟩ := H
   replace H := iB' H; obtain ⟨rfl, H⟩ | ⟨rfl, H⟩ := H
   ·obtain rfl := sI H; have ⟨d1, b2⟩ := no tD lE
    have aV : wr.cell? ⟨b, 0, none⟩ = some (.int .i64 cC) := bc a 0
    have bV : wr.cell? ⟨b, 1, none⟩ = some (.int .i64 dC) := bc a 1
    have cV : wr.cell? ⟨b, 2, none⟩ = some (.string eC) := bc a 2
    have dV : wr.cell? ⟨b, 3, none⟩ = some (.slice iC oB.length kC) := bc a 3
    have eV : wr.cell? ⟨b, 4, none⟩ = some (.slice jC qB.length lC) := bc a 4
    have fV : wr.cell? ⟨b, 5, none⟩ = some (.int .i64 rC) := bc a 5
    have gV : wr.cell? ⟨b, 6, none⟩ = some (.int .i64 sC) := bc a 6
    have hV : wr.cell? ⟨b, 7, none⟩ = some (.slice tC mC.length wC) := bc a 7
    have iV : wr.cell? ⟨b, 8, none⟩ = some (.slice uC nC.length xC) := bc a 8
    have jV : wr.cell? ⟨b, 9, none⟩ = some (.slice vC oC.length yC) := bc a 9
    have eR : wr.cell? ⟨b, 10, none⟩ = some (.int .i64 L) := bc a 10
    have fR : wr.cell? ⟨b, 11, none⟩ = some (.slice gC z.length sB) := bc a 11
    have gR : wr.cell? ⟨b, 12, none⟩ = some (.slice bD B.length tB) := bc a 12
    have hR : wr.cell? ⟨b, 13, none⟩ = some (.bool kB) := bc a 13
    have cY := AB a.out 0
    have dY := AB a.out 1
    have eY := AB a.out 2
    have fY := AB a.out 3
    have gY := AB a.out 4
    have hY := AB a.out 5
    have iY := AB a.out 6
    have jY := AB a.out 7
    have kY := AB a.out 8
    have lY := AB a.out 9
    have vS := AB a.out 10
    have wS := AB a.out 11
    have xS := AB a.out 12
    have yS := AB a.out 13
    have pF : 0 ≤ (0 : Int) := (by omega)
    have qF : 0 < (B.length : Int) := od
    obtain ⟨aD, uH, jB⟩ := Kd.Cj sD.out 0 pF qF
    cases uH
    have nK : (0 < B.length) = True := eq_true (by omega)
    (try rw [show ((0 : Int)).toNat = 0 from rfl] at jB)
    (try rw [Addr.add_zero'] at jB)
    replace jB := AX G.out jB
    replace pF := eq_true pF; replace qF := eq_true qF
    try go_wp2
    have uB := mk0 (Kd.CU x.out)
    have wB := mk0 (Kd.DT j.out)
    have xB := mk0 (Kd.BU p.out)
    have yB := mk0 (Kd.CU c.out)
    have zB := mk0 (AV a.out)
    have aC := mk0 (AV s.out)
    have bC := mk0 (Aa G.out)
    clear x; clear j; clear p; clear c; clear a; clear s; clear G; have x := uB; have j := wB; have p := xB; have c := yB; have a := zB; have s := aC; have G := bC; clear uB wB xB yB zB aC bC
    have yF : 0 ≤ (0 : Int) := (by omega)
    have zF : 0 < (B.length : Int) := od
    obtain ⟨kH, gJ, cB⟩ := Kd.Cj sD.out 0 yF zF
    have hB := cB
    (try rw [show ((0 : Int)).toNat = 0 from rfl] at hB)
    (try rw [show 0 * 1 = 0 from rfl] at hB)
    (try rw [Addr.add_zero'] at hB)
    obtain rfl : aD = kH := (by injection gJ)
    have uK : (0 < B.length) = True := eq_true (by omega)
    (try rw [show ((0 : Int)).toNat = 0 from rfl] at cB)
    (try rw [Addr.add_zero'] at cB)
    replace cB := AX G.out cB
    replace yF := eq_true yF; replace zF := eq_true zF
    refine Ch (n := 19) (S := fun w' => w'.cell? ⟨b, 0, none⟩ = some (.int .i64 cC) ∧ w'.cell? ⟨b, 1, none⟩ = some (.int .i64 dC) ∧ w'.cell? ⟨b, 2, none⟩ = some (.string eC) ∧ w'.cell? ⟨b, 3, none⟩ = some (.slice iC oB.length kC) ∧ w'.cell? ⟨b, 4, none⟩ = some (.slice jC qB.length lC) ∧ w'.cell? ⟨b, 5, none⟩ = some (.int .i64 rC) ∧ w'.cell? ⟨b, 6, none⟩ = some (.int .i64 sC) ∧ w'.cell? ⟨b, 7, none⟩ = some (.slice tC mC.length wC) ∧ w'.cell? ⟨b, 8, none⟩ = some (.slice uC nC.length xC) ∧ w'.cell? ⟨b, 9, none⟩ = some (.slice vC oC.length yC) ∧ w'.cell? ⟨b, 10, none⟩ = some (.int .i64 L) ∧ w'.cell? ⟨b, 11, none⟩ = some (.slice gC z.length sB) ∧ w'.cell? ⟨b, 12, none⟩ = some (.slice (some aD) B.length tB) ∧ w'.cell? ⟨b, 13, none⟩ = some (.bool kB) ∧ w'.cell? ⟨D, 0, none⟩ = some (.int .i64 jE) ∧ w'.cell? ⟨D, 1, none⟩ = some (.int .i64 kE) ∧ w'.cell? ⟨D, 2, none⟩ = some (.slice lB eB.length mB) ∧ w'.cell? ⟨D, 3, none⟩ = some (.slice tE nD.length yE) ∧ w'.cell? ⟨D, 4, none⟩ = some (.slice dE m.length fC) ∧ w'.cell? aD = some (.int .i64 (rd B 0))) (ds := []) (tf 0 19) (by kernel_rfl) rfl rfl ⟨bc a 0, bc a 1, bc a 2, bc a 3, bc a 4, bc a 5, bc a 6, bc a 7, bc a 8, bc a 9, bc a 10, bc a 11, bc a 12, bc a 13, bc s 0, bc s 1, bc s 2, bc s 3, bc s 4, (AX G.out hB)⟩ (fun y => ?_); refine Bl AL.J7 AL.IU (fun u qC => ?_)
    generalize wr.drew = e6 at x j p c a s G cB y ⊢
    refine pv 0 56 (tf 1 18) u ?_
    refine pv 3 59 #[true, false, false, true, false, false, false, false, false, false, false, false, false, false, false, false, false, false, false] u ?_
    refine pv 5 61 #[true, false, false, true, false, true, false, false, false, false, false, false, false, false, false, false, false, false, false] u ?_
    refine pv 7 63 #[true, false, false, true, false, true, false, true, false, false, false, false, false, false, false, false, false, false, false] u ?_
    refine BR (i := 1) (N := some 57) (v := ?_) (a' := ?_) #[true, true, false, true, false, true, false, true, false, false, false, false, false, false, false, false, false, false, false] rfl rfl (Ae u.out qC.out (by kernel_rfl)) (fun _ _ _ h => h) (Or.inl ⟨by rfl, ?_⟩) y ?_ ?_
    rotate_left
    ·rintro w' ⟨s0, s1, s2, s3, s4, s5, s6, s7, s8, s9, cD, dD, eD, fD, gD, hD, jD, kD, lD, mD⟩
     go_simp
     with_reducible rfl
    rotate_left
    ·simp only [ps]
     rfl
    refine BR (i := 2) (N := some 58) (v := ?_) (a' := ?_) #[true, true, true, true, false, true, false, true, false, false, false, false, false, false, false, false, false, false, false] rfl rfl (Ae u.out qC.out (by kernel_rfl)) (fun _ _ _ h => h) (Or.inl ⟨by rfl, ?_⟩) y ?_ ?_
    rotate_left
    ·rintro w' ⟨s0, s1, s2, s3, s4, s5, s6, s7, s8, s9, cD, dD, eD, fD, gD, hD, jD, kD, lD, mD⟩
     go_simp
     with_reducible rfl
    rotate_left
    ·simp only [ps]
     rfl
    refine BR (i := 4) (N := some 60) (v := ?_) (a' := ?_) #[true, true, true, true, true, true, false, true, false, false, false, false, false, false, false, false, false, false, false] rfl rfl (Ae u.out qC.out (by kernel_rfl)) (fun _ _ _ h => h) (Or.inl ⟨by rfl, ?_⟩) y ?_ ?_
    rotate_left
    ·rintro w' ⟨s0, s1, s2, s3, s4, s5, s6, s7, s8, s9, cD, dD, eD, fD, gD, hD, jD, kD, lD, mD⟩
     go_simp
     with_reducible rfl
    rotate_left
    ·simp only [ps]
     rfl
    refine BR (i := 6) (N := some 62) (v := ?_) (a' := ?_) (tf 8 11) rfl rfl (Ae u.out qC.out (by kernel_rfl)) (fun _ _ _ h => h) (Or.inl ⟨by rfl, ?_⟩) y ?_ ?_
    rotate_left
    ·rintro w' ⟨s0, s1, s2, s3, s4, s5, s6, s7, s8, s9, cD, dD, eD, fD, gD, hD, jD, kD, lD, mD⟩
     go_simp
     with_reducible rfl
    rotate_left
    ·simp only [ps]
     rfl
    refine BR (i := 8) (N := some 64) (v := ?_) (a' := ?_) (tf 9 10) rfl rfl (Ae u.out qC.out (by kernel_rfl)) (fun _ _ _ h => h) (Or.inl ⟨by rfl, ?_⟩) y ?_ ?_
    rotate_left
    ·rintro w' ⟨s0, s1, s2, s3, s4, s5, s6, s7, s8, s9, cD, dD, eD, fD, gD, hD, jD, kD, lD, mD⟩
     go_simp
     with_reducible rfl
    rotate_left
    ·simp only [ps]
     rfl
    refine pv 9 65 (tf 10 9) u ?_
    refine BR (i := 10) (N := some 66) (v := ?_) (a' := ?_) (tf 11 8) rfl rfl (Ae u.out qC.out (by kernel_rfl)) (fun _ _ _ h => h) (Or.inl ⟨by rfl, ?_⟩) y ?_ ?_
    rotate_left
    ·rintro w' ⟨s0, s1, s2, s3, s4, s5, s6, s7, s8, s9, cD, dD, eD, fD, gD, hD, jD, kD, lD, mD⟩
     go_simp
     with_reducible rfl
    rotate_left
    ·simp only [ps]
     rfl
    refine pv 11 67 (tf 12 7) u ?_
    refine pv 12 68 (tf 13 6) u ?_
    refine Cz (i := 13) (N := some 69) (tf 14 5) rfl rfl (Bq u.out (by kernel_rfl)) (by decide) (fun K hK => ?_)
    refine Cg Try.func33 (by kernel_rfl) rfl #[.agg #[.int .i64 cC, .int .i64 dC, .string eC, .slice iC oB.length kC, .slice jC qB.length lC], .agg #[.int .i64 jE, .int .i64 kE, .slice lB eB.length mB, .slice tE nD.length yE, .slice dE m.length fC], .int .i64 L, .int .i64 (wrap64 ((wrap64 (L + (rd B 0))) - 1))] (by rfl) rfl rfl (by (try simp only [List.map_toArray, List.map_cons, List.map_nil]); first | done | rfl | (simp only [List.length_drop, List.length_take]; rfl)) ?_
    with_reducible refine (Ah.calls k1 cC dC eC _ _ oB _ _ qB jE kE (fun J => some J = (.slice lB eB.length mB : Value).ownBlock) _ _ eB (fun J => (some J ≠ (.slice dE m.length fC : Value).ownBlock ∧ (some J ≠ (.slice lB eB.length mB : Value).ownBlock ∧ (some J ≠ (.slice dE m.length fC : Value).ownBlock ∧ (J ≠ b ∧ J ≠ D))))) _ _ nD (fun J => (some J ≠ (.slice lB eB.length mB : Value).ownBlock ∧ (J ≠ b ∧ J ≠ D))) _ _ m L (wrap64 ((wrap64 (L + (rd B 0))) - 1)) hC rK _ ?side8 ?side1 ?side2 ?side3 ?side4 ?side5 ?side6 ?side7 pL.out).mono ?_
    (case side1 => exact cu iH G)
    (case side2 => exact eH.out)
    (case side3 => exact cu jH G)
    (case side4 => exact fH.out)
    (case side5 => exact Kd.R_V (Kd.F3 rfl (Kd.Ao (Kd.Ao (Kd.Bh (Kd.Bh (j.out) (Kd.Bz x.out) (by decide)) (Kd.Bz c.out) (by decide)) a.out (by decide)) s.out (by decide))))
    (case side6 => exact p.out)
    (case side7 => exact Kd.N_V (c.out))
    (case side8 => exact Ad HG.out (be2 G I fB))
    rintro e p2 ⟨v662, rfl, qD, hb⟩
    refine ⟨_, rfl, ?_⟩
    have uB := mk0 (Kd.DW (EI x.out) (by first | exact Kd.Bf qD | exact Kd.CO qD) hb)
    have wB := rb j hb
    have xB := mk0 (Kd.BX (Br p.out) (by first | exact Kd.Bf qD | exact Kd.CO qD) hb)
    have yB := mk0 (Kd.DW (EI c.out) (by first | exact Kd.Bf qD | exact Kd.CO qD) hb)
    have zB := mk0 (Kd.DY (Kd.Be (ok' := fun J => J ≠ b ∧ J ≠ D) qD (fun J tF => ⟨Or.elim tF (fun bB => Or.elim bB (fun bB => ((Kd.Ao (Kd.Ao (Kd.Bh (Kd.Bh (j.out) (Kd.Bz x.out) (by decide)) (Kd.Bz c.out) (by decide)) a.out (by decide)) s.out (by decide)).1 J bB.symm).1.2) (fun bB => Or.elim bB (fun bB => bB.2.2.2.1) (fun bB => bB.2.1))) (fun aG => (Kd.BG (g := b) (o := .cells #[.int .i64 cC, .int .i64 dC, .string eC, .slice iC oB.length kC, .slice jC qB.length lC, .int .i64 rC, .int .i64 sC, .slice tC mC.length wC, .slice uC nC.length xC, .slice vC oC.length yC, .int .i64 L, .slice gC z.length sB, .slice (some aD) B.length tB, .bool kB] 40 (0, 0)) (Af a.out) J aG)), Or.elim tF (fun bB => Or.elim bB (fun bB => ((Kd.Ao (Kd.Ao (Kd.Bh (Kd.Bh (j.out) (Kd.Bz x.out) (by decide)) (Kd.Bz c.out) (by decide)) a.out (by decide)) s.out (by decide)).1 J bB.symm).2) (fun bB => Or.elim bB (fun bB => bB.2.2.2.2) (fun bB => bB.2.2))) (fun aG => (Kd.BG (g := D) (o := .cells #[.int .i64 jE, .int .i64 kE, .slice lB eB.length mB, .slice tE nD.length yE, .slice dE m.length fC] 33 (0, 0)) (Af s.out) J aG))⟩)) (AZ (be2 G I fB)))
    have aC := kb a hb
    have bC := kb s hb
    have pC := kh2 G I fB hb
    clear x; clear j; clear p; clear c; clear a; clear s; clear G; have x := uB; have j := wB; have p := xB; have c := yB; have gB := zB; have a := aC; have s := bC; have G := pC; clear uB wB xB yB zB aC bC pC
    try clear hb
    try clear qD
    refine hK.out _ _ ⟨bc a 0, bc a 1, bc a 2, bc a 3, bc a 4, bc a 5, bc a 6, bc a 7, bc a 8, bc a 9, bc a 10, bc a 11, bc a 12, bc a 13, bc s 0, bc s 1, bc s 2, bc s 3, bc s 4, (AX G.out hB)⟩ (fun y => ?_)
    clear hK K
    refine CB (a' := ?_) ?_ ?_
    rotate_left
    ·show Act.put _ (some 69) _ = _
     simp only [ps]
     rfl
    refine pv 14 55 (tf 15 4) u ?_
    refine pv 15 70 (tf 16 3) u ?_
    refine pv 16 71 (tf 17 2) u ?_
    refine pv 17 7 (tf 18 1) u ?_
    refine pv 18 8 (tf 19 0) u ?_
    refine DV (Ce u.out (by kernel_rfl)) ?_
    try go_wp2
    have uB := mk0 (Kd.CU x.out)
    have wB := mk0 (Kd.DT j.out)
    have xB := mk0 (Kd.BU p.out)
    have yB := mk0 (Kd.CU c.out)
    have zB := mk0 (Kd.CU gB.out)
    have aC := mk0 (AV a.out)
    have bC := mk0 (AV s.out)
    have pC := mk0 (Aa G.out)
    clear x; clear j; clear p; clear c; clear gB; clear a; clear s; clear G; have x := uB; have j := wB; have p := xB; have c := yB; have gB := zB; have a := aC; have s := bC; have G := pC; clear uB wB xB yB zB aC bC pC
    obtain ⟨e3, m3, zO⟩ := Kd.Cw gB.out
    (first | subst zO | (injection zO with f1_ f2_ f3_; have fL := f1_.symm; have gL := f3_.symm; clear f1_ f2_ f3_; subst fL; subst gL))
    have jJ : 0 ≤ (0 : Int) := (by omega)
    have kJ : 0 < (hC.length : Int) := od
    obtain ⟨mE, pI, cJ, qI, dJ, sL, hF, jF, lF, gE, hE, dI, xH, eI, yH⟩ := DF (Kd.Cy gB.out).2.2 0 jJ kJ
    cases sL
    obtain ⟨pP, tK, sK, lH⟩ := Kd.Jj gB.out z63 0 jJ (by first | exact kJ | exact of_decide_eq_true (by assumption) | (have e_ := (Kd.Cy gB.out).1; omega))
    obtain ⟨aN, cN, bN, dN, rfl, yG, wG, zG, xG⟩ := DK sK
    have wF := lH 3 _ rfl
    rw [BO _ _ 3 (by omega)] at wF
    replace wF := Option.some.inj (wF.symm.trans gE)
    injection wF with hva_ hvn_ hvc_
    rw [hva_] at wG
    rw [hvc_] at yG
    have nE := mk0 (show Kd.V (Kd.int .u8) 73 _ w.heap.size _ _ ((AA hC 0).f1.f2) from Kd.Cu yG wG)
    clear hva_ hvn_ hvc_ wG yG
    have xF := lH 4 _ rfl
    rw [BO _ _ 4 (by omega)] at xF
    replace xF := Option.some.inj (xF.symm.trans hE)
    injection xF with hva_ hvn_ hvc_
    rw [hva_] at xG
    rw [hvc_] at zG
    have oE := mk0 (show Kd.V k30 30 _ w.heap.size _ _ ((AA hC 0).f1.f3) from Kd.Cu zG xG)
    clear hva_ hvn_ hvc_ xG zG; clear lH tK
    have fQ : (0 < hC.length) = True := eq_true (by omega)
    (try rw [show ((0 : Int)).toNat = 0 from rfl] at hF)
    (try rw [show 0 * 5 = 0 from rfl] at hF)
    (try rw [Addr.add_zero'] at hF)
    (try rw [show ((0 : Int)).toNat = 0 from rfl] at jF)
    (try rw [show 0 * 5 = 0 from rfl] at jF)
    (try rw [Addr.add_zero'] at jF)
    (try rw [show ((0 : Int)).toNat = 0 from rfl] at lF)
    (try rw [show 0 * 5 = 0 from rfl] at lF)
    (try rw [Addr.add_zero'] at lF)
    (try rw [show ((0 : Int)).toNat = 0 from rfl] at gE)
    (try rw [show 0 * 5 = 0 from rfl] at gE)
    (try rw [Addr.add_zero'] at gE)
    (try rw [show ((0 : Int)).toNat = 0 from rfl] at hE)
    (try rw [show 0 * 5 = 0 from rfl] at hE)
    (try rw [Addr.add_zero'] at hE)
    have oD := mk0 xH; have wJ := mk0 dI; clear xH dI; have pD := mk0 yH; have xJ := mk0 eI; clear yH eI; replace jJ := eq_true jJ; replace kJ := eq_true kJ
    have kK : 0 ≤ (0 : Int) := (by omega)
    have mK : 0 < (z.length : Int) := od
    obtain ⟨xE, tI, eJ, uI, fJ, tL, zD, aE, bE, cE, fI, zH, gI, aI⟩ := Da sG.out 0 kK mK
    have sE := cE
    (try rw [show ((0 : Int)).toNat = 0 from rfl] at sE)
    (try rw [show 0 * 4 = 0 from rfl] at sE)
    (try rw [Addr.add_zero'] at sE)
    have rE := bE
    (try rw [show ((0 : Int)).toNat = 0 from rfl] at rE)
    (try rw [show 0 * 4 = 0 from rfl] at rE)
    (try rw [Addr.add_zero'] at rE)
    have qE := aE
    (try rw [show ((0 : Int)).toNat = 0 from rfl] at qE)
    (try rw [show 0 * 4 = 0 from rfl] at qE)
    (try rw [Addr.add_zero'] at qE)
    have pE := zD
    (try rw [show ((0 : Int)).toNat = 0 from rfl] at pE)
    (try rw [show 0 * 4 = 0 from rfl] at pE)
    (try rw [Addr.add_zero'] at pE)
    cases tL
    have gQ : (0 < z.length) = True := eq_true (by omega)
    (try rw [show ((0 : Int)).toNat = 0 from rfl] at zD)
    (try rw [show 0 * 4 = 0 from rfl] at zD)
    (try rw [Addr.add_zero'] at zD)
    (try rw [show ((0 : Int)).toNat = 0 from rfl] at aE)
    (try rw [show 0 * 4 = 0 from rfl] at aE)
    (try rw [Addr.add_zero'] at aE)
    (try rw [show ((0 : Int)).toNat = 0 from rfl] at bE)
    (try rw [show 0 * 4 = 0 from rfl] at bE)
    (try rw [Addr.add_zero'] at bE)
    (try rw [show ((0 : Int)).toNat = 0 from rfl] at cE)
    (try rw [show 0 * 4 = 0 from rfl] at cE)
    (try rw [Addr.add_zero'] at cE)
    replace zD := AX G.out zD
    replace aE := AX G.out aE
    replace bE := AX G.out bE
    replace cE := AX G.out cE
    have rH := mk0 zH; have yJ := mk0 fI; clear zH fI; have sH := mk0 aI; have zJ := mk0 gI; clear aI gI; replace kK := eq_true kK; replace mK := eq_true mK
    refine Ch (n := 27) (S := fun w' => w'.cell? ⟨b, 0, none⟩ = some (.int .i64 cC) ∧ w'.cell? ⟨b, 1, none⟩ = some (.int .i64 dC) ∧ w'.cell? ⟨b, 2, none⟩ = some (.string eC) ∧ w'.cell? ⟨b, 3, none⟩ = some (.slice iC oB.length kC) ∧ w'.cell? ⟨b, 4, none⟩ = some (.slice jC qB.length lC) ∧ w'.cell? ⟨b, 5, none⟩ = some (.int .i64 rC) ∧ w'.cell? ⟨b, 6, none⟩ = some (.int .i64 sC) ∧ w'.cell? ⟨b, 7, none⟩ = some (.slice tC mC.length wC) ∧ w'.cell? ⟨b, 8, none⟩ = some (.slice uC nC.length xC) ∧ w'.cell? ⟨b, 9, none⟩ = some (.slice vC oC.length yC) ∧ w'.cell? ⟨b, 10, none⟩ = some (.int .i64 L) ∧ w'.cell? ⟨b, 11, none⟩ = some (.slice (some xE) z.length sB) ∧ w'.cell? ⟨b, 12, none⟩ = some (.slice (some aD) B.length tB) ∧ w'.cell? ⟨b, 13, none⟩ = some (.bool kB) ∧ w'.cell? mE = some (.int .i64 ((AA hC 0).f0)) ∧ w'.cell? ⟨mE.block, mE.off + 1, none⟩ = some (.int .i64 ((AA hC 0).f1.f0)) ∧ w'.cell? ⟨mE.block, mE.off + 2, none⟩ = some (.int .i64 ((AA hC 0).f1.f1)) ∧ w'.cell? ⟨mE.block, mE.off + 3, none⟩ = some (.slice pI ((AA hC 0).f1.f2).length cJ) ∧ w'.cell? ⟨mE.block, mE.off + 4, none⟩ = some (.slice qI ((AA hC 0).f1.f3).length dJ) ∧ w'.cell? xE = some (.int .i64 ((AC z 0).f0)) ∧ w'.cell? ⟨xE.block, xE.off + 1, none⟩ = some (.int .i64 ((AC z 0).f1)) ∧ w'.cell? ⟨xE.block, xE.off + 2, none⟩ = some (.slice tI ((AC z 0).f2).length eJ) ∧ w'.cell? ⟨xE.block, xE.off + 3, none⟩ = some (.slice uI ((AC z 0).f3).length fJ)) (ds := []) (tf 0 27) (by kernel_rfl) rfl rfl ⟨bc a 0, bc a 1, bc a 2, bc a 3, bc a 4, bc a 5, bc a 6, bc a 7, bc a 8, bc a 9, bc a 10, bc a 11, bc a 12, bc a 13, hF, jF, lF, gE, hE, (AX G.out pE), (AX G.out qE), (AX G.out rE), (AX G.out sE)⟩ (fun y => ?_); refine Bl AL.J8 AL.IV (fun u qC => ?_)
    generalize p2.drew = f6 at x j p c gB a s G nE oE oD pD rH sH hF jF lF gE hE zD aE bE cE y ⊢
    refine pv 0 72 (tf 1 26) u ?_
    refine pv 1 73 (tf 2 25) u ?_
    refine pv 2 74 (tf 3 24) u ?_
    refine pv 3 75 (tf 4 23) u ?_
    refine pv 4 76 (tf 5 22) u ?_
    refine pv 5 77 (tf 6 21) u ?_
    refine pv 6 78 (tf 7 20) u ?_
    refine pv 7 79 (tf 8 19) u ?_
    refine pv 8 80 (tf 9 18) u ?_
    refine pv 9 81 (tf 10 17) u ?_
    refine pv 10 82 (tf 11 16) u ?_
    refine pv 11 83 (tf 12 15) u ?_
    refine pv 12 84 (tf 13 14) u ?_
    refine pv 13 85 (tf 14 13) u ?_
    refine pv 15 87 #[true, true, true, true, true, true, true, true, true, true, true, true, true, true, false, true, false, false, false, false, false, false, false, false, false, false, false] u ?_
    refine BR (i := 14) (N := some 86) (v := ?_) (a' := ?_) (tf 16 11) rfl rfl (Ae u.out qC.out (by kernel_rfl)) (fun _ _ _ h => h) (Or.inl ⟨by rfl, ?_⟩) y ?_ ?_
    rotate_left
    ·rintro w' ⟨s0, s1, s2, s3, s4, s5, s6, s7, s8, s9, cD, dD, eD, fD, gD, hD, jD, kD, lD, mD, mH, nH, oH⟩
     go_simp
     with_reducible rfl
    rotate_left
    ·simp only [ps]
     rfl
    refine BR (i := 16) (N := some 88) (v := ?_) (a' := ?_) (tf 17 10) rfl rfl (Ae u.out qC.out (by kernel_rfl)) (fun _ _ _ h => h) (Or.inl ⟨by rfl, ?_⟩) y ?_ ?_
    rotate_left
    ·rintro w' ⟨s0, s1, s2, s3, s4, s5, s6, s7, s8, s9, cD, dD, eD, fD, gD, hD, jD, kD, lD, mD, mH, nH, oH⟩
     go_simp
     with_reducible rfl
    rotate_left
    ·simp only [ps]
     rfl
    refine pv 17 89 (tf 18 9) u ?_
    refine BR (i := 18) (N := some 90) (v := ?_) (a' := ?_) (tf 19 8) rfl rfl (Ae u.out qC.out (by kernel_rfl)) (fun _ _ _ h => h) (Or.inl ⟨by rfl, ?_⟩) y ?_ ?_
    rotate_left
    ·rintro w' ⟨s0, s1, s2, s3, s4, s5, s6, s7, s8, s9, cD, dD, eD, fD, gD, hD, jD, kD, lD, mD, mH, nH, oH⟩
     go_simp
     with_reducible rfl
    rotate_left
    ·simp only [ps]
     rfl
    refine Cz (i := 19) (N := some 91) (tf 20 7) rfl rfl (Bq u.out (by kernel_rfl)) (by decide) (fun K hK => ?_)
    refine Cg Try.func32 (by kernel_rfl) rfl #[.agg #[.int .i64 ((AA hC 0).f1.f0), .int .i64 ((AA hC 0).f1.f1), .slice pI ((AA hC 0).f1.f2).length cJ, .slice qI ((AA hC 0).f1.f3).length dJ], .agg #[.int .i64 ((AC z 0).f0), .int .i64 ((AC z 0).f1), .slice tI ((AC z 0).f2).length eJ, .slice uI ((AC z 0).f3).length fJ]] (by rfl) rfl rfl (by (try simp only [List.map_toArray, List.map_cons, List.map_nil]); first | done | rfl | (simp only [List.length_drop, List.length_take]; rfl)) ?_
    with_reducible refine (Ba.calls k1 ((AA hC 0).f1.f0) ((AA hC 0).f1.f1) _ _ ((AA hC 0).f1.f2) _ _ ((AA hC 0).f1.f3) ((AC z 0).f0) ((AC z 0).f1) _ _ ((AC z 0).f2) _ _ ((AC z 0).f3) false _ ?side1 ?side2 ?side3 ?side4 ?side5 ?side6 ?side7 ?side8 sT.out).mono ?_
    (case side1 => repeat (first | exact (by repeat (first | (with_reducible exact oD.out) | (with_reducible refine Kd.CK ?_ _) | (with_reducible refine Kd.CL ?_ _) | (with_reducible refine Kd.Cc ?_) | exact oD.out)) | (with_reducible refine Kd.CK ?_ _) | (with_reducible refine Kd.CL ?_ _) | (with_reducible refine Kd.Cc ?_)))
    (case side2 => exact wJ.out)
    (case side3 => repeat (first | exact (by repeat (first | (with_reducible exact pD.out) | (with_reducible refine Kd.CK ?_ _) | (with_reducible refine Kd.CL ?_ _) | (with_reducible refine Kd.Cc ?_) | exact pD.out)) | (with_reducible refine Kd.CK ?_ _) | (with_reducible refine Kd.CL ?_ _) | (with_reducible refine Kd.Cc ?_)))
    (case side4 => exact xJ.out)
    (case side5 => exact cu rH G)
    (case side6 => exact yJ.out)
    (case side7 => exact cu sH G)
    (case side8 => exact zJ.out)
    rintro e g6 ⟨rfl, hb⟩
    have dK := (hb.cell (World.block_lt_of_cell? _ _ (y.2.2.2.2.2.2.2.2.2.2.2.2.2.2.1))).trans (y.2.2.2.2.2.2.2.2.2.2.2.2.2.2.1)
    have eK := (hb.cell (World.block_lt_of_cell? _ _ (y.2.2.2.2.2.2.2.2.2.2.2.2.2.2.2.1))).trans (y.2.2.2.2.2.2.2.2.2.2.2.2.2.2.2.1)
    have fK := (hb.cell (World.block_lt_of_cell? _ _ (y.2.2.2.2.2.2.2.2.2.2.2.2.2.2.2.2.1))).trans (y.2.2.2.2.2.2.2.2.2.2.2.2.2.2.2.2.1)
    have gK := (hb.cell (World.block_lt_of_cell? _ _ (y.2.2.2.2.2.2.2.2.2.2.2.2.2.2.2.2.2.1))).trans (y.2.2.2.2.2.2.2.2.2.2.2.2.2.2.2.2.2.1)
    have iK := (hb.cell (World.block_lt_of_cell? _ _ (y.2.2.2.2.2.2.2.2.2.2.2.2.2.2.2.2.2.2.1))).trans (y.2.2.2.2.2.2.2.2.2.2.2.2.2.2.2.2.2.2.1)
    refine ⟨_, rfl, ?_⟩
    have uB := nb x hb
    have wB := rb j hb
    have xB := vb p hb
    have yB := nb c hb
    have zB := nb gB hb
    have aC := vb nE hb
    have bC := vb oE hb
    have pC := kb a hb
    have mF := kb s hb
    have oF := cb oD hb
    have pJ := cb pD hb
    have qJ := kh2 G I fB hb
    clear x; clear j; clear p; clear c; clear gB; clear nE; clear oE; clear a; clear s; clear oD; clear pD; clear G; have x := uB; have j := wB; have p := xB; have c := yB; have gB := zB; have nE := aC; have oE := bC; have a := pC; have s := mF; have oD := oF; have pD := pJ; have G := qJ; clear uB wB xB yB zB aC bC pC mF oF pJ qJ
    try clear hb
    refine hK.out _ _ ⟨bc a 0, bc a 1, bc a 2, bc a 3, bc a 4, bc a 5, bc a 6, bc a 7, bc a 8, bc a 9, bc a 10, bc a 11, bc a 12, bc a 13, dK, eK, fK, gK, iK, (AX G.out pE), (AX G.out qE), (AX G.out rE), (AX G.out sE)⟩ (fun y => ?_)
    clear hK K
    refine CB (a' := ?_) ?_ ?_
    rotate_left
    ·show Act.put _ (some 91) _ = _
     simp only [ps]
     rfl
    refine pv 20 92 (tf 21 6) u ?_
    refine pv 21 93 (tf 22 5) u ?_
    refine pv 22 94 (tf 23 4) u ?_
    refine pv 23 95 (tf 24 3) u ?_
    refine pw 24 96 (tf 25 2) u ?_
    refine pv 25 97 (tf 26 1) u ?_
    refine pv 26 2 (tf 27 0) u ?_
    refine DV (Ce u.out (by kernel_rfl)) ?_
    try go_wp2
    go_ret
    exact ⟨rfl, be2 G I fB⟩
   replace H := bS H; obtain ⟨zM, iA, H⟩ := H; obtain rfl := sI H; have ⟨b1, a2⟩ := no tD lE
   have qU : wr.cell? ⟨b, 0, none⟩ = some (.int .i64 cC) := bc a 0
   have rU : wr.cell? ⟨b, 1, none⟩ = some (.int .i64 dC) := bc a 1
   have sU : wr.cell? ⟨b, 2, none⟩ = some (.string eC) := bc a 2
   have tU : wr.cell? ⟨b, 3, none⟩ = some (.slice iC oB.length kC) := bc a 3
   have uU : wr.cell? ⟨b, 4, none⟩ = some (.slice jC qB.length lC) := bc a 4
   have vU : wr.cell? ⟨b, 5, none⟩ = some (.int .i64 rC) := bc a 5
   have wU : wr.cell? ⟨b, 6, none⟩ = some (.int .i64 sC) := bc a 6
   have xU : wr.cell? ⟨b, 7, none⟩ = some (.slice tC mC.length wC) := bc a 7
   have yU : wr.cell? ⟨b, 8, none⟩ = some (.slice uC nC.length xC) := bc a 8
   have zU : wr.cell? ⟨b, 9, none⟩ = some (.slice vC oC.length yC) := bc a 9
   have aR : wr.cell? ⟨b, 10, none⟩ = some (.int .i64 L) := bc a 10
   have bR : wr.cell? ⟨b, 11, none⟩ = some (.slice gC z.length sB) := bc a 11
   have cR : wr.cell? ⟨b, 12, none⟩ = some (.slice bD B.length tB) := bc a 12
   have dR : wr.cell? ⟨b, 13, none⟩ = some (.bool kB) := bc a 13
   have sX := AB a.out 0
   have tX := AB a.out 1
   have uX := AB a.out 2
   have vX := AB a.out 3
   have wX := AB a.out 4
   have xX := AB a.out 5
   have yX := AB a.out 6
   have zX := AB a.out 7
   have aY := AB a.out 8
   have bY := AB a.out 9
   have rS := AB a.out 10
   have sS := AB a.out 11
   have tS := AB a.out 12
   have uS := AB a.out 13
   have pF : 0 ≤ (0 : Int) := (by omega)
   have qF : 0 < (B.length : Int) := od
   obtain ⟨aD, uH, jB⟩ := Kd.Cj sD.out 0 pF qF
   cases uH
   have nK : (0 < B.length) = True := eq_true (by omega)
   (try rw [show ((0 : Int)).toNat = 0 from rfl] at jB)
   (try rw [Addr.add_zero'] at jB)
   replace jB := AX G.out jB
   replace pF := eq_true pF; replace qF := eq_true qF
   try go_wp2
   have uB := mk0 (Kd.CU x.out)
   have wB := mk0 (Kd.DT j.out)
   have xB := mk0 (Kd.BU p.out)
   have yB := mk0 (Kd.CU c.out)
   have zB := mk0 (AV a.out)
   have aC := mk0 (AV s.out)
   have bC := mk0 (Aa G.out)
   clear x; clear j; clear p; clear c; clear a; clear s; clear G; have x := uB; have j := wB; have p := xB; have c := yB; have a := zB; have s := aC; have G := bC; clear uB wB xB yB zB aC bC
   have yF : 0 ≤ (0 : Int) := (by omega)
   have zF : 0 < (B.length : Int) := od
   obtain ⟨kH, gJ, cB⟩ := Kd.Cj sD.out 0 yF zF
   have hB := cB
   (try rw [show ((0 : Int)).toNat = 0 from rfl] at hB)
   (try rw [show 0 * 1 = 0 from rfl] at hB)
   (try rw [Addr.add_zero'] at hB)
   obtain rfl : aD = kH := (by injection gJ)
   have uK : (0 < B.length) = True := eq_true (by omega)
   (try rw [show ((0 : Int)).toNat = 0 from rfl] at cB)
   (try rw [Addr.add_zero'] at cB)
   replace cB := AX G.out cB
   replace yF := eq_true yF; replace zF := eq_true zF
   refine Ch (n := 19) (S := fun w' => w'.cell? ⟨b, 0, none⟩ = some (.int .i64 cC) ∧ w'.cell? ⟨b, 1, none⟩ = some (.int .i64 dC) ∧ w'.cell? ⟨b, 2, none⟩ = some (.string eC) ∧ w'.cell? ⟨b, 3, none⟩ = some (.slice iC oB.length kC) ∧ w'.cell? ⟨b, 4, none⟩ = some (.slice jC qB.length lC) ∧ w'.cell? ⟨b, 5, none⟩ = some (.int .i64 rC) ∧ w'.cell? ⟨b, 6, none⟩ = some (.int .i64 sC) ∧ w'.cell? ⟨b, 7, none⟩ = some (.slice tC mC.length wC) ∧ w'.cell? ⟨b, 8, none⟩ = some (.slice uC nC.length xC) ∧ w'.cell? ⟨b, 9, none⟩ = some (.slice vC oC.length yC) ∧ w'.cell? ⟨b, 10, none⟩ = some (.int .i64 L) ∧ w'.cell? ⟨b, 11, none⟩ = some (.slice gC z.length sB) ∧ w'.cell? ⟨b, 12, none⟩ = some (.slice (some aD) B.length tB) ∧ w'.cell? ⟨b, 13, none⟩ = some (.bool kB) ∧ w'.cell? ⟨D, 0, none⟩ = some (.int .i64 jE) ∧ w'.cell? ⟨D, 1, none⟩ = some (.int .i64 kE) ∧ w'.cell? ⟨D, 2, none⟩ = some (.slice lB eB.length mB) ∧ w'.cell? ⟨D, 3, none⟩ = some (.slice tE nD.length yE) ∧ w'.cell? ⟨D, 4, none⟩ = some (.slice dE m.length fC) ∧ w'.cell? aD = some (.int .i64 (rd B 0))) (ds := []) (tf 0 19) (by kernel_rfl) rfl rfl ⟨bc a 0, bc a 1, bc a 2, bc a 3, bc a 4, bc a 5, bc a 6, bc a 7, bc a 8, bc a 9, bc a 10, bc a 11, bc a 12, bc a 13, bc s 0, bc s 1, bc s 2, bc s 3, bc s 4, (AX G.out hB)⟩ (fun y => ?_); refine Bl AL.J7 AL.IU (fun u qC => ?_)
   generalize wr.drew = y5 at x j p c a s G cB y ⊢
   refine pv 0 56 (tf 1 18) u ?_
   refine pv 3 59 #[true, false, false, true, false, false, false, false, false, false, false, false, false, false, false, false, false, false, false] u ?_
   refine pv 5 61 #[true, false, false, true, false, true, false, false, false, false, false, false, false, false, false, false, false, false, false] u ?_
   refine pv 7 63 #[true, false, false, true, false, true, false, true, false, false, false, false, false, false, false, false, false, false, false] u ?_
   refine BR (i := 1) (N := some 57) (v := ?_) (a' := ?_) #[true, true, false, true, false, true, false, true, false, false, false, false, false, false, false, false, false, false, false] rfl rfl (Ae u.out qC.out (by kernel_rfl)) (fun _ _ _ h => h) (Or.inl ⟨by rfl, ?_⟩) y ?_ ?_
   rotate_left
   ·rintro w' ⟨s0, s1, s2, s3, s4, s5, s6, s7, s8, s9, cD, dD, eD, fD, gD, hD, jD, kD, lD, mD⟩
    go_simp
    with_reducible rfl
   rotate_left
   ·simp only [ps]
    rfl
   refine BR (i := 2) (N := some 58) (v := ?_) (a' := ?_) #[true, true, true, true, false, true, false, true, false, false, false, false, false, false, false, false, false, false, false] rfl rfl (Ae u.out qC.out (by kernel_rfl)) (fun _ _ _ h => h) (Or.inl ⟨by rfl, ?_⟩) y ?_ ?_
   rotate_left
   ·rintro w' ⟨s0, s1, s2, s3, s4, s5, s6, s7, s8, s9, cD, dD, eD, fD, gD, hD, jD, kD, lD, mD⟩
    go_simp
    with_reducible rfl
   rotate_left
   ·simp only [ps]
    rfl
   refine BR (i := 4) (N := some 60) (v := ?_) (a' := ?_) #[true, true, true, true, true, true, false, true, false, false, false, false, false, false, false, false, false, false, false] rfl rfl (Ae u.out qC.out (by kernel_rfl)) (fun _ _ _ h => h) (Or.inl ⟨by rfl, ?_⟩) y ?_ ?_
   rotate_left
   ·rintro w' ⟨s0, s1, s2, s3, s4, s5, s6, s7, s8, s9, cD, dD, eD, fD, gD, hD, jD, kD, lD, mD⟩
    go_simp
    with_reducible rfl
   rotate_left
   ·simp only [ps]
    rfl
   refine BR (i := 6) (N := some 62) (v := ?_) (a' := ?_) (tf 8 11) rfl rfl (Ae u.out qC.out (by kernel_rfl)) (fun _ _ _ h => h) (Or.inl ⟨by rfl, ?_⟩) y ?_ ?_
   rotate_left
   ·rintro w' ⟨s0, s1, s2, s3, s4, s5, s6, s7, s8, s9, cD, dD, eD, fD, gD, hD, jD, kD, lD, mD⟩
    go_simp
    with_reducible rfl
   rotate_left
   ·simp only [ps]
    rfl
   refine BR (i := 8) (N := some 64) (v := ?_) (a' := ?_) (tf 9 10) rfl rfl (Ae u.out qC.out (by kernel_rfl)) (fun _ _ _ h => h) (Or.inl ⟨by rfl, ?_⟩) y ?_ ?_
   rotate_left
   ·rintro w' ⟨s0, s1, s2, s3, s4, s5, s6, s7, s8, s9, cD, dD, eD, fD, gD, hD, jD, kD, lD, mD⟩
    go_simp
    with_reducible rfl
   rotate_left
   ·simp only [ps]
    rfl
   refine pv 9 65 (tf 10 9) u ?_
   refine BR (i := 10) (N := some 66) (v := ?_) (a' := ?_) (tf 11 8) rfl rfl (Ae u.out qC.out (by kernel_rfl)) (fun _ _ _ h => h) (Or.inl ⟨by rfl, ?_⟩) y ?_ ?_
   rotate_left
   ·rintro w' ⟨s0, s1, s2, s3, s4, s5, s6, s7, s8, s9, cD, dD, eD, fD, gD, hD, jD, kD, lD, mD⟩
    go_simp
    with_reducible rfl
   rotate_left
   ·simp only [ps]
    rfl
   refine pv 11 67 (tf 12 7) u ?_
   refine pv 12 68 (tf 13 6) u ?_
   refine Cz (i := 13) (N := some 69) (tf 14 5) rfl rfl (Bq u.out (by kernel_rfl)) (by decide) (fun K hK => ?_)
   refine Cg Try.func33 (by kernel_rfl) rfl #[.agg #[.int .i64 cC, .int .i64 dC, .string eC, .slice iC oB.length kC, .slice jC qB.length lC], .agg #[.int .i64 jE, .int .i64 kE, .slice lB eB.length mB, .slice tE nD.length yE, .slice dE m.length fC], .int .i64 L, .int .i64 (wrap64 ((wrap64 (L + (rd B 0))) - 1))] (by rfl) rfl rfl (by (try simp only [List.map_toArray, List.map_cons, List.map_nil]); first | done | rfl | (simp only [List.length_drop, List.length_take]; rfl)) ?_
   with_reducible refine (Ah.calls k1 cC dC eC _ _ oB _ _ qB jE kE (fun J => some J = (.slice lB eB.length mB : Value).ownBlock) _ _ eB (fun J => (some J ≠ (.slice dE m.length fC : Value).ownBlock ∧ (some J ≠ (.slice lB eB.length mB : Value).ownBlock ∧ (some J ≠ (.slice dE m.length fC : Value).ownBlock ∧ (J ≠ b ∧ J ≠ D))))) _ _ nD (fun J => (some J ≠ (.slice lB eB.length mB : Value).ownBlock ∧ (J ≠ b ∧ J ≠ D))) _ _ m L (wrap64 ((wrap64 (L + (rd B 0))) - 1)) hC rK _ ?side8 ?side1 ?side2 ?side3 ?side4 ?side5 ?side6 ?side7 pL.out).mono ?_
   (case side1 => exact cu iH G)
   (case side2 => exact eH.out)
   (case side3 => exact cu jH G)
   (case side4 => exact fH.out)
   (case side5 => exact Kd.R_V (Kd.F3 rfl (Kd.Ao (Kd.Ao (Kd.Bh (Kd.Bh (j.out) (Kd.Bz x.out) (by decide)) (Kd.Bz c.out) (by decide)) a.out (by decide)) s.out (by decide))))
   (case side6 => exact p.out)
   (case side7 => exact Kd.N_V (c.out))
   (case side8 => exact Ad HG.out (be2 G I fB))
   rintro e o2 ⟨v662, rfl, qD, hb⟩
   refine ⟨_, rfl, ?_⟩
   have uB := mk0 (Kd.DW (EI x.out) (by first | exact Kd.Bf qD | exact Kd.CO qD) hb)
   have wB := rb j hb
   have xB := mk0 (Kd.BX (Br p.out) (by first | exact Kd.Bf qD | exact Kd.CO qD) hb)
   have yB := mk0 (Kd.DW (EI c.out) (by first | exact Kd.Bf qD | exact Kd.CO qD) hb)
   have zB := mk0 (Kd.DY (Kd.Be (ok' := fun J => J ≠ b ∧ J ≠ D) qD (fun J tF => ⟨Or.elim tF (fun bB => Or.elim bB (fun bB => ((Kd.Ao (Kd.Ao (Kd.Bh (Kd.Bh (j.out) (Kd.Bz x.out) (by decide)) (Kd.Bz c.out) (by decide)) a.out (by decide)) s.out (by decide)).1 J bB.symm).1.2) (fun bB => Or.elim bB (fun bB => bB.2.2.2.1) (fun bB => bB.2.1))) (fun aG => (Kd.BG (g := b) (o := .cells #[.int .i64 cC, .int .i64 dC, .string eC, .slice iC oB.length kC, .slice jC qB.length lC, .int .i64 rC, .int .i64 sC, .slice tC mC.length wC, .slice uC nC.length xC, .slice vC oC.length yC, .int .i64 L, .slice gC z.length sB, .slice (some aD) B.length tB, .bool kB] 40 (0, 0)) (Af a.out) J aG)), Or.elim tF (fun bB => Or.elim bB (fun bB => ((Kd.Ao (Kd.Ao (Kd.Bh (Kd.Bh (j.out) (Kd.Bz x.out) (by decide)) (Kd.Bz c.out) (by decide)) a.out (by decide)) s.out (by decide)).1 J bB.symm).2) (fun bB => Or.elim bB (fun bB => bB.2.2.2.2) (fun bB => bB.2.2))) (fun aG => (Kd.BG (g := D) (o := .cells #[.int .i64 jE, .int .i64 kE, .slice lB eB.length mB, .slice tE nD.length yE, .slice dE m.length fC] 33 (0, 0)) (Af s.out) J aG))⟩)) (AZ (be2 G I fB)))
   have aC := kb a hb
   have bC := kb s hb
   have pC := kh2 G I fB hb
   clear x; clear j; clear p; clear c; clear a; clear s; clear G; have x := uB; have j := wB; have p := xB; have c := yB; have gB := zB; have a := aC; have s := bC; have G := pC; clear uB wB xB yB zB aC bC pC
   try clear hb
   try clear qD
   refine hK.out _ _ ⟨bc a 0, bc a 1, bc a 2, bc a 3, bc a 4, bc a 5, bc a 6, bc a 7, bc a 8, bc a 9, bc a 10, bc a 11, bc a 12, bc a 13, bc s 0, bc s 1, bc s 2, bc s 3, bc s 4, (AX G.out hB)⟩ (fun y => ?_)
   clear hK K
   refine CB (a' := ?_) ?_ ?_
   rotate_left
   ·show Act.put _ (some 69) _ = _
    simp only [ps]
    rfl
   refine pv 14 55 (tf 15 4) u ?_
   refine pv 15 70 (tf 16 3) u ?_
   refine pv 16 71 (tf 17 2) u ?_
   refine pv 17 7 (tf 18 1) u ?_
   refine pv 18 8 (tf 19 0) u ?_
   refine DV (Ce u.out (by kernel_rfl)) ?_
   try go_wp2
   have uB := mk0 (Kd.CU x.out)
   have wB := mk0 (Kd.DT j.out)
   have xB := mk0 (Kd.BU p.out)
   have yB := mk0 (Kd.CU c.out)
   have zB := mk0 (Kd.CU gB.out)
   have aC := mk0 (AV a.out)
   have bC := mk0 (AV s.out)
   have pC := mk0 (Aa G.out)
   clear x; clear j; clear p; clear c; clear gB; clear a; clear s; clear G; have x := uB; have j := wB; have p := xB; have c := yB; have gB := zB; have a := aC; have s := bC; have G := pC; clear uB wB xB yB zB aC bC pC
   obtain ⟨d3, l3, yO⟩ := Kd.Cw gB.out
   (first | subst yO | (injection yO with f1_ f2_ f3_; have fL := f1_.symm; have gL := f3_.symm; clear f1_ f2_ f3_; subst fL; subst gL))
   have jJ : 0 ≤ (0 : Int) := (by omega)
   have kJ : 0 < (hC.length : Int) := od
   obtain ⟨mE, pI, cJ, qI, dJ, sL, hF, jF, lF, gE, hE, dI, xH, eI, yH⟩ := DF (Kd.Cy gB.out).2.2 0 jJ kJ
   cases sL
   obtain ⟨pP, tK, sK, lH⟩ := Kd.Jj gB.out z63 0 jJ (by first | exact kJ | exact of_decide_eq_true (by assumption) | (have e_ := (Kd.Cy gB.out).1; omega))
   obtain ⟨aN, cN, bN, dN, rfl, yG, wG, zG, xG⟩ := DK sK
   have wF := lH 3 _ rfl
   rw [BO _ _ 3 (by omega)] at wF
   replace wF := Option.some.inj (wF.symm.trans gE)
   injection wF with hva_ hvn_ hvc_
   rw [hva_] at wG
   rw [hvc_] at yG
   have nE := mk0 (show Kd.V (Kd.int .u8) 73 _ w.heap.size _ _ ((AA hC 0).f1.f2) from Kd.Cu yG wG)
   clear hva_ hvn_ hvc_ wG yG
   have xF := lH 4 _ rfl
   rw [BO _ _ 4 (by omega)] at xF
   replace xF := Option.some.inj (xF.symm.trans hE)
   injection xF with hva_ hvn_ hvc_
   rw [hva_] at xG
   rw [hvc_] at zG
   have oE := mk0 (show Kd.V k30 30 _ w.heap.size _ _ ((AA hC 0).f1.f3) from Kd.Cu zG xG)
   clear hva_ hvn_ hvc_ xG zG; clear lH tK
   have fQ : (0 < hC.length) = True := eq_true (by omega)
   (try rw [show ((0 : Int)).toNat = 0 from rfl] at hF)
   (try rw [show 0 * 5 = 0 from rfl] at hF)
   (try rw [Addr.add_zero'] at hF)
   (try rw [show ((0 : Int)).toNat = 0 from rfl] at jF)
   (try rw [show 0 * 5 = 0 from rfl] at jF)
   (try rw [Addr.add_zero'] at jF)
   (try rw [show ((0 : Int)).toNat = 0 from rfl] at lF)
   (try rw [show 0 * 5 = 0 from rfl] at lF)
   (try rw [Addr.add_zero'] at lF)
   (try rw [show ((0 : Int)).toNat = 0 from rfl] at gE)
   (try rw [show 0 * 5 = 0 from rfl] at gE)
   (try rw [Addr.add_zero'] at gE)
   (try rw [show ((0 : Int)).toNat = 0 from rfl] at hE)
   (try rw [show 0 * 5 = 0 from rfl] at hE)
   (try rw [Addr.add_zero'] at hE)
   have oD := mk0 xH; have wJ := mk0 dI; clear xH dI; have pD := mk0 yH; have xJ := mk0 eI; clear yH eI; replace jJ := eq_true jJ; replace kJ := eq_true kJ
   have kK : 0 ≤ (0 : Int) := (by omega)
   have mK : 0 < (z.length : Int) := od
   obtain ⟨xE, tI, eJ, uI, fJ, tL, zD, aE, bE, cE, fI, zH, gI, aI⟩ := Da sG.out 0 kK mK
   have sE := cE
   (try rw [show ((0 : Int)).toNat = 0 from rfl] at sE)
   (try rw [show 0 * 4 = 0 from rfl] at sE)
   (try rw [Addr.add_zero'] at sE)
   have rE := bE
   (try rw [show ((0 : Int)).toNat = 0 from rfl] at rE)
   (try rw [show 0 * 4 = 0 from rfl] at rE)
   (try rw [Addr.add_zero'] at rE)
   have qE := aE
   (try rw [show ((0 : Int)).toNat = 0 from rfl] at qE)
   (try rw [show 0 * 4 = 0 from rfl] at qE)
   (try rw [Addr.add_zero'] at qE)
   have pE := zD
   (try rw [show ((0 : Int)).toNat = 0 from rfl] at pE)
   (try rw [show 0 * 4 = 0 from rfl] at pE)
   (try rw [Addr.add_zero'] at pE)
   cases tL
   have gQ : (0 < z.length) = True := eq_true (by omega)
   (try rw [show ((0 : Int)).toNat = 0 from rfl] at zD)
   (try rw [show 0 * 4 = 0 from rfl] at zD)
   (try rw [Addr.add_zero'] at zD)
   (try rw [show ((0 : Int)).toNat = 0 from rfl] at aE)
   (try rw [show 0 * 4 = 0 from rfl] at aE)
   (try rw [Addr.add_zero'] at aE)
   (try rw [show ((0 : Int)).toNat = 0 from rfl] at bE)
   (try rw [show 0 * 4 = 0 from rfl] at bE)
   (try rw [Addr.add_zero'] at bE)
   (try rw [show ((0 : Int)).toNat = 0 from rfl] at cE)
   (try rw [show 0 * 4 = 0 from rfl] at cE)
   (try rw [Addr.add_zero'] at cE)
   replace zD := AX G.out zD
   replace aE := AX G.out aE
   replace bE := AX G.out bE
   replace cE := AX G.out cE
   have rH := mk0 zH; have yJ := mk0 fI; clear zH fI; have sH := mk0 aI; have zJ := mk0 gI; clear aI gI; replace kK := eq_true kK; replace mK := eq_true mK
   refine Ch (n := 27) (S := fun w' => w'.cell? ⟨b, 0, none⟩ = some (.int .i64 cC) ∧ w'.cell? ⟨b, 1, none⟩ = some (.int .i64 dC) ∧ w'.cell? ⟨b, 2, none⟩ = some (.string eC) ∧ w'.cell? ⟨b, 3, none⟩ = some (.slice iC oB.length kC) ∧ w'.cell? ⟨b, 4, none⟩ = some (.slice jC qB.length lC) ∧ w'.cell? ⟨b, 5, none⟩ = some (.int .i64 rC) ∧ w'.cell? ⟨b, 6, none⟩ = some (.int .i64 sC) ∧ w'.cell? ⟨b, 7, none⟩ = some (.slice tC mC.length wC) ∧ w'.cell? ⟨b, 8, none⟩ = some (.slice uC nC.length xC) ∧ w'.cell? ⟨b, 9, none⟩ = some (.slice vC oC.length yC) ∧ w'.cell? ⟨b, 10, none⟩ = some (.int .i64 L) ∧ w'.cell? ⟨b, 11, none⟩ = some (.slice (some xE) z.length sB) ∧ w'.cell? ⟨b, 12, none⟩ = some (.slice (some aD) B.length tB) ∧ w'.cell? ⟨b, 13, none⟩ = some (.bool kB) ∧ w'.cell? mE = some (.int .i64 ((AA hC 0).f0)) ∧ w'.cell? ⟨mE.block, mE.off + 1, none⟩ = some (.int .i64 ((AA hC 0).f1.f0)) ∧ w'.cell? ⟨mE.block, mE.off + 2, none⟩ = some (.int .i64 ((AA hC 0).f1.f1)) ∧ w'.cell? ⟨mE.block, mE.off + 3, none⟩ = some (.slice pI ((AA hC 0).f1.f2).length cJ) ∧ w'.cell? ⟨mE.block, mE.off + 4, none⟩ = some (.slice qI ((AA hC 0).f1.f3).length dJ) ∧ w'.cell? xE = some (.int .i64 ((AC z 0).f0)) ∧ w'.cell? ⟨xE.block, xE.off + 1, none⟩ = some (.int .i64 ((AC z 0).f1)) ∧ w'.cell? ⟨xE.block, xE.off + 2, none⟩ = some (.slice tI ((AC z 0).f2).length eJ) ∧ w'.cell? ⟨xE.block, xE.off + 3, none⟩ = some (.slice uI ((AC z 0).f3).length fJ)) (ds := []) (tf 0 27) (by kernel_rfl) rfl rfl ⟨bc a 0, bc a 1, bc a 2, bc a 3, bc a 4, bc a 5, bc a 6, bc a 7, bc a 8, bc a 9, bc a 10, bc a 11, bc a 12, bc a 13, hF, jF, lF, gE, hE, (AX G.out pE), (AX G.out qE), (AX G.out rE), (AX G.out sE)⟩ (fun y => ?_); refine Bl AL.J8 AL.IV (fun u qC => ?_)
   generalize o2.drew = a6 at x j p c gB a s G nE oE oD pD rH sH hF jF lF gE hE zD aE bE cE y ⊢
   refine pv 0 72 (tf 1 26) u ?_
   refine pv 1 73 (tf 2 25) u ?_
   refine pv 2 74 (tf 3 24) u ?_
   refine pv 3 75 (tf 4 23) u ?_
   refine pv 4 76 (tf 5 22) u ?_
   refine pv 5 77 (tf 6 21) u ?_
   refine pv 6 78 (tf 7 20) u ?_
   refine pv 7 79 (tf 8 19) u ?_
   refine pv 8 80 (tf 9 18) u ?_
   refine pv 9 81 (tf 10 17) u ?_
   refine pv 10 82 (tf 11 16) u ?_
   refine pv 11 83 (tf 12 15) u ?_
   refine pv 12 84 (tf 13 14) u ?_
   refine pv 13 85 (tf 14 13) u ?_
   refine pv 15 87 #[true, true, true, true, true, true, true, true, true, true, true, true, true, true, false, true, false, false, false, false, false, false, false, false, false, false, false] u ?_
   refine BR (i := 14) (N := some 86) (v := ?_) (a' := ?_) (tf 16 11) rfl rfl (Ae u.out qC.out (by kernel_rfl)) (fun _ _ _ h => h) (Or.inl ⟨by rfl, ?_⟩) y ?_ ?_
   rotate_left
   ·rintro w' ⟨s0, s1, s2, s3, s4, s5, s6, s7, s8, s9, cD, dD, eD, fD, gD, hD, jD, kD, lD, mD, mH, nH, oH⟩
    go_simp
    with_reducible rfl
   rotate_left
   ·simp only [ps]
    rfl
   refine BR (i := 16) (N := some 88) (v := ?_) (a' := ?_) (tf 17 10) rfl rfl (Ae u.out qC.out (by kernel_rfl)) (fun _ _ _ h => h) (Or.inl ⟨by rfl, ?_⟩) y ?_ ?_
   rotate_left
   ·rintro w' ⟨s0, s1, s2, s3, s4, s5, s6, s7, s8, s9, cD, dD, eD, fD, gD, hD, jD, kD, lD, mD, mH, nH, oH⟩
    go_simp
    with_reducible rfl
   rotate_left
   ·simp only [ps]
    rfl
   refine pv 17 89 (tf 18 9) u ?_
   refine BR (i := 18) (N := some 90) (v := ?_) (a' := ?_) (tf 19 8) rfl rfl (Ae u.out qC.out (by kernel_rfl)) (fun _ _ _ h => h) (Or.inl ⟨by rfl, ?_⟩) y ?_ ?_
   rotate_left
   ·rintro w' ⟨s0, s1, s2, s3, s4, s5, s6, s7, s8, s9, cD, dD, eD, fD, gD, hD, jD, kD, lD, mD, mH, nH, oH⟩
    go_simp
    with_reducible rfl
   rotate_left
   ·simp only [ps]
    rfl
   refine Cz (i := 19) (N := some 91) (tf 20 7) rfl rfl (Bq u.out (by kernel_rfl)) (by decide) (fun K hK => ?_)
   refine Cg Try.func32 (by kernel_rfl) rfl #[.agg #[.int .i64 ((AA hC 0).f1.f0), .int .i64 ((AA hC 0).f1.f1), .slice pI ((AA hC 0).f1.f2).length cJ, .slice qI ((AA hC 0).f1.f3).length dJ], .agg #[.int .i64 ((AC z 0).f0), .int .i64 ((AC z 0).f1), .slice tI ((AC z 0).f2).length eJ, .slice uI ((AC z 0).f3).length fJ]] (by rfl) rfl rfl (by (try simp only [List.map_toArray, List.map_cons, List.map_nil]); first | done | rfl | (simp only [List.length_drop, List.length_take]; rfl)) ?_
   with_reducible refine (Ba.calls k1 ((AA hC 0).f1.f0) ((AA hC 0).f1.f1) _ _ ((AA hC 0).f1.f2) _ _ ((AA hC 0).f1.f3) ((AC z 0).f0) ((AC z 0).f1) _ _ ((AC z 0).f2) _ _ ((AC z 0).f3) true _ ?side1 ?side2 ?side3 ?side4 ?side5 ?side6 ?side7 ?side8 sT.out).mono ?_
   (case side1 => repeat (first | exact (by repeat (first | (with_reducible exact oD.out) | (with_reducible refine Kd.CK ?_ _) | (with_reducible refine Kd.CL ?_ _) | (with_reducible refine Kd.Cc ?_) | exact oD.out)) | (with_reducible refine Kd.CK ?_ _) | (with_reducible refine Kd.CL ?_ _) | (with_reducible refine Kd.Cc ?_)))
   (case side2 => exact wJ.out)
   (case side3 => repeat (first | exact (by repeat (first | (with_reducible exact pD.out) | (with_reducible refine Kd.CK ?_ _) | (with_reducible refine Kd.CL ?_ _) | (with_reducible refine Kd.Cc ?_) | exact pD.out)) | (with_reducible refine Kd.CK ?_ _) | (with_reducible refine Kd.CL ?_ _) | (with_reducible refine Kd.Cc ?_)))
   (case side4 => exact xJ.out)
   (case side5 => exact cu rH G)
   (case side6 => exact yJ.out)
   (case side7 => exact cu sH G)
   (case side8 => exact zJ.out)
   rintro e b6 ⟨rfl, hb⟩
   have dK := (hb.cell (World.block_lt_of_cell? _ _ (y.2.2.2.2.2.2.2.2.2.2.2.2.2.2.1))).trans (y.2.2.2.2.2.2.2.2.2.2.2.2.2.2.1)
   have eK := (hb.cell (World.block_lt_of_cell? _ _ (y.2.2.2.2.2.2.2.2.2.2.2.2.2.2.2.1))).trans (y.2.2.2.2.2.2.2.2.2.2.2.2.2.2.2.1)
   have fK := (hb.cell (World.block_lt_of_cell? _ _ (y.2.2.2.2.2.2.2.2.2.2.2.2.2.2.2.2.1))).trans (y.2.2.2.2.2.2.2.2.2.2.2.2.2.2.2.2.1)
   have gK := (hb.cell (World.block_lt_of_cell? _ _ (y.2.2.2.2.2.2.2.2.2.2.2.2.2.2.2.2.2.1))).trans (y.2.2.2.2.2.2.2.2.2.2.2.2.2.2.2.2.2.1)
   have iK := (hb.cell (World.block_lt_of_cell? _ _ (y.2.2.2.2.2.2.2.2.2.2.2.2.2.2.2.2.2.2.1))).trans (y.2.2.2.2.2.2.2.2.2.2.2.2.2.2.2.2.2.2.1)
   refine ⟨_, rfl, ?_⟩
   have uB := nb x hb
   have wB := rb j hb
   have xB := vb p hb
   have yB := nb c hb
   have zB := nb gB hb
   have aC := vb nE hb
   have bC := vb oE hb
   have pC := kb a hb
   have mF := kb s hb
   have oF := cb oD hb
   have pJ := cb pD hb
   have qJ := kh2 G I fB hb
   clear x; clear j; clear p; clear c; clear gB; clear nE; clear oE; clear a; clear s; clear oD; clear pD; clear G; have x := uB; have j := wB; have p := xB; have c := yB; have gB := zB; have nE := aC; have oE := bC; have a := pC; have s := mF; have oD := oF; have pD := pJ; have G := qJ; clear uB wB xB yB zB aC bC pC mF oF pJ qJ
   try clear hb
   refine hK.out _ _ ⟨bc a 0, bc a 1, bc a 2, bc a 3, bc a 4, bc a 5, bc a 6, bc a 7, bc a 8, bc a 9, bc a 10, bc a 11, bc a 12, bc a 13, dK, eK, fK, gK, iK, (AX G.out pE), (AX G.out qE), (AX G.out rE), (AX G.out sE)⟩ (fun y => ?_)
   clear hK K
   refine CB (a' := ?_) ?_ ?_
   rotate_left
   ·show Act.put _ (some 91) _ = _
    simp only [ps]
    rfl
   refine pv 20 92 (tf 21 6) u ?_
   refine pv 21 93 (tf 22 5) u ?_
   refine pv 22 94 (tf 23 4) u ?_
   refine pv 23 95 (tf 24 3) u ?_
   refine Cz (i := 24) (N := some 96) (tf 25 2) rfl rfl (Bq u.out (by kernel_rfl)) (by decide) (fun K hK => ?_)
   refine Cg Try.func16 (by kernel_rfl) rfl #[] (by rfl) rfl rfl (by (try simp only [List.map_toArray, List.map_cons, List.map_nil]); first | done | rfl | (simp only [List.length_drop, List.length_take]; rfl)) ?_
   with_reducible refine (Cv.calls k1  zM _ ?side1 iA.out).mono ?_
   (case side1 => exact Ad HG.out (be2 G I fB))
   rintro e d6 ⟨rfl, hb⟩
   have dK := (hb.cell (World.block_lt_of_cell? _ _ (y.2.2.2.2.2.2.2.2.2.2.2.2.2.2.1))).trans (y.2.2.2.2.2.2.2.2.2.2.2.2.2.2.1)
   have eK := (hb.cell (World.block_lt_of_cell? _ _ (y.2.2.2.2.2.2.2.2.2.2.2.2.2.2.2.1))).trans (y.2.2.2.2.2.2.2.2.2.2.2.2.2.2.2.1)
   have fK := (hb.cell (World.block_lt_of_cell? _ _ (y.2.2.2.2.2.2.2.2.2.2.2.2.2.2.2.2.1))).trans (y.2.2.2.2.2.2.2.2.2.2.2.2.2.2.2.2.1)
   have gK := (hb.cell (World.block_lt_of_cell? _ _ (y.2.2.2.2.2.2.2.2.2.2.2.2.2.2.2.2.2.1))).trans (y.2.2.2.2.2.2.2.2.2.2.2.2.2.2.2.2.2.1)
   have iK := (hb.cell (World.block_lt_of_cell? _ _ (y.2.2.2.2.2.2.2.2.2.2.2.2.2.2.2.2.2.2.1))).trans (y.2.2.2.2.2.2.2.2.2.2.2.2.2.2.2.2.2.2.1)
   refine ⟨_, rfl, ?_⟩
   have uB := nb x hb
   have wB := rb j hb
   have xB := vb p hb
   have yB := nb c hb
   have zB := nb gB hb
   have aC := vb nE hb
   have bC := vb oE hb
   have pC := kb a hb
   have mF := kb s hb
   have oF := cb oD hb
   have pJ := cb pD hb
   have qJ := kh2 G I fB hb
   clear x; clear j; clear p; clear c; clear gB; clear nE; clear oE; clear a; clear s; clear oD; clear pD; clear G; have x := uB; have j := wB; have p := xB; have c := yB; have gB := zB; have nE := aC; have oE := bC; have a := pC; have s := mF; have oD := oF; have pD := pJ; have G := qJ; clear uB wB xB yB zB aC bC pC mF oF pJ qJ
   try clear hb
   refine hK.out _ _ ⟨bc a 0, bc a 1, bc a 2, bc a 3, bc a 4, bc a 5, bc a 6, bc a 7, bc a 8, bc a 9, bc a 10, bc a 11, bc a 12, bc a 13, dK, eK, fK, gK, iK, (AX G.out pE), (AX G.out qE), (AX G.out rE), (AX G.out sE)⟩ (fun y => ?_)
   clear hK K
   refine CB (a' := ?_) ?_ ?_
   rotate_left
   ·show Act.put _ (some 96) _ = _
    simp only [ps]
    rfl
   refine pv 25 97 (tf 26 1) u ?_
   refine pv 26 2 (tf 27 0) u ?_
   refine DV (Ce u.out (by kernel_rfl)) ?_
   try go_wp2
   go_ret
   exact ⟨rfl, be2 G I fB⟩
end Go.Proofs.Ytojankgmedccdaa.PGn
