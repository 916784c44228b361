/- Lemmas for LawDriversGives. -/
import Derived.Test.YtojankgmedccdaaYGAwB
import Derived.Test.YtojankgmedccdaaYGPGnF21
import Derived.Test.YtojankgmedccdaaYGPGnF22
import Derived.Test.YtojankgmedccdaaYGPGnF36
namespace Go.Proofs.Ytojankgmedccdaa.PGn
open Go.RowKit Own PTy Hand PIs PAw YtojankgmedccdaaW.PrintWords YtojankgmedccdaaW.PrintLast YtojankgmedccdaaW.PrintMore
attribute [local go_sem] BI BJ Be Bf Ar Au BK BL
set_option linter.unusedVariables false
set_option linter.unusedSimpArgs false
mutual
def AV.l0 : Nat → List (S63) → Int → Int → Int → Int → ByteArray → List ByteArray → List (S26) → Int → Int → List Int → List (S30) → List (S63) → Int → List (S30) → List Int → Bool → Option (Bool)
 | 0, _, _, _, _, _, _, _, _, _, _, _, _, _, _, _, _, _ => none
 | k + 1, x5, w, v, d, e, g, h, i, j, l, m, n, o, c, b, a, p => if v < w then (AV.l1 k x5 v w v x5 (x5.length : Int) 0 d e g h i j l m n o c b a p 0 0 ([] : List Int) ([] : List (S30))) else (if (x5.length : Int) > 0 then (if 0 ≤ (wrap64 ((x5.length : Int) - 1)) then (if (wrap64 ((x5.length : Int) - 1)) < (x5.length : Int) then (if 0 ≤ (wrap64 ((a.length : Int) - 1)) then (if (wrap64 ((a.length : Int) - 1)) < (a.length : Int) then (if ((AA x5 (wrap64 ((x5.length : Int) - 1))).f0) = (wrap64 (c + (rd a (wrap64 ((a.length : Int) - 1))))) then ((Dk.f k).bind fun y => (some y)) else (some false)) else (none)) else (none)) else (none)) else (none)) else (some false))
def AV.l1 : Nat → List (S63) → Int → Int → Int → List (S63) → Int → Int → Int → Int → ByteArray → List ByteArray → List (S26) → Int → Int → List Int → List (S30) → List (S63) → Int → List (S30) → List Int → Bool → Int → Int → List Int → List (S30) → Option (Bool)
 | 0, _, _, _, _, _, _, _, _, _, _, _, _, _, _, _, _, _, _, _, _, _, _, _, _, _ => none
 | k + 1, x5, x7, w, v, x41, x, x43, d, e, g, h, i, j, l, m, n, o, c, b, a, p, q, r, s, u => if x43 < x then (if 0 ≤ x43 then (if x43 < (x41.length : Int) then (if 0 ≤ x7 then (if x7 < (a.length : Int) then (if ((AA x41 x43).f0) ≤ (wrap64 (c + (rd a x7))) then (AV.l1 k x5 x7 w v x41 x (wrap64 (x43 + 1)) d e g h i j l m n o c b a p ((AA x41 x43).f1.f0) ((AA x41 x43).f1.f1) ((AA x41 x43).f1.f2) ((AA x41 x43).f1.f3)) else (AV.l1 k x5 x7 w v x41 x (wrap64 (x43 + 1)) d e g h i j l m n o c b a p q r s u)) else (none)) else (none)) else (none)) else (none)) else (if 0 ≤ x7 then (if x7 < (b.length : Int) then ((Bi.f k q r s u ((AC b x7).f0) ((AC b x7).f1) ((AC b x7).f2) ((AC b x7).f3)).bind fun z => (if z = true then (AV.l0 k x5 w (wrap64 (v + 1)) d e g h i j l m n o c b a p) else (some false))) else (none)) else (none))
end
def AV.f (k : Nat) (g : Int) (h : Int) (i : ByteArray) (j : List ByteArray) (l : List (S26)) (m : Int) (n : Int) (p : List Int) (q : List (S30)) (r : List (S63)) (d : Int) (c : List (S30)) (e : List Int) (b : Bool) : Option (Bool) := (DJ.f k g h i j l m n p q r d c e b).bind fun s => (if s = true then ((Bh.f k g h i j l m n p q r d c e b b).bind fun a => (if a.2.2.2.2.2 = 0 then ((Cn.f k g h i j l a.1 a.2.1 a.2.2.1 a.2.2.2.1 a.2.2.2.2.1).bind fun o => (if o.2 = true then (AV.l0 k o.1 (c.length : Int) 0 g h i j l m n p q r d c e b) else (some false))) else ((Dk.f k).bind fun v => (some v)))) else ((Dk.f k).bind fun u => (some u)))
def AV.T16 : Bool × List (List Nat × List Nat) := (true, [([], []), ([0], [0]), ([], []), ([2], [2]), ([], []), ([4], [4]), ([], []), ([5, 6], [5, 6]), ([7], [7]), ([3, 8], [3, 8]), ([1, 9], [1, 9])])
def AV.B16 : List Nat := [0, 1, 0, 4, 0, 16, 0, 112, 240, 508, 1023]
theorem AV.Ob : Ct .any (opsOf Try.f10 16) = AV.T16 := by kernel_rfl
theorem AV.NR : CW AV.T16.2 AV.B16 = true := by kernel_rfl
def AV.T19 : Bool × List (List Nat × List Nat) := (true, [([], []), ([], []), ([1], [1]), ([], []), ([2, 3], [2, 3]), ([4], [4]), ([0, 5], [0, 5]), ([6], [6])])
def AV.B19 : List Nat := [0, 0, 2, 0, 14, 30, 63, 127]
theorem AV.Oc : Ct .any (opsOf Try.f10 19) = AV.T19 := by kernel_rfl
theorem AV.NS : CW AV.T19.2 AV.B19 = true := by kernel_rfl
def AV.T22 : Bool × List (List Nat × List Nat) := (true, [([], []), ([0], [0]), ([1], [1]), ([2], [2]), ([3], [3]), ([3], [3]), ([5, 3], [3, 5]), ([6, 3], [3, 6]), ([4, 7, 3], [3, 4, 7]), ([8, 3], [3, 8]), ([9, 3], [3, 9]), ([3], [3]), ([11, 3], [3, 11]), ([3], [3]), ([13, 3], [3, 13]), ([3], [3]), ([15, 3], [3, 15]), ([16, 3], [3, 16]), ([17, 3], [3, 17]), ([14, 18, 3], [3, 14, 18]), ([19, 3], [3, 19]), ([12, 20, 3], [3, 12, 20]), ([10, 21, 3], [3, 10, 21]), ([3, 22], [3, 22]), ([23, 3], [23]), ([24, 24], [24]), ([24, 25], [24, 25]), ([26, 25, 0, 1, 2, 3, 4, 5, 6, 7, 8, 9, 10, 11, 12, 13, 14, 15, 16, 17, 18, 19, 20, 21, 22, 23, 24, 25, 26], [26])])
def AV.B22 : List Nat := [0, 1, 3, 7, 15, 15, 47, 111, 255, 511, 1023, 15, 2063, 15, 8207, 15, 32783, 98319, 229391, 516111, 1040399, 2095119, 4194303, 8388607, 16777215, 33554431, 67108863, 134217727]
theorem AV.NT : Ct .any (opsOf Try.f10 22) = AV.T22 := by kernel_rfl
theorem AV.Kk : CW AV.T22.2 AV.B22 = true := by kernel_rfl
set_option maxHeartbeats 8000000 in
set_option maxRecDepth 100000 in
theorem AV.calls (k : Nat) (qB : Int) (sB : Int) (tB : ByteArray) (eC : Option Addr) (iC : Nat) (kB : List ByteArray) (fC : Option Addr) (jC : Nat) (lB : List (S26)) (cC : Int) (dC : Int) (mC : Option Addr) (pC : Nat) (uB : List Int) (nC : Option Addr) (qC : Nat) (wB : List (S30)) (oC : Option Addr) (rC : Nat) (xB : List (S63)) (eB : Int) (jB : Option Addr) (gB : Nat) (B : List (S30)) (mB : Option Addr) (hB : Nat) (L : List Int) (dB : Bool) (r : Bool) (w : World) (hG : D8 w) (cQ : Kd.C Kd.string w eC kB.length kB) (xP : kB.length ≤ iC) (dQ : Kd.C k26 w fC lB.length lB) (yP : lB.length ≤ jC) (eQ : Kd.C (Kd.int .u8) w mC uB.length uB) (zP : uB.length ≤ pC) (fQ : Kd.C k30 w nC wB.length wB) (aQ : wB.length ≤ qC) (gQ : Kd.C k63 w oC xB.length xB) (bQ : xB.length ≤ rC) (dP : Kd.C k30 w jB B.length B) (hO : B.length ≤ gB) (eP : Kd.C (Kd.int .i64) w mB L.length L) (iO : L.length ≤ hB) (h : AV.f k qB sB tB kB lB cC dC uB wB xB eB B L dB = some r) :
  Calls Try.prog 10 #[.agg #[.int .i64 qB, .int .i64 sB, .string tB, .slice eC kB.length iC, .slice fC lB.length jC, .int .i64 cC, .int .i64 dC, .slice mC uB.length pC, .slice nC wB.length qC, .slice oC xB.length rC, .int .i64 eB, .slice jB B.length gB, .slice mB L.length hB, .bool dB]] w fun e w' => e = .returned (.bool r) ∧ Below w.heap.size w w' := by
 have HG := mk0 hG; clear hG
 have r1 := Try.underlying40
 have q1 := Try.underlying33
 have o1 := Try.underlying26
 have p1 := Try.underlying30
 have y1 := Try.underlying63
 have mG := mk0 cQ; have kG := mk0 xP; clear cQ xP; have nG := mk0 dQ; have lG := mk0 yP; clear dQ yP; have vH := mk0 eQ; have sH := mk0 zP; clear eQ zP; have wH := mk0 fQ; have tH := mk0 aQ; clear fQ aQ; have xH := mk0 gQ; have uH := mk0 bQ; clear gQ bQ; have lE := mk0 dP; have iG := mk0 hO; clear dP hO; have tD := mk0 eP; have jG := mk0 iO; clear eP iO
 have U := mk0 (Below.refl w.heap.size w)
 have H := h; unfold AV.f at H
 clear h
 replace H := bS H; obtain ⟨z1, A2, H⟩ := H
 replace H := iB' H; obtain ⟨rfl, H⟩ | ⟨rfl, H⟩ := H
 ·replace H := bS H; obtain ⟨kZ, uV, H⟩ := H; obtain rfl := sI H
  go_enter Try.func10, Try.ntmps10
  go_wp2_with (first | ((with_reducible refine AP rfl (N := 1) rfl (cs := #[.int .i64 qB, .int .i64 sB, .string tB, .slice eC kB.length iC, .slice fC lB.length jC, .int .i64 cC, .int .i64 dC, .slice mC uB.length pC, .slice nC wB.length qC, .slice oC xB.length rC, .int .i64 eB, .slice jB B.length gB, .slice mB L.length hB, .bool dB]) (t := 40) ?hr ?_); (case hr => first | (go_simp; done) | (go_simp; rfl)); intro b hg tF zC hb; have a := mk0 (zC); have gG := bs (be U) hg; have I := bs (be U) hg; replace U := kh U hb; clear hb zC hg; have kT : tF.cell? ⟨b, 0, none⟩ = some (.int .i64 qB) := bc a 0; have lT : tF.cell? ⟨b, 1, none⟩ = some (.int .i64 sB) := bc a 1; have mT : tF.cell? ⟨b, 2, none⟩ = some (.string tB) := bc a 2; have nT : tF.cell? ⟨b, 3, none⟩ = some (.slice eC kB.length iC) := bc a 3; have oT : tF.cell? ⟨b, 4, none⟩ = some (.slice fC lB.length jC) := bc a 4; have pT : tF.cell? ⟨b, 5, none⟩ = some (.int .i64 cC) := bc a 5; have qT : tF.cell? ⟨b, 6, none⟩ = some (.int .i64 dC) := bc a 6; have rT : tF.cell? ⟨b, 7, none⟩ = some (.slice mC uB.length pC) := bc a 7; have sT : tF.cell? ⟨b, 8, none⟩ = some (.slice nC wB.length qC) := bc a 8; have tT : tF.cell? ⟨b, 9, none⟩ = some (.slice oC xB.length rC) := bc a 9; have oS : tF.cell? ⟨b, 10, none⟩ = some (.int .i64 eB) := bc a 10; have pS : tF.cell? ⟨b, 11, none⟩ = some (.slice jB B.length gB) := bc a 11; have qS : tF.cell? ⟨b, 12, none⟩ = some (.slice mB L.length hB) := bc a 12; have rS : tF.cell? ⟨b, 13, none⟩ = some (.bool dB) := bc a 13; have uU := AB a.out 0; have vU := AB a.out 1; have wU := AB a.out 2; have xU := AB a.out 3; have yU := AB a.out 4; have zU := AB a.out 5; have aV := AB a.out 6; have bV := AB a.out 7; have cV := AB a.out 8; have dV := AB a.out 9; have wS := AB a.out 10; have xS := AB a.out 11; have yS := AB a.out 12; have zS := AB a.out 13) | ((with_reducible refine AR (f := 21) rfl ?_); refine CO Try.func21 (DJ.calls (cu mG U) kG.out (cu nG U) lG.out (cu vH U) sH.out (cu wH U) tH.out (cu xH U) uH.out (cu lE U) iG.out (cu tD U) jG.out A2.out) ?_; intro g2 hb; replace a := kb a hb; replace U := kh1 U I hb) | ((with_reducible refine AR (f := 16) rfl ?_); refine CO Try.func16 (Dk.calls k  kZ _ (AZ HG.out (be1 U I)) uV.out) ?_; intro i2 hb; replace a := kb a hb; replace U := kh1 U I hb))
  go_ret
  exact ⟨rfl, be1 U I⟩
 replace H := Option.bind_eq_some_iff.mp H
 obtain ⟨⟨qF, rF, aC, mD, tC, lZ⟩, vV, H⟩ := H
 replace H : (if lZ = 0 then ((Cn.f k qB sB tB kB lB qF rF aC mD tC).bind fun oP => (if oP.2 = true then (AV.l0 k oP.1 (B.length : Int) 0 qB sB tB kB lB cC dC uB wB xB eB B L dB) else (some false))) else ((Dk.f k).bind fun mQ => (some mQ))) = some r := H
 have A4 := mk0 vV; clear vV
 replace H := iE' H; obtain ⟨c5, qP, rP, H⟩ | ⟨qP, rP, H⟩ := H
 ·replace H := bS H; obtain ⟨mQ, uZ, H⟩ := H; obtain rfl := sI H
  go_enter Try.func10, Try.ntmps10
  go_wp2_with (first | ((with_reducible refine AP rfl (N := 1) rfl (cs := #[.int .i64 qB, .int .i64 sB, .string tB, .slice eC kB.length iC, .slice fC lB.length jC, .int .i64 cC, .int .i64 dC, .slice mC uB.length pC, .slice nC wB.length qC, .slice oC xB.length rC, .int .i64 eB, .slice jB B.length gB, .slice mB L.length hB, .bool dB]) (t := 40) ?hr ?_); (case hr => first | (go_simp; done) | (go_simp; rfl)); intro b hg tI zC hb; have a := mk0 (zC); have gG := bs (be U) hg; have I := bs (be U) hg; replace U := kh U hb; clear hb zC hg; have jX : tI.cell? ⟨b, 0, none⟩ = some (.int .i64 qB) := bc a 0; have kX : tI.cell? ⟨b, 1, none⟩ = some (.int .i64 sB) := bc a 1; have lX : tI.cell? ⟨b, 2, none⟩ = some (.string tB) := bc a 2; have mX : tI.cell? ⟨b, 3, none⟩ = some (.slice eC kB.length iC) := bc a 3; have nX : tI.cell? ⟨b, 4, none⟩ = some (.slice fC lB.length jC) := bc a 4; have oX : tI.cell? ⟨b, 5, none⟩ = some (.int .i64 cC) := bc a 5; have pX : tI.cell? ⟨b, 6, none⟩ = some (.int .i64 dC) := bc a 6; have qX : tI.cell? ⟨b, 7, none⟩ = some (.slice mC uB.length pC) := bc a 7; have rX : tI.cell? ⟨b, 8, none⟩ = some (.slice nC wB.length qC) := bc a 8; have sX : tI.cell? ⟨b, 9, none⟩ = some (.slice oC xB.length rC) := bc a 9; have gU : tI.cell? ⟨b, 10, none⟩ = some (.int .i64 eB) := bc a 10; have hU : tI.cell? ⟨b, 11, none⟩ = some (.slice jB B.length gB) := bc a 11; have iU : tI.cell? ⟨b, 12, none⟩ = some (.slice mB L.length hB) := bc a 12; have jU : tI.cell? ⟨b, 13, none⟩ = some (.bool dB) := bc a 13; have xY := AB a.out 0; have yY := AB a.out 1; have zY := AB a.out 2; have aZ := AB a.out 3; have bZ := AB a.out 4; have cZ := AB a.out 5; have dZ := AB a.out 6; have eZ := AB a.out 7; have fZ := AB a.out 8; have gZ := AB a.out 9; have qV := AB a.out 10; have rV := AB a.out 11; have sV := AB a.out 12; have tV := AB a.out 13) | ((with_reducible refine AR (f := 21) rfl ?_); refine CO Try.func21 (DJ.calls (cu mG U) kG.out (cu nG U) lG.out (cu vH U) sH.out (cu wH U) tH.out (cu xH U) uH.out (cu lE U) iG.out (cu tD U) jG.out A2.out) ?_; intro sF hb; replace a := kb a hb; replace U := kh1 U I hb; have aT : sF.cell? ⟨b, 0, none⟩ = some (.int .i64 qB) := bc a 0; have bT : sF.cell? ⟨b, 1, none⟩ = some (.int .i64 sB) := bc a 1; have cT : sF.cell? ⟨b, 2, none⟩ = some (.string tB) := bc a 2; have dT : sF.cell? ⟨b, 3, none⟩ = some (.slice eC kB.length iC) := bc a 3; have eT : sF.cell? ⟨b, 4, none⟩ = some (.slice fC lB.length jC) := bc a 4; have fT : sF.cell? ⟨b, 5, none⟩ = some (.int .i64 cC) := bc a 5; have gT : sF.cell? ⟨b, 6, none⟩ = some (.int .i64 dC) := bc a 6; have hT : sF.cell? ⟨b, 7, none⟩ = some (.slice mC uB.length pC) := bc a 7; have iT : sF.cell? ⟨b, 8, none⟩ = some (.slice nC wB.length qC) := bc a 8; have jT : sF.cell? ⟨b, 9, none⟩ = some (.slice oC xB.length rC) := bc a 9; have kS : sF.cell? ⟨b, 10, none⟩ = some (.int .i64 eB) := bc a 10; have lS : sF.cell? ⟨b, 11, none⟩ = some (.slice jB B.length gB) := bc a 11; have mS : sF.cell? ⟨b, 12, none⟩ = some (.slice mB L.length hB) := bc a 12; have nS : sF.cell? ⟨b, 13, none⟩ = some (.bool dB) := bc a 13; have kU := AB a.out 0; have lU := AB a.out 1; have mU := AB a.out 2; have nU := AB a.out 3; have oU := AB a.out 4; have pU := AB a.out 5; have qU := AB a.out 6; have rU := AB a.out 7; have sU := AB a.out 8; have tU := AB a.out 9; have sS := AB a.out 10; have tS := AB a.out 11; have uS := AB a.out 12; have vS := AB a.out 13) | ((with_reducible refine AR (f := 22) rfl ?_); refine Gd Try.func22 #[.agg #[.int .i64 qB, .int .i64 sB, .string tB, .slice eC kB.length iC, .slice fC lB.length jC, .int .i64 cC, .int .i64 dC, .slice mC uB.length pC, .slice nC wB.length qC, .slice oC xB.length rC, .int .i64 eB, .slice jB B.length gB, .slice mB L.length hB, .bool dB], .bool dB] ?_; (with_reducible refine (Bh.calls (fun D => D < w.heap.size) ?side14 ?side1 ?side2 ?side3 ?side4 ?side5 ?side6 ?side7 ?side8 ?side9 ?side10 ?side11 ?side12 ?side13 A4.out).mono ?_); (case side1 => exact cu mG U); (case side2 => exact kG.out); (case side3 => exact cu nG U); (case side4 => exact lG.out); (case side5 => exact cu vH U); (case side6 => exact sH.out); (case side7 => exact cu wH U); (case side8 => exact tH.out); (case side9 => exact cu xH U); (case side10 => exact uH.out); (case side11 => exact Kd.C8 iG.out (Kd.Cc (Kd.C_F EU lE.out) (be1 U I))); (case side12 => exact cu tD U); (case side13 => exact jG.out); (case side14 => exact AZ HG.out (be1 U I)); rintro e b2 ⟨v697, v700, v703, rfl, oF, cO, dO, hb⟩; refine ⟨_, rfl, ?_⟩; have lC := mk0 (Kd.CS (Kd.BC (ok' := fun D => True) oF (fun _ vD => trivial)) (AQ (be1 U I))); have sC := mk0 (Kd.Dm (Kd.AL (ok' := fun D => some D ≠ (v697 : Value).ownBlock ∧ some D ≠ (v703 : Value).ownBlock ∧ D ≠ b) cO (fun D vD => ⟨vD.2.1, vD.2.2, Or.elim vD.1 (fun uC => fun e_ => Nat.not_le.2 uC (by rw [e_]; exact gG.out)) (fun sG => (Kd.Al (g := b) (o := .cells #[.int .i64 qB, .int .i64 sB, .string tB, .slice eC kB.length iC, .slice fC lB.length jC, .int .i64 cC, .int .i64 dC, .slice mC uB.length pC, .slice nC wB.length qC, .slice oC xB.length rC, .int .i64 eB, .slice jB B.length gB, .slice mB L.length hB, .bool dB] 40 (0, 0)) (AY a.out) D sG))⟩)) (AQ (be1 U I))); have bC := mk0 (Kd.DF (Kd.Av (ok' := fun D => some D ≠ (v697 : Value).ownBlock ∧ D ≠ b) dO (fun D vD => ⟨vD.2, Or.elim vD.1 (fun uC => fun e_ => Nat.not_le.2 uC (by rw [e_]; exact gG.out)) (fun sG => (Kd.Al (g := b) (o := .cells #[.int .i64 qB, .int .i64 sB, .string tB, .slice eC kB.length iC, .slice fC lB.length jC, .int .i64 cC, .int .i64 dC, .slice mC uB.length pC, .slice nC wB.length qC, .slice oC xB.length rC, .int .i64 eB, .slice jB B.length gB, .slice mB L.length hB, .bool dB] 40 (0, 0)) (AY a.out) D sG))⟩)) (AQ (be1 U I))); replace a := kb a hb; replace U := kh1 U I hb; (try clear oF); (try clear cO); (try clear dO)) | ((with_reducible refine AP rfl (N := 3) rfl (cs := #[.int .i64 0, .int .i64 0, .slice none 0 0, .slice none 0 0, .slice none 0 0]) (t := 33) ?hr ?_); (case hr => first | (go_simp; done) | (go_simp; rfl)); intro G hg d2 zC hb; obtain ⟨sC, bC⟩ := tg2 hg hb sC bC; replace lC := rb lC hb; have x := mk0 (zC); have oB := bs (be1 U I) hg; replace U := kh1 U I hb; have ⟨pD, nE⟩ := nn a hg; replace a := kb a hb; clear hb zC hg; have ⟨qZ, rZ⟩ := no nE pD; have q0 := cells5 x.out; obtain ⟨mR, eS, hS⟩ := Kd.Bn lC.out; subst hS; obtain ⟨nR, fS, iS⟩ := Kd.Bu sC.out; subst iS; obtain ⟨oR, gS, jS⟩ := Kd.Ce bC.out; subst jS) | ((with_reducible refine AR (f := 16) rfl ?_); refine CO Try.func16 (Dk.calls k  mQ _ (AZ HG.out (be2 U I oB)) uZ.out) ?_; intro e2 hb; replace lC := mk0 (Kd.ER (DZ ((Kd.BC (rI (q := G) (Kd.Ao lC.out x.out (by decide)) (fun _ u => u.2)) (fun _ h_ => h_.1)))) hb); replace sC := mk0 (Kd.Bw (BO ((vF (q := G) sC (fun _ u => u.2)))) hb); replace bC := mk0 (Kd.D7 (DL ((nF (q := G) bC (fun _ u => u.2)))) hb); replace a := kF pD a hb; replace x := mk0 (Aa (g := G) (o := .cells #[.int .i64 qF, .int .i64 rF, .slice mR aC.length eS, .slice nR mD.length fS, .slice oR tC.length gS] 33 (0, 0)) (pB x) hb); replace U := kh2 U I oB hb))
  go_ret
  exact ⟨rfl, be2 U I oB⟩
 replace H := Option.bind_eq_some_iff.mp H
 obtain ⟨⟨j, mZ⟩, xV, H⟩ := H
 replace H : (if mZ = true then (AV.l0 k j (B.length : Int) 0 qB sB tB kB lB cC dC uB wB xB eB B L dB) else (some false)) = some r := H
 have A6 := mk0 xV; clear xV
 replace H := iB' H; obtain ⟨rfl, H⟩ | ⟨rfl, H⟩ := H
 ·obtain rfl := sI H
  go_enter Try.func10, Try.ntmps10
  go_wp2_with (first | ((with_reducible refine AP rfl (N := 1) rfl (cs := #[.int .i64 qB, .int .i64 sB, .string tB, .slice eC kB.length iC, .slice fC lB.length jC, .int .i64 cC, .int .i64 dC, .slice mC uB.length pC, .slice nC wB.length qC, .slice oC xB.length rC, .int .i64 eB, .slice jB B.length gB, .slice mB L.length hB, .bool dB]) (t := 40) ?hr ?_); (case hr => first | (go_simp; done) | (go_simp; rfl)); intro b hg pI zC hb; have a := mk0 (zC); have gG := bs (be U) hg; have I := bs (be U) hg; replace U := kh U hb; clear hb zC hg; have fW : pI.cell? ⟨b, 0, none⟩ = some (.int .i64 qB) := bc a 0; have gW : pI.cell? ⟨b, 1, none⟩ = some (.int .i64 sB) := bc a 1; have hW : pI.cell? ⟨b, 2, none⟩ = some (.string tB) := bc a 2; have iW : pI.cell? ⟨b, 3, none⟩ = some (.slice eC kB.length iC) := bc a 3; have jW : pI.cell? ⟨b, 4, none⟩ = some (.slice fC lB.length jC) := bc a 4; have kW : pI.cell? ⟨b, 5, none⟩ = some (.int .i64 cC) := bc a 5; have lW : pI.cell? ⟨b, 6, none⟩ = some (.int .i64 dC) := bc a 6; have mW : pI.cell? ⟨b, 7, none⟩ = some (.slice mC uB.length pC) := bc a 7; have nW : pI.cell? ⟨b, 8, none⟩ = some (.slice nC wB.length qC) := bc a 8; have oW : pI.cell? ⟨b, 9, none⟩ = some (.slice oC xB.length rC) := bc a 9; have uT : pI.cell? ⟨b, 10, none⟩ = some (.int .i64 eB) := bc a 10; have vT : pI.cell? ⟨b, 11, none⟩ = some (.slice jB B.length gB) := bc a 11; have wT : pI.cell? ⟨b, 12, none⟩ = some (.slice mB L.length hB) := bc a 12; have xT : pI.cell? ⟨b, 13, none⟩ = some (.bool dB) := bc a 13; have tX := AB a.out 0; have uX := AB a.out 1; have vX := AB a.out 2; have wX := AB a.out 3; have xX := AB a.out 4; have yX := AB a.out 5; have zX := AB a.out 6; have aY := AB a.out 7; have bY := AB a.out 8; have cY := AB a.out 9; have eV := AB a.out 10; have fV := AB a.out 11; have gV := AB a.out 12; have hV := AB a.out 13) | ((with_reducible refine AR (f := 21) rfl ?_); refine CO Try.func21 (DJ.calls (cu mG U) kG.out (cu nG U) lG.out (cu vH U) sH.out (cu wH U) tH.out (cu xH U) uH.out (cu lE U) iG.out (cu tD U) jG.out A2.out) ?_; intro qI hb; replace a := kb a hb; replace U := kh1 U I hb; have pW : qI.cell? ⟨b, 0, none⟩ = some (.int .i64 qB) := bc a 0; have qW : qI.cell? ⟨b, 1, none⟩ = some (.int .i64 sB) := bc a 1; have rW : qI.cell? ⟨b, 2, none⟩ = some (.string tB) := bc a 2; have sW : qI.cell? ⟨b, 3, none⟩ = some (.slice eC kB.length iC) := bc a 3; have tW : qI.cell? ⟨b, 4, none⟩ = some (.slice fC lB.length jC) := bc a 4; have uW : qI.cell? ⟨b, 5, none⟩ = some (.int .i64 cC) := bc a 5; have vW : qI.cell? ⟨b, 6, none⟩ = some (.int .i64 dC) := bc a 6; have wW : qI.cell? ⟨b, 7, none⟩ = some (.slice mC uB.length pC) := bc a 7; have xW : qI.cell? ⟨b, 8, none⟩ = some (.slice nC wB.length qC) := bc a 8; have yW : qI.cell? ⟨b, 9, none⟩ = some (.slice oC xB.length rC) := bc a 9; have yT : qI.cell? ⟨b, 10, none⟩ = some (.int .i64 eB) := bc a 10; have zT : qI.cell? ⟨b, 11, none⟩ = some (.slice jB B.length gB) := bc a 11; have aU : qI.cell? ⟨b, 12, none⟩ = some (.slice mB L.length hB) := bc a 12; have bU : qI.cell? ⟨b, 13, none⟩ = some (.bool dB) := bc a 13; have dY := AB a.out 0; have eY := AB a.out 1; have fY := AB a.out 2; have gY := AB a.out 3; have hY := AB a.out 4; have iY := AB a.out 5; have jY := AB a.out 6; have kY := AB a.out 7; have lY := AB a.out 8; have mY := AB a.out 9; have iV := AB a.out 10; have jV := AB a.out 11; have kV := AB a.out 12; have lV := AB a.out 13) | ((with_reducible refine AR (f := 22) rfl ?_); refine Gd Try.func22 #[.agg #[.int .i64 qB, .int .i64 sB, .string tB, .slice eC kB.length iC, .slice fC lB.length jC, .int .i64 cC, .int .i64 dC, .slice mC uB.length pC, .slice nC wB.length qC, .slice oC xB.length rC, .int .i64 eB, .slice jB B.length gB, .slice mB L.length hB, .bool dB], .bool dB] ?_; (with_reducible refine (Bh.calls (fun D => D < w.heap.size) ?side14 ?side1 ?side2 ?side3 ?side4 ?side5 ?side6 ?side7 ?side8 ?side9 ?side10 ?side11 ?side12 ?side13 A4.out).mono ?_); (case side1 => exact cu mG U); (case side2 => exact kG.out); (case side3 => exact cu nG U); (case side4 => exact lG.out); (case side5 => exact cu vH U); (case side6 => exact sH.out); (case side7 => exact cu wH U); (case side8 => exact tH.out); (case side9 => exact cu xH U); (case side10 => exact uH.out); (case side11 => exact Kd.C8 iG.out (Kd.Cc (Kd.C_F EU lE.out) (be1 U I))); (case side12 => exact cu tD U); (case side13 => exact jG.out); (case side14 => exact AZ HG.out (be1 U I)); rintro e e4 ⟨v697, v700, v703, rfl, oF, cO, dO, hb⟩; refine ⟨_, rfl, ?_⟩; have lC := mk0 (Kd.CS (Kd.BC (ok' := fun D => True) oF (fun _ vD => trivial)) (AQ (be1 U I))); have sC := mk0 (Kd.Dm (Kd.AL (ok' := fun D => some D ≠ (v697 : Value).ownBlock ∧ some D ≠ (v703 : Value).ownBlock ∧ D ≠ b) cO (fun D vD => ⟨vD.2.1, vD.2.2, Or.elim vD.1 (fun uC => fun e_ => Nat.not_le.2 uC (by rw [e_]; exact gG.out)) (fun sG => (Kd.Al (g := b) (o := .cells #[.int .i64 qB, .int .i64 sB, .string tB, .slice eC kB.length iC, .slice fC lB.length jC, .int .i64 cC, .int .i64 dC, .slice mC uB.length pC, .slice nC wB.length qC, .slice oC xB.length rC, .int .i64 eB, .slice jB B.length gB, .slice mB L.length hB, .bool dB] 40 (0, 0)) (AY a.out) D sG))⟩)) (AQ (be1 U I))); have bC := mk0 (Kd.DF (Kd.Av (ok' := fun D => some D ≠ (v697 : Value).ownBlock ∧ D ≠ b) dO (fun D vD => ⟨vD.2, Or.elim vD.1 (fun uC => fun e_ => Nat.not_le.2 uC (by rw [e_]; exact gG.out)) (fun sG => (Kd.Al (g := b) (o := .cells #[.int .i64 qB, .int .i64 sB, .string tB, .slice eC kB.length iC, .slice fC lB.length jC, .int .i64 cC, .int .i64 dC, .slice mC uB.length pC, .slice nC wB.length qC, .slice oC xB.length rC, .int .i64 eB, .slice jB B.length gB, .slice mB L.length hB, .bool dB] 40 (0, 0)) (AY a.out) D sG))⟩)) (AQ (be1 U I))); replace a := kb a hb; replace U := kh1 U I hb; (try clear oF); (try clear cO); (try clear dO)) | ((with_reducible refine AP rfl (N := 3) rfl (cs := #[.int .i64 0, .int .i64 0, .slice none 0 0, .slice none 0 0, .slice none 0 0]) (t := 33) ?hr ?_); (case hr => first | (go_simp; done) | (go_simp; rfl)); intro G hg p0 zC hb; obtain ⟨sC, bC⟩ := tg2 hg hb sC bC; replace lC := rb lC hb; have x := mk0 (zC); have oB := bs (be1 U I) hg; replace U := kh1 U I hb; have ⟨pD, nE⟩ := nn a hg; replace a := kb a hb; clear hb zC hg; have ⟨qA, e0⟩ := no nE pD; have z2 := cells5 x.out; obtain ⟨qH, rH, cW⟩ := Kd.Bn lC.out; subst cW; obtain ⟨jL, kL, dW⟩ := Kd.Bu sC.out; subst dW; obtain ⟨yI, gJ, eW⟩ := Kd.Ce bC.out; subst eW) | ((with_reducible refine Fg (t := 33) (p := 3) rfl ?_); refine Ep (t := 33) (p := 3) (v := ?vo_w93) (w1 := (((((p0.setCell ⟨G, 0, none⟩ (.int .i64 qF)).setCell ⟨G, 1, none⟩ (.int .i64 rF)).setCell ⟨G, 2, none⟩ (.slice qH aC.length rH)).setCell ⟨G, 3, none⟩ (.slice jL mD.length kL)).setCell ⟨G, 4, none⟩ (.slice yI tC.length gJ))) ?hg ?ho ?hn ?hr ?_; (case ho => rfl); (case hg => rfl); (case hn => rfl); (case hr => first | (go_simp; done) | (go_simp; rfl)); intro fG hw; have bD : Aside0 (Kd.R (Kd.int .u8) 73 fG w.heap.size (fun _ => True) (.slice qH aC.length rH) aC) := ⟨(by rw [hw]; exact (DZ (Kd.BC (rI (q := G) (Kd.Ao lC.out x.out (by decide)) (fun _ u => u.2)) (fun _ u => trivial))))⟩; have cD : Aside0 (Kd.V k30 30 fG w.heap.size (fun D => some D ≠ (.slice qH aC.length rH : Value).ownBlock ∧ some D ≠ (.slice yI tC.length gJ : Value).ownBlock ∧ D ≠ b ∧ D ≠ G) (.slice jL mD.length kL) mD) := ⟨(by rw [hw]; exact (BO (Kd.AL (vI (q := G) (Kd.AL sC.out (fun D u => (⟨u, u.2⟩ : _ ∧ D ≠ G))) (fun _ u => u.2)) (fun _ u => ⟨u.1.1.1, ⟨u.1.1.2.1, ⟨u.1.1.2.2, u.1.2⟩⟩⟩))))⟩; have dD : Aside0 (Kd.N k63 63 fG w.heap.size (fun D => some D ≠ (.slice qH aC.length rH : Value).ownBlock ∧ D ≠ b ∧ D ≠ G) (.slice yI tC.length gJ) tC) := ⟨(by rw [hw]; exact (DL (Kd.Av (nI (q := G) (Kd.Av bC.out (fun D u => (⟨u, u.2⟩ : _ ∧ D ≠ G))) (fun _ u => u.2)) (fun _ u => ⟨u.1.1.1, ⟨u.1.1.2, u.1.2⟩⟩))))⟩; have eD : Aside0 (fG.heap[b]? = some (.cells #[.int .i64 qB, .int .i64 sB, .string tB, .slice eC kB.length iC, .slice fC lB.length jC, .int .i64 cC, .int .i64 dC, .slice mC uB.length pC, .slice nC wB.length qC, .slice oC xB.length rC, .int .i64 eB, .slice jB B.length gB, .slice mB L.length hB, .bool dB] 40 (0, 0))) := ⟨(by rw [hw]; exact (bF pD a))⟩; have fD : Aside0 (fG.heap[G]? = some (.cells #[.int .i64 qF, .int .i64 rF, .slice qH aC.length rH, .slice jL mD.length kL, .slice yI tC.length gJ] 33 (0, 0))) := ⟨(by rw [hw]; exact (pB x))⟩; have gD : Aside0 (Below w.heap.size w fG) := ⟨(by rw [hw]; exact (be2 U I oB))⟩; clear hw; clear lC; clear sC; clear bC; clear a; clear x; clear U; have lC := bD; have sC := cD; have bC := dD; have a := eD; have x := fD; have U := gD; clear bD cD dD eD fD gD; have zW : fG.cell? ⟨b, 0, none⟩ = some (.int .i64 qB) := bc a 0; have aX : fG.cell? ⟨b, 1, none⟩ = some (.int .i64 sB) := bc a 1; have bX : fG.cell? ⟨b, 2, none⟩ = some (.string tB) := bc a 2; have cX : fG.cell? ⟨b, 3, none⟩ = some (.slice eC kB.length iC) := bc a 3; have dX : fG.cell? ⟨b, 4, none⟩ = some (.slice fC lB.length jC) := bc a 4; have eX : fG.cell? ⟨b, 5, none⟩ = some (.int .i64 cC) := bc a 5; have fX : fG.cell? ⟨b, 6, none⟩ = some (.int .i64 dC) := bc a 6; have gX : fG.cell? ⟨b, 7, none⟩ = some (.slice mC uB.length pC) := bc a 7; have hX : fG.cell? ⟨b, 8, none⟩ = some (.slice nC wB.length qC) := bc a 8; have iX : fG.cell? ⟨b, 9, none⟩ = some (.slice oC xB.length rC) := bc a 9; have cU : fG.cell? ⟨b, 10, none⟩ = some (.int .i64 eB) := bc a 10; have dU : fG.cell? ⟨b, 11, none⟩ = some (.slice jB B.length gB) := bc a 11; have eU : fG.cell? ⟨b, 12, none⟩ = some (.slice mB L.length hB) := bc a 12; have fU : fG.cell? ⟨b, 13, none⟩ = some (.bool dB) := bc a 13; have nY := AB a.out 0; have oY := AB a.out 1; have pY := AB a.out 2; have qY := AB a.out 3; have rY := AB a.out 4; have sY := AB a.out 5; have tY := AB a.out 6; have uY := AB a.out 7; have vY := AB a.out 8; have wY := AB a.out 9; have mV := AB a.out 10; have nV := AB a.out 11; have oV := AB a.out 12; have pV := AB a.out 13; have b3 := cells5 x.out) | ((with_reducible refine AR (f := 36) rfl ?_); refine Gd Try.func36 #[.agg #[.int .i64 qB, .int .i64 sB, .string tB, .slice eC kB.length iC, .slice fC lB.length jC], .agg #[.int .i64 qF, .int .i64 rF, .slice qH aC.length rH, .slice jL mD.length kL, .slice yI tC.length gJ]] ?_; (with_reducible refine (Cn.calls (fun D => some D = (.slice qH aC.length rH : Value).ownBlock) (fun D => (some D ≠ (.slice qH aC.length rH : Value).ownBlock ∧ (some D ≠ (.slice yI tC.length gJ : Value).ownBlock ∧ (D ≠ b ∧ D ≠ G)))) (fun D => (some D ≠ (.slice qH aC.length rH : Value).ownBlock ∧ (D ≠ b ∧ D ≠ G))) ?side8 ?side1 ?side2 ?side3 ?side4 ?side5 ?side6 ?side7 A6.out).mono ?_); (case side1 => exact cu mG U); (case side2 => exact kG.out); (case side3 => exact cu nG U); (case side4 => exact lG.out); (case side5 => exact Kd.R_V (Kd.JI rfl (Kd.Ao (Kd.Ao (Kd.Ca (lC.out) (Kd.DD bC.out) (by decide)) a.out (by decide)) x.out (by decide)))); (case side6 => exact sC.out); (case side7 => exact Kd.N_V (bC.out)); (case side8 => exact AZ HG.out (be2 U I oB)); rintro e g4 ⟨v709, rfl, oF, hb⟩; refine ⟨_, rfl, ?_⟩; replace sC := mk0 (Kd.Az (Bj sC.out) (by first | exact Kd.BG oF | exact Kd.Bp oF) hb); have nP := mk0 (Kd.DF (Kd.Av (ok' := fun D => D ≠ b ∧ D ≠ G) oF (fun D vD => ⟨Or.elim vD (fun uC => Or.elim uC (fun uC => ((Kd.Ao (Kd.Ao (Kd.Ca (lC.out) (Kd.DD bC.out) (by decide)) a.out (by decide)) x.out (by decide)).1 D uC.symm).1.2) (fun uC => Or.elim uC (fun uC => uC.2.2.1) (fun uC => uC.2.1))) (fun sG => (Kd.Al (g := b) (o := .cells #[.int .i64 qB, .int .i64 sB, .string tB, .slice eC kB.length iC, .slice fC lB.length jC, .int .i64 cC, .int .i64 dC, .slice mC uB.length pC, .slice nC wB.length qC, .slice oC xB.length rC, .int .i64 eB, .slice jB B.length gB, .slice mB L.length hB, .bool dB] 40 (0, 0)) (AY a.out) D sG)), Or.elim vD (fun uC => Or.elim uC (fun uC => ((Kd.Ao (Kd.Ao (Kd.Ca (lC.out) (Kd.DD bC.out) (by decide)) a.out (by decide)) x.out (by decide)).1 D uC.symm).2) (fun uC => Or.elim uC (fun uC => uC.2.2.2) (fun uC => uC.2.2))) (fun sG => (Kd.Al (g := G) (o := .cells #[.int .i64 qF, .int .i64 rF, .slice qH aC.length rH, .slice jL mD.length kL, .slice yI tC.length gJ] 33 (0, 0)) (AY x.out) D sG))⟩)) (AQ (be2 U I oB))); replace lC := rb lC hb; replace bC := mk0 (Kd.Fz (D9 bC.out) (by first | exact Kd.BG oF | exact Kd.Bp oF) hb); obtain ⟨a, x⟩ := tb2 hb a x; replace U := kh2 U I oB hb; (try clear oF)))
  go_ret
  exact ⟨rfl, be2 U I oB⟩
 have H' := mk0 H
 clear H
 go_enter Try.func10, Try.ntmps10
 go_wp2_with (first | ((with_reducible refine AP rfl (N := 1) rfl (cs := #[.int .i64 qB, .int .i64 sB, .string tB, .slice eC kB.length iC, .slice fC lB.length jC, .int .i64 cC, .int .i64 dC, .slice mC uB.length pC, .slice nC wB.length qC, .slice oC xB.length rC, .int .i64 eB, .slice jB B.length gB, .slice mB L.length hB, .bool dB]) (t := 40) ?hr ?_); (case hr => first | (go_simp; done) | (go_simp; rfl)); intro b hg w8 zC hb; have a := mk0 (zC); have gG := bs (be U) hg; have I := bs (be U) hg; replace U := kh U hb; clear hb zC hg; have jO : w8.cell? ⟨b, 0, none⟩ = some (.int .i64 qB) := bc a 0; have kO : w8.cell? ⟨b, 1, none⟩ = some (.int .i64 sB) := bc a 1; have lO : w8.cell? ⟨b, 2, none⟩ = some (.string tB) := bc a 2; have mO : w8.cell? ⟨b, 3, none⟩ = some (.slice eC kB.length iC) := bc a 3; have nO : w8.cell? ⟨b, 4, none⟩ = some (.slice fC lB.length jC) := bc a 4; have oO : w8.cell? ⟨b, 5, none⟩ = some (.int .i64 cC) := bc a 5; have pO : w8.cell? ⟨b, 6, none⟩ = some (.int .i64 dC) := bc a 6; have qO : w8.cell? ⟨b, 7, none⟩ = some (.slice mC uB.length pC) := bc a 7; have rO : w8.cell? ⟨b, 8, none⟩ = some (.slice nC wB.length qC) := bc a 8; have sO : w8.cell? ⟨b, 9, none⟩ = some (.slice oC xB.length rC) := bc a 9; have pM : w8.cell? ⟨b, 10, none⟩ = some (.int .i64 eB) := bc a 10; have qM : w8.cell? ⟨b, 11, none⟩ = some (.slice jB B.length gB) := bc a 11; have rM : w8.cell? ⟨b, 12, none⟩ = some (.slice mB L.length hB) := bc a 12; have sM : w8.cell? ⟨b, 13, none⟩ = some (.bool dB) := bc a 13; have tO := AB a.out 0; have uO := AB a.out 1; have vO := AB a.out 2; have wO := AB a.out 3; have xO := AB a.out 4; have yO := AB a.out 5; have zO := AB a.out 6; have aP := AB a.out 7; have bP := AB a.out 8; have cP := AB a.out 9; have yN := AB a.out 10; have zN := AB a.out 11; have aO := AB a.out 12; have bO := AB a.out 13) | ((with_reducible refine AR (f := 21) rfl ?_); refine CO Try.func21 (DJ.calls (cu mG U) kG.out (cu nG U) lG.out (cu vH U) sH.out (cu wH U) tH.out (cu xH U) uH.out (cu lE U) iG.out (cu tD U) jG.out A2.out) ?_; intro mI hb; replace a := kb a hb; replace U := kh1 U I hb; have lL : mI.cell? ⟨b, 0, none⟩ = some (.int .i64 qB) := bc a 0; have mL : mI.cell? ⟨b, 1, none⟩ = some (.int .i64 sB) := bc a 1; have nL : mI.cell? ⟨b, 2, none⟩ = some (.string tB) := bc a 2; have oL : mI.cell? ⟨b, 3, none⟩ = some (.slice eC kB.length iC) := bc a 3; have pL : mI.cell? ⟨b, 4, none⟩ = some (.slice fC lB.length jC) := bc a 4; have qL : mI.cell? ⟨b, 5, none⟩ = some (.int .i64 cC) := bc a 5; have rL : mI.cell? ⟨b, 6, none⟩ = some (.int .i64 dC) := bc a 6; have sL : mI.cell? ⟨b, 7, none⟩ = some (.slice mC uB.length pC) := bc a 7; have tL : mI.cell? ⟨b, 8, none⟩ = some (.slice nC wB.length qC) := bc a 8; have uL : mI.cell? ⟨b, 9, none⟩ = some (.slice oC xB.length rC) := bc a 9; have cK : mI.cell? ⟨b, 10, none⟩ = some (.int .i64 eB) := bc a 10; have dK : mI.cell? ⟨b, 11, none⟩ = some (.slice jB B.length gB) := bc a 11; have eK : mI.cell? ⟨b, 12, none⟩ = some (.slice mB L.length hB) := bc a 12; have fK : mI.cell? ⟨b, 13, none⟩ = some (.bool dB) := bc a 13; have tM := AB a.out 0; have uM := AB a.out 1; have vM := AB a.out 2; have wM := AB a.out 3; have xM := AB a.out 4; have yM := AB a.out 5; have zM := AB a.out 6; have aN := AB a.out 7; have bN := AB a.out 8; have cN := AB a.out 9; have pK := AB a.out 10; have qK := AB a.out 11; have rK := AB a.out 12; have sK := AB a.out 13) | ((with_reducible refine AR (f := 22) rfl ?_); refine Gd Try.func22 #[.agg #[.int .i64 qB, .int .i64 sB, .string tB, .slice eC kB.length iC, .slice fC lB.length jC, .int .i64 cC, .int .i64 dC, .slice mC uB.length pC, .slice nC wB.length qC, .slice oC xB.length rC, .int .i64 eB, .slice jB B.length gB, .slice mB L.length hB, .bool dB], .bool dB] ?_; (with_reducible refine (Bh.calls (fun D => D < w.heap.size) ?side14 ?side1 ?side2 ?side3 ?side4 ?side5 ?side6 ?side7 ?side8 ?side9 ?side10 ?side11 ?side12 ?side13 A4.out).mono ?_); (case side1 => exact cu mG U); (case side2 => exact kG.out); (case side3 => exact cu nG U); (case side4 => exact lG.out); (case side5 => exact cu vH U); (case side6 => exact sH.out); (case side7 => exact cu wH U); (case side8 => exact tH.out); (case side9 => exact cu xH U); (case side10 => exact uH.out); (case side11 => exact Kd.C8 iG.out (Kd.Cc (Kd.C_F EU lE.out) (be1 U I))); (case side12 => exact cu tD U); (case side13 => exact jG.out); (case side14 => exact AZ HG.out (be1 U I)); rintro e g3 ⟨v697, v700, v703, rfl, oF, cO, dO, hb⟩; refine ⟨_, rfl, ?_⟩; have lC := mk0 (Kd.CS (Kd.BC (ok' := fun D => True) oF (fun _ vD => trivial)) (AQ (be1 U I))); have sC := mk0 (Kd.Dm (Kd.AL (ok' := fun D => some D ≠ (v697 : Value).ownBlock ∧ some D ≠ (v703 : Value).ownBlock ∧ D ≠ b) cO (fun D vD => ⟨vD.2.1, vD.2.2, Or.elim vD.1 (fun uC => fun e_ => Nat.not_le.2 uC (by rw [e_]; exact gG.out)) (fun sG => (Kd.Al (g := b) (o := .cells #[.int .i64 qB, .int .i64 sB, .string tB, .slice eC kB.length iC, .slice fC lB.length jC, .int .i64 cC, .int .i64 dC, .slice mC uB.length pC, .slice nC wB.length qC, .slice oC xB.length rC, .int .i64 eB, .slice jB B.length gB, .slice mB L.length hB, .bool dB] 40 (0, 0)) (AY a.out) D sG))⟩)) (AQ (be1 U I))); have bC := mk0 (Kd.DF (Kd.Av (ok' := fun D => some D ≠ (v697 : Value).ownBlock ∧ D ≠ b) dO (fun D vD => ⟨vD.2, Or.elim vD.1 (fun uC => fun e_ => Nat.not_le.2 uC (by rw [e_]; exact gG.out)) (fun sG => (Kd.Al (g := b) (o := .cells #[.int .i64 qB, .int .i64 sB, .string tB, .slice eC kB.length iC, .slice fC lB.length jC, .int .i64 cC, .int .i64 dC, .slice mC uB.length pC, .slice nC wB.length qC, .slice oC xB.length rC, .int .i64 eB, .slice jB B.length gB, .slice mB L.length hB, .bool dB] 40 (0, 0)) (AY a.out) D sG))⟩)) (AQ (be1 U I))); replace a := kb a hb; replace U := kh1 U I hb; (try clear oF); (try clear cO); (try clear dO)) | ((with_reducible refine AP rfl (N := 3) rfl (cs := #[.int .i64 0, .int .i64 0, .slice none 0 0, .slice none 0 0, .slice none 0 0]) (t := 33) ?hr ?_); (case hr => first | (go_simp; done) | (go_simp; rfl)); intro G hg m0 zC hb; obtain ⟨sC, bC⟩ := tg2 hg hb sC bC; replace lC := rb lC hb; have x := mk0 (zC); have oB := bs (be1 U I) hg; replace U := kh1 U I hb; have ⟨pD, nE⟩ := nn a hg; replace a := kb a hb; clear hb zC hg; have ⟨fA, rA⟩ := no nE pD; have m2 := cells5 x.out; obtain ⟨kD, lD, yV⟩ := Kd.Bn lC.out; subst yV; obtain ⟨uF, aG, zV⟩ := Kd.Bu sC.out; subst zV; obtain ⟨sD, uD, aW⟩ := Kd.Ce bC.out; subst aW) | ((with_reducible refine Fg (t := 33) (p := 3) rfl ?_); refine Ep (t := 33) (p := 3) (v := ?vo_w19) (w1 := (((((m0.setCell ⟨G, 0, none⟩ (.int .i64 qF)).setCell ⟨G, 1, none⟩ (.int .i64 rF)).setCell ⟨G, 2, none⟩ (.slice kD aC.length lD)).setCell ⟨G, 3, none⟩ (.slice uF mD.length aG)).setCell ⟨G, 4, none⟩ (.slice sD tC.length uD))) ?hg ?ho ?hn ?hr ?_; (case ho => rfl); (case hg => rfl); (case hn => rfl); (case hr => first | (go_simp; done) | (go_simp; rfl)); intro eG hw; have bD : Aside0 (Kd.R (Kd.int .u8) 73 eG w.heap.size (fun _ => True) (.slice kD aC.length lD) aC) := ⟨(by rw [hw]; exact (DZ (Kd.BC (rI (q := G) (Kd.Ao lC.out x.out (by decide)) (fun _ u => u.2)) (fun _ u => trivial))))⟩; have cD : Aside0 (Kd.V k30 30 eG w.heap.size (fun D => some D ≠ (.slice kD aC.length lD : Value).ownBlock ∧ some D ≠ (.slice sD tC.length uD : Value).ownBlock ∧ D ≠ b ∧ D ≠ G) (.slice uF mD.length aG) mD) := ⟨(by rw [hw]; exact (BO (Kd.AL (vI (q := G) (Kd.AL sC.out (fun D u => (⟨u, u.2⟩ : _ ∧ D ≠ G))) (fun _ u => u.2)) (fun _ u => ⟨u.1.1.1, ⟨u.1.1.2.1, ⟨u.1.1.2.2, u.1.2⟩⟩⟩))))⟩; have dD : Aside0 (Kd.N k63 63 eG w.heap.size (fun D => some D ≠ (.slice kD aC.length lD : Value).ownBlock ∧ D ≠ b ∧ D ≠ G) (.slice sD tC.length uD) tC) := ⟨(by rw [hw]; exact (DL (Kd.Av (nI (q := G) (Kd.Av bC.out (fun D u => (⟨u, u.2⟩ : _ ∧ D ≠ G))) (fun _ u => u.2)) (fun _ u => ⟨u.1.1.1, ⟨u.1.1.2, u.1.2⟩⟩))))⟩; have eD : Aside0 (eG.heap[b]? = some (.cells #[.int .i64 qB, .int .i64 sB, .string tB, .slice eC kB.length iC, .slice fC lB.length jC, .int .i64 cC, .int .i64 dC, .slice mC uB.length pC, .slice nC wB.length qC, .slice oC xB.length rC, .int .i64 eB, .slice jB B.length gB, .slice mB L.length hB, .bool dB] 40 (0, 0))) := ⟨(by rw [hw]; exact (bF pD a))⟩; have fD : Aside0 (eG.heap[G]? = some (.cells #[.int .i64 qF, .int .i64 rF, .slice kD aC.length lD, .slice uF mD.length aG, .slice sD tC.length uD] 33 (0, 0))) := ⟨(by rw [hw]; exact (pB x))⟩; have gD : Aside0 (Below w.heap.size w eG) := ⟨(by rw [hw]; exact (be2 U I oB))⟩; clear hw; clear lC; clear sC; clear bC; clear a; clear x; clear U; have lC := bD; have sC := cD; have bC := dD; have a := eD; have x := fD; have U := gD; clear bD cD dD eD fD gD; have vL : eG.cell? ⟨b, 0, none⟩ = some (.int .i64 qB) := bc a 0; have wL : eG.cell? ⟨b, 1, none⟩ = some (.int .i64 sB) := bc a 1; have xL : eG.cell? ⟨b, 2, none⟩ = some (.string tB) := bc a 2; have yL : eG.cell? ⟨b, 3, none⟩ = some (.slice eC kB.length iC) := bc a 3; have zL : eG.cell? ⟨b, 4, none⟩ = some (.slice fC lB.length jC) := bc a 4; have aM : eG.cell? ⟨b, 5, none⟩ = some (.int .i64 cC) := bc a 5; have bM : eG.cell? ⟨b, 6, none⟩ = some (.int .i64 dC) := bc a 6; have cM : eG.cell? ⟨b, 7, none⟩ = some (.slice mC uB.length pC) := bc a 7; have dM : eG.cell? ⟨b, 8, none⟩ = some (.slice nC wB.length qC) := bc a 8; have eM : eG.cell? ⟨b, 9, none⟩ = some (.slice oC xB.length rC) := bc a 9; have gK : eG.cell? ⟨b, 10, none⟩ = some (.int .i64 eB) := bc a 10; have iK : eG.cell? ⟨b, 11, none⟩ = some (.slice jB B.length gB) := bc a 11; have jK : eG.cell? ⟨b, 12, none⟩ = some (.slice mB L.length hB) := bc a 12; have kK : eG.cell? ⟨b, 13, none⟩ = some (.bool dB) := bc a 13; have dN := AB a.out 0; have eN := AB a.out 1; have fN := AB a.out 2; have gN := AB a.out 3; have hN := AB a.out 4; have jN := AB a.out 5; have kN := AB a.out 6; have lN := AB a.out 7; have mN := AB a.out 8; have nN := AB a.out 9; have tK := AB a.out 10; have uK := AB a.out 11; have vK := AB a.out 12; have wK := AB a.out 13; have n2 := cells5 x.out) | ((with_reducible refine AR (f := 36) rfl ?_); refine Gd Try.func36 #[.agg #[.int .i64 qB, .int .i64 sB, .string tB, .slice eC kB.length iC, .slice fC lB.length jC], .agg #[.int .i64 qF, .int .i64 rF, .slice kD aC.length lD, .slice uF mD.length aG, .slice sD tC.length uD]] ?_; (with_reducible refine (Cn.calls (fun D => some D = (.slice kD aC.length lD : Value).ownBlock) (fun D => (some D ≠ (.slice kD aC.length lD : Value).ownBlock ∧ (some D ≠ (.slice sD tC.length uD : Value).ownBlock ∧ (D ≠ b ∧ D ≠ G)))) (fun D => (some D ≠ (.slice kD aC.length lD : Value).ownBlock ∧ (D ≠ b ∧ D ≠ G))) ?side8 ?side1 ?side2 ?side3 ?side4 ?side5 ?side6 ?side7 A6.out).mono ?_); (case side1 => exact cu mG U); (case side2 => exact kG.out); (case side3 => exact cu nG U); (case side4 => exact lG.out); (case side5 => exact Kd.R_V (Kd.JI rfl (Kd.Ao (Kd.Ao (Kd.Ca (lC.out) (Kd.DD bC.out) (by decide)) a.out (by decide)) x.out (by decide)))); (case side6 => exact sC.out); (case side7 => exact Kd.N_V (bC.out)); (case side8 => exact AZ HG.out (be2 U I oB)); rintro e oI ⟨v709, rfl, oF, hb⟩; refine ⟨_, rfl, ?_⟩; replace sC := mk0 (Kd.Az (Bj sC.out) (by first | exact Kd.BG oF | exact Kd.Bp oF) hb); have nP := mk0 (Kd.DF (Kd.Av (ok' := fun D => D ≠ b ∧ D ≠ G) oF (fun D vD => ⟨Or.elim vD (fun uC => Or.elim uC (fun uC => ((Kd.Ao (Kd.Ao (Kd.Ca (lC.out) (Kd.DD bC.out) (by decide)) a.out (by decide)) x.out (by decide)).1 D uC.symm).1.2) (fun uC => Or.elim uC (fun uC => uC.2.2.1) (fun uC => uC.2.1))) (fun sG => (Kd.Al (g := b) (o := .cells #[.int .i64 qB, .int .i64 sB, .string tB, .slice eC kB.length iC, .slice fC lB.length jC, .int .i64 cC, .int .i64 dC, .slice mC uB.length pC, .slice nC wB.length qC, .slice oC xB.length rC, .int .i64 eB, .slice jB B.length gB, .slice mB L.length hB, .bool dB] 40 (0, 0)) (AY a.out) D sG)), Or.elim vD (fun uC => Or.elim uC (fun uC => ((Kd.Ao (Kd.Ao (Kd.Ca (lC.out) (Kd.DD bC.out) (by decide)) a.out (by decide)) x.out (by decide)).1 D uC.symm).2) (fun uC => Or.elim uC (fun uC => uC.2.2.2) (fun uC => uC.2.2))) (fun sG => (Kd.Al (g := G) (o := .cells #[.int .i64 qF, .int .i64 rF, .slice kD aC.length lD, .slice uF mD.length aG, .slice sD tC.length uD] 33 (0, 0)) (AY x.out) D sG))⟩)) (AQ (be2 U I oB))); replace lC := rb lC hb; replace bC := mk0 (Kd.Fz (D9 bC.out) (by first | exact Kd.BG oF | exact Kd.Bp oF) hb); obtain ⟨a, x⟩ := tb2 hb a x; replace U := kh2 U I oB hb; (try clear oF); have fM : oI.cell? ⟨b, 0, none⟩ = some (.int .i64 qB) := bc a 0; have gM : oI.cell? ⟨b, 1, none⟩ = some (.int .i64 sB) := bc a 1; have hM : oI.cell? ⟨b, 2, none⟩ = some (.string tB) := bc a 2; have iM : oI.cell? ⟨b, 3, none⟩ = some (.slice eC kB.length iC) := bc a 3; have jM : oI.cell? ⟨b, 4, none⟩ = some (.slice fC lB.length jC) := bc a 4; have kM : oI.cell? ⟨b, 5, none⟩ = some (.int .i64 cC) := bc a 5; have lM : oI.cell? ⟨b, 6, none⟩ = some (.int .i64 dC) := bc a 6; have mM : oI.cell? ⟨b, 7, none⟩ = some (.slice mC uB.length pC) := bc a 7; have nM : oI.cell? ⟨b, 8, none⟩ = some (.slice nC wB.length qC) := bc a 8; have oM : oI.cell? ⟨b, 9, none⟩ = some (.slice oC xB.length rC) := bc a 9; have lK : oI.cell? ⟨b, 10, none⟩ = some (.int .i64 eB) := bc a 10; have mK : oI.cell? ⟨b, 11, none⟩ = some (.slice jB B.length gB) := bc a 11; have nK : oI.cell? ⟨b, 12, none⟩ = some (.slice mB L.length hB) := bc a 12; have oK : oI.cell? ⟨b, 13, none⟩ = some (.bool dB) := bc a 13; have oN := AB a.out 0; have pN := AB a.out 1; have qN := AB a.out 2; have rN := AB a.out 3; have sN := AB a.out 4; have tN := AB a.out 5; have uN := AB a.out 6; have vN := AB a.out 7; have wN := AB a.out 8; have xN := AB a.out 9; have xK := AB a.out 10; have yK := AB a.out 11; have zK := AB a.out 12; have aL := AB a.out 13))
 go_loopg [37] k (fun kq v37 w' => ∃ (O : Int), v37 = .int .i64 O ∧ Aside0 (AV.l0 kq j (B.length : Int) O qB sB tB kB lB cC dC uB wB xB eB B L dB = some r) ∧ Aside0 (kq ≤ k) ∧ Aside0 (Kd.N k63 63 w' w.heap.size (fun D => D ≠ b ∧ D ≠ G) v709 j) ∧ Aside0 (Kd.R (Kd.int .u8) 73 w' w.heap.size (fun _ => True) (.slice kD aC.length lD) aC) ∧ Aside0 (Kd.V k30 30 w' w.heap.size (fun D => some D ≠ (v709 : Value).ownBlock ∧ some D ≠ ((.slice kD aC.length lD) : Value).ownBlock ∧ some D ≠ ((.slice sD tC.length uD) : Value).ownBlock ∧ D ≠ b ∧ D ≠ G) (.slice uF mD.length aG) mD) ∧ Aside0 (Kd.N k63 63 w' w.heap.size (fun D => some D ≠ (v709 : Value).ownBlock ∧ some D ≠ ((.slice kD aC.length lD) : Value).ownBlock ∧ D ≠ b ∧ D ≠ G) (.slice sD tC.length uD) tC) ∧ Aside0 (w'.heap[b]? = some (.cells #[.int .i64 qB, .int .i64 sB, .string tB, (.slice eC kB.length iC), (.slice fC lB.length jC), .int .i64 cC, .int .i64 dC, (.slice mC uB.length pC), (.slice nC wB.length qC), (.slice oC xB.length rC), .int .i64 eB, (.slice jB B.length gB), (.slice mB L.length hB), .bool dB] 40 (0, 0))) ∧ Aside0 (w'.heap[G]? = some (.cells #[.int .i64 qF, .int .i64 rF, (.slice kD aC.length lD), (.slice uF mD.length aG), (.slice sD tC.length uD)] 33 (0, 0))) ∧ Aside0 (Below w.heap.size w w'))
 case atStart => exact ⟨(0), rfl, H', ⟨Nat.le_refl _⟩, ⟨D9 nP.out⟩, ⟨DC lC.out⟩, ⟨BO (Kd.AL sC.out (fun _ u => ⟨u.2, ⟨u.1.1, ⟨u.1.2.1, ⟨u.1.2.2.1, u.1.2.2.2⟩⟩⟩⟩))⟩, ⟨DL (Kd.Av bC.out (fun _ u => ⟨u.2, ⟨u.1.1, ⟨u.1.2.1, u.1.2.2⟩⟩⟩))⟩, ⟨bu a⟩, ⟨bu x⟩, ⟨be2 U I oB⟩⟩
 case round =>
  clear H'
  try clear c5; try clear qP; try clear rP; try clear lL; try clear mL; try clear cK; try clear dK; try clear eK; try clear fK; try clear nL; try clear oL; try clear pL; try clear qL; try clear rL; try clear sL; try clear tL; try clear uL; try clear tM; try clear uM; try clear pK; try clear qK; try clear rK; try clear sK; try clear vM; try clear wM; try clear xM; try clear yM; try clear zM; try clear aN; try clear bN; try clear cN; try clear vL; try clear wL; try clear gK; try clear iK; try clear jK; try clear kK; try clear xL; try clear yL; try clear zL; try clear aM; try clear bM; try clear cM; try clear dM; try clear eM; try clear dN; try clear eN; try clear tK; try clear uK; try clear vK; try clear wK; try clear fN; try clear gN; try clear hN; try clear jN; try clear kN; try clear lN; try clear mN; try clear nN; try clear fM; try clear gM; try clear lK; try clear mK; try clear nK; try clear oK; try clear hM; try clear iM; try clear jM; try clear kM; try clear lM; try clear mM; try clear nM; try clear oM; try clear oN; try clear pN; try clear xK; try clear yK; try clear zK; try clear aL; try clear qN; try clear rN; try clear sN; try clear tN; try clear uN; try clear vN; try clear wN; try clear xN; try clear jO; try clear kO; try clear pM; try clear qM; try clear rM; try clear sM; try clear lO; try clear mO; try clear nO; try clear oO; try clear pO; try clear qO; try clear rO; try clear sO; try clear tO; try clear uO; try clear yN; try clear zN; try clear aO; try clear bO; try clear vO; try clear wO; try clear xO; try clear yO; try clear zO; try clear aP; try clear bP; try clear cP
  obtain ⟨O, rfl, HA, gP, Y, l, m, s, a, x, U⟩ := hrel
  cases gk with
  | zero => exact absurd HA.out (by simp [AV.l0])
  | succ k1 =>
   have H := HA.out; clear HA
   simp only [AV.l0] at H
   replace H := iD' H; obtain ⟨-, pP, H⟩ | ⟨-, pP, H⟩ := H
   ·by_cases c66 : (j.length : Int) > 0
    rotate_left
    ·rw [if_neg c66] at H
     have xR : decide (0 < (j.length : Int)) = false := decide_eq_false c66
     have yR : decide (0 < j.length) = false := decide_eq_false (by omega)
     clear c66; obtain rfl := sI H
     try go_wp2
     have bD := mk0 (Kd.DR Y.out)
     have cD := mk0 (Kd.ED l.out)
     have dD := mk0 (Kd.BU m.out)
     have eD := mk0 (Kd.DR s.out)
     have fD := mk0 (AX a.out)
     have gD := mk0 (AX x.out)
     have oD := mk0 (Ad U.out)
     clear Y; clear l; clear m; clear s; clear a; clear x; clear U; have Y := bD; have l := cD; have m := dD; have s := eD; have a := fD; have x := gD; have U := oD; clear bD cD dD eD fD gD oD
     obtain ⟨b1, m1, kR⟩ := Kd.Ce Y.out
     (first | subst kR | (injection kR with f1_ f2_ f3_; have uI := f1_.symm; have wI := f3_.symm; clear f1_ f2_ f3_; subst uI; subst wI))
     refine Cz (n := 28) (S := fun w' => True) (ds := []) (tf 0 28) (by kernel_rfl) rfl rfl trivial (fun X => ?_); refine Bz AV.NT AV.Kk (fun J rD => ?_)
     generalize wr.drew = d4 at Y l m s a x U X ⊢
     refine pv 0 70 (tf 1 27) J ?_
     refine pv 1 71 (tf 2 26) J ?_
     refine pv 2 72 (tf 3 25) J ?_
     refine pv 3 73 (tf 4 24) J ?_
     refine pw 4 74 (tf 5 23) J ?_
     refine pw 5 75 (tf 6 22) J ?_
     refine pw 6 76 (tf 7 21) J ?_
     refine pw 7 77 (tf 8 20) J ?_
     refine pw 8 78 (tf 9 19) J ?_
     refine pw 9 79 (tf 10 18) J ?_
     refine pw 10 80 (tf 11 17) J ?_
     refine pw 11 81 (tf 12 16) J ?_
     refine pw 12 82 (tf 13 15) J ?_
     refine pw 13 83 (tf 14 14) J ?_
     refine pw 14 84 (tf 15 13) J ?_
     refine pw 15 85 (tf 16 12) J ?_
     refine pw 16 86 (tf 17 11) J ?_
     refine pw 17 87 (tf 18 10) J ?_
     refine pw 18 88 (tf 19 9) J ?_
     refine pw 19 89 (tf 20 8) J ?_
     refine pw 20 90 (tf 21 7) J ?_
     refine pw 21 91 (tf 22 6) J ?_
     refine pw 22 92 (tf 23 5) J ?_
     refine pv 23 93 (tf 24 4) J ?_
     refine pv 24 94 (tf 25 3) J ?_
     refine pw 25 95 (tf 26 2) J ?_
     refine pv 26 96 (tf 27 1) J ?_
     refine pv 27 2 (tf 28 0) J ?_
     refine Dv (Cu J.out (by kernel_rfl)) ?_
     try go_wp2
     go_ret
     exact ⟨rfl, be2 U I oB⟩
    rw [if_pos c66] at H; have xR : decide (0 < (j.length : Int)) = true := decide_eq_true c66
    have yR : decide (0 < j.length) = true := decide_eq_true (by omega)
    clear c66
    obtain ⟨yB, hJ⟩ : ∃ j_ : Int, (wrap64 ((j.length : Int) - 1)) = j_ := ⟨_, rfl⟩
    replace H : (if 0 ≤ (yB) then (if (yB) < (j.length : Int) then (if 0 ≤ (wrap64 ((L.length : Int) - 1)) then (if (wrap64 ((L.length : Int) - 1)) < (L.length : Int) then (if ((AA j (yB)).f0) = (wrap64 (eB + (rd L (wrap64 ((L.length : Int) - 1))))) then ((Dk.f k1).bind fun eO => (some eO)) else (some false)) else (none)) else (none)) else (none)) else (none)) = some r := by first | (rw [hJ] at H; exact H) | (simp only [hJ] at H ⊢; exact H)
    have oZ : (IntKind.i64.wrap ((j.length : Int) - 1)) = yB := (CP _).trans hJ
    replace H := iN H; obtain ⟨-, bA, H⟩ := H
    replace H := iN H; obtain ⟨-, cA, H⟩ := H
    obtain ⟨pF, iJ⟩ : ∃ j_ : Int, (wrap64 ((L.length : Int) - 1)) = j_ := ⟨_, rfl⟩
    replace H : (if 0 ≤ (pF) then (if (pF) < (L.length : Int) then (if ((AA j (yB)).f0) = (wrap64 (eB + (rd L (pF)))) then ((Dk.f k1).bind fun eO => (some eO)) else (some false)) else (none)) else (none)) = some r := by first | (rw [iJ] at H; exact H) | (simp only [iJ] at H ⊢; exact H)
    have pZ : (IntKind.i64.wrap ((L.length : Int) - 1)) = pF := (CP _).trans iJ
    replace H := iN H; obtain ⟨-, dA, H⟩ := H
    replace H := iN H; obtain ⟨-, eA, H⟩ := H
    replace H := iE' H; obtain ⟨d3, zR, aS, H⟩ | ⟨zR, aS, H⟩ := H
    ·obtain rfl := sI H
     try go_wp2
     have bD := mk0 (Kd.DR Y.out)
     have cD := mk0 (Kd.ED l.out)
     have dD := mk0 (Kd.BU m.out)
     have eD := mk0 (Kd.DR s.out)
     have fD := mk0 (AX a.out)
     have gD := mk0 (AX x.out)
     have oD := mk0 (Ad U.out)
     clear Y; clear l; clear m; clear s; clear a; clear x; clear U; have Y := bD; have l := cD; have m := dD; have s := eD; have a := fD; have x := gD; have U := oD; clear bD cD dD eD fD gD oD
     obtain ⟨a1, i1, jR⟩ := Kd.Ce Y.out
     (first | subst jR | (injection jR with f1_ f2_ f3_; have uI := f1_.symm; have wI := f3_.symm; clear f1_ f2_ f3_; subst uI; subst wI))
     have iI : 0 ≤ ((yB) : Int) := od
     have kI : (yB) < (j.length : Int) := od
     obtain ⟨nD, bL, dL, cL, eL, sP, nH, oH, pH, uE, vE, dH, xG, eH, yG⟩ := DV (Kd.DY Y.out).2.2 (yB) iI kI
     cases sP
     obtain ⟨cS, hL, fL, qG⟩ := Kd.K6 Y.out z63 (yB) iI (by first | exact kI | exact of_decide_eq_true (by assumption) | (have e_ := (Kd.DY Y.out).1; omega))
     obtain ⟨nQ, rQ, oQ, sQ, rfl, hF, qE, jF, rE⟩ := DX fL
     have wD := qG 3 _ rfl
     rw [BZ _ _ 3 (by omega)] at wD
     replace wD := Option.some.inj (wD.symm.trans uE)
     injection wD with hva_ hvn_ hvc_
     rw [hva_] at qE
     rw [hvc_] at hF
     have wF := mk0 (show Kd.V (Kd.int .u8) 73 _ w.heap.size _ _ ((AA j (yB)).f1.f2) from Kd.C8 hF qE)
     clear hva_ hvn_ hvc_ qE hF
     have xD := qG 4 _ rfl
     rw [BZ _ _ 4 (by omega)] at xD
     replace xD := Option.some.inj (xD.symm.trans vE)
     injection xD with hva_ hvn_ hvc_
     rw [hva_] at rE
     rw [hvc_] at jF
     have xF := mk0 (show Kd.V k30 30 _ w.heap.size _ _ ((AA j (yB)).f1.f3) from Kd.C8 jF rE)
     clear hva_ hvn_ hvc_ rE jF; clear qG hL; have yF := mk0 xG; have jP := mk0 dH; clear xG dH; have zF := mk0 yG; have kP := mk0 eH; clear yG eH; replace iI := eq_true iI; replace kI := eq_true kI
     have mJ : 0 ≤ ((pF) : Int) := od
     have pJ : (pF) < (L.length : Int) := od
     obtain ⟨eJ, tP, aE⟩ := Kd.Dc tD.out (pF) mJ pJ
     have hI := aE; cases tP
     replace aE := Ae U.out aE
     replace mJ := eq_true mJ; replace pJ := eq_true pJ
     refine Cz (n := 28) (S := fun w' => w'.cell? ⟨b, 0, none⟩ = some (.int .i64 qB) ∧ w'.cell? ⟨b, 1, none⟩ = some (.int .i64 sB) ∧ w'.cell? ⟨b, 2, none⟩ = some (.string tB) ∧ w'.cell? ⟨b, 3, none⟩ = some (.slice eC kB.length iC) ∧ w'.cell? ⟨b, 4, none⟩ = some (.slice fC lB.length jC) ∧ w'.cell? ⟨b, 5, none⟩ = some (.int .i64 cC) ∧ w'.cell? ⟨b, 6, none⟩ = some (.int .i64 dC) ∧ w'.cell? ⟨b, 7, none⟩ = some (.slice mC uB.length pC) ∧ w'.cell? ⟨b, 8, none⟩ = some (.slice nC wB.length qC) ∧ w'.cell? ⟨b, 9, none⟩ = some (.slice oC xB.length rC) ∧ w'.cell? ⟨b, 10, none⟩ = some (.int .i64 eB) ∧ w'.cell? ⟨b, 11, none⟩ = some (.slice jB B.length gB) ∧ w'.cell? ⟨b, 12, none⟩ = some (.slice (some eJ) L.length hB) ∧ w'.cell? ⟨b, 13, none⟩ = some (.bool dB) ∧ w'.cell? (nD.add (((yB)).toNat * 5)) = some (.int .i64 ((AA j (yB)).f0)) ∧ w'.cell? ⟨(nD.add (((yB)).toNat * 5)).block, (nD.add (((yB)).toNat * 5)).off + 1, none⟩ = some (.int .i64 ((AA j (yB)).f1.f0)) ∧ w'.cell? ⟨(nD.add (((yB)).toNat * 5)).block, (nD.add (((yB)).toNat * 5)).off + 2, none⟩ = some (.int .i64 ((AA j (yB)).f1.f1)) ∧ w'.cell? ⟨(nD.add (((yB)).toNat * 5)).block, (nD.add (((yB)).toNat * 5)).off + 3, none⟩ = some (.slice bL ((AA j (yB)).f1.f2).length dL) ∧ w'.cell? ⟨(nD.add (((yB)).toNat * 5)).block, (nD.add (((yB)).toNat * 5)).off + 4, none⟩ = some (.slice cL ((AA j (yB)).f1.f3).length eL) ∧ w'.cell? (eJ.add ((pF)).toNat) = some (.int .i64 (rd L (pF)))) (ds := []) (tf 0 28) (by kernel_rfl) rfl rfl ⟨bc a 0, bc a 1, bc a 2, bc a 3, bc a 4, bc a 5, bc a 6, bc a 7, bc a 8, bc a 9, bc a 10, bc a 11, bc a 12, bc a 13, nH, oH, pH, uE, vE, (Ae U.out hI)⟩ (fun X => ?_); refine Bz AV.NT AV.Kk (fun J rD => ?_)
     generalize wr.drew = b4 at Y l m s a x U wF xF yF zF nH oH pH uE vE aE X ⊢
     refine pv 0 70 (tf 1 27) J ?_
     refine pv 1 71 (tf 2 26) J ?_
     refine pv 2 72 (tf 3 25) J ?_
     refine pv 3 73 (tf 4 24) J ?_
     refine pv 4 74 (tf 5 23) J ?_
     refine pv 5 75 (tf 6 22) J ?_
     refine pv 6 76 (tf 7 21) J ?_
     refine pv 7 77 (tf 8 20) J ?_
     refine pv 8 78 (tf 9 19) J ?_
     refine pv 9 79 (tf 10 18) J ?_
     refine pv 11 81 #[true, true, true, true, true, true, true, true, true, true, false, true, false, false, false, false, false, false, false, false, false, false, false, false, false, false, false, false] J ?_
     refine pv 13 83 #[true, true, true, true, true, true, true, true, true, true, false, true, false, true, false, false, false, false, false, false, false, false, false, false, false, false, false, false] J ?_
     refine pv 15 85 #[true, true, true, true, true, true, true, true, true, true, false, true, false, true, false, true, false, false, false, false, false, false, false, false, false, false, false, false] J ?_
     refine Bl (i := 10) (N := some 80) (v := ?_) (a' := ?_) #[true, true, true, true, true, true, true, true, true, true, true, true, false, true, false, true, false, false, false, false, false, false, false, false, false, false, false, false] rfl rfl (Aj J.out rD.out (by kernel_rfl)) (fun _ _ _ h => h) (Or.inl ⟨by rfl, ?_⟩) X ?_ ?_
     rotate_left
     ·rintro w' ⟨s0, s1, s2, s3, s4, s5, s6, s7, s8, s9, wE, xE, yE, zE, aF, cF, dF, eF, fF, gF⟩
      go_simp
      with_reducible rfl
     rotate_left
     ·simp only [ps]
      rfl
     refine Bl (i := 12) (N := some 82) (v := ?_) (a' := ?_) #[true, true, true, true, true, true, true, true, true, true, true, true, true, true, false, true, false, false, false, false, false, false, false, false, false, false, false, false] rfl rfl (Aj J.out rD.out (by kernel_rfl)) (fun _ _ _ h => h) (Or.inl ⟨by rfl, ?_⟩) X ?_ ?_
     rotate_left
     ·rintro w' ⟨s0, s1, s2, s3, s4, s5, s6, s7, s8, s9, wE, xE, yE, zE, aF, cF, dF, eF, fF, gF⟩
      go_simp
      with_reducible rfl
     rotate_left
     ·simp only [ps]
      rfl
     refine Bl (i := 14) (N := some 84) (v := ?_) (a' := ?_) (tf 16 12) rfl rfl (Aj J.out rD.out (by kernel_rfl)) (fun _ _ _ h => h) (Or.inl ⟨by rfl, ?_⟩) X ?_ ?_
     rotate_left
     ·rintro w' ⟨s0, s1, s2, s3, s4, s5, s6, s7, s8, s9, wE, xE, yE, zE, aF, cF, dF, eF, fF, gF⟩
      go_simp
      with_reducible rfl
     rotate_left
     ·simp only [ps]
      rfl
     refine Bl (i := 16) (N := some 86) (v := ?_) (a' := ?_) (tf 17 11) rfl rfl (Aj J.out rD.out (by kernel_rfl)) (fun _ _ _ h => h) (Or.inl ⟨by rfl, ?_⟩) X ?_ ?_
     rotate_left
     ·rintro w' ⟨s0, s1, s2, s3, s4, s5, s6, s7, s8, s9, wE, xE, yE, zE, aF, cF, dF, eF, fF, gF⟩
      go_simp
      with_reducible rfl
     rotate_left
     ·simp only [ps]
      rfl
     refine pv 17 87 (tf 18 10) J ?_
     refine pv 18 88 (tf 19 9) J ?_
     refine pv 19 89 (tf 20 8) J ?_
     refine Bl (i := 20) (N := some 90) (v := ?_) (a' := ?_) (tf 21 7) rfl rfl (Aj J.out rD.out (by kernel_rfl)) (fun _ _ _ h => h) (Or.inl ⟨by rfl, ?_⟩) X ?_ ?_
     rotate_left
     ·rintro w' ⟨s0, s1, s2, s3, s4, s5, s6, s7, s8, s9, wE, xE, yE, zE, aF, cF, dF, eF, fF, gF⟩
      go_simp
      with_reducible rfl
     rotate_left
     ·simp only [ps]
      rfl
     refine pv 21 91 (tf 22 6) J ?_
     refine pv 22 92 (tf 23 5) J ?_
     refine pv 23 93 (tf 24 4) J ?_
     refine pv 24 94 (tf 25 3) J ?_
     refine pw 25 95 (tf 26 2) J ?_
     refine pv 26 96 (tf 27 1) J ?_
     refine pv 27 2 (tf 28 0) J ?_
     refine Dv (Cu J.out (by kernel_rfl)) ?_
     try go_wp2
     go_ret
     exact ⟨by first | rfl | (simp [CQ, CR] <;> rfl) | (simp only [← hJ, ← iJ]; first | rfl | (simp [CQ, CR] <;> rfl)) | (simp [*, CQ, CR] <;> rfl), be2 U I oB⟩
    replace H := bS H; obtain ⟨eO, tZ, H⟩ := H; obtain rfl := sI H
    try go_wp2
    have bD := mk0 (Kd.DR Y.out)
    have cD := mk0 (Kd.ED l.out)
    have dD := mk0 (Kd.BU m.out)
    have eD := mk0 (Kd.DR s.out)
    have fD := mk0 (AX a.out)
    have gD := mk0 (AX x.out)
    have oD := mk0 (Ad U.out)
    clear Y; clear l; clear m; clear s; clear a; clear x; clear U; have Y := bD; have l := cD; have m := dD; have s := eD; have a := fD; have x := gD; have U := oD; clear bD cD dD eD fD gD oD
    obtain ⟨y0, e1, iR⟩ := Kd.Ce Y.out
    (first | subst iR | (injection iR with f1_ f2_ f3_; have uI := f1_.symm; have wI := f3_.symm; clear f1_ f2_ f3_; subst uI; subst wI))
    have iI : 0 ≤ ((yB) : Int) := od
    have kI : (yB) < (j.length : Int) := od
    obtain ⟨nD, bL, dL, cL, eL, sP, nH, oH, pH, uE, vE, dH, xG, eH, yG⟩ := DV (Kd.DY Y.out).2.2 (yB) iI kI
    cases sP
    obtain ⟨cS, hL, fL, qG⟩ := Kd.K6 Y.out z63 (yB) iI (by first | exact kI | exact of_decide_eq_true (by assumption) | (have e_ := (Kd.DY Y.out).1; omega))
    obtain ⟨nQ, rQ, oQ, sQ, rfl, hF, qE, jF, rE⟩ := DX fL
    have wD := qG 3 _ rfl
    rw [BZ _ _ 3 (by omega)] at wD
    replace wD := Option.some.inj (wD.symm.trans uE)
    injection wD with hva_ hvn_ hvc_
    rw [hva_] at qE
    rw [hvc_] at hF
    have wF := mk0 (show Kd.V (Kd.int .u8) 73 _ w.heap.size _ _ ((AA j (yB)).f1.f2) from Kd.C8 hF qE)
    clear hva_ hvn_ hvc_ qE hF
    have xD := qG 4 _ rfl
    rw [BZ _ _ 4 (by omega)] at xD
    replace xD := Option.some.inj (xD.symm.trans vE)
    injection xD with hva_ hvn_ hvc_
    rw [hva_] at rE
    rw [hvc_] at jF
    have xF := mk0 (show Kd.V k30 30 _ w.heap.size _ _ ((AA j (yB)).f1.f3) from Kd.C8 jF rE)
    clear hva_ hvn_ hvc_ rE jF; clear qG hL; have yF := mk0 xG; have jP := mk0 dH; clear xG dH; have zF := mk0 yG; have kP := mk0 eH; clear yG eH; replace iI := eq_true iI; replace kI := eq_true kI
    have mJ : 0 ≤ ((pF) : Int) := od
    have pJ : (pF) < (L.length : Int) := od
    obtain ⟨eJ, tP, aE⟩ := Kd.Dc tD.out (pF) mJ pJ
    have hI := aE; cases tP
    replace aE := Ae U.out aE
    replace mJ := eq_true mJ; replace pJ := eq_true pJ
    refine Cz (n := 28) (S := fun w' => w'.cell? ⟨b, 0, none⟩ = some (.int .i64 qB) ∧ w'.cell? ⟨b, 1, none⟩ = some (.int .i64 sB) ∧ w'.cell? ⟨b, 2, none⟩ = some (.string tB) ∧ w'.cell? ⟨b, 3, none⟩ = some (.slice eC kB.length iC) ∧ w'.cell? ⟨b, 4, none⟩ = some (.slice fC lB.length jC) ∧ w'.cell? ⟨b, 5, none⟩ = some (.int .i64 cC) ∧ w'.cell? ⟨b, 6, none⟩ = some (.int .i64 dC) ∧ w'.cell? ⟨b, 7, none⟩ = some (.slice mC uB.length pC) ∧ w'.cell? ⟨b, 8, none⟩ = some (.slice nC wB.length qC) ∧ w'.cell? ⟨b, 9, none⟩ = some (.slice oC xB.length rC) ∧ w'.cell? ⟨b, 10, none⟩ = some (.int .i64 eB) ∧ w'.cell? ⟨b, 11, none⟩ = some (.slice jB B.length gB) ∧ w'.cell? ⟨b, 12, none⟩ = some (.slice (some eJ) L.length hB) ∧ w'.cell? ⟨b, 13, none⟩ = some (.bool dB) ∧ w'.cell? (nD.add (((yB)).toNat * 5)) = some (.int .i64 ((AA j (yB)).f0)) ∧ w'.cell? ⟨(nD.add (((yB)).toNat * 5)).block, (nD.add (((yB)).toNat * 5)).off + 1, none⟩ = some (.int .i64 ((AA j (yB)).f1.f0)) ∧ w'.cell? ⟨(nD.add (((yB)).toNat * 5)).block, (nD.add (((yB)).toNat * 5)).off + 2, none⟩ = some (.int .i64 ((AA j (yB)).f1.f1)) ∧ w'.cell? ⟨(nD.add (((yB)).toNat * 5)).block, (nD.add (((yB)).toNat * 5)).off + 3, none⟩ = some (.slice bL ((AA j (yB)).f1.f2).length dL) ∧ w'.cell? ⟨(nD.add (((yB)).toNat * 5)).block, (nD.add (((yB)).toNat * 5)).off + 4, none⟩ = some (.slice cL ((AA j (yB)).f1.f3).length eL) ∧ w'.cell? (eJ.add ((pF)).toNat) = some (.int .i64 (rd L (pF)))) (ds := []) (tf 0 28) (by kernel_rfl) rfl rfl ⟨bc a 0, bc a 1, bc a 2, bc a 3, bc a 4, bc a 5, bc a 6, bc a 7, bc a 8, bc a 9, bc a 10, bc a 11, bc a 12, bc a 13, nH, oH, pH, uE, vE, (Ae U.out hI)⟩ (fun X => ?_); refine Bz AV.NT AV.Kk (fun J rD => ?_)
    generalize wr.drew = r3 at Y l m s a x U wF xF yF zF nH oH pH uE vE aE X ⊢
    refine pv 0 70 (tf 1 27) J ?_
    refine pv 1 71 (tf 2 26) J ?_
    refine pv 2 72 (tf 3 25) J ?_
    refine pv 3 73 (tf 4 24) J ?_
    refine pv 4 74 (tf 5 23) J ?_
    refine pv 5 75 (tf 6 22) J ?_
    refine pv 6 76 (tf 7 21) J ?_
    refine pv 7 77 (tf 8 20) J ?_
    refine pv 8 78 (tf 9 19) J ?_
    refine pv 9 79 (tf 10 18) J ?_
    refine pv 11 81 #[true, true, true, true, true, true, true, true, true, true, false, true, false, false, false, false, false, false, false, false, false, false, false, false, false, false, false, false] J ?_
    refine pv 13 83 #[true, true, true, true, true, true, true, true, true, true, false, true, false, true, false, false, false, false, false, false, false, false, false, false, false, false, false, false] J ?_
    refine pv 15 85 #[true, true, true, true, true, true, true, true, true, true, false, true, false, true, false, true, false, false, false, false, false, false, false, false, false, false, false, false] J ?_
    refine Bl (i := 10) (N := some 80) (v := ?_) (a' := ?_) #[true, true, true, true, true, true, true, true, true, true, true, true, false, true, false, true, false, false, false, false, false, false, false, false, false, false, false, false] rfl rfl (Aj J.out rD.out (by kernel_rfl)) (fun _ _ _ h => h) (Or.inl ⟨by rfl, ?_⟩) X ?_ ?_
    rotate_left
    ·rintro w' ⟨s0, s1, s2, s3, s4, s5, s6, s7, s8, s9, wE, xE, yE, zE, aF, cF, dF, eF, fF, gF⟩
     go_simp
     with_reducible rfl
    rotate_left
    ·simp only [ps]
     rfl
    refine Bl (i := 12) (N := some 82) (v := ?_) (a' := ?_) #[true, true, true, true, true, true, true, true, true, true, true, true, true, true, false, true, false, false, false, false, false, false, false, false, false, false, false, false] rfl rfl (Aj J.out rD.out (by kernel_rfl)) (fun _ _ _ h => h) (Or.inl ⟨by rfl, ?_⟩) X ?_ ?_
    rotate_left
    ·rintro w' ⟨s0, s1, s2, s3, s4, s5, s6, s7, s8, s9, wE, xE, yE, zE, aF, cF, dF, eF, fF, gF⟩
     go_simp
     with_reducible rfl
    rotate_left
    ·simp only [ps]
     rfl
    refine Bl (i := 14) (N := some 84) (v := ?_) (a' := ?_) (tf 16 12) rfl rfl (Aj J.out rD.out (by kernel_rfl)) (fun _ _ _ h => h) (Or.inl ⟨by rfl, ?_⟩) X ?_ ?_
    rotate_left
    ·rintro w' ⟨s0, s1, s2, s3, s4, s5, s6, s7, s8, s9, wE, xE, yE, zE, aF, cF, dF, eF, fF, gF⟩
     go_simp
     with_reducible rfl
    rotate_left
    ·simp only [ps]
     rfl
    refine Bl (i := 16) (N := some 86) (v := ?_) (a' := ?_) (tf 17 11) rfl rfl (Aj J.out rD.out (by kernel_rfl)) (fun _ _ _ h => h) (Or.inl ⟨by rfl, ?_⟩) X ?_ ?_
    rotate_left
    ·rintro w' ⟨s0, s1, s2, s3, s4, s5, s6, s7, s8, s9, wE, xE, yE, zE, aF, cF, dF, eF, fF, gF⟩
     go_simp
     with_reducible rfl
    rotate_left
    ·simp only [ps]
     rfl
    refine pv 17 87 (tf 18 10) J ?_
    refine pv 18 88 (tf 19 9) J ?_
    refine pv 19 89 (tf 20 8) J ?_
    refine Bl (i := 20) (N := some 90) (v := ?_) (a' := ?_) (tf 21 7) rfl rfl (Aj J.out rD.out (by kernel_rfl)) (fun _ _ _ h => h) (Or.inl ⟨by rfl, ?_⟩) X ?_ ?_
    rotate_left
    ·rintro w' ⟨s0, s1, s2, s3, s4, s5, s6, s7, s8, s9, wE, xE, yE, zE, aF, cF, dF, eF, fF, gF⟩
     go_simp
     with_reducible rfl
    rotate_left
    ·simp only [ps]
     rfl
    refine pv 21 91 (tf 22 6) J ?_
    refine pv 22 92 (tf 23 5) J ?_
    refine pv 23 93 (tf 24 4) J ?_
    refine pv 24 94 (tf 25 3) J ?_
    refine DN (i := 25) (N := some 95) (tf 26 2) rfl rfl (Bv J.out (by kernel_rfl)) (by decide) (fun K hK => ?_)
    refine Cx Try.func16 (by kernel_rfl) rfl #[] (by rfl) rfl rfl (by (try simp only [List.map_toArray, List.map_cons, List.map_nil]); first | done | rfl | (simp only [List.length_drop, List.length_take]; rfl)) ?_
    with_reducible refine (Dk.calls k1  eO _ ?side1 tZ.out).mono ?_
    (case side1 => exact AZ HG.out (be2 U I oB))
    rintro e y3 ⟨rfl, hb⟩
    have qR := (hb.cell (World.block_lt_of_cell? _ _ (X.2.2.2.2.2.2.2.2.2.2.2.2.2.2.1))).trans (X.2.2.2.2.2.2.2.2.2.2.2.2.2.2.1)
    have rR := (hb.cell (World.block_lt_of_cell? _ _ (X.2.2.2.2.2.2.2.2.2.2.2.2.2.2.2.1))).trans (X.2.2.2.2.2.2.2.2.2.2.2.2.2.2.2.1)
    have sR := (hb.cell (World.block_lt_of_cell? _ _ (X.2.2.2.2.2.2.2.2.2.2.2.2.2.2.2.2.1))).trans (X.2.2.2.2.2.2.2.2.2.2.2.2.2.2.2.2.1)
    have tR := (hb.cell (World.block_lt_of_cell? _ _ (X.2.2.2.2.2.2.2.2.2.2.2.2.2.2.2.2.2.1))).trans (X.2.2.2.2.2.2.2.2.2.2.2.2.2.2.2.2.2.1)
    have uR := (hb.cell (World.block_lt_of_cell? _ _ (X.2.2.2.2.2.2.2.2.2.2.2.2.2.2.2.2.2.2.1))).trans (X.2.2.2.2.2.2.2.2.2.2.2.2.2.2.2.2.2.2.1)
    refine ⟨_, rfl, ?_⟩
    have bD := nb Y hb
    have cD := rb l hb
    have dD := vb m hb
    have eD := nb s hb
    have fD := vb wF hb
    have gD := vb xF hb
    have oD := kb a hb
    have gE := kb x hb
    have hE := cb yF hb
    have jE := cb zF hb
    have jD := kh2 U I oB hb
    clear Y; clear l; clear m; clear s; clear wF; clear xF; clear a; clear x; clear yF; clear zF; clear U; have Y := bD; have l := cD; have m := dD; have s := eD; have wF := fD; have xF := gD; have a := oD; have x := gE; have yF := hE; have zF := jE; have U := jD; clear bD cD dD eD fD gD oD gE hE jE jD
    try clear hb
    try clear u
    refine hK.out _ _ ⟨bc a 0, bc a 1, bc a 2, bc a 3, bc a 4, bc a 5, bc a 6, bc a 7, bc a 8, bc a 9, bc a 10, bc a 11, bc a 12, bc a 13, qR, rR, sR, tR, uR, (Ae U.out hI)⟩ (fun X => ?_)
    clear hK K
    refine CJ (a' := ?_) ?_ ?_
    rotate_left
    ·show Act.put _ (some 95) _ = _
     simp only [ps]
     rfl
    refine pv 26 96 (tf 27 1) J ?_
    refine pv 27 2 (tf 28 0) J ?_
    refine Dv (Cu J.out (by kernel_rfl)) ?_
    try go_wp2
    go_ret
    exact ⟨by first | rfl | (simp [CQ, CR] <;> rfl) | (simp only [← hJ, ← iJ]; first | rfl | (simp [CQ, CR] <;> rfl)) | (simp [*, CQ, CR] <;> rfl), be2 U I oB⟩
   have H' := mk0 H
   clear H
   go_wp2_with ((with_reducible refine AP rfl (N := 8) rfl (cs := #[.int .i64 0, .int .i64 0, .slice none 0 0, .slice none 0 0]) (t := 30) ?hr ?_); (case hr => first | (go_simp; done) | (go_simp; rfl)); intro W hg j3 zC hb; obtain ⟨Y, m, s⟩ := tg3 hg hb Y m s; replace l := rb l hb; have T := mk0 (zC); have kE := bs (be2 U I oB) hg; replace U := kh2 U I oB hb; have ⟨oG, cJ⟩ := nn a hg; have ⟨pG, dJ⟩ := nn x hg; obtain ⟨a, x⟩ := tb2 hb a x; clear hb zC hg; have ⟨gA, sA⟩ := no cJ oG; have ⟨hA, tA⟩ := no dJ pG; have o2 := BN T.out; obtain ⟨xI, hD, bW⟩ := Kd.Ce Y.out; subst bW)
   go_loopg [43] k1 (fun kq v43 w' => ∃ (d : Int) (vC : Int) (wC : Int) (xC : List Int) (yC : List (S30)) (u716002 : Value) (u716003 : Value), v43 = .int .i64 d ∧ Aside0 (AV.l1 kq j O (B.length : Int) O j (j.length : Int) d qB sB tB kB lB cC dC uB wB xB eB B L dB vC wC xC yC = some r) ∧ Aside0 (kq ≤ k1) ∧ Aside0 (Kd.N k63 63 w' w.heap.size (fun D => D ≠ b ∧ D ≠ G ∧ D ≠ W) (.slice xI j.length hD) j) ∧ Aside0 (Kd.N k63 63 w' w.heap.size (fun D => D ≠ b ∧ D ≠ G ∧ D ≠ W) (.slice xI j.length hD) j) ∧ Aside0 (Kd.R (Kd.int .u8) 73 w' w.heap.size (fun _ => True) (.slice kD aC.length lD) aC) ∧ Aside0 (Kd.V k30 30 w' w.heap.size (fun D => some D ≠ ((.slice xI j.length hD) : Value).ownBlock ∧ some D ≠ ((.slice xI j.length hD) : Value).ownBlock ∧ some D ≠ ((.slice kD aC.length lD) : Value).ownBlock ∧ some D ≠ ((.slice sD tC.length uD) : Value).ownBlock ∧ D ≠ b ∧ D ≠ G ∧ D ≠ W) (.slice uF mD.length aG) mD) ∧ Aside0 (Kd.N k63 63 w' w.heap.size (fun D => some D ≠ ((.slice xI j.length hD) : Value).ownBlock ∧ some D ≠ ((.slice xI j.length hD) : Value).ownBlock ∧ some D ≠ ((.slice kD aC.length lD) : Value).ownBlock ∧ D ≠ b ∧ D ≠ G ∧ D ≠ W) (.slice sD tC.length uD) tC) ∧ Aside0 (Kd.V (Kd.int .u8) 73 w' w.heap.size (fun D => some D ≠ ((.slice xI j.length hD) : Value).ownBlock ∧ D ≠ b ∧ D ≠ G ∧ D ≠ W) u716002 xC) ∧ Aside0 (Kd.V k30 30 w' w.heap.size (fun D => some D ≠ ((.slice xI j.length hD) : Value).ownBlock ∧ D ≠ b ∧ D ≠ G ∧ D ≠ W) u716003 yC) ∧ Aside0 (w'.heap[b]? = some (.cells #[.int .i64 qB, .int .i64 sB, .string tB, (.slice eC kB.length iC), (.slice fC lB.length jC), .int .i64 cC, .int .i64 dC, (.slice mC uB.length pC), (.slice nC wB.length qC), (.slice oC xB.length rC), .int .i64 eB, (.slice jB B.length gB), (.slice mB L.length hB), .bool dB] 40 (0, 0))) ∧ Aside0 (w'.heap[G]? = some (.cells #[.int .i64 qF, .int .i64 rF, (.slice kD aC.length lD), (.slice uF mD.length aG), (.slice sD tC.length uD)] 33 (0, 0))) ∧ Aside0 (w'.heap[W]? = some (.cells #[.int .i64 vC, .int .i64 wC, u716002, u716003] 30 (0, 0))) ∧ Aside0 (Below w.heap.size w w'))
   case atStart => exact ⟨(0), (0), (0), (([] : List Int)), (([] : List (S30))), (.slice none 0 0), (.slice none 0 0), rfl, H', ⟨Nat.le_refl _⟩, ⟨DL (Kd.Av (nI (q := W) (Kd.Av Y.out (fun D u => (⟨u, u.2⟩ : _ ∧ D ≠ W))) (fun _ u => u.2)) (fun _ u => ⟨u.1.1.1, ⟨u.1.1.2, u.1.2⟩⟩))⟩, ⟨DL (Kd.Av (nI (q := W) (Kd.Av Y.out (fun D u => (⟨u, u.2⟩ : _ ∧ D ≠ W))) (fun _ u => u.2)) (fun _ u => ⟨u.1.1.1, ⟨u.1.1.2, u.1.2⟩⟩))⟩, ⟨DZ (Kd.BC (rI (q := W) (Kd.Ao l.out T.out (by decide)) (fun _ u => u.2)) (fun _ u => trivial))⟩, ⟨BO (Kd.AL (vI (q := W) (Kd.AL m.out (fun D u => (⟨u, u.2⟩ : _ ∧ D ≠ W))) (fun _ u => u.2)) (fun _ u => ⟨u.1.1.1, ⟨u.1.1.1, ⟨u.1.1.2.1, ⟨u.1.1.2.2.1, ⟨u.1.1.2.2.2.1, ⟨u.1.1.2.2.2.2, u.1.2⟩⟩⟩⟩⟩⟩))⟩, ⟨DL (Kd.Av (nI (q := W) (Kd.Av s.out (fun D u => (⟨u, u.2⟩ : _ ∧ D ≠ W))) (fun _ u => u.2)) (fun _ u => ⟨u.1.1.1, ⟨u.1.1.1, ⟨u.1.1.2.1, ⟨u.1.1.2.2.1, ⟨u.1.1.2.2.2, u.1.2⟩⟩⟩⟩⟩))⟩, ⟨Kd.DT _ _ _ _ _⟩, ⟨Kd.DT _ _ _ _ _⟩, ⟨bF oG a⟩, ⟨bF pG x⟩, ⟨pB T⟩, ⟨be3 U I oB kE⟩⟩
   case round =>
    clear H'
    try clear c5; try clear qP; try clear rP; try clear pP; try clear lL; try clear mL; try clear cK; try clear dK; try clear eK; try clear fK; try clear nL; try clear oL; try clear pL; try clear qL; try clear rL; try clear sL; try clear tL; try clear uL; try clear tM; try clear uM; try clear pK; try clear qK; try clear rK; try clear sK; try clear vM; try clear wM; try clear xM; try clear yM; try clear zM; try clear aN; try clear bN; try clear cN; try clear vL; try clear wL; try clear gK; try clear iK; try clear jK; try clear kK; try clear xL; try clear yL; try clear zL; try clear aM; try clear bM; try clear cM; try clear dM; try clear eM; try clear dN; try clear eN; try clear tK; try clear uK; try clear vK; try clear wK; try clear fN; try clear gN; try clear hN; try clear jN; try clear kN; try clear lN; try clear mN; try clear nN; try clear fM; try clear gM; try clear lK; try clear mK; try clear nK; try clear oK; try clear hM; try clear iM; try clear jM; try clear kM; try clear lM; try clear mM; try clear nM; try clear oM; try clear oN; try clear pN; try clear xK; try clear yK; try clear zK; try clear aL; try clear qN; try clear rN; try clear sN; try clear tN; try clear uN; try clear vN; try clear wN; try clear xN; try clear jO; try clear kO; try clear pM; try clear qM; try clear rM; try clear sM; try clear lO; try clear mO; try clear nO; try clear oO; try clear pO; try clear qO; try clear rO; try clear sO; try clear tO; try clear uO; try clear yN; try clear zN; try clear aO; try clear bO; try clear vO; try clear wO; try clear xO; try clear yO; try clear zO; try clear aP; try clear bP; try clear cP
    obtain ⟨d, vC, wC, xC, yC, u716002, u716003, rfl, HA, hP, Y, fB, l, m, s, y, z, a, x, T, U⟩ := hrel
    cases gk with
    | zero => exact absurd HA.out (by simp [AV.l1])
    | succ k2 =>
     have H := HA.out; clear HA
     simp only [AV.l1] at H
     replace H := iD' H; obtain ⟨-, vR, H⟩ | ⟨-, vR, H⟩ := H
     ·replace H := iN H; obtain ⟨-, zZ, H⟩ := H
      replace H := iN H; obtain ⟨-, aA, H⟩ := H
      replace H := bS H; obtain ⟨a2, wV, H⟩ := H
      replace H := iB' H; obtain ⟨rfl, H⟩ | ⟨rfl, H⟩ := H
      ·obtain rfl := sI H
       try go_wp2
       have bD := mk0 (Kd.DR Y.out)
       have cD := mk0 (Kd.DR fB.out)
       have dD := mk0 (Kd.ED l.out)
       have eD := mk0 (Kd.BU m.out)
       have fD := mk0 (Kd.DR s.out)
       have gD := mk0 (Kd.BU y.out)
       have oD := mk0 (Kd.BU z.out)
       have gE := mk0 (AX a.out)
       have hE := mk0 (AX x.out)
       have jE := mk0 (AX T.out)
       have jD := mk0 (Ad U.out)
       clear Y; clear fB; clear l; clear m; clear s; clear y; clear z; clear a; clear x; clear T; clear U; have Y := bD; have fB := cD; have l := dD; have m := eD; have s := fD; have y := gD; have z := oD; have a := gE; have x := hE; have T := jE; have U := jD; clear bD cD dD eD fD gD oD gE hE jE jD
       have oJ : 0 ≤ (O : Int) := od
       have rJ : O < (B.length : Int) := od
       obtain ⟨qD, dI, fI, eI, gI, wP, cE, dE, eE, fE, hH, bH, iH, cH⟩ := Dy lE.out O oJ rJ
       have mH := fE; have lH := eE; have kH := dE; have jH := cE; cases wP
       replace cE := Ae U.out cE
       replace dE := Ae U.out dE
       replace eE := Ae U.out eE
       replace fE := Ae U.out fE
       have vG := mk0 bH; have aJ := mk0 hH; clear bH hH; have wG := mk0 cH; have bJ := mk0 iH; clear cH iH; replace oJ := eq_true oJ; replace rJ := eq_true rJ
       obtain ⟨xQ, cR, gR⟩ := Kd.Bu y.out
       (first | subst gR | (injection gR with f1_ f2_ f3_; have uI := f1_.symm; have wI := f3_.symm; clear f1_ f2_ f3_; subst uI; subst wI))
       obtain ⟨yQ, dR, hR⟩ := Kd.Bu z.out
       (first | subst hR | (injection hR with f1_ f2_ f3_; have uI := f1_.symm; have wI := f3_.symm; clear f1_ f2_ f3_; subst uI; subst wI))
       refine Cz (n := 8) (S := fun w' => w'.cell? ⟨W, 0, none⟩ = some (.int .i64 vC) ∧ w'.cell? ⟨W, 1, none⟩ = some (.int .i64 wC) ∧ w'.cell? ⟨W, 2, none⟩ = some (.slice xQ xC.length cR) ∧ w'.cell? ⟨W, 3, none⟩ = some (.slice yQ yC.length dR) ∧ w'.cell? ⟨b, 0, none⟩ = some (.int .i64 qB) ∧ w'.cell? ⟨b, 1, none⟩ = some (.int .i64 sB) ∧ w'.cell? ⟨b, 2, none⟩ = some (.string tB) ∧ w'.cell? ⟨b, 3, none⟩ = some (.slice eC kB.length iC) ∧ w'.cell? ⟨b, 4, none⟩ = some (.slice fC lB.length jC) ∧ w'.cell? ⟨b, 5, none⟩ = some (.int .i64 cC) ∧ w'.cell? ⟨b, 6, none⟩ = some (.int .i64 dC) ∧ w'.cell? ⟨b, 7, none⟩ = some (.slice mC uB.length pC) ∧ w'.cell? ⟨b, 8, none⟩ = some (.slice nC wB.length qC) ∧ w'.cell? ⟨b, 9, none⟩ = some (.slice oC xB.length rC) ∧ w'.cell? ⟨b, 10, none⟩ = some (.int .i64 eB) ∧ w'.cell? ⟨b, 11, none⟩ = some (.slice (some qD) B.length gB) ∧ w'.cell? ⟨b, 12, none⟩ = some (.slice mB L.length hB) ∧ w'.cell? ⟨b, 13, none⟩ = some (.bool dB) ∧ w'.cell? (qD.add ((O).toNat * 4)) = some (.int .i64 ((AC B O).f0)) ∧ w'.cell? ⟨(qD.add ((O).toNat * 4)).block, (qD.add ((O).toNat * 4)).off + 1, none⟩ = some (.int .i64 ((AC B O).f1)) ∧ w'.cell? ⟨(qD.add ((O).toNat * 4)).block, (qD.add ((O).toNat * 4)).off + 2, none⟩ = some (.slice dI ((AC B O).f2).length fI) ∧ w'.cell? ⟨(qD.add ((O).toNat * 4)).block, (qD.add ((O).toNat * 4)).off + 3, none⟩ = some (.slice eI ((AC B O).f3).length gI)) (ds := []) (tf 0 8) (by kernel_rfl) rfl rfl ⟨bc T 0, bc T 1, bc T 2, bc T 3, bc a 0, bc a 1, bc a 2, bc a 3, bc a 4, bc a 5, bc a 6, bc a 7, bc a 8, bc a 9, bc a 10, bc a 11, bc a 12, bc a 13, (Ae U.out jH), (Ae U.out kH), (Ae U.out lH), (Ae U.out mH)⟩ (fun X => ?_); refine Bz AV.Oc AV.NS (fun J rD => ?_)
       generalize wr.drew = p3 at Y fB l m s y z a x T U vG wG cE dE eE fE X ⊢
       refine pv 1 62 #[false, true, false, false, false, false, false, false] J ?_
       refine pv 3 64 #[false, true, false, true, false, false, false, false] J ?_
       refine Bl (i := 0) (N := some 61) (v := ?_) (a' := ?_) #[true, true, false, true, false, false, false, false] rfl rfl (Aj J.out rD.out (by kernel_rfl)) (fun _ _ _ h => h) (Or.inl ⟨by rfl, ?_⟩) X ?_ ?_
       rotate_left
       ·rintro w' ⟨s0, s1, s2, s3, s4, s5, s6, s7, s8, s9, wE, xE, yE, zE, aF, cF, dF, eF, fF, gF, kQ, lQ⟩
        go_simp
        with_reducible rfl
       rotate_left
       ·simp only [ps]
        rfl
       refine Bl (i := 2) (N := some 63) (v := ?_) (a' := ?_) (tf 4 4) rfl rfl (Aj J.out rD.out (by kernel_rfl)) (fun _ _ _ h => h) (Or.inl ⟨by rfl, ?_⟩) X ?_ ?_
       rotate_left
       ·rintro w' ⟨s0, s1, s2, s3, s4, s5, s6, s7, s8, s9, wE, xE, yE, zE, aF, cF, dF, eF, fF, gF, kQ, lQ⟩
        go_simp
        with_reducible rfl
       rotate_left
       ·simp only [ps]
        rfl
       refine pv 4 65 (tf 5 3) J ?_
       refine Bl (i := 5) (N := some 66) (v := ?_) (a' := ?_) (tf 6 2) rfl rfl (Aj J.out rD.out (by kernel_rfl)) (fun _ _ _ h => h) (Or.inl ⟨by rfl, ?_⟩) X ?_ ?_
       rotate_left
       ·rintro w' ⟨s0, s1, s2, s3, s4, s5, s6, s7, s8, s9, wE, xE, yE, zE, aF, cF, dF, eF, fF, gF, kQ, lQ⟩
        go_simp
        with_reducible rfl
       rotate_left
       ·simp only [ps]
        rfl
       refine DN (i := 6) (N := some 67) (tf 7 1) rfl rfl (Bv J.out (by kernel_rfl)) (by decide) (fun K hK => ?_)
       refine Cx Try.func32 (by kernel_rfl) rfl #[.agg #[.int .i64 vC, .int .i64 wC, .slice xQ xC.length cR, .slice yQ yC.length dR], .agg #[.int .i64 ((AC B O).f0), .int .i64 ((AC B O).f1), .slice dI ((AC B O).f2).length fI, .slice eI ((AC B O).f3).length gI]] (by rfl) rfl rfl (by (try simp only [List.map_toArray, List.map_cons, List.map_nil]); first | done | rfl | (simp only [List.length_drop, List.length_take]; rfl)) ?_
       with_reducible refine (Bi.calls k2 vC wC _ _ xC _ _ yC ((AC B O).f0) ((AC B O).f1) _ _ ((AC B O).f2) _ _ ((AC B O).f3) false _ ?side1 ?side2 ?side3 ?side4 ?side5 ?side6 ?side7 ?side8 wV.out).mono ?_
       (case side1 => exact Cg (Kd.AO y.out).2.2)
       (case side2 => exact (Kd.AO y.out).2.1)
       (case side3 => exact Cg (Kd.AO z.out).2.2)
       (case side4 => exact (Kd.AO z.out).2.1)
       (case side5 => exact cu vG U)
       (case side6 => exact aJ.out)
       (case side7 => exact cu wG U)
       (case side8 => exact bJ.out)
       rintro e q3 ⟨rfl, hb⟩
       refine ⟨_, rfl, ?_⟩
       have bD := nb Y hb
       have cD := nb fB hb
       have dD := rb l hb
       have eD := vb m hb
       have fD := nb s hb
       have gD := vb y hb
       have oD := vb z hb
       have gE := kb a hb
       have hE := kb x hb
       have jE := kb T hb
       have jD := kh3 U I oB kE hb
       clear Y; clear fB; clear l; clear m; clear s; clear y; clear z; clear a; clear x; clear T; clear U; have Y := bD; have fB := cD; have l := dD; have m := eD; have s := fD; have y := gD; have z := oD; have a := gE; have x := hE; have T := jE; have U := jD; clear bD cD dD eD fD gD oD gE hE jE jD
       try clear hb
       try clear u
       refine hK.out _ _ ⟨bc T 0, bc T 1, bc T 2, bc T 3, bc a 0, bc a 1, bc a 2, bc a 3, bc a 4, bc a 5, bc a 6, bc a 7, bc a 8, bc a 9, bc a 10, bc a 11, bc a 12, bc a 13, (Ae U.out jH), (Ae U.out kH), (Ae U.out lH), (Ae U.out mH)⟩ (fun X => ?_)
       clear hK K
       refine CJ (a' := ?_) ?_ ?_
       rotate_left
       ·show Act.put _ (some 67) _ = _
        simp only [ps]
        rfl
       refine pv 7 68 (tf 8 0) J ?_
       refine Dv (Cu J.out (by kernel_rfl)) ?_
       try go_wp2
       go_ret
       exact ⟨rfl, be3 U I oB kE⟩
      have H' := mk0 H
      clear H
      try go_wp2
      have bD := mk0 (Kd.DR Y.out)
      have cD := mk0 (Kd.DR fB.out)
      have dD := mk0 (Kd.ED l.out)
      have eD := mk0 (Kd.BU m.out)
      have fD := mk0 (Kd.DR s.out)
      have gD := mk0 (Kd.BU y.out)
      have oD := mk0 (Kd.BU z.out)
      have gE := mk0 (AX a.out)
      have hE := mk0 (AX x.out)
      have jE := mk0 (AX T.out)
      have jD := mk0 (Ad U.out)
      clear Y; clear fB; clear l; clear m; clear s; clear y; clear z; clear a; clear x; clear T; clear U; have Y := bD; have fB := cD; have l := dD; have m := eD; have s := fD; have y := gD; have z := oD; have a := gE; have x := hE; have T := jE; have U := jD; clear bD cD dD eD fD gD oD gE hE jE jD
      have oJ : 0 ≤ (O : Int) := od
      have rJ : O < (B.length : Int) := od
      obtain ⟨qD, dI, fI, eI, gI, wP, cE, dE, eE, fE, hH, bH, iH, cH⟩ := Dy lE.out O oJ rJ
      have mH := fE; have lH := eE; have kH := dE; have jH := cE; cases wP
      replace cE := Ae U.out cE
      replace dE := Ae U.out dE
      replace eE := Ae U.out eE
      replace fE := Ae U.out fE
      have vG := mk0 bH; have aJ := mk0 hH; clear bH hH; have wG := mk0 cH; have bJ := mk0 iH; clear cH iH; replace oJ := eq_true oJ; replace rJ := eq_true rJ
      obtain ⟨vQ, aR, eR⟩ := Kd.Bu y.out
      (first | subst eR | (injection eR with f1_ f2_ f3_; have uI := f1_.symm; have wI := f3_.symm; clear f1_ f2_ f3_; subst uI; subst wI))
      obtain ⟨wQ, bR, fR⟩ := Kd.Bu z.out
      (first | subst fR | (injection fR with f1_ f2_ f3_; have uI := f1_.symm; have wI := f3_.symm; clear f1_ f2_ f3_; subst uI; subst wI))
      refine Cz (n := 8) (S := fun w' => w'.cell? ⟨W, 0, none⟩ = some (.int .i64 vC) ∧ w'.cell? ⟨W, 1, none⟩ = some (.int .i64 wC) ∧ w'.cell? ⟨W, 2, none⟩ = some (.slice vQ xC.length aR) ∧ w'.cell? ⟨W, 3, none⟩ = some (.slice wQ yC.length bR) ∧ w'.cell? ⟨b, 0, none⟩ = some (.int .i64 qB) ∧ w'.cell? ⟨b, 1, none⟩ = some (.int .i64 sB) ∧ w'.cell? ⟨b, 2, none⟩ = some (.string tB) ∧ w'.cell? ⟨b, 3, none⟩ = some (.slice eC kB.length iC) ∧ w'.cell? ⟨b, 4, none⟩ = some (.slice fC lB.length jC) ∧ w'.cell? ⟨b, 5, none⟩ = some (.int .i64 cC) ∧ w'.cell? ⟨b, 6, none⟩ = some (.int .i64 dC) ∧ w'.cell? ⟨b, 7, none⟩ = some (.slice mC uB.length pC) ∧ w'.cell? ⟨b, 8, none⟩ = some (.slice nC wB.length qC) ∧ w'.cell? ⟨b, 9, none⟩ = some (.slice oC xB.length rC) ∧ w'.cell? ⟨b, 10, none⟩ = some (.int .i64 eB) ∧ w'.cell? ⟨b, 11, none⟩ = some (.slice (some qD) B.length gB) ∧ w'.cell? ⟨b, 12, none⟩ = some (.slice mB L.length hB) ∧ w'.cell? ⟨b, 13, none⟩ = some (.bool dB) ∧ w'.cell? (qD.add ((O).toNat * 4)) = some (.int .i64 ((AC B O).f0)) ∧ w'.cell? ⟨(qD.add ((O).toNat * 4)).block, (qD.add ((O).toNat * 4)).off + 1, none⟩ = some (.int .i64 ((AC B O).f1)) ∧ w'.cell? ⟨(qD.add ((O).toNat * 4)).block, (qD.add ((O).toNat * 4)).off + 2, none⟩ = some (.slice dI ((AC B O).f2).length fI) ∧ w'.cell? ⟨(qD.add ((O).toNat * 4)).block, (qD.add ((O).toNat * 4)).off + 3, none⟩ = some (.slice eI ((AC B O).f3).length gI)) (ds := []) (tf 0 8) (by kernel_rfl) rfl rfl ⟨bc T 0, bc T 1, bc T 2, bc T 3, bc a 0, bc a 1, bc a 2, bc a 3, bc a 4, bc a 5, bc a 6, bc a 7, bc a 8, bc a 9, bc a 10, bc a 11, bc a 12, bc a 13, (Ae U.out jH), (Ae U.out kH), (Ae U.out lH), (Ae U.out mH)⟩ (fun X => ?_); refine Bz AV.Oc AV.NS (fun J rD => ?_)
      generalize wr.drew = n3 at Y fB l m s y z a x T U vG wG cE dE eE fE X ⊢
      refine pv 1 62 #[false, true, false, false, false, false, false, false] J ?_
      refine pv 3 64 #[false, true, false, true, false, false, false, false] J ?_
      refine Bl (i := 0) (N := some 61) (v := ?_) (a' := ?_) #[true, true, false, true, false, false, false, false] rfl rfl (Aj J.out rD.out (by kernel_rfl)) (fun _ _ _ h => h) (Or.inl ⟨by rfl, ?_⟩) X ?_ ?_
      rotate_left
      ·rintro w' ⟨s0, s1, s2, s3, s4, s5, s6, s7, s8, s9, wE, xE, yE, zE, aF, cF, dF, eF, fF, gF, kQ, lQ⟩
       go_simp
       with_reducible rfl
      rotate_left
      ·simp only [ps]
       rfl
      refine Bl (i := 2) (N := some 63) (v := ?_) (a' := ?_) (tf 4 4) rfl rfl (Aj J.out rD.out (by kernel_rfl)) (fun _ _ _ h => h) (Or.inl ⟨by rfl, ?_⟩) X ?_ ?_
      rotate_left
      ·rintro w' ⟨s0, s1, s2, s3, s4, s5, s6, s7, s8, s9, wE, xE, yE, zE, aF, cF, dF, eF, fF, gF, kQ, lQ⟩
       go_simp
       with_reducible rfl
      rotate_left
      ·simp only [ps]
       rfl
      refine pv 4 65 (tf 5 3) J ?_
      refine Bl (i := 5) (N := some 66) (v := ?_) (a' := ?_) (tf 6 2) rfl rfl (Aj J.out rD.out (by kernel_rfl)) (fun _ _ _ h => h) (Or.inl ⟨by rfl, ?_⟩) X ?_ ?_
      rotate_left
      ·rintro w' ⟨s0, s1, s2, s3, s4, s5, s6, s7, s8, s9, wE, xE, yE, zE, aF, cF, dF, eF, fF, gF, kQ, lQ⟩
       go_simp
       with_reducible rfl
      rotate_left
      ·simp only [ps]
       rfl
      refine DN (i := 6) (N := some 67) (tf 7 1) rfl rfl (Bv J.out (by kernel_rfl)) (by decide) (fun K hK => ?_)
      refine Cx Try.func32 (by kernel_rfl) rfl #[.agg #[.int .i64 vC, .int .i64 wC, .slice vQ xC.length aR, .slice wQ yC.length bR], .agg #[.int .i64 ((AC B O).f0), .int .i64 ((AC B O).f1), .slice dI ((AC B O).f2).length fI, .slice eI ((AC B O).f3).length gI]] (by rfl) rfl rfl (by (try simp only [List.map_toArray, List.map_cons, List.map_nil]); first | done | rfl | (simp only [List.length_drop, List.length_take]; rfl)) ?_
      with_reducible refine (Bi.calls k2 vC wC _ _ xC _ _ yC ((AC B O).f0) ((AC B O).f1) _ _ ((AC B O).f2) _ _ ((AC B O).f3) true _ ?side1 ?side2 ?side3 ?side4 ?side5 ?side6 ?side7 ?side8 wV.out).mono ?_
      (case side1 => exact Cg (Kd.AO y.out).2.2)
      (case side2 => exact (Kd.AO y.out).2.1)
      (case side3 => exact Cg (Kd.AO z.out).2.2)
      (case side4 => exact (Kd.AO z.out).2.1)
      (case side5 => exact cu vG U)
      (case side6 => exact aJ.out)
      (case side7 => exact cu wG U)
      (case side8 => exact bJ.out)
      rintro e o3 ⟨rfl, hb⟩
      refine ⟨_, rfl, ?_⟩
      have bD := nb Y hb
      have cD := nb fB hb
      have dD := rb l hb
      have eD := vb m hb
      have fD := nb s hb
      have gD := vb y hb
      have oD := vb z hb
      have gE := kb a hb
      have hE := kb x hb
      have jE := kb T hb
      have jD := kh3 U I oB kE hb
      clear Y; clear fB; clear l; clear m; clear s; clear y; clear z; clear a; clear x; clear T; clear U; have Y := bD; have fB := cD; have l := dD; have m := eD; have s := fD; have y := gD; have z := oD; have a := gE; have x := hE; have T := jE; have U := jD; clear bD cD dD eD fD gD oD gE hE jE jD
      try clear hb
      try clear u
      refine hK.out _ _ ⟨bc T 0, bc T 1, bc T 2, bc T 3, bc a 0, bc a 1, bc a 2, bc a 3, bc a 4, bc a 5, bc a 6, bc a 7, bc a 8, bc a 9, bc a 10, bc a 11, bc a 12, bc a 13, (Ae U.out jH), (Ae U.out kH), (Ae U.out lH), (Ae U.out mH)⟩ (fun X => ?_)
      clear hK K
      refine CJ (a' := ?_) ?_ ?_
      rotate_left
      ·show Act.put _ (some 67) _ = _
       simp only [ps]
       rfl
      refine pv 7 68 (tf 8 0) J ?_
      refine Dv (Cu J.out (by kernel_rfl)) ?_
      try go_wp2
      go_roundg k2
      case measure => have := gP.out; have := hP.out; omega
      case rel => exact ⟨(wrap64 (O + 1)), rfl, H', ⟨by have := gP.out; have := hP.out; omega⟩, ⟨DL (Kd.Av Y.out (fun _ u => ⟨u.1, u.2.1⟩))⟩, ⟨DC l.out⟩, ⟨BO (Kd.AL m.out (fun _ u => ⟨u.1, ⟨u.2.2.1, ⟨u.2.2.2.1, ⟨u.2.2.2.2.1, u.2.2.2.2.2.1⟩⟩⟩⟩))⟩, ⟨DL (Kd.Av s.out (fun _ u => ⟨u.1, ⟨u.2.2.1, ⟨u.2.2.2.1, u.2.2.2.2.1⟩⟩⟩))⟩, ⟨bu a⟩, ⟨bu x⟩, ⟨be3 U I oB kE⟩⟩
     replace H := iN H; obtain ⟨-, vZ, H⟩ := H
     replace H := iN H; obtain ⟨-, wZ, H⟩ := H
     replace H := iN H; obtain ⟨-, xZ, H⟩ := H
     replace H := iN H; obtain ⟨-, yZ, H⟩ := H
     replace H := iD' H; obtain ⟨-, wR, H⟩ | ⟨-, wR, H⟩ := H
     ·have H' := mk0 H
      clear H
      have jI : 0 ≤ (d : Int) := od
      have lI : d < (j.length : Int) := od
      obtain ⟨aD, Z, bB, aB, cB, uP, hQ, iQ, jQ, kJ, lJ, fH, zG, gH, aH⟩ := DV (Kd.DY fB.out).2.2 d jI lI
      cases uP
      obtain ⟨dS, iL, gL, rG⟩ := Kd.K6 fB.out z63 d jI (by first | exact lI | exact of_decide_eq_true (by assumption) | (have e_ := (Kd.DY fB.out).1; omega))
      obtain ⟨pQ, tQ, qQ, uQ, rfl, lF, sE, mF, tE⟩ := DX gL
      have yD := rG 3 _ rfl
      rw [BZ _ _ 3 (by omega)] at yD
      replace yD := Option.some.inj (yD.symm.trans kJ)
      injection yD with hva_ hvn_ hvc_
      rw [hva_] at sE
      rw [hvc_] at lF
      have gC := mk0 (show Kd.V (Kd.int .u8) 73 _ w.heap.size _ _ ((AA j d).f1.f2) from Kd.C8 lF sE)
      clear hva_ hvn_ hvc_ sE lF
      have zD := rG 4 _ rfl
      rw [BZ _ _ 4 (by omega)] at zD
      replace zD := Option.some.inj (zD.symm.trans lJ)
      injection zD with hva_ hvn_ hvc_
      rw [hva_] at tE
      rw [hvc_] at mF
      have hC := mk0 (show Kd.V k30 30 _ w.heap.size _ _ ((AA j d).f1.f3) from Kd.C8 mF tE)
      clear hva_ hvn_ hvc_ tE mF; clear rG iL; have tG := mk0 zG; have lP := mk0 fH; clear zG fH; have uG := mk0 aH; have mP := mk0 gH; clear aH gH; replace jI := eq_true jI; replace lI := eq_true lI
      try go_wp2_with ((with_reducible refine AP rfl (N := 10) rfl (cs := #[.int .i64 0, .int .i64 0, .int .i64 0, .slice none 0 0, .slice none 0 0]) (t := 63) ?hr ?_); (case hr => first | (go_simp; done) | (go_simp; rfl)); intro c hg cI zC hb; obtain ⟨Y, fB, m, s, y, z, gC, hC⟩ := tg8 hg hb Y fB m s y z gC hC; obtain ⟨l, tG, uG⟩ := tb3 hb l tG uG; have kC := mk0 (zC); have zI := bs (be3 U I oB kE) hg; replace U := kh3 U I oB kE hb; have ⟨mE, yH⟩ := nn a hg; have ⟨oE, zH⟩ := nn x hg; have ⟨pE, aI⟩ := nn T hg; obtain ⟨a, x, T⟩ := tb3 hb a x T; clear hb zC hg; have ⟨nA, zA⟩ := no yH mE; have ⟨oA, b0⟩ := no zH oE; have ⟨pA, d0⟩ := no aI pE; have y2 := cells5 kC.out)
      have bD : Aside0 (Kd.N k63 63 (((((cI.setCell ⟨c, 0, none⟩ (.int .i64 ((AA j d).f0))).setCell ⟨c, 1, none⟩ (.int .i64 ((AA j d).f1.f0))).setCell ⟨c, 2, none⟩ (.int .i64 ((AA j d).f1.f1))).setCell ⟨c, 3, none⟩ (.slice Z ((AA j d).f1.f2).length bB)).setCell ⟨c, 4, none⟩ (.slice aB ((AA j d).f1.f3).length cB)) w.heap.size (fun D => D ≠ b ∧ D ≠ G ∧ D ≠ W ∧ D ≠ c) (.slice (some aD) j.length hD) j) := ⟨DL (Kd.Av (nI (q := c) (Kd.Av Y.out (fun D u => (⟨u, u.2⟩ : _ ∧ D ≠ c))) (fun _ u => u.2)) (fun _ u => ⟨u.1.1.1, ⟨u.1.1.2.1, ⟨u.1.1.2.2, u.1.2⟩⟩⟩))⟩
      have cD : Aside0 (Kd.N k63 63 (((((cI.setCell ⟨c, 0, none⟩ (.int .i64 ((AA j d).f0))).setCell ⟨c, 1, none⟩ (.int .i64 ((AA j d).f1.f0))).setCell ⟨c, 2, none⟩ (.int .i64 ((AA j d).f1.f1))).setCell ⟨c, 3, none⟩ (.slice Z ((AA j d).f1.f2).length bB)).setCell ⟨c, 4, none⟩ (.slice aB ((AA j d).f1.f3).length cB)) w.heap.size (fun D => D ≠ b ∧ D ≠ G ∧ D ≠ W ∧ D ≠ c) (.slice (some aD) j.length hD) j) := ⟨DL (Kd.Av (nI (q := c) (Kd.Av fB.out (fun D u => (⟨u, u.2⟩ : _ ∧ D ≠ c))) (fun _ u => u.2)) (fun _ u => ⟨u.1.1.1, ⟨u.1.1.2.1, ⟨u.1.1.2.2, u.1.2⟩⟩⟩))⟩
      have dD : Aside0 (Kd.R (Kd.int .u8) 73 (((((cI.setCell ⟨c, 0, none⟩ (.int .i64 ((AA j d).f0))).setCell ⟨c, 1, none⟩ (.int .i64 ((AA j d).f1.f0))).setCell ⟨c, 2, none⟩ (.int .i64 ((AA j d).f1.f1))).setCell ⟨c, 3, none⟩ (.slice Z ((AA j d).f1.f2).length bB)).setCell ⟨c, 4, none⟩ (.slice aB ((AA j d).f1.f3).length cB)) w.heap.size (fun _ => True) (.slice kD aC.length lD) aC) := ⟨DZ (Kd.BC (rI (q := c) (Kd.Ao l.out kC.out (by decide)) (fun _ u => u.2)) (fun _ u => trivial))⟩
      have eD : Aside0 (Kd.V k30 30 (((((cI.setCell ⟨c, 0, none⟩ (.int .i64 ((AA j d).f0))).setCell ⟨c, 1, none⟩ (.int .i64 ((AA j d).f1.f0))).setCell ⟨c, 2, none⟩ (.int .i64 ((AA j d).f1.f1))).setCell ⟨c, 3, none⟩ (.slice Z ((AA j d).f1.f2).length bB)).setCell ⟨c, 4, none⟩ (.slice aB ((AA j d).f1.f3).length cB)) w.heap.size (fun D => some D ≠ (.slice (some aD) j.length hD : Value).ownBlock ∧ some D ≠ (.slice (some aD) j.length hD : Value).ownBlock ∧ some D ≠ (.slice kD aC.length lD : Value).ownBlock ∧ some D ≠ (.slice sD tC.length uD : Value).ownBlock ∧ D ≠ b ∧ D ≠ G ∧ D ≠ W ∧ D ≠ c) (.slice uF mD.length aG) mD) := ⟨BO (Kd.AL (vI (q := c) (Kd.AL m.out (fun D u => (⟨u, u.2⟩ : _ ∧ D ≠ c))) (fun _ u => u.2)) (fun _ u => ⟨u.1.1.1, ⟨u.1.1.2.1, ⟨u.1.1.2.2.1, ⟨u.1.1.2.2.2.1, ⟨u.1.1.2.2.2.2.1, ⟨u.1.1.2.2.2.2.2.1, ⟨u.1.1.2.2.2.2.2.2, u.1.2⟩⟩⟩⟩⟩⟩⟩))⟩
      have fD : Aside0 (Kd.N k63 63 (((((cI.setCell ⟨c, 0, none⟩ (.int .i64 ((AA j d).f0))).setCell ⟨c, 1, none⟩ (.int .i64 ((AA j d).f1.f0))).setCell ⟨c, 2, none⟩ (.int .i64 ((AA j d).f1.f1))).setCell ⟨c, 3, none⟩ (.slice Z ((AA j d).f1.f2).length bB)).setCell ⟨c, 4, none⟩ (.slice aB ((AA j d).f1.f3).length cB)) w.heap.size (fun D => some D ≠ (.slice (some aD) j.length hD : Value).ownBlock ∧ some D ≠ (.slice (some aD) j.length hD : Value).ownBlock ∧ some D ≠ (.slice kD aC.length lD : Value).ownBlock ∧ D ≠ b ∧ D ≠ G ∧ D ≠ W ∧ D ≠ c) (.slice sD tC.length uD) tC) := ⟨DL (Kd.Av (nI (q := c) (Kd.Av s.out (fun D u => (⟨u, u.2⟩ : _ ∧ D ≠ c))) (fun _ u => u.2)) (fun _ u => ⟨u.1.1.1, ⟨u.1.1.2.1, ⟨u.1.1.2.2.1, ⟨u.1.1.2.2.2.1, ⟨u.1.1.2.2.2.2.1, ⟨u.1.1.2.2.2.2.2, u.1.2⟩⟩⟩⟩⟩⟩))⟩
      have gD : Aside0 (Kd.V (Kd.int .u8) 73 (((((cI.setCell ⟨c, 0, none⟩ (.int .i64 ((AA j d).f0))).setCell ⟨c, 1, none⟩ (.int .i64 ((AA j d).f1.f0))).setCell ⟨c, 2, none⟩ (.int .i64 ((AA j d).f1.f1))).setCell ⟨c, 3, none⟩ (.slice Z ((AA j d).f1.f2).length bB)).setCell ⟨c, 4, none⟩ (.slice aB ((AA j d).f1.f3).length cB)) w.heap.size (fun D => some D ≠ (.slice (some aD) j.length hD : Value).ownBlock ∧ D ≠ b ∧ D ≠ G ∧ D ≠ W ∧ D ≠ c) u716002 xC) := ⟨BO (Kd.AL (vI (q := c) (Kd.AL y.out (fun D u => (⟨u, u.2⟩ : _ ∧ D ≠ c))) (fun _ u => u.2)) (fun _ u => ⟨u.1.1.1, ⟨u.1.1.2.1, ⟨u.1.1.2.2.1, ⟨u.1.1.2.2.2, u.1.2⟩⟩⟩⟩))⟩
      have oD : Aside0 (Kd.V k30 30 (((((cI.setCell ⟨c, 0, none⟩ (.int .i64 ((AA j d).f0))).setCell ⟨c, 1, none⟩ (.int .i64 ((AA j d).f1.f0))).setCell ⟨c, 2, none⟩ (.int .i64 ((AA j d).f1.f1))).setCell ⟨c, 3, none⟩ (.slice Z ((AA j d).f1.f2).length bB)).setCell ⟨c, 4, none⟩ (.slice aB ((AA j d).f1.f3).length cB)) w.heap.size (fun D => some D ≠ (.slice (some aD) j.length hD : Value).ownBlock ∧ D ≠ b ∧ D ≠ G ∧ D ≠ W ∧ D ≠ c) u716003 yC) := ⟨BO (Kd.AL (vI (q := c) (Kd.AL z.out (fun D u => (⟨u, u.2⟩ : _ ∧ D ≠ c))) (fun _ u => u.2)) (fun _ u => ⟨u.1.1.1, ⟨u.1.1.2.1, ⟨u.1.1.2.2.1, ⟨u.1.1.2.2.2, u.1.2⟩⟩⟩⟩))⟩
      have gE : Aside0 (Kd.V (Kd.int .u8) 73 (((((cI.setCell ⟨c, 0, none⟩ (.int .i64 ((AA j d).f0))).setCell ⟨c, 1, none⟩ (.int .i64 ((AA j d).f1.f0))).setCell ⟨c, 2, none⟩ (.int .i64 ((AA j d).f1.f1))).setCell ⟨c, 3, none⟩ (.slice Z ((AA j d).f1.f2).length bB)).setCell ⟨c, 4, none⟩ (.slice aB ((AA j d).f1.f3).length cB)) w.heap.size (fun D => some D ≠ (.slice (some aD) j.length hD : Value).ownBlock ∧ D ≠ b ∧ D ≠ G ∧ D ≠ W ∧ D ≠ c) (.slice Z ((AA j d).f1.f2).length bB) ((AA j d).f1.f2)) := ⟨BO (Kd.AL (vI (q := c) (Kd.AL gC.out (fun D u => (⟨u, u.2⟩ : _ ∧ D ≠ c))) (fun _ u => u.2)) (fun _ u => ⟨u.1.1.2, ⟨u.1.1.1.1, ⟨u.1.1.1.2.1, ⟨u.1.1.1.2.2, u.1.2⟩⟩⟩⟩))⟩
      have hE : Aside0 (Kd.V k30 30 (((((cI.setCell ⟨c, 0, none⟩ (.int .i64 ((AA j d).f0))).setCell ⟨c, 1, none⟩ (.int .i64 ((AA j d).f1.f0))).setCell ⟨c, 2, none⟩ (.int .i64 ((AA j d).f1.f1))).setCell ⟨c, 3, none⟩ (.slice Z ((AA j d).f1.f2).length bB)).setCell ⟨c, 4, none⟩ (.slice aB ((AA j d).f1.f3).length cB)) w.heap.size (fun D => some D ≠ (.slice (some aD) j.length hD : Value).ownBlock ∧ D ≠ b ∧ D ≠ G ∧ D ≠ W ∧ D ≠ c) (.slice aB ((AA j d).f1.f3).length cB) ((AA j d).f1.f3)) := ⟨BO (Kd.AL (vI (q := c) (Kd.AL hC.out (fun D u => (⟨u, u.2⟩ : _ ∧ D ≠ c))) (fun _ u => u.2)) (fun _ u => ⟨u.1.1.2, ⟨u.1.1.1.1, ⟨u.1.1.1.2.1, ⟨u.1.1.1.2.2, u.1.2⟩⟩⟩⟩))⟩
      have jE : Aside0 ((((((cI.setCell ⟨c, 0, none⟩ (.int .i64 ((AA j d).f0))).setCell ⟨c, 1, none⟩ (.int .i64 ((AA j d).f1.f0))).setCell ⟨c, 2, none⟩ (.int .i64 ((AA j d).f1.f1))).setCell ⟨c, 3, none⟩ (.slice Z ((AA j d).f1.f2).length bB)).setCell ⟨c, 4, none⟩ (.slice aB ((AA j d).f1.f3).length cB)).heap[b]? = some (.cells #[.int .i64 qB, .int .i64 sB, .string tB, .slice eC kB.length iC, .slice fC lB.length jC, .int .i64 cC, .int .i64 dC, .slice mC uB.length pC, .slice nC wB.length qC, .slice oC xB.length rC, .int .i64 eB, .slice jB B.length gB, .slice mB L.length hB, .bool dB] 40 (0, 0))) := ⟨bF mE a⟩
      have jD : Aside0 ((((((cI.setCell ⟨c, 0, none⟩ (.int .i64 ((AA j d).f0))).setCell ⟨c, 1, none⟩ (.int .i64 ((AA j d).f1.f0))).setCell ⟨c, 2, none⟩ (.int .i64 ((AA j d).f1.f1))).setCell ⟨c, 3, none⟩ (.slice Z ((AA j d).f1.f2).length bB)).setCell ⟨c, 4, none⟩ (.slice aB ((AA j d).f1.f3).length cB)).heap[G]? = some (.cells #[.int .i64 qF, .int .i64 rF, .slice kD aC.length lD, .slice uF mD.length aG, .slice sD tC.length uD] 33 (0, 0))) := ⟨bF oE x⟩
      have bG : Aside0 ((((((cI.setCell ⟨c, 0, none⟩ (.int .i64 ((AA j d).f0))).setCell ⟨c, 1, none⟩ (.int .i64 ((AA j d).f1.f0))).setCell ⟨c, 2, none⟩ (.int .i64 ((AA j d).f1.f1))).setCell ⟨c, 3, none⟩ (.slice Z ((AA j d).f1.f2).length bB)).setCell ⟨c, 4, none⟩ (.slice aB ((AA j d).f1.f3).length cB)).heap[W]? = some (.cells #[.int .i64 vC, .int .i64 wC, u716002, u716003] 30 (0, 0))) := ⟨bF pE T⟩
      have cG : Aside0 ((((((cI.setCell ⟨c, 0, none⟩ (.int .i64 ((AA j d).f0))).setCell ⟨c, 1, none⟩ (.int .i64 ((AA j d).f1.f0))).setCell ⟨c, 2, none⟩ (.int .i64 ((AA j d).f1.f1))).setCell ⟨c, 3, none⟩ (.slice Z ((AA j d).f1.f2).length bB)).setCell ⟨c, 4, none⟩ (.slice aB ((AA j d).f1.f3).length cB)).heap[c]? = some (.cells #[.int .i64 ((AA j d).f0), .int .i64 ((AA j d).f1.f0), .int .i64 ((AA j d).f1.f1), .slice Z ((AA j d).f1.f2).length bB, .slice aB ((AA j d).f1.f3).length cB] 63 (0, 0))) := ⟨pB kC⟩
      have dG : Aside0 (Below w.heap.size w (((((cI.setCell ⟨c, 0, none⟩ (.int .i64 ((AA j d).f0))).setCell ⟨c, 1, none⟩ (.int .i64 ((AA j d).f1.f0))).setCell ⟨c, 2, none⟩ (.int .i64 ((AA j d).f1.f1))).setCell ⟨c, 3, none⟩ (.slice Z ((AA j d).f1.f2).length bB)).setCell ⟨c, 4, none⟩ (.slice aB ((AA j d).f1.f3).length cB))) := ⟨be4 U I oB kE zI⟩
      try clear Y
      try clear fB
      try clear l
      try clear m
      try clear s
      try clear y
      try clear z
      try clear gC
      try clear hC
      try clear a
      try clear x
      try clear T
      try clear kC
      try clear U
      generalize (((((cI.setCell ⟨c, 0, none⟩ (.int .i64 ((AA j d).f0))).setCell ⟨c, 1, none⟩ (.int .i64 ((AA j d).f1.f0))).setCell ⟨c, 2, none⟩ (.int .i64 ((AA j d).f1.f1))).setCell ⟨c, 3, none⟩ (.slice Z ((AA j d).f1.f2).length bB)).setCell ⟨c, 4, none⟩ (.slice aB ((AA j d).f1.f3).length cB)) = o0 at bD cD dD eD fD gD oD gE hE jE jD bG cG dG ⊢
      have Y := bD; have fB := cD; have l := dD; have m := eD; have s := fD; have y := gD; have z := oD; have gC := gE; have hC := hE; have a := jE; have x := jD; have T := bG; have kC := cG; have U := dG; clear bD cD dD eD fD gD oD gE hE jE jD bG cG dG
      have bD := mk0 (Kd.DR Y.out)
      have cD := mk0 (Kd.DR fB.out)
      have dD := mk0 (Kd.ED l.out)
      have eD := mk0 (Kd.BU m.out)
      have fD := mk0 (Kd.DR s.out)
      have gD := mk0 (Kd.BU y.out)
      have oD := mk0 (Kd.BU z.out)
      have gE := mk0 (Kd.BU gC.out)
      have hE := mk0 (Kd.BU hC.out)
      have jE := mk0 (AX a.out)
      have jD := mk0 (AX x.out)
      have bG := mk0 (AX T.out)
      have cG := mk0 (AX kC.out)
      have dG := mk0 (Ad U.out)
      clear Y; clear fB; clear l; clear m; clear s; clear y; clear z; clear gC; clear hC; clear a; clear x; clear T; clear kC; clear U; have Y := bD; have fB := cD; have l := dD; have m := eD; have s := fD; have y := gD; have z := oD; have gC := gE; have hC := hE; have a := jE; have x := jD; have T := bG; have kC := cG; have U := dG; clear bD cD dD eD fD gD oD gE hE jE jD bG cG dG
      have nJ : 0 ≤ (O : Int) := od
      have qJ : O < (L.length : Int) := od
      obtain ⟨fJ, vP, bE⟩ := Kd.Dc tD.out O nJ qJ
      have jJ := bE; cases vP
      replace bE := Ae U.out bE
      replace nJ := eq_true nJ; replace qJ := eq_true qJ
      refine Cz (n := 11) (S := fun w' => w'.cell? ⟨c, 0, none⟩ = some (.int .i64 ((AA j d).f0)) ∧ w'.cell? ⟨c, 1, none⟩ = some (.int .i64 ((AA j d).f1.f0)) ∧ w'.cell? ⟨c, 2, none⟩ = some (.int .i64 ((AA j d).f1.f1)) ∧ w'.cell? ⟨c, 3, none⟩ = some (.slice Z ((AA j d).f1.f2).length bB) ∧ w'.cell? ⟨c, 4, none⟩ = some (.slice aB ((AA j d).f1.f3).length cB) ∧ w'.cell? ⟨b, 0, none⟩ = some (.int .i64 qB) ∧ w'.cell? ⟨b, 1, none⟩ = some (.int .i64 sB) ∧ w'.cell? ⟨b, 2, none⟩ = some (.string tB) ∧ w'.cell? ⟨b, 3, none⟩ = some (.slice eC kB.length iC) ∧ w'.cell? ⟨b, 4, none⟩ = some (.slice fC lB.length jC) ∧ w'.cell? ⟨b, 5, none⟩ = some (.int .i64 cC) ∧ w'.cell? ⟨b, 6, none⟩ = some (.int .i64 dC) ∧ w'.cell? ⟨b, 7, none⟩ = some (.slice mC uB.length pC) ∧ w'.cell? ⟨b, 8, none⟩ = some (.slice nC wB.length qC) ∧ w'.cell? ⟨b, 9, none⟩ = some (.slice oC xB.length rC) ∧ w'.cell? ⟨b, 10, none⟩ = some (.int .i64 eB) ∧ w'.cell? ⟨b, 11, none⟩ = some (.slice jB B.length gB) ∧ w'.cell? ⟨b, 12, none⟩ = some (.slice (some fJ) L.length hB) ∧ w'.cell? ⟨b, 13, none⟩ = some (.bool dB) ∧ w'.cell? (fJ.add (O).toNat) = some (.int .i64 (rd L O))) (ds := []) (tf 0 11) (by kernel_rfl) rfl rfl ⟨bc kC 0, bc kC 1, bc kC 2, bc kC 3, bc kC 4, bc a 0, bc a 1, bc a 2, bc a 3, bc a 4, bc a 5, bc a 6, bc a 7, bc a 8, bc a 9, bc a 10, bc a 11, bc a 12, bc a 13, (Ae U.out jJ)⟩ (fun X => ?_); refine Bz AV.Ob AV.NR (fun J rD => ?_)
      generalize o0.drew = m3 at Y fB l m s y z gC hC a x T kC U bE X ⊢
      refine pv 0 47 (tf 1 10) J ?_
      refine pv 2 49 #[true, false, true, false, false, false, false, false, false, false, false] J ?_
      refine pv 4 51 #[true, false, true, false, true, false, false, false, false, false, false] J ?_
      refine pv 6 53 #[true, false, true, false, true, false, true, false, false, false, false] J ?_
      refine Bl (i := 1) (N := some 48) (v := ?_) (a' := ?_) #[true, true, true, false, true, false, true, false, false, false, false] rfl rfl (Aj J.out rD.out (by kernel_rfl)) (fun _ _ _ h => h) (Or.inl ⟨by rfl, ?_⟩) X ?_ ?_
      rotate_left
      ·rintro w' ⟨s0, s1, s2, s3, s4, s5, s6, s7, s8, s9, wE, xE, yE, zE, aF, cF, dF, eF, fF, gF⟩
       go_simp
       with_reducible rfl
      rotate_left
      ·simp only [ps]
       rfl
      refine Bl (i := 3) (N := some 50) (v := ?_) (a' := ?_) #[true, true, true, true, true, false, true, false, false, false, false] rfl rfl (Aj J.out rD.out (by kernel_rfl)) (fun _ _ _ h => h) (Or.inl ⟨by rfl, ?_⟩) X ?_ ?_
      rotate_left
      ·rintro w' ⟨s0, s1, s2, s3, s4, s5, s6, s7, s8, s9, wE, xE, yE, zE, aF, cF, dF, eF, fF, gF⟩
       go_simp
       with_reducible rfl
      rotate_left
      ·simp only [ps]
       rfl
      refine Bl (i := 5) (N := some 52) (v := ?_) (a' := ?_) (tf 7 4) rfl rfl (Aj J.out rD.out (by kernel_rfl)) (fun _ _ _ h => h) (Or.inl ⟨by rfl, ?_⟩) X ?_ ?_
      rotate_left
      ·rintro w' ⟨s0, s1, s2, s3, s4, s5, s6, s7, s8, s9, wE, xE, yE, zE, aF, cF, dF, eF, fF, gF⟩
       go_simp
       with_reducible rfl
      rotate_left
      ·simp only [ps]
       rfl
      refine pv 7 54 (tf 8 3) J ?_
      refine Bl (i := 8) (N := some 55) (v := ?_) (a' := ?_) (tf 9 2) rfl rfl (Aj J.out rD.out (by kernel_rfl)) (fun _ _ _ h => h) (Or.inl ⟨by rfl, ?_⟩) X ?_ ?_
      rotate_left
      ·rintro w' ⟨s0, s1, s2, s3, s4, s5, s6, s7, s8, s9, wE, xE, yE, zE, aF, cF, dF, eF, fF, gF⟩
       go_simp
       with_reducible rfl
      rotate_left
      ·simp only [ps]
       rfl
      refine pv 9 56 (tf 10 1) J ?_
      refine pv 10 57 (tf 11 0) J ?_
      refine Dv (Cu J.out (by kernel_rfl)) ?_
      try go_wp2
      go_roundg k2
      case measure => have := gP.out; have := hP.out; omega
      case rel => exact ⟨(wrap64 (d + 1)), (vC), (wC), (xC), (yC), (u716002), (u716003), rfl, H', ⟨by have := gP.out; have := hP.out; omega⟩, ⟨DL (Kd.Av Y.out (fun _ u => ⟨u.1, ⟨u.2.1, u.2.2.1⟩⟩))⟩, ⟨DL (Kd.Av fB.out (fun _ u => ⟨u.1, ⟨u.2.1, u.2.2.1⟩⟩))⟩, ⟨DC l.out⟩, ⟨BO (Kd.AL m.out (fun _ u => ⟨u.1, ⟨u.2.1, ⟨u.2.2.1, ⟨u.2.2.2.1, ⟨u.2.2.2.2.1, ⟨u.2.2.2.2.2.1, u.2.2.2.2.2.2.1⟩⟩⟩⟩⟩⟩))⟩, ⟨DL (Kd.Av s.out (fun _ u => ⟨u.1, ⟨u.2.1, ⟨u.2.2.1, ⟨u.2.2.2.1, ⟨u.2.2.2.2.1, u.2.2.2.2.2.1⟩⟩⟩⟩⟩))⟩, ⟨BO (Kd.AL y.out (fun _ u => ⟨u.1, ⟨u.2.1, ⟨u.2.2.1, u.2.2.2.1⟩⟩⟩))⟩, ⟨BO (Kd.AL z.out (fun _ u => ⟨u.1, ⟨u.2.1, ⟨u.2.2.1, u.2.2.2.1⟩⟩⟩))⟩, ⟨bu a⟩, ⟨bu x⟩, ⟨bu T⟩, ⟨be4 U I oB kE zI⟩⟩
     have H' := mk0 H
     clear H
     have jI : 0 ≤ (d : Int) := od
     have lI : d < (j.length : Int) := od
     obtain ⟨aD, Z, bB, aB, cB, uP, hQ, iQ, jQ, kJ, lJ, fH, zG, gH, aH⟩ := DV (Kd.DY fB.out).2.2 d jI lI
     cases uP
     obtain ⟨dS, iL, gL, rG⟩ := Kd.K6 fB.out z63 d jI (by first | exact lI | exact of_decide_eq_true (by assumption) | (have e_ := (Kd.DY fB.out).1; omega))
     obtain ⟨pQ, tQ, qQ, uQ, rfl, lF, sE, mF, tE⟩ := DX gL
     have yD := rG 3 _ rfl
     rw [BZ _ _ 3 (by omega)] at yD
     replace yD := Option.some.inj (yD.symm.trans kJ)
     injection yD with hva_ hvn_ hvc_
     rw [hva_] at sE
     rw [hvc_] at lF
     have gC := mk0 (show Kd.V (Kd.int .u8) 73 _ w.heap.size _ _ ((AA j d).f1.f2) from Kd.C8 lF sE)
     clear hva_ hvn_ hvc_ sE lF
     have zD := rG 4 _ rfl
     rw [BZ _ _ 4 (by omega)] at zD
     replace zD := Option.some.inj (zD.symm.trans lJ)
     injection zD with hva_ hvn_ hvc_
     rw [hva_] at tE
     rw [hvc_] at mF
     have hC := mk0 (show Kd.V k30 30 _ w.heap.size _ _ ((AA j d).f1.f3) from Kd.C8 mF tE)
     clear hva_ hvn_ hvc_ tE mF; clear rG iL; have tG := mk0 zG; have lP := mk0 fH; clear zG fH; have uG := mk0 aH; have mP := mk0 gH; clear aH gH; replace jI := eq_true jI; replace lI := eq_true lI
     try go_wp2_with ((with_reducible refine AP rfl (N := 10) rfl (cs := #[.int .i64 0, .int .i64 0, .int .i64 0, .slice none 0 0, .slice none 0 0]) (t := 63) ?hr ?_); (case hr => first | (go_simp; done) | (go_simp; rfl)); intro c hg bI zC hb; obtain ⟨Y, fB, m, s, y, z, gC, hC⟩ := tg8 hg hb Y fB m s y z gC hC; obtain ⟨l, tG, uG⟩ := tb3 hb l tG uG; have kC := mk0 (zC); have zI := bs (be3 U I oB kE) hg; replace U := kh3 U I oB kE hb; have ⟨mE, yH⟩ := nn a hg; have ⟨oE, zH⟩ := nn x hg; have ⟨pE, aI⟩ := nn T hg; obtain ⟨a, x, T⟩ := tb3 hb a x T; clear hb zC hg; have ⟨iA, uA⟩ := no yH mE; have ⟨jA, vA⟩ := no zH oE; have ⟨kA, wA⟩ := no aI pE; have p2 := cells5 kC.out)
     have bD : Aside0 (Kd.N k63 63 (((((bI.setCell ⟨c, 0, none⟩ (.int .i64 ((AA j d).f0))).setCell ⟨c, 1, none⟩ (.int .i64 ((AA j d).f1.f0))).setCell ⟨c, 2, none⟩ (.int .i64 ((AA j d).f1.f1))).setCell ⟨c, 3, none⟩ (.slice Z ((AA j d).f1.f2).length bB)).setCell ⟨c, 4, none⟩ (.slice aB ((AA j d).f1.f3).length cB)) w.heap.size (fun D => D ≠ b ∧ D ≠ G ∧ D ≠ W ∧ D ≠ c) (.slice (some aD) j.length hD) j) := ⟨DL (Kd.Av (nI (q := c) (Kd.Av Y.out (fun D u => (⟨u, u.2⟩ : _ ∧ D ≠ c))) (fun _ u => u.2)) (fun _ u => ⟨u.1.1.1, ⟨u.1.1.2.1, ⟨u.1.1.2.2, u.1.2⟩⟩⟩))⟩
     have cD : Aside0 (Kd.N k63 63 (((((bI.setCell ⟨c, 0, none⟩ (.int .i64 ((AA j d).f0))).setCell ⟨c, 1, none⟩ (.int .i64 ((AA j d).f1.f0))).setCell ⟨c, 2, none⟩ (.int .i64 ((AA j d).f1.f1))).setCell ⟨c, 3, none⟩ (.slice Z ((AA j d).f1.f2).length bB)).setCell ⟨c, 4, none⟩ (.slice aB ((AA j d).f1.f3).length cB)) w.heap.size (fun D => D ≠ b ∧ D ≠ G ∧ D ≠ W ∧ D ≠ c) (.slice (some aD) j.length hD) j) := ⟨DL (Kd.Av (nI (q := c) (Kd.Av fB.out (fun D u => (⟨u, u.2⟩ : _ ∧ D ≠ c))) (fun _ u => u.2)) (fun _ u => ⟨u.1.1.1, ⟨u.1.1.2.1, ⟨u.1.1.2.2, u.1.2⟩⟩⟩))⟩
     have dD : Aside0 (Kd.R (Kd.int .u8) 73 (((((bI.setCell ⟨c, 0, none⟩ (.int .i64 ((AA j d).f0))).setCell ⟨c, 1, none⟩ (.int .i64 ((AA j d).f1.f0))).setCell ⟨c, 2, none⟩ (.int .i64 ((AA j d).f1.f1))).setCell ⟨c, 3, none⟩ (.slice Z ((AA j d).f1.f2).length bB)).setCell ⟨c, 4, none⟩ (.slice aB ((AA j d).f1.f3).length cB)) w.heap.size (fun _ => True) (.slice kD aC.length lD) aC) := ⟨DZ (Kd.BC (rI (q := c) (Kd.Ao l.out kC.out (by decide)) (fun _ u => u.2)) (fun _ u => trivial))⟩
     have eD : Aside0 (Kd.V k30 30 (((((bI.setCell ⟨c, 0, none⟩ (.int .i64 ((AA j d).f0))).setCell ⟨c, 1, none⟩ (.int .i64 ((AA j d).f1.f0))).setCell ⟨c, 2, none⟩ (.int .i64 ((AA j d).f1.f1))).setCell ⟨c, 3, none⟩ (.slice Z ((AA j d).f1.f2).length bB)).setCell ⟨c, 4, none⟩ (.slice aB ((AA j d).f1.f3).length cB)) w.heap.size (fun D => some D ≠ (.slice (some aD) j.length hD : Value).ownBlock ∧ some D ≠ (.slice (some aD) j.length hD : Value).ownBlock ∧ some D ≠ (.slice kD aC.length lD : Value).ownBlock ∧ some D ≠ (.slice sD tC.length uD : Value).ownBlock ∧ D ≠ b ∧ D ≠ G ∧ D ≠ W ∧ D ≠ c) (.slice uF mD.length aG) mD) := ⟨BO (Kd.AL (vI (q := c) (Kd.AL m.out (fun D u => (⟨u, u.2⟩ : _ ∧ D ≠ c))) (fun _ u => u.2)) (fun _ u => ⟨u.1.1.1, ⟨u.1.1.2.1, ⟨u.1.1.2.2.1, ⟨u.1.1.2.2.2.1, ⟨u.1.1.2.2.2.2.1, ⟨u.1.1.2.2.2.2.2.1, ⟨u.1.1.2.2.2.2.2.2, u.1.2⟩⟩⟩⟩⟩⟩⟩))⟩
     have fD : Aside0 (Kd.N k63 63 (((((bI.setCell ⟨c, 0, none⟩ (.int .i64 ((AA j d).f0))).setCell ⟨c, 1, none⟩ (.int .i64 ((AA j d).f1.f0))).setCell ⟨c, 2, none⟩ (.int .i64 ((AA j d).f1.f1))).setCell ⟨c, 3, none⟩ (.slice Z ((AA j d).f1.f2).length bB)).setCell ⟨c, 4, none⟩ (.slice aB ((AA j d).f1.f3).length cB)) w.heap.size (fun D => some D ≠ (.slice (some aD) j.length hD : Value).ownBlock ∧ some D ≠ (.slice (some aD) j.length hD : Value).ownBlock ∧ some D ≠ (.slice kD aC.length lD : Value).ownBlock ∧ D ≠ b ∧ D ≠ G ∧ D ≠ W ∧ D ≠ c) (.slice sD tC.length uD) tC) := ⟨DL (Kd.Av (nI (q := c) (Kd.Av s.out (fun D u => (⟨u, u.2⟩ : _ ∧ D ≠ c))) (fun _ u => u.2)) (fun _ u => ⟨u.1.1.1, ⟨u.1.1.2.1, ⟨u.1.1.2.2.1, ⟨u.1.1.2.2.2.1, ⟨u.1.1.2.2.2.2.1, ⟨u.1.1.2.2.2.2.2, u.1.2⟩⟩⟩⟩⟩⟩))⟩
     have gD : Aside0 (Kd.V (Kd.int .u8) 73 (((((bI.setCell ⟨c, 0, none⟩ (.int .i64 ((AA j d).f0))).setCell ⟨c, 1, none⟩ (.int .i64 ((AA j d).f1.f0))).setCell ⟨c, 2, none⟩ (.int .i64 ((AA j d).f1.f1))).setCell ⟨c, 3, none⟩ (.slice Z ((AA j d).f1.f2).length bB)).setCell ⟨c, 4, none⟩ (.slice aB ((AA j d).f1.f3).length cB)) w.heap.size (fun D => some D ≠ (.slice (some aD) j.length hD : Value).ownBlock ∧ D ≠ b ∧ D ≠ G ∧ D ≠ W ∧ D ≠ c) u716002 xC) := ⟨BO (Kd.AL (vI (q := c) (Kd.AL y.out (fun D u => (⟨u, u.2⟩ : _ ∧ D ≠ c))) (fun _ u => u.2)) (fun _ u => ⟨u.1.1.1, ⟨u.1.1.2.1, ⟨u.1.1.2.2.1, ⟨u.1.1.2.2.2, u.1.2⟩⟩⟩⟩))⟩
     have oD : Aside0 (Kd.V k30 30 (((((bI.setCell ⟨c, 0, none⟩ (.int .i64 ((AA j d).f0))).setCell ⟨c, 1, none⟩ (.int .i64 ((AA j d).f1.f0))).setCell ⟨c, 2, none⟩ (.int .i64 ((AA j d).f1.f1))).setCell ⟨c, 3, none⟩ (.slice Z ((AA j d).f1.f2).length bB)).setCell ⟨c, 4, none⟩ (.slice aB ((AA j d).f1.f3).length cB)) w.heap.size (fun D => some D ≠ (.slice (some aD) j.length hD : Value).ownBlock ∧ D ≠ b ∧ D ≠ G ∧ D ≠ W ∧ D ≠ c) u716003 yC) := ⟨BO (Kd.AL (vI (q := c) (Kd.AL z.out (fun D u => (⟨u, u.2⟩ : _ ∧ D ≠ c))) (fun _ u => u.2)) (fun _ u => ⟨u.1.1.1, ⟨u.1.1.2.1, ⟨u.1.1.2.2.1, ⟨u.1.1.2.2.2, u.1.2⟩⟩⟩⟩))⟩
     have gE : Aside0 (Kd.V (Kd.int .u8) 73 (((((bI.setCell ⟨c, 0, none⟩ (.int .i64 ((AA j d).f0))).setCell ⟨c, 1, none⟩ (.int .i64 ((AA j d).f1.f0))).setCell ⟨c, 2, none⟩ (.int .i64 ((AA j d).f1.f1))).setCell ⟨c, 3, none⟩ (.slice Z ((AA j d).f1.f2).length bB)).setCell ⟨c, 4, none⟩ (.slice aB ((AA j d).f1.f3).length cB)) w.heap.size (fun D => some D ≠ (.slice (some aD) j.length hD : Value).ownBlock ∧ D ≠ b ∧ D ≠ G ∧ D ≠ W ∧ D ≠ c) (.slice Z ((AA j d).f1.f2).length bB) ((AA j d).f1.f2)) := ⟨BO (Kd.AL (vI (q := c) (Kd.AL gC.out (fun D u => (⟨u, u.2⟩ : _ ∧ D ≠ c))) (fun _ u => u.2)) (fun _ u => ⟨u.1.1.2, ⟨u.1.1.1.1, ⟨u.1.1.1.2.1, ⟨u.1.1.1.2.2, u.1.2⟩⟩⟩⟩))⟩
     have hE : Aside0 (Kd.V k30 30 (((((bI.setCell ⟨c, 0, none⟩ (.int .i64 ((AA j d).f0))).setCell ⟨c, 1, none⟩ (.int .i64 ((AA j d).f1.f0))).setCell ⟨c, 2, none⟩ (.int .i64 ((AA j d).f1.f1))).setCell ⟨c, 3, none⟩ (.slice Z ((AA j d).f1.f2).length bB)).setCell ⟨c, 4, none⟩ (.slice aB ((AA j d).f1.f3).length cB)) w.heap.size (fun D => some D ≠ (.slice (some aD) j.length hD : Value).ownBlock ∧ D ≠ b ∧ D ≠ G ∧ D ≠ W ∧ D ≠ c) (.slice aB ((AA j d).f1.f3).length cB) ((AA j d).f1.f3)) := ⟨BO (Kd.AL (vI (q := c) (Kd.AL hC.out (fun D u => (⟨u, u.2⟩ : _ ∧ D ≠ c))) (fun _ u => u.2)) (fun _ u => ⟨u.1.1.2, ⟨u.1.1.1.1, ⟨u.1.1.1.2.1, ⟨u.1.1.1.2.2, u.1.2⟩⟩⟩⟩))⟩
     have jE : Aside0 ((((((bI.setCell ⟨c, 0, none⟩ (.int .i64 ((AA j d).f0))).setCell ⟨c, 1, none⟩ (.int .i64 ((AA j d).f1.f0))).setCell ⟨c, 2, none⟩ (.int .i64 ((AA j d).f1.f1))).setCell ⟨c, 3, none⟩ (.slice Z ((AA j d).f1.f2).length bB)).setCell ⟨c, 4, none⟩ (.slice aB ((AA j d).f1.f3).length cB)).heap[b]? = some (.cells #[.int .i64 qB, .int .i64 sB, .string tB, .slice eC kB.length iC, .slice fC lB.length jC, .int .i64 cC, .int .i64 dC, .slice mC uB.length pC, .slice nC wB.length qC, .slice oC xB.length rC, .int .i64 eB, .slice jB B.length gB, .slice mB L.length hB, .bool dB] 40 (0, 0))) := ⟨bF mE a⟩
     have jD : Aside0 ((((((bI.setCell ⟨c, 0, none⟩ (.int .i64 ((AA j d).f0))).setCell ⟨c, 1, none⟩ (.int .i64 ((AA j d).f1.f0))).setCell ⟨c, 2, none⟩ (.int .i64 ((AA j d).f1.f1))).setCell ⟨c, 3, none⟩ (.slice Z ((AA j d).f1.f2).length bB)).setCell ⟨c, 4, none⟩ (.slice aB ((AA j d).f1.f3).length cB)).heap[G]? = some (.cells #[.int .i64 qF, .int .i64 rF, .slice kD aC.length lD, .slice uF mD.length aG, .slice sD tC.length uD] 33 (0, 0))) := ⟨bF oE x⟩
     have bG : Aside0 ((((((bI.setCell ⟨c, 0, none⟩ (.int .i64 ((AA j d).f0))).setCell ⟨c, 1, none⟩ (.int .i64 ((AA j d).f1.f0))).setCell ⟨c, 2, none⟩ (.int .i64 ((AA j d).f1.f1))).setCell ⟨c, 3, none⟩ (.slice Z ((AA j d).f1.f2).length bB)).setCell ⟨c, 4, none⟩ (.slice aB ((AA j d).f1.f3).length cB)).heap[W]? = some (.cells #[.int .i64 vC, .int .i64 wC, u716002, u716003] 30 (0, 0))) := ⟨bF pE T⟩
     have cG : Aside0 ((((((bI.setCell ⟨c, 0, none⟩ (.int .i64 ((AA j d).f0))).setCell ⟨c, 1, none⟩ (.int .i64 ((AA j d).f1.f0))).setCell ⟨c, 2, none⟩ (.int .i64 ((AA j d).f1.f1))).setCell ⟨c, 3, none⟩ (.slice Z ((AA j d).f1.f2).length bB)).setCell ⟨c, 4, none⟩ (.slice aB ((AA j d).f1.f3).length cB)).heap[c]? = some (.cells #[.int .i64 ((AA j d).f0), .int .i64 ((AA j d).f1.f0), .int .i64 ((AA j d).f1.f1), .slice Z ((AA j d).f1.f2).length bB, .slice aB ((AA j d).f1.f3).length cB] 63 (0, 0))) := ⟨pB kC⟩
     have dG : Aside0 (Below w.heap.size w (((((bI.setCell ⟨c, 0, none⟩ (.int .i64 ((AA j d).f0))).setCell ⟨c, 1, none⟩ (.int .i64 ((AA j d).f1.f0))).setCell ⟨c, 2, none⟩ (.int .i64 ((AA j d).f1.f1))).setCell ⟨c, 3, none⟩ (.slice Z ((AA j d).f1.f2).length bB)).setCell ⟨c, 4, none⟩ (.slice aB ((AA j d).f1.f3).length cB))) := ⟨be4 U I oB kE zI⟩
     try clear Y
     try clear fB
     try clear l
     try clear m
     try clear s
     try clear y
     try clear z
     try clear gC
     try clear hC
     try clear a
     try clear x
     try clear T
     try clear kC
     try clear U
     generalize (((((bI.setCell ⟨c, 0, none⟩ (.int .i64 ((AA j d).f0))).setCell ⟨c, 1, none⟩ (.int .i64 ((AA j d).f1.f0))).setCell ⟨c, 2, none⟩ (.int .i64 ((AA j d).f1.f1))).setCell ⟨c, 3, none⟩ (.slice Z ((AA j d).f1.f2).length bB)).setCell ⟨c, 4, none⟩ (.slice aB ((AA j d).f1.f3).length cB)) = n0 at bD cD dD eD fD gD oD gE hE jE jD bG cG dG ⊢
     have Y := bD; have fB := cD; have l := dD; have m := eD; have s := fD; have y := gD; have z := oD; have gC := gE; have hC := hE; have a := jE; have x := jD; have T := bG; have kC := cG; have U := dG; clear bD cD dD eD fD gD oD gE hE jE jD bG cG dG
     have bD := mk0 (Kd.DR Y.out)
     have cD := mk0 (Kd.DR fB.out)
     have dD := mk0 (Kd.ED l.out)
     have eD := mk0 (Kd.BU m.out)
     have fD := mk0 (Kd.DR s.out)
     have gD := mk0 (Kd.BU y.out)
     have oD := mk0 (Kd.BU z.out)
     have gE := mk0 (Kd.BU gC.out)
     have hE := mk0 (Kd.BU hC.out)
     have jE := mk0 (AX a.out)
     have jD := mk0 (AX x.out)
     have bG := mk0 (AX T.out)
     have cG := mk0 (AX kC.out)
     have dG := mk0 (Ad U.out)
     clear Y; clear fB; clear l; clear m; clear s; clear y; clear z; clear gC; clear hC; clear a; clear x; clear T; clear kC; clear U; have Y := bD; have fB := cD; have l := dD; have m := eD; have s := fD; have y := gD; have z := oD; have gC := gE; have hC := hE; have a := jE; have x := jD; have T := bG; have kC := cG; have U := dG; clear bD cD dD eD fD gD oD gE hE jE jD bG cG dG
     have nJ : 0 ≤ (O : Int) := od
     have qJ : O < (L.length : Int) := od
     obtain ⟨fJ, vP, bE⟩ := Kd.Dc tD.out O nJ qJ
     have jJ := bE; cases vP
     replace bE := Ae U.out bE
     replace nJ := eq_true nJ; replace qJ := eq_true qJ
     refine Cz (n := 11) (S := fun w' => w'.cell? ⟨c, 0, none⟩ = some (.int .i64 ((AA j d).f0)) ∧ w'.cell? ⟨c, 1, none⟩ = some (.int .i64 ((AA j d).f1.f0)) ∧ w'.cell? ⟨c, 2, none⟩ = some (.int .i64 ((AA j d).f1.f1)) ∧ w'.cell? ⟨c, 3, none⟩ = some (.slice Z ((AA j d).f1.f2).length bB) ∧ w'.cell? ⟨c, 4, none⟩ = some (.slice aB ((AA j d).f1.f3).length cB) ∧ w'.cell? ⟨b, 0, none⟩ = some (.int .i64 qB) ∧ w'.cell? ⟨b, 1, none⟩ = some (.int .i64 sB) ∧ w'.cell? ⟨b, 2, none⟩ = some (.string tB) ∧ w'.cell? ⟨b, 3, none⟩ = some (.slice eC kB.length iC) ∧ w'.cell? ⟨b, 4, none⟩ = some (.slice fC lB.length jC) ∧ w'.cell? ⟨b, 5, none⟩ = some (.int .i64 cC) ∧ w'.cell? ⟨b, 6, none⟩ = some (.int .i64 dC) ∧ w'.cell? ⟨b, 7, none⟩ = some (.slice mC uB.length pC) ∧ w'.cell? ⟨b, 8, none⟩ = some (.slice nC wB.length qC) ∧ w'.cell? ⟨b, 9, none⟩ = some (.slice oC xB.length rC) ∧ w'.cell? ⟨b, 10, none⟩ = some (.int .i64 eB) ∧ w'.cell? ⟨b, 11, none⟩ = some (.slice jB B.length gB) ∧ w'.cell? ⟨b, 12, none⟩ = some (.slice (some fJ) L.length hB) ∧ w'.cell? ⟨b, 13, none⟩ = some (.bool dB) ∧ w'.cell? (fJ.add (O).toNat) = some (.int .i64 (rd L O))) (ds := []) (tf 0 11) (by kernel_rfl) rfl rfl ⟨bc kC 0, bc kC 1, bc kC 2, bc kC 3, bc kC 4, bc a 0, bc a 1, bc a 2, bc a 3, bc a 4, bc a 5, bc a 6, bc a 7, bc a 8, bc a 9, bc a 10, bc a 11, bc a 12, bc a 13, (Ae U.out jJ)⟩ (fun X => ?_); refine Bz AV.Ob AV.NR (fun J rD => ?_)
     generalize n0.drew = l3 at Y fB l m s y z gC hC a x T kC U bE X ⊢
     refine pv 0 47 (tf 1 10) J ?_
     refine pv 2 49 #[true, false, true, false, false, false, false, false, false, false, false] J ?_
     refine pv 4 51 #[true, false, true, false, true, false, false, false, false, false, false] J ?_
     refine pv 6 53 #[true, false, true, false, true, false, true, false, false, false, false] J ?_
     refine Bl (i := 1) (N := some 48) (v := ?_) (a' := ?_) #[true, true, true, false, true, false, true, false, false, false, false] rfl rfl (Aj J.out rD.out (by kernel_rfl)) (fun _ _ _ h => h) (Or.inl ⟨by rfl, ?_⟩) X ?_ ?_
     rotate_left
     ·rintro w' ⟨s0, s1, s2, s3, s4, s5, s6, s7, s8, s9, wE, xE, yE, zE, aF, cF, dF, eF, fF, gF⟩
      go_simp
      with_reducible rfl
     rotate_left
     ·simp only [ps]
      rfl
     refine Bl (i := 3) (N := some 50) (v := ?_) (a' := ?_) #[true, true, true, true, true, false, true, false, false, false, false] rfl rfl (Aj J.out rD.out (by kernel_rfl)) (fun _ _ _ h => h) (Or.inl ⟨by rfl, ?_⟩) X ?_ ?_
     rotate_left
     ·rintro w' ⟨s0, s1, s2, s3, s4, s5, s6, s7, s8, s9, wE, xE, yE, zE, aF, cF, dF, eF, fF, gF⟩
      go_simp
      with_reducible rfl
     rotate_left
     ·simp only [ps]
      rfl
     refine Bl (i := 5) (N := some 52) (v := ?_) (a' := ?_) (tf 7 4) rfl rfl (Aj J.out rD.out (by kernel_rfl)) (fun _ _ _ h => h) (Or.inl ⟨by rfl, ?_⟩) X ?_ ?_
     rotate_left
     ·rintro w' ⟨s0, s1, s2, s3, s4, s5, s6, s7, s8, s9, wE, xE, yE, zE, aF, cF, dF, eF, fF, gF⟩
      go_simp
      with_reducible rfl
     rotate_left
     ·simp only [ps]
      rfl
     refine pv 7 54 (tf 8 3) J ?_
     refine Bl (i := 8) (N := some 55) (v := ?_) (a' := ?_) (tf 9 2) rfl rfl (Aj J.out rD.out (by kernel_rfl)) (fun _ _ _ h => h) (Or.inl ⟨by rfl, ?_⟩) X ?_ ?_
     rotate_left
     ·rintro w' ⟨s0, s1, s2, s3, s4, s5, s6, s7, s8, s9, wE, xE, yE, zE, aF, cF, dF, eF, fF, gF⟩
      go_simp
      with_reducible rfl
     rotate_left
     ·simp only [ps]
      rfl
     refine pv 9 56 (tf 10 1) J ?_
     refine pv 10 57 (tf 11 0) J ?_
     refine Dv (Cu J.out (by kernel_rfl)) ?_
     have q2 := cells5 kC.out
     have ⟨lA, xA⟩ := no cJ oG; have ⟨mA, yA⟩ := no dJ pG
     have r2 := BN T.out
     try go_wp2
     go_roundg k2
     case measure => have := gP.out; have := hP.out; omega
     case rel => exact ⟨(wrap64 (d + 1)), ((AA j d).f1.f0), ((AA j d).f1.f1), ((AA j d).f1.f2), ((AA j d).f1.f3), (.slice Z ((AA j d).f1.f2).length bB), (.slice aB ((AA j d).f1.f3).length cB), rfl, H', ⟨by have := gP.out; have := hP.out; omega⟩, ⟨DL (Kd.Av (nI (q := W) (Kd.Av Y.out (fun D u => (⟨u, u.2.2.1⟩ : _ ∧ D ≠ W))) (fun _ u => u.2)) (fun _ u => ⟨u.1.1, ⟨u.1.2.1, u.1.2.2.1⟩⟩))⟩, ⟨DL (Kd.Av (nI (q := W) (Kd.Av fB.out (fun D u => (⟨u, u.2.2.1⟩ : _ ∧ D ≠ W))) (fun _ u => u.2)) (fun _ u => ⟨u.1.1, ⟨u.1.2.1, u.1.2.2.1⟩⟩))⟩, ⟨DZ (Kd.BC (rI (q := W) (Kd.Ao l.out T.out (by decide)) (fun _ u => u.2)) (fun _ u => trivial))⟩, ⟨BO (Kd.AL (vI (q := W) (Kd.AL m.out (fun D u => (⟨u, u.2.2.2.2.2.2.1⟩ : _ ∧ D ≠ W))) (fun _ u => u.2)) (fun _ u => ⟨u.1.1, ⟨u.1.2.1, ⟨u.1.2.2.1, ⟨u.1.2.2.2.1, ⟨u.1.2.2.2.2.1, ⟨u.1.2.2.2.2.2.1, u.1.2.2.2.2.2.2.1⟩⟩⟩⟩⟩⟩))⟩, ⟨DL (Kd.Av (nI (q := W) (Kd.Av s.out (fun D u => (⟨u, u.2.2.2.2.2.1⟩ : _ ∧ D ≠ W))) (fun _ u => u.2)) (fun _ u => ⟨u.1.1, ⟨u.1.2.1, ⟨u.1.2.2.1, ⟨u.1.2.2.2.1, ⟨u.1.2.2.2.2.1, u.1.2.2.2.2.2.1⟩⟩⟩⟩⟩))⟩, ⟨BO (Kd.AL (vI (q := W) (Kd.AL gC.out (fun D u => (⟨u, u.2.2.2.1⟩ : _ ∧ D ≠ W))) (fun _ u => u.2)) (fun _ u => ⟨u.1.1, ⟨u.1.2.1, ⟨u.1.2.2.1, u.1.2.2.2.1⟩⟩⟩))⟩, ⟨BO (Kd.AL (vI (q := W) (Kd.AL hC.out (fun D u => (⟨u, u.2.2.2.1⟩ : _ ∧ D ≠ W))) (fun _ u => u.2)) (fun _ u => ⟨u.1.1, ⟨u.1.2.1, ⟨u.1.2.2.1, u.1.2.2.2.1⟩⟩⟩))⟩, ⟨bF oG a⟩, ⟨bF pG x⟩, ⟨pB T⟩, ⟨be4 U I oB kE zI⟩⟩
end Go.Proofs.Ytojankgmedccdaa.PGn
