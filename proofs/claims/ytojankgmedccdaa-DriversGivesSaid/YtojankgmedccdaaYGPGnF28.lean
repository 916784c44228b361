/- Lemmas for LawDriversGives. -/
import Derived.Test.YtojankgmedccdaaYGPGnx0
import Derived.Test.YtojankgmedccdaaYGHandV
namespace Go.Proofs.Ytojankgmedccdaa.PGn
open Go.RowKit Own PTy Hand PIs PAw YtojankgmedccdaaW.PrintWords YtojankgmedccdaaW.PrintLast YtojankgmedccdaaW.PrintMore
attribute [local go_sem] BI BJ Be Bf Ar Au BK BL
set_option linter.unusedVariables false
set_option linter.unusedSimpArgs false
mutual
def Ak.j0 : Nat → Int → Bool → Int → Int → List Int → List (S30) → List (S63) → Option (Int × Int × List Int × (List (S30)) × (List (S63)) × Bool × Int)
 | 0, _, _, _, _, _, _, _ => none
 | k + 1, x2, x20, b, c, d, e, a => if x20 = true then (some (0, 0, ([] : List Int), ([] : List (S30)), ([] : List (S63)), false, 2)) else ((drivers_behind.f b c d e a x2).bind fun i => (if i = true then (some (0, 0, ([] : List Int), ([] : List (S30)), ([] : List (S63)), false, 5)) else (if (a.length : Int) = 0 then (Ak.j1 k true b c d e a) else (if 0 < (a.length : Int) then (Ak.j1 k (((AA a 0).f0) != x2) b c d e a) else (none)))))
def Ak.j1 : Nat → Bool → Int → Int → List Int → List (S30) → List (S63) → Option (Int × Int × List Int × (List (S30)) × (List (S63)) × Bool × Int)
 | 0, _, _, _, _, _, _ => none
 | k + 1, x38, b, c, d, e, a => if x38 = true then ((drivers_copied.f b c d e).bind fun g => ((drivers_all.f k a).bind fun t227 => (some (g.1, g.2.1, g.2.2.1, g.2.2.2, t227, false, 0)))) else (if 0 < (a.length : Int) then ((drivers_copied.f ((AA a 0).f1.f0) ((AA a 0).f1.f1) ((AA a 0).f1.f2) ((AA a 0).f1.f3)).bind fun h => (if 1 ≤ (a.length : Int) then ((drivers_all.f k (a.drop 1)).bind fun j => (some (h.1, h.2.1, h.2.2.1, h.2.2.2, j, true, 0))) else (none))) else (none))
end
def Ak.f (k : Nat) (g : Int) (h : Int) (i : ByteArray) (l : List ByteArray) (m : List (S26)) (a : Int) (b : Int) (c : List Int) (d : List (S30)) (e : List (S63)) (j : Int) : Option (Int × Int × List Int × (List (S30)) × (List (S63)) × Bool × Int) := (Aq.f k g h i l m a b c d e).bind fun n => (if n = true then (if j < 0 then (Ak.j0 k j true a b c d e) else (Ak.j0 k j (decide (j > 2000000)) a b c d e)) else (Ak.j0 k j true a b c d e))
def Ak.T6 : Bool × List (List Nat × List Nat) := (true, [([], []), ([0], [0]), ([1], [1]), ([], []), ([3], [3]), ([4, 2], [4]), ([2, 5], [2, 5]), ([6, 5, 0, 1, 2, 3, 4, 5, 6], [6]), ([7, 0, 1, 2, 3, 4, 5, 6, 7], []), ([8, 0, 1, 2, 3, 4, 5, 6, 7, 8], [])])
def Ak.B6 : List Nat := [0, 1, 3, 0, 8, 31, 63, 127, 255, 511]
theorem Ak.OC : Ct .any (opsOf Try.f28 6) = Ak.T6 := by kernel_rfl
theorem Ak.LF : CW Ak.T6.2 Ak.B6 = true := by kernel_rfl
def Ak.T7 : Bool × List (List Nat × List Nat) := (true, [([], []), ([0], [0]), ([1], [1]), ([2], [2]), ([3], [3]), ([4], [4]), ([], []), ([6], [6]), ([7], [7]), ([8, 5], [8]), ([5, 9], [5, 9]), ([10, 9, 0, 1, 2, 3, 4, 5, 6, 7, 8, 9, 10], [10]), ([11, 0, 1, 2, 3, 4, 5, 6, 7, 8, 9, 10, 11], []), ([12, 0, 1, 2, 3, 4, 5, 6, 7, 8, 9, 10, 11, 12], [])])
def Ak.B7 : List Nat := [0, 1, 3, 7, 15, 31, 0, 64, 192, 511, 1023, 2047, 4095, 8191]
theorem Ak.Qm : Ct .any (opsOf Try.f28 7) = Ak.T7 := by kernel_rfl
theorem Ak.Pn : CW Ak.T7.2 Ak.B7 = true := by kernel_rfl
set_option maxHeartbeats 8000000 in
set_option maxRecDepth 100000 in
theorem Ak.calls (k : Nat) (fC : Int) (gC : Int) (hC : ByteArray) (tC : Option Addr) (vC : Nat) (zB : List ByteArray) (uC : Option Addr) (wC : Nat) (aC : List (S26)) (qB : Int) (sB : Int) (dC : Option Addr) (iC : Nat) (jB : List Int) (aB : Nat → Prop) (uB : Option Addr) (yB : Nat) (Y : List (S30)) (bB : Nat → Prop) (eC : Option Addr) (hB : Nat) (y : List (S63)) (a2 : Int) (r1 : Int) (r2 : Int) (r3 : List Int) (r4 : List (S30)) (r5 : List (S63)) (r6 : Bool) (r7 : Int) (w : World) (hG : D8 w) (kG : Kd.C Kd.string w tC zB.length zB) (eG : zB.length ≤ vC) (lG : Kd.C k26 w uC aC.length aC) (fG : aC.length ≤ wC) (mG : Kd.C (Kd.int .u8) w dC jB.length jB) (gG : jB.length ≤ iC) (vH : Kd.V k30 30 w w.heap.size (fun D => aB D) (.slice uB Y.length yB) Y) (wH : Kd.V k63 63 w w.heap.size (fun D => bB D) (.slice eC y.length hB) y) (h : Ak.f k fC gC hC zB aC qB sB jB Y y a2 = some (r1, r2, r3, r4, r5, r6, r7)) :
  Calls Try.prog 28 #[.agg #[.int .i64 fC, .int .i64 gC, .string hC, .slice tC zB.length vC, .slice uC aC.length wC], .agg #[.int .i64 qB, .int .i64 sB, .slice dC jB.length iC, .slice uB Y.length yB, .slice eC y.length hB], .int .i64 a2] w fun e w' => ∃ aH gL fI : Value, e = .returned (.tuple #[.agg #[.int .i64 r1, .int .i64 r2, aH, gL, fI], .bool r6, .int .i64 r7]) ∧ Kd.R (Kd.int .u8) 73 w' w.heap.size (fun D => (w.heap.size ≤ D)) aH r3 ∧ Kd.V k30 30 w' w.heap.size (fun D => ((aB D ∨ bB D) ∨ w.heap.size ≤ D) ∧ some D ≠ (aH : Value).ownBlock ∧ some D ≠ (fI : Value).ownBlock) gL r4 ∧ Kd.N k63 63 w' w.heap.size (fun D => ((aB D ∨ bB D) ∨ w.heap.size ≤ D) ∧ some D ≠ (aH : Value).ownBlock) fI r5 ∧ Below w.heap.size w w' := by
 have HG := mk0 hG; clear hG
 have zO := Try.underlying26
 have bP := Try.underlying33
 have aP := Try.underlying30
 have cF := mk0 kG; have zE := mk0 eG; clear kG eG; have dF := mk0 lG; have aF := mk0 fG; clear lG fG; have jD := mk0 mG; have fD := mk0 gG; clear mG gG
 have U := mk0 (show Kd.V k30 30 w w.heap.size (fun D => ((aB D ∨ bB D) ∨ w.heap.size ≤ D)) (.slice uB Y.length yB) Y from Kd.AL vH (fun D r => .inl (.inl r)))
 have W := mk0 (show Kd.V k63 63 w w.heap.size (fun D => ((aB D ∨ bB D) ∨ w.heap.size ≤ D)) (.slice eC y.length hB) y from Kd.AL wH (fun D r => .inl (.inr r)))
 have X := mk0 (Below.refl w.heap.size w)
 have H := h; unfold Ak.f at H
 clear h; have sH := mk0 H; clear H
 go_enter Try.func28, Try.ntmps28
 go_upto_region 1 with (first | ((with_reducible refine AP rfl (N := 3) rfl (cs := #[.int .i64 fC, .int .i64 gC, .string hC, .slice tC zB.length vC, .slice uC aC.length wC]) (t := 26) ?hr ?_); (case hr => first | (go_simp; done) | (go_simp; rfl)); intro Z hg w5 kD T; obtain ⟨U, W⟩ := tg2 hg T U W; have u := mk0 (kD); have z := bs (be X) hg; replace X := kh X T; clear T kD hg) | ((with_reducible refine AP rfl (N := 4) rfl (cs := #[.int .i64 qB, .int .i64 sB, .slice dC jB.length iC, .slice uB Y.length yB, .slice eC y.length hB]) (t := 33) ?hr ?_); (case hr => first | (go_simp; done) | (go_simp; rfl)); intro O hg w6 kD T; obtain ⟨U, W⟩ := tg2 hg T U W; have j := mk0 (kD); have G := bs (be1 X z) hg; replace X := kh1 X z T; have ⟨fB, gB⟩ := nn u hg; replace u := kb u T; clear T kD hg) | ((with_reducible refine AP rfl (N := 6) rfl (cs := #[.int .i64 0, .int .i64 0, .slice none 0 0, .slice none 0 0, .slice none 0 0]) (t := 33) ?hr ?_); (case hr => first | (go_simp; done) | (go_simp; rfl)); intro d hg w7 kD T; obtain ⟨U, W⟩ := tg2 hg T U W; have l := mk0 (kD); have I := bs (be2 X z G) hg; replace X := kh2 X z G T; have ⟨J, L⟩ := nn u hg; have ⟨b, B⟩ := nn j hg; obtain ⟨u, j⟩ := tb2 T u j; clear T kD hg))
 (try simp only [Act.put, List.setIfInBounds_toArray, List.set_cons_zero, List.set_cons_succ])
 go_cut [20] (fun v20 wc => ∃ (kq : Nat) (eF : Bool), v20 = .bool eF ∧ Aside0 (Ak.j0 kq a2 eF qB sB jB Y y = some (r1, r2, r3, r4, r5, r6, r7)) ∧ Aside0 (kq ≤ k) ∧ Aside0 (Kd.V k30 30 wc w.heap.size (fun D => ((aB D ∨ bB D) ∨ w.heap.size ≤ D) ∧ D ≠ Z ∧ D ≠ O ∧ D ≠ d) (.slice uB Y.length yB) Y) ∧ Aside0 (Kd.V k63 63 wc w.heap.size (fun D => ((aB D ∨ bB D) ∨ w.heap.size ≤ D) ∧ D ≠ Z ∧ D ≠ O ∧ D ≠ d) (.slice eC y.length hB) y) ∧ Aside0 (wc.heap[Z]? = some (.cells #[.int .i64 fC, .int .i64 gC, .string hC, (.slice tC zB.length vC), (.slice uC aC.length wC)] 26 (0, 0))) ∧ Aside0 (wc.heap[O]? = some (.cells #[.int .i64 qB, .int .i64 sB, (.slice dC jB.length iC), (.slice uB Y.length yB), (.slice eC y.length hB)] 33 (0, 0))) ∧ Aside0 (wc.heap[d]? = some (.cells #[.int .i64 0, .int .i64 0, (.slice none 0 0), (.slice none 0 0), (.slice none 0 0)] 33 (0, 0))) ∧ Aside0 (Below w.heap.size w wc))
 case first =>
  have H := sH.out; clear sH
  replace H := bS H; obtain ⟨iP, A8, H⟩ := H
  replace H := iB' H; obtain ⟨rfl, H⟩ | ⟨rfl, H⟩ := H
  ·have H' := mk0 H
   clear H; have ⟨zM, uN⟩ := no fB gB; have ⟨aN, vN⟩ := no J L
   have oP := cells5 u.out
   have ⟨bN, wN⟩ := no b B
   have pP := cells5 j.out
   go_wp2_with ((with_reducible refine AR (f := 19) rfl ?_); refine CO Try.func19 (Aq.calls k fC gC hC _ _ zB _ _ aC qB sB _ _ jB _ _ Y _ _ y false _ (AZ HG.out (be3 X z G I)) (cu cF X) zE.out (cu dF X) aF.out (cu jD X) fD.out (Cg (Kd.AO U.out).2.2) ((Kd.AO U.out).2.1) (Cg (Kd.AO W.out).2.2) ((Kd.AO W.out).2.1) A8.out) ?_; intro bQ T; replace U := vb U T; replace W := vb W T; obtain ⟨u, j, l⟩ := tb3 T u j l; replace X := kh3 X z G I T)
   go_meet
   case rel => exact ⟨_, (true), rfl, H', ⟨by omega⟩, ⟨BO (Kd.AL U.out (fun _ r => ⟨r.1.1.1, ⟨r.1.1.2, ⟨r.1.2, r.2⟩⟩⟩))⟩, ⟨BO (Kd.AL W.out (fun _ r => ⟨r.1.1.1, ⟨r.1.1.2, ⟨r.1.2, r.2⟩⟩⟩))⟩, ⟨bu u⟩, ⟨bu j⟩, ⟨bu l⟩, ⟨be3 X z G I⟩⟩
  replace H := iD' H; obtain ⟨-, nD, H⟩ | ⟨-, nD, H⟩ := H
  ·(first | rw [nD] | (simp only [CP, Dj]; rw [nD]) | skip)
   have H' := mk0 H
   clear H; have ⟨wM, rN⟩ := no fB gB; have ⟨xM, sN⟩ := no J L
   have mP := cells5 u.out
   have ⟨yM, tN⟩ := no b B
   have nP := cells5 j.out
   go_wp2_with ((with_reducible refine AR (f := 19) rfl ?_); refine CO Try.func19 (Aq.calls k fC gC hC _ _ zB _ _ aC qB sB _ _ jB _ _ Y _ _ y true _ (AZ HG.out (be3 X z G I)) (cu cF X) zE.out (cu dF X) aF.out (cu jD X) fD.out (Cg (Kd.AO U.out).2.2) ((Kd.AO U.out).2.1) (Cg (Kd.AO W.out).2.2) ((Kd.AO W.out).2.1) A8.out) ?_; intro aQ T; replace U := vb U T; replace W := vb W T; obtain ⟨u, j, l⟩ := tb3 T u j l; replace X := kh3 X z G I T)
   go_meet
   case rel => exact ⟨_, (decide (a2 > 2000000)), rfl, H', ⟨by omega⟩, ⟨BO (Kd.AL U.out (fun _ r => ⟨r.1.1.1, ⟨r.1.1.2, ⟨r.1.2, r.2⟩⟩⟩))⟩, ⟨BO (Kd.AL W.out (fun _ r => ⟨r.1.1.1, ⟨r.1.1.2, ⟨r.1.2, r.2⟩⟩⟩))⟩, ⟨bu u⟩, ⟨bu j⟩, ⟨bu l⟩, ⟨be3 X z G I⟩⟩
  (first | rw [nD] | (simp only [CP, Dj]; rw [nD]) | skip)
  have H' := mk0 H
  clear H; have ⟨tM, oN⟩ := no fB gB; have ⟨uM, pN⟩ := no J L
  have kP := cells5 u.out
  have ⟨vM, qN⟩ := no b B
  have lP := cells5 j.out
  go_wp2_with ((with_reducible refine AR (f := 19) rfl ?_); refine CO Try.func19 (Aq.calls k fC gC hC _ _ zB _ _ aC qB sB _ _ jB _ _ Y _ _ y true _ (AZ HG.out (be3 X z G I)) (cu cF X) zE.out (cu dF X) aF.out (cu jD X) fD.out (Cg (Kd.AO U.out).2.2) ((Kd.AO U.out).2.1) (Cg (Kd.AO W.out).2.2) ((Kd.AO W.out).2.1) A8.out) ?_; intro zP T; replace U := vb U T; replace W := vb W T; obtain ⟨u, j, l⟩ := tb3 T u j l; replace X := kh3 X z G I T)
  go_meet
  case rel => exact ⟨_, (true), rfl, H', ⟨by omega⟩, ⟨BO (Kd.AL U.out (fun _ r => ⟨r.1.1.1, ⟨r.1.1.2, ⟨r.1.2, r.2⟩⟩⟩))⟩, ⟨BO (Kd.AL W.out (fun _ r => ⟨r.1.1.1, ⟨r.1.1.2, ⟨r.1.2, r.2⟩⟩⟩))⟩, ⟨bu u⟩, ⟨bu j⟩, ⟨bu l⟩, ⟨be3 X z G I⟩⟩
 case rest =>
  clear sH
  obtain ⟨kq, eF, rfl, HA, tI, s, a, u, j, l, X⟩ := hcut
  cases kq with
  | zero => exact absurd HA.out (by simp [Ak.j0])
  | succ iO =>
   have H := HA.out; clear HA
   simp only [Ak.j0] at H
   replace H := iB H; obtain ⟨rfl, H⟩ | ⟨rfl, H⟩ := H
   ·simp only [Option.some.injEq, Prod.mk.injEq] at H
    obtain ⟨rfl, rfl, rfl, rfl, rfl, rfl, rfl⟩ := H
    have ⟨cN, xN⟩ := no L J; have ⟨dN, yN⟩ := no B b
    have qP := cells5 l.out
    go_wp2
    refine bodyPost_ret (Eo rfl _ _ d 33 #[.int .i64 0, .int .i64 0, .slice none 0 0, .slice none 0 0, .slice none 0 0] (0, 0) _ rfl (pB l) Try.underlying33 rfl (by kernel_rfl)) rfl ?_
    exact ⟨_, _, _, rfl, by first | exact Kd.Di _ _ _ _ _ | exact Kd.Dx _ _ _ _ _ | exact Kd.DT _ _ _ _ _ | exact Kd.Du _ _ _ _ _ | exact Kd.Dw _ _ _ _ _, Kd.DT _ _ _ _ _, by first | exact Kd.Di _ _ _ _ _ | exact Kd.Dx _ _ _ _ _ | exact Kd.DT _ _ _ _ _ | exact Kd.Du _ _ _ _ _ | exact Kd.Dw _ _ _ _ _, be3 X z G I⟩
   replace H := bS H; obtain ⟨jP, gI, H⟩ := H
   replace H := iB H; obtain ⟨rfl, H⟩ | ⟨rfl, H⟩ := H
   ·simp only [Option.some.injEq, Prod.mk.injEq] at H
    obtain ⟨rfl, rfl, rfl, rfl, rfl, rfl, rfl⟩ := H
    have ⟨eN, zN⟩ := no gB fB; have ⟨fN, aO⟩ := no b B
    have rP := cells5 j.out
    go_wp2_with ((with_reducible refine AR (f := 50) rfl ?_); refine CO Try.func50 (drivers_behind.calls (cu jD X) fD.out (Cg (Kd.AO s.out).2.2) ((Kd.AO s.out).2.1) (Cg (Kd.AO a.out).2.2) ((Kd.AO a.out).2.1) gI.out) ?_; intro cQ T; replace s := vb s T; replace a := vb a T; obtain ⟨u, j, l⟩ := tb3 T u j l; replace X := kh3 X z G I T; have ⟨gN, bO⟩ := no L J; have sP := cells5 l.out)
    refine bodyPost_ret (Eo rfl _ _ d 33 #[.int .i64 0, .int .i64 0, .slice none 0 0, .slice none 0 0, .slice none 0 0] (0, 0) _ rfl (pB l) Try.underlying33 rfl (by kernel_rfl)) rfl ?_
    exact ⟨_, _, _, rfl, by first | exact Kd.Di _ _ _ _ _ | exact Kd.Dx _ _ _ _ _ | exact Kd.DT _ _ _ _ _ | exact Kd.Du _ _ _ _ _ | exact Kd.Dw _ _ _ _ _, Kd.DT _ _ _ _ _, by first | exact Kd.Di _ _ _ _ _ | exact Kd.Dx _ _ _ _ _ | exact Kd.DT _ _ _ _ _ | exact Kd.Du _ _ _ _ _ | exact Kd.Dw _ _ _ _ _, be3 X z G I⟩
   have uF := mk0 H; clear H; have ⟨hN, cO⟩ := no gB fB; have ⟨jN, dO⟩ := no b B
   have tP := cells5 j.out
   go_upto_region 5 with ((with_reducible refine AR (f := 50) rfl ?_); refine CO Try.func50 (drivers_behind.calls (cu jD X) fD.out (Cg (Kd.AO s.out).2.2) ((Kd.AO s.out).2.1) (Cg (Kd.AO a.out).2.2) ((Kd.AO a.out).2.1) gI.out) ?_; intro dQ T; replace s := vb s T; replace a := vb a T; obtain ⟨u, j, l⟩ := tb3 T u j l; replace X := kh3 X z G I T)
   (try simp only [Act.put, List.setIfInBounds_toArray, List.set_cons_zero, List.set_cons_succ])
   go_cut [38] (fun v38 wc => ∃ (kq : Nat) (hE : Bool), v38 = .bool hE ∧ Aside0 (Ak.j1 kq hE qB sB jB Y y = some (r1, r2, r3, r4, r5, r6, r7)) ∧ Aside0 (kq ≤ iO) ∧ Aside0 (Kd.V k30 30 wc w.heap.size (fun D => ((aB D ∨ bB D) ∨ w.heap.size ≤ D) ∧ D ≠ Z ∧ D ≠ O ∧ D ≠ d) (.slice uB Y.length yB) Y) ∧ Aside0 (Kd.V k63 63 wc w.heap.size (fun D => ((aB D ∨ bB D) ∨ w.heap.size ≤ D) ∧ D ≠ Z ∧ D ≠ O ∧ D ≠ d) (.slice eC y.length hB) y) ∧ Aside0 (wc.heap[Z]? = some (.cells #[.int .i64 fC, .int .i64 gC, .string hC, (.slice tC zB.length vC), (.slice uC aC.length wC)] 26 (0, 0))) ∧ Aside0 (wc.heap[O]? = some (.cells #[.int .i64 qB, .int .i64 sB, (.slice dC jB.length iC), (.slice uB Y.length yB), (.slice eC y.length hB)] 33 (0, 0))) ∧ Aside0 (wc.heap[d]? = some (.cells #[.int .i64 0, .int .i64 0, (.slice none 0 0), (.slice none 0 0), (.slice none 0 0)] 33 (0, 0))) ∧ Aside0 (Below w.heap.size w wc))
   case first =>
    have H := uF.out; clear uF
    replace H := iE H; obtain ⟨oD, tH, H⟩ | ⟨c46, oD, tH, H⟩ := H
    ·(first | rw [oD] | (simp only [CP, Dj]; rw [oD]) | skip)
     have H' := mk0 H
     clear H; have ⟨kN, eO⟩ := no gB fB; have ⟨lN, fO⟩ := no b B
     have uP := cells5 j.out
     go_wp2
     go_meet
     case rel => exact ⟨_, (true), rfl, H', ⟨by have := tI.out; omega⟩, ⟨Bj s.out⟩, ⟨Bj a.out⟩, ⟨bu u⟩, ⟨bu j⟩, ⟨bu l⟩, ⟨be3 X z G I⟩⟩
    have yL : ¬ (y = []) := fun h_ => c46 (by rw [h_]; rfl)
    (first | rw [oD] | (simp only [CP, Dj]; rw [oD]) | skip)
    replace H := iN H; obtain ⟨zL, aM, H⟩ := H
    have bM : decide (0 < y.length) = true := decide_eq_true (by omega)
    clear zL
    have H' := mk0 H
    clear H; have ⟨mN, gO⟩ := no gB fB; have ⟨nN, hO⟩ := no b B
    have vP := cells5 j.out
    have oF : 0 ≤ (0 : Int) := (by omega)
    have qF : 0 < (y.length : Int) := od
    obtain ⟨xL, hL, jL, iL, kL, gJ, vD, wD, xD, cD, dD, oE, kE, pE, lE⟩ := DV (Kd.AO a.out).2.2 0 oF qF
    cases gJ
    obtain ⟨hM, wG, uG, fE⟩ := Kd.FQ a.out z63 0 oF (by first | exact qF | exact of_decide_eq_true (by assumption) | (have e_ := (Kd.AO a.out).1; omega))
    obtain ⟨yK, cL, zK, dL, rfl, bE, rD, cE, sD⟩ := DX uG
    have yC := fE 3 _ rfl
    rw [BZ _ _ 3 (by omega)] at yC
    replace yC := Option.some.inj (yC.symm.trans cD)
    injection yC with hva_ hvn_ hvc_
    rw [hva_] at rD
    rw [hvc_] at bE
    have uI := mk0 (show Kd.V (Kd.int .u8) 73 _ w.heap.size _ _ ((AA y 0).f1.f2) from Kd.C8 bE rD)
    clear hva_ hvn_ hvc_ rD bE
    have zC := fE 4 _ rfl
    rw [BZ _ _ 4 (by omega)] at zC
    replace zC := Option.some.inj (zC.symm.trans dD)
    injection zC with hva_ hvn_ hvc_
    rw [hva_] at sD
    rw [hvc_] at cE
    have wI := mk0 (show Kd.V k30 30 _ w.heap.size _ _ ((AA y 0).f1.f3) from Kd.C8 cE sD)
    clear hva_ hvn_ hvc_ sD cE; clear fE wG
    have jO : (0 < y.length) = True := eq_true (by omega)
    (try rw [show ((0 : Int)).toNat = 0 from rfl] at vD)
    (try rw [show 0 * 5 = 0 from rfl] at vD)
    (try rw [Addr.add_zero'] at vD)
    (try rw [show ((0 : Int)).toNat = 0 from rfl] at wD)
    (try rw [show 0 * 5 = 0 from rfl] at wD)
    (try rw [Addr.add_zero'] at wD)
    (try rw [show ((0 : Int)).toNat = 0 from rfl] at xD)
    (try rw [show 0 * 5 = 0 from rfl] at xD)
    (try rw [Addr.add_zero'] at xD)
    (try rw [show ((0 : Int)).toNat = 0 from rfl] at cD)
    (try rw [show 0 * 5 = 0 from rfl] at cD)
    (try rw [Addr.add_zero'] at cD)
    (try rw [show ((0 : Int)).toNat = 0 from rfl] at dD)
    (try rw [show 0 * 5 = 0 from rfl] at dD)
    (try rw [Addr.add_zero'] at dD)
    have xI := mk0 kE; have oI := mk0 oE; clear kE oE; have yI := mk0 lE; have pI := mk0 pE; clear lE pE; replace oF := eq_true oF; replace qF := eq_true qF
    go_wp2
    go_meet
    case rel => exact ⟨_, ((((AA y 0).f0) != a2)), rfl, H', ⟨by have := tI.out; omega⟩, ⟨Bj s.out⟩, ⟨Bj a.out⟩, ⟨bu u⟩, ⟨bu j⟩, ⟨bu l⟩, ⟨be3 X z G I⟩⟩
   case rest =>
    clear uF
    obtain ⟨kq, hE, rfl, HA, lO, s, a, u, j, l, X⟩ := hcut
    cases kq with
    | zero => exact absurd HA.out (by simp [Ak.j1])
    | succ oG =>
     have H := HA.out; clear HA
     simp only [Ak.j1] at H
     replace H := iB H; obtain ⟨rfl, H⟩ | ⟨rfl, H⟩ := H
     ·replace H := Option.bind_eq_some_iff.mp H
      obtain ⟨⟨lH, mH, nH, oH⟩, bH, H⟩ := H
      replace H : ((drivers_all.f oG y).bind fun t227 => (some (lH, mH, nH, oH, t227, false, 0))) = some (r1, r2, r3, r4, r5, r6, r7) := H
      have qL := mk0 bH; clear bH
      replace H := bS H; obtain ⟨t227, rL, H⟩ := H
      simp only [Option.some.injEq, Prod.mk.injEq] at H
      obtain ⟨rfl, rfl, rfl, rfl, rfl, rfl, rfl⟩ := H
      try go_wp2
      have nC := mk0 (Kd.BU s.out)
      have oC := mk0 (Kd.BU a.out)
      have pC := mk0 (AX u.out)
      have qC := mk0 (AX j.out)
      have rC := mk0 (AX l.out)
      have sC := mk0 (Ad X.out)
      clear s; clear a; clear u; clear j; clear l; clear X; have s := nC; have a := oC; have u := pC; have j := qC; have l := rC; have X := sC; clear nC oC pC qC rC sC
      refine Cz (n := 10) (S := fun w' => w'.cell? ⟨O, 0, none⟩ = some (.int .i64 qB) ∧ w'.cell? ⟨O, 1, none⟩ = some (.int .i64 sB) ∧ w'.cell? ⟨O, 2, none⟩ = some (.slice dC jB.length iC) ∧ w'.cell? ⟨O, 3, none⟩ = some (.slice uB Y.length yB) ∧ w'.cell? ⟨O, 4, none⟩ = some (.slice eC y.length hB)) (ds := []) (tf 0 10) (by kernel_rfl) rfl rfl ⟨bc j 0, bc j 1, bc j 2, bc j 3, bc j 4⟩ (fun x => ?_); refine Bz Ak.OC Ak.LF (fun lB sF => ?_)
      generalize wc.drew = eQ at s a u j l X x ⊢
      refine pv 0 39 (tf 1 9) lB ?_
      refine pv 3 42 #[true, false, false, true, false, false, false, false, false, false] lB ?_
      refine Bl (i := 1) (N := some 40) (v := ?_) (a' := ?_) #[true, true, false, true, false, false, false, false, false, false] rfl rfl (Aj lB.out sF.out (by kernel_rfl)) (fun _ _ _ h => h) (Or.inl ⟨by rfl, ?_⟩) x ?_ ?_
      rotate_left
      ·rintro w' ⟨s0, s1, s2, s3, s4⟩
       go_simp
       with_reducible rfl
      rotate_left
      ·simp only [ps]
       rfl
      refine Bl (i := 4) (N := some 43) (v := ?_) (a' := ?_) #[true, true, false, true, true, false, false, false, false, false] rfl rfl (Aj lB.out sF.out (by kernel_rfl)) (fun _ _ _ h => h) (Or.inl ⟨by rfl, ?_⟩) x ?_ ?_
      rotate_left
      ·rintro w' ⟨s0, s1, s2, s3, s4⟩
       go_simp
       with_reducible rfl
      rotate_left
      ·simp only [ps]
       rfl
      refine DN (i := 2) (N := some 41) (tf 5 5) rfl rfl (Bv lB.out (by kernel_rfl)) (by decide) (fun K hK => ?_)
      refine Cx Try.func51 (by kernel_rfl) rfl #[.agg #[.int .i64 qB, .int .i64 sB, .slice dC jB.length iC, .slice uB Y.length yB]] (by rfl) rfl rfl (by (try simp only [List.map_toArray, List.map_cons, List.map_nil]); first | done | rfl | (simp only [List.length_drop, List.length_take]; rfl)) ?_
      with_reducible refine (drivers_copied.calls (fun D => (((aB D ∨ bB D) ∨ w.heap.size ≤ D) ∧ (D ≠ Z ∧ (D ≠ O ∧ D ≠ d)))) ?side1 ?side2 ?side3 qL.out).mono ?_
      (case side1 => exact cu jD X)
      (case side2 => exact fD.out)
      (case side3 => exact s.out)
      rintro e fQ ⟨v222, v225, rfl, mB, jG, T⟩
      refine ⟨_, rfl, ?_⟩
      have nC := mk0 (Kd.Az (Bj s.out) (Kd.BG mB) T)
      have oC := mk0 (Kd.Az (Bj a.out) (Kd.BG mB) T)
      have pC := mk0 (Kd.CS (Kd.Dn (M := fun D => (w.heap.size ≤ D)) (Kd.BC (ok' := fun D => True) mB (fun _ tB => trivial)) (AQ (be3 X z G I)) (fun D h_ => h_)) (AQ (be3 X z G I)))
      have qC := mk0 (Kd.Dm (Kd.AL (ok' := fun D => ((aB D ∨ bB D) ∨ w.heap.size ≤ D) ∧ some D ≠ (v222 : Value).ownBlock ∧ D ≠ Z ∧ D ≠ O ∧ D ≠ d) jG (fun D tB => ⟨Or.elim tB.1 (fun dB => dB.1) (fun cB => (.inr (Nat.le_trans (AQ (be3 X z G I)) cB))), tB.2, Or.elim tB.1 (fun dB => dB.2.1) (fun cB => (Kd.Al (g := Z) (o := .cells #[.int .i64 fC, .int .i64 gC, .string hC, .slice tC zB.length vC, .slice uC aC.length wC] 26 (0, 0)) (AY u.out) D cB)), Or.elim tB.1 (fun dB => dB.2.2.1) (fun cB => (Kd.Al (g := O) (o := .cells #[.int .i64 qB, .int .i64 sB, .slice dC jB.length iC, .slice uB Y.length yB, .slice eC y.length hB] 33 (0, 0)) (AY j.out) D cB)), Or.elim tB.1 (fun dB => dB.2.2.2) (fun cB => (Kd.Al (g := d) (o := .cells #[.int .i64 0, .int .i64 0, .slice none 0 0, .slice none 0 0, .slice none 0 0] 33 (0, 0)) (AY l.out) D cB))⟩)) (AQ (be3 X z G I)))
      have rC := kb u T
      have sC := kb j T
      have zD := kb l T
      have aE := kh3 X z G I T
      clear s; clear a; clear u; clear j; clear l; clear X; have s := nC; have a := oC; have gD := pC; have lD := qC; have u := rC; have j := sC; have l := zD; have X := aE; clear nC oC pC qC rC sC zD aE
      try clear T
      try clear r
      try clear mB
      try clear jG
      refine hK.out _ _ ⟨bc j 0, bc j 1, bc j 2, bc j 3, bc j 4⟩ (fun x => ?_)
      clear hK K
      refine CJ (a' := ?_) ?_ ?_
      rotate_left
      ·show Act.put _ (some 41) _ = _
       simp only [ps]
       rfl
      refine DN (i := 5) (N := some 44) (tf 6 4) rfl rfl (Bv lB.out (by kernel_rfl)) (by decide) (fun K hK => ?_)
      refine Cx Try.func52 (by kernel_rfl) rfl #[.slice eC y.length hB] (by rfl) rfl rfl (by (try simp only [List.map_toArray, List.map_cons, List.map_nil]); first | done | rfl | (simp only [List.length_drop, List.length_take]; rfl)) ?_
      with_reducible refine (drivers_all.calls (fun D => ((((aB D ∨ bB D) ∨ w.heap.size ≤ D) ∧ (D ≠ Z ∧ (D ≠ O ∧ D ≠ d))) ∧ some D ≠ (v222 : Value).ownBlock)) ?side1 rL.out).mono ?_
      (case side1 => exact a.out)
      rintro e rG ⟨v228, rfl, mB, T⟩
      refine ⟨_, rfl, ?_⟩
      have nC := mk0 (Kd.Az (Bj s.out) (Kd.Bp mB) T)
      have oC := mk0 (Kd.Az (Bj a.out) (Kd.Bp mB) T)
      have pC := rb gD T
      have qC := mk0 (Kd.Az (Bj lD.out) (Kd.Bp mB) T)
      have rC := mk0 (Kd.DF (Kd.Av (ok' := fun D => ((aB D ∨ bB D) ∨ w.heap.size ≤ D) ∧ some D ≠ (v222 : Value).ownBlock ∧ D ≠ Z ∧ D ≠ O ∧ D ≠ d) mB (fun D tB => ⟨Or.elim tB (fun dB => dB.1.1) (fun cB => (.inr (Nat.le_trans (AQ (be3 X z G I)) cB))), Or.elim tB (fun dB => dB.2) (fun cB => (Kd.fresh' (Kd.En (DC gD.out)) D cB)), Or.elim tB (fun dB => dB.1.2.1) (fun cB => (Kd.Al (g := Z) (o := .cells #[.int .i64 fC, .int .i64 gC, .string hC, .slice tC zB.length vC, .slice uC aC.length wC] 26 (0, 0)) (AY u.out) D cB)), Or.elim tB (fun dB => dB.1.2.2.1) (fun cB => (Kd.Al (g := O) (o := .cells #[.int .i64 qB, .int .i64 sB, .slice dC jB.length iC, .slice uB Y.length yB, .slice eC y.length hB] 33 (0, 0)) (AY j.out) D cB)), Or.elim tB (fun dB => dB.1.2.2.2) (fun cB => (Kd.Al (g := d) (o := .cells #[.int .i64 0, .int .i64 0, .slice none 0 0, .slice none 0 0, .slice none 0 0] 33 (0, 0)) (AY l.out) D cB))⟩)) (AQ (be3 X z G I)))
      have sC := kb u T
      have zD := kb j T
      have aE := kb l T
      have xE := kh3 X z G I T
      clear s; clear a; clear gD; clear lD; clear u; clear j; clear l; clear X; have s := nC; have a := oC; have gD := pC; have lD := qC; have wF := rC; have u := sC; have j := zD; have l := aE; have X := xE; clear nC oC pC qC rC sC zD aE xE
      try clear T
      try clear r
      try clear mB
      obtain ⟨hI, aJ, dH⟩ := Kd.Ce wF.out
      (first | subst dH | (injection dH with f1_ f2_ f3_; have pD := f1_.symm; have qD := f3_.symm; clear f1_ f2_ f3_; subst pD; subst qD))
      obtain ⟨iI, bJ, eH⟩ := Kd.Bu lD.out
      (first | subst eH | (injection eH with f1_ f2_ f3_; have pD := f1_.symm; have qD := f3_.symm; clear f1_ f2_ f3_; subst pD; subst qD))
      obtain ⟨jI, cJ, fH⟩ := Kd.Bn gD.out
      (first | subst fH | (injection fH with f1_ f2_ f3_; have pD := f1_.symm; have qD := f3_.symm; clear f1_ f2_ f3_; subst pD; subst qD))
      refine hK.out _ _ ⟨bc j 0, bc j 1, bc j 2, bc j 3, bc j 4⟩ (fun x => ?_)
      clear hK K
      refine CJ (a' := ?_) ?_ ?_
      rotate_left
      ·show Act.put _ (some 44) _ = _
       simp only [ps]
       rfl
      refine pv 6 45 (tf 7 3) lB ?_
      refine DN (i := 7) (N := none) (tf 8 2) rfl rfl (Bv lB.out (by kernel_rfl)) (by decide) (fun K hK => ?_)
      have pO : rG.cell? ⟨d, 0, none⟩ = some (.int .i64 0) := bc l 0
      have jM := AB l.out 0
      have dK := J.out; have eK := b.out; have jJ := L.out; have kJ := B.out
      have qO : rG.cell? ⟨d, 1, none⟩ = some (.int .i64 0) := bc l 1
      have kM := AB l.out 1
      have fK := J.out; have gK := b.out; have lJ := L.out; have mJ := B.out
      have rO : rG.cell? ⟨d, 2, none⟩ = some (.slice none 0 0) := bc l 2
      have lM := AB l.out 2
      have iK := J.out; have jK := b.out; have nJ := L.out; have oJ := B.out
      have sO : rG.cell? ⟨d, 3, none⟩ = some (.slice none 0 0) := bc l 3
      have mM := AB l.out 3
      have kK := J.out; have lK := b.out; have pJ := L.out; have qJ := B.out
      have tO : rG.cell? ⟨d, 4, none⟩ = some (.slice none 0 0) := bc l 4
      have nM := AB l.out 4
      have mK := J.out; have nK := b.out; have rJ := L.out; have sJ := B.out
      refine Fu (w1 := ?_) (by rfl) rfl ?_ ?_
      rotate_left
      ·go_simp
       rfl
      refine hK.out _ _ ⟨((cell_far (p := ⟨d, _, none⟩) b.out _).trans (((cell_far (p := ⟨d, _, none⟩) b.out _).trans (((cell_far (p := ⟨d, _, none⟩) b.out _).trans (((cell_far (p := ⟨d, _, none⟩) b.out _).trans (((cell_far (p := ⟨d, _, none⟩) b.out _).trans (x.1)))))))))), ((cell_far (p := ⟨d, _, none⟩) b.out _).trans (((cell_far (p := ⟨d, _, none⟩) b.out _).trans (((cell_far (p := ⟨d, _, none⟩) b.out _).trans (((cell_far (p := ⟨d, _, none⟩) b.out _).trans (((cell_far (p := ⟨d, _, none⟩) b.out _).trans (x.2.1)))))))))), ((cell_far (p := ⟨d, _, none⟩) b.out _).trans (((cell_far (p := ⟨d, _, none⟩) b.out _).trans (((cell_far (p := ⟨d, _, none⟩) b.out _).trans (((cell_far (p := ⟨d, _, none⟩) b.out _).trans (((cell_far (p := ⟨d, _, none⟩) b.out _).trans (x.2.2.1)))))))))), ((cell_far (p := ⟨d, _, none⟩) b.out _).trans (((cell_far (p := ⟨d, _, none⟩) b.out _).trans (((cell_far (p := ⟨d, _, none⟩) b.out _).trans (((cell_far (p := ⟨d, _, none⟩) b.out _).trans (((cell_far (p := ⟨d, _, none⟩) b.out _).trans (x.2.2.2.1)))))))))), ((cell_far (p := ⟨d, _, none⟩) b.out _).trans (((cell_far (p := ⟨d, _, none⟩) b.out _).trans (((cell_far (p := ⟨d, _, none⟩) b.out _).trans (((cell_far (p := ⟨d, _, none⟩) b.out _).trans (((cell_far (p := ⟨d, _, none⟩) b.out _).trans (x.2.2.2.2))))))))))⟩ (fun x => ?_)
      clear hK K
      refine pv 8 7 (tf 9 1) lB ?_
      refine pv 9 8 (tf 10 0) lB ?_
      refine Dv (Cu lB.out (by kernel_rfl)) ?_
      try go_wp2
      refine bodyPost_ret (Eo rfl _ _ d 33 #[.int .i64 lH, .int .i64 mH, .slice jI nH.length cJ, .slice iI oH.length bJ, .slice hI t227.length aJ] (0, 0) _ rfl (pB l) Try.underlying33 rfl (by kernel_rfl)) rfl ?_
      exact ⟨_, _, _, rfl, by exact DZ (Kd.BC (rI (q := d) (Kd.Ao gD.out l.out (by decide)) (fun _ r => r.2)) (fun _ r => r.1.1)), by exact BO (Kd.AL (vI (q := d) (Kd.AL lD.out (fun D r => (⟨r, r.1.2.2.2.2⟩ : _ ∧ D ≠ d))) (fun _ r => r.2)) (fun _ r => ⟨r.1.1.1, ⟨r.1.1.2.1, r.1.2⟩⟩)), by exact DL (Kd.Av (nI (q := d) (Kd.Av wF.out (fun D r => (⟨r, r.2.2.2.2⟩ : _ ∧ D ≠ d))) (fun _ r => r.2)) (fun _ r => ⟨r.1.1, r.1.2.1⟩)), be3 X z G I⟩
     replace H := iN H; obtain ⟨cM, dM, H⟩ := H
     have eM : decide (0 < y.length) = true := decide_eq_true (by omega)
     clear cM
     replace H := Option.bind_eq_some_iff.mp H
     obtain ⟨⟨qG, t232, t233, t236⟩, cH, H⟩ := H
     replace H : (if 1 ≤ (y.length : Int) then ((drivers_all.f oG (y.drop 1)).bind fun yE => (some (qG, t232, t233, t236, yE, true, 0))) else (none)) = some (r1, r2, r3, r4, r5, r6, r7) := H
     have sL := mk0 cH; clear cH
     by_cases c70 : 1 ≤ (y.length : Int)
     rotate_left
     ·rw [if_neg c70] at H
      exact absurd H (by simp)
     rw [if_pos c70] at H; have fM := eq_true c70; have gM : decide (1 ≤ (y.length : Int)) = true := decide_eq_true c70; clear c70
     obtain ⟨eD, yD⟩ : ∃ y_ : List (S63), y_ = (y.drop 1) := ⟨_, rfl⟩
     replace H : ((drivers_all.f oG eD).bind fun yE => (some (qG, t232, t233, t236, yE, true, 0))) = some (r1, r2, r3, r4, r5, r6, r7) := by first | (rw [yD]; with_reducible exact H) | (have qH := (Option.bind_some _ _).symm.trans H; rw [yD]; with_reducible exact qH) | (have qH := (Option.bind_some _ _).symm.trans H; with_reducible exact qH) | with_reducible exact H | (rw [yD]; exact H) | exact H
     have dG := mk0 yD; clear yD
     replace H := bS H; obtain ⟨yE, tL, H⟩ := H
     simp only [Option.some.injEq, Prod.mk.injEq] at H
     obtain ⟨rfl, rfl, rfl, rfl, rfl, rfl, rfl⟩ := H
     try go_wp2
     have nC := mk0 (Kd.BU s.out)
     have oC := mk0 (Kd.BU a.out)
     have pC := mk0 (AX u.out)
     have qC := mk0 (AX j.out)
     have rC := mk0 (AX l.out)
     have sC := mk0 (Ad X.out)
     clear s; clear a; clear u; clear j; clear l; clear X; have s := nC; have a := oC; have u := pC; have j := qC; have l := rC; have X := sC; clear nC oC pC qC rC sC
     have pF : 0 ≤ (0 : Int) := (by omega)
     have rF : 0 < (y.length : Int) := od
     obtain ⟨eB, fF, hF, gF, jF, hJ, kC, lC, mC, bC, cC, qE, mE, rE, nE⟩ := DV (Kd.AO a.out).2.2 0 pF rF
     cases hJ
     obtain ⟨iM, xG, vG, gE⟩ := Kd.FQ a.out z63 0 pF (by first | exact rF | exact of_decide_eq_true (by assumption) | (have e_ := (Kd.AO a.out).1; omega))
     obtain ⟨aL, eL, bL, fL, rfl, dE, tD, eE, uD⟩ := DX vG
     have aD := gE 3 _ rfl
     rw [BZ _ _ 3 (by omega)] at aD
     replace aD := Option.some.inj (aD.symm.trans bC)
     injection aD with hva_ hvn_ hvc_
     rw [hva_] at tD
     rw [hvc_] at dE
     have wB := mk0 (show Kd.V (Kd.int .u8) 73 _ w.heap.size _ _ ((AA y 0).f1.f2) from Kd.C8 dE tD)
     clear hva_ hvn_ hvc_ tD dE
     have bD := gE 4 _ rfl
     rw [BZ _ _ 4 (by omega)] at bD
     replace bD := Option.some.inj (bD.symm.trans cC)
     injection bD with hva_ hvn_ hvc_
     rw [hva_] at uD
     rw [hvc_] at eE
     have oB := mk0 (show Kd.V k30 30 _ w.heap.size _ _ ((AA y 0).f1.f3) from Kd.C8 eE uD)
     clear hva_ hvn_ hvc_ uD eE; clear gE xG
     have kO : (0 < y.length) = True := eq_true (by omega)
     (try rw [show ((0 : Int)).toNat = 0 from rfl] at kC)
     (try rw [show 0 * 5 = 0 from rfl] at kC)
     (try rw [Addr.add_zero'] at kC)
     (try rw [show ((0 : Int)).toNat = 0 from rfl] at lC)
     (try rw [show 0 * 5 = 0 from rfl] at lC)
     (try rw [Addr.add_zero'] at lC)
     (try rw [show ((0 : Int)).toNat = 0 from rfl] at mC)
     (try rw [show 0 * 5 = 0 from rfl] at mC)
     (try rw [Addr.add_zero'] at mC)
     (try rw [show ((0 : Int)).toNat = 0 from rfl] at bC)
     (try rw [show 0 * 5 = 0 from rfl] at bC)
     (try rw [Addr.add_zero'] at bC)
     (try rw [show ((0 : Int)).toNat = 0 from rfl] at cC)
     (try rw [show 0 * 5 = 0 from rfl] at cC)
     (try rw [Addr.add_zero'] at cC)
     have kB := mk0 mE; have tF := mk0 qE; clear mE qE; have xB := mk0 nE; have qI := mk0 rE; clear nE rE; replace pF := eq_true pF; replace rF := eq_true rF
     have xH : (1 : Int) ≤ ((y.length : Int) : Int) := od
     obtain ⟨cP, iG, _, nG, _⟩ := info_parts E9
     have xC : y.length ≤ hB := (Kd.AO a.out).2.1
     have jH : Kd.F k63 _ _ (some eB) y.length y := (Kd.KQ (base := w.heap.size) a.out).2.2
     have yG := MZ (P := Try.prog) 31 63 .i64 Try.underlying31 iG 5 nG (some eB) y.length hB 1 (by omega) xH
     have sE := Kd.PU (m := (1 : Int).toNat) (c := hB) jH (by omega) xC
     obtain ⟨pH, lF⟩ : ∃ A1, A1 = (if hB = (1 : Int).toNat then (some eB) else ((some eB) : Option Addr).map (·.add ((1 : Int).toNat * 5))) := ⟨_, rfl⟩
     obtain ⟨uH, mF⟩ : ∃ c1, c1 = hB - (1 : Int).toNat := ⟨_, rfl⟩
     have tE : eD.length = y.length - (1 : Int).toNat := (by rw [dG.out, List.length_drop] <;> omega)
     rw [show (y).drop (1 : Int).toNat = eD from dG.out.symm] at sE
     replace sE : Kd.F k63 _ _ pH eD.length eD := (by rw [lF]; exact sE)
     rw [← tE, ← lF, ← mF] at yG
     have jC := mk0 (show Kd.V k63 63 _ w.heap.size _ (.slice pH eD.length uH) eD from Kd.C8 (by rw [tE, mF]; exact Nat.sub_le_sub_right xC _) sE)
     have vL := mk0 (show eD.length ≤ uH from by rw [tE, mF]; exact Nat.sub_le_sub_right xC _)
     clear sE jH xC iG nG mF; have nO := mk0 tE; have mO := mk0 lF; clear tE lF; replace xH := eq_true xH
     refine Cz (n := 14) (S := fun w' => w'.cell? ⟨O, 0, none⟩ = some (.int .i64 qB) ∧ w'.cell? ⟨O, 1, none⟩ = some (.int .i64 sB) ∧ w'.cell? ⟨O, 2, none⟩ = some (.slice dC jB.length iC) ∧ w'.cell? ⟨O, 3, none⟩ = some (.slice uB Y.length yB) ∧ w'.cell? ⟨O, 4, none⟩ = some (.slice (some eB) y.length hB) ∧ w'.cell? eB = some (.int .i64 ((AA y 0).f0)) ∧ w'.cell? ⟨eB.block, eB.off + 1, none⟩ = some (.int .i64 ((AA y 0).f1.f0)) ∧ w'.cell? ⟨eB.block, eB.off + 2, none⟩ = some (.int .i64 ((AA y 0).f1.f1)) ∧ w'.cell? ⟨eB.block, eB.off + 3, none⟩ = some (.slice fF ((AA y 0).f1.f2).length hF) ∧ w'.cell? ⟨eB.block, eB.off + 4, none⟩ = some (.slice gF ((AA y 0).f1.f3).length jF)) (ds := []) (tf 0 14) (by kernel_rfl) rfl rfl ⟨bc j 0, bc j 1, bc j 2, bc j 3, bc j 4, kC, lC, mC, bC, cC⟩ (fun x => ?_); refine Bz Ak.Qm Ak.Pn (fun lB sF => ?_)
     generalize wc.drew = gQ at s a u j l X wB oB jC kB xB kC lC mC bC cC x ⊢
     refine pv 0 46 (tf 1 13) lB ?_
     refine pv 6 52 #[true, false, false, false, false, false, true, false, false, false, false, false, false, false] lB ?_
     refine Bl (i := 1) (N := some 47) (v := ?_) (a' := ?_) #[true, true, false, false, false, false, true, false, false, false, false, false, false, false] rfl rfl (Aj lB.out sF.out (by kernel_rfl)) (fun _ _ _ h => h) (Or.inl ⟨by rfl, ?_⟩) x ?_ ?_
     rotate_left
     ·rintro w' ⟨s0, s1, s2, s3, s4, s5, s6, s7, s8, s9⟩
      go_simp
      with_reducible rfl
     rotate_left
     ·simp only [ps]
      rfl
     refine pv 2 48 #[true, true, true, false, false, false, true, false, false, false, false, false, false, false] lB ?_
     refine pv 3 49 #[true, true, true, true, false, false, true, false, false, false, false, false, false, false] lB ?_
     refine Bl (i := 4) (N := some 50) (v := ?_) (a' := ?_) #[true, true, true, true, true, false, true, false, false, false, false, false, false, false] rfl rfl (Aj lB.out sF.out (by kernel_rfl)) (fun _ _ _ h => h) (Or.inl ⟨by rfl, ?_⟩) x ?_ ?_
     rotate_left
     ·rintro w' ⟨s0, s1, s2, s3, s4, s5, s6, s7, s8, s9⟩
      go_simp
      with_reducible rfl
     rotate_left
     ·simp only [ps]
      rfl
     refine Bl (i := 7) (N := some 53) (v := ?_) (a' := ?_) #[true, true, true, true, true, false, true, true, false, false, false, false, false, false] rfl rfl (Aj lB.out sF.out (by kernel_rfl)) (fun _ _ _ h => h) (Or.inl ⟨by rfl, ?_⟩) x ?_ ?_
     rotate_left
     ·rintro w' ⟨s0, s1, s2, s3, s4, s5, s6, s7, s8, s9⟩
      go_simp
      with_reducible rfl
     rotate_left
     ·simp only [ps]
      rfl
     refine pv 8 54 #[true, true, true, true, true, false, true, true, true, false, false, false, false, false] lB ?_
     refine DN (i := 5) (N := some 51) (tf 9 5) rfl rfl (Bv lB.out (by kernel_rfl)) (by decide) (fun K hK => ?_)
     refine Cx Try.func51 (by kernel_rfl) rfl #[.agg #[.int .i64 ((AA y 0).f1.f0), .int .i64 ((AA y 0).f1.f1), .slice fF ((AA y 0).f1.f2).length hF, .slice gF ((AA y 0).f1.f3).length jF]] (by rfl) rfl rfl (by (try simp only [List.map_toArray, List.map_cons, List.map_nil]); first | done | rfl | (simp only [List.length_drop, List.length_take]; rfl)) ?_
     with_reducible refine (drivers_copied.calls (fun D => (((aB D ∨ bB D) ∨ w.heap.size ≤ D) ∧ (D ≠ Z ∧ (D ≠ O ∧ D ≠ d)))) ?side1 ?side2 ?side3 sL.out).mono ?_
     (case side1 => repeat (first | exact (by repeat (first | (with_reducible exact kB.out) | (with_reducible refine Kd.Ch ?_ _) | (with_reducible refine Kd.Ci ?_ _) | (with_reducible refine Kd.Cy ?_) | exact kB.out)) | (with_reducible refine Kd.Ch ?_ _) | (with_reducible refine Kd.Ci ?_ _) | (with_reducible refine Kd.Cy ?_)))
     (case side2 => exact tF.out)
     (case side3 => exact oB.out)
     rintro e hQ ⟨v234, v237, rfl, mB, jG, T⟩
     have yF := (T.cell (World.block_lt_of_cell? _ _ (x.2.2.2.2.2.1))).trans (x.2.2.2.2.2.1)
     have zF := (T.cell (World.block_lt_of_cell? _ _ (x.2.2.2.2.2.2.1))).trans (x.2.2.2.2.2.2.1)
     have aG := (T.cell (World.block_lt_of_cell? _ _ (x.2.2.2.2.2.2.2.1))).trans (x.2.2.2.2.2.2.2.1)
     have bG := (T.cell (World.block_lt_of_cell? _ _ (x.2.2.2.2.2.2.2.2.1))).trans (x.2.2.2.2.2.2.2.2.1)
     have cG := (T.cell (World.block_lt_of_cell? _ _ (x.2.2.2.2.2.2.2.2.2))).trans (x.2.2.2.2.2.2.2.2.2)
     refine ⟨_, rfl, ?_⟩
     have nC := mk0 (Kd.Az (Bj s.out) (Kd.BG mB) T)
     have oC := mk0 (Kd.Az (Bj a.out) (Kd.BG mB) T)
     have pC := mk0 (Kd.Az (Bj wB.out) (Kd.BG mB) T)
     have qC := mk0 (Kd.Az (Bj oB.out) (Kd.BG mB) T)
     have rC := mk0 (Kd.Az (Bj jC.out) (Kd.BG mB) T)
     have sC := mk0 (Kd.CS (Kd.Dn (M := fun D => (w.heap.size ≤ D)) (Kd.BC (ok' := fun D => True) mB (fun _ tB => trivial)) (AQ (be3 X z G I)) (fun D h_ => h_)) (AQ (be3 X z G I)))
     have zD := mk0 (Kd.Dm (Kd.AL (ok' := fun D => ((aB D ∨ bB D) ∨ w.heap.size ≤ D) ∧ some D ≠ (v234 : Value).ownBlock ∧ D ≠ Z ∧ D ≠ O ∧ D ≠ d) jG (fun D tB => ⟨Or.elim tB.1 (fun dB => dB.1) (fun cB => (.inr (Nat.le_trans (AQ (be3 X z G I)) cB))), tB.2, Or.elim tB.1 (fun dB => dB.2.1) (fun cB => (Kd.Al (g := Z) (o := .cells #[.int .i64 fC, .int .i64 gC, .string hC, .slice tC zB.length vC, .slice uC aC.length wC] 26 (0, 0)) (AY u.out) D cB)), Or.elim tB.1 (fun dB => dB.2.2.1) (fun cB => (Kd.Al (g := O) (o := .cells #[.int .i64 qB, .int .i64 sB, .slice dC jB.length iC, .slice uB Y.length yB, .slice (some eB) y.length hB] 33 (0, 0)) (AY j.out) D cB)), Or.elim tB.1 (fun dB => dB.2.2.2) (fun cB => (Kd.Al (g := d) (o := .cells #[.int .i64 0, .int .i64 0, .slice none 0 0, .slice none 0 0, .slice none 0 0] 33 (0, 0)) (AY l.out) D cB))⟩)) (AQ (be3 X z G I)))
     have aE := kb u T
     have xE := kb j T
     have pG := kb l T
     have uE := cb kB T
     have vE := cb xB T
     have wE := kh3 X z G I T
     clear s; clear a; clear wB; clear oB; clear jC; clear u; clear j; clear l; clear kB; clear xB; clear X; have s := nC; have a := oC; have wB := pC; have oB := qC; have jC := rC; have hD := sC; have mD := zD; have u := aE; have j := xE; have l := pG; have kB := uE; have xB := vE; have X := wE; clear nC oC pC qC rC sC zD aE xE pG uE vE wE
     try clear T
     try clear r
     try clear mB
     try clear jG
     refine hK.out _ _ ⟨bc j 0, bc j 1, bc j 2, bc j 3, bc j 4, yF, zF, aG, bG, cG⟩ (fun x => ?_)
     clear hK K
     refine CJ (a' := ?_) ?_ ?_
     rotate_left
     ·show Act.put _ (some 51) _ = _
      simp only [ps]
      rfl
     refine DN (i := 9) (N := some 55) (tf 10 4) rfl rfl (Bv lB.out (by kernel_rfl)) (by decide) (fun K hK => ?_)
     refine Cx Try.func52 (by kernel_rfl) rfl #[.slice pH eD.length uH] (by rfl) rfl rfl (by (try simp only [List.map_toArray, List.map_cons, List.map_nil]); first | done | rfl | (simp only [List.length_drop, List.length_take]; rfl)) ?_
     with_reducible refine (drivers_all.calls (fun D => ((((aB D ∨ bB D) ∨ w.heap.size ≤ D) ∧ (D ≠ Z ∧ (D ≠ O ∧ D ≠ d))) ∧ some D ≠ (v234 : Value).ownBlock)) ?side1 tL.out).mono ?_
     (case side1 => exact jC.out)
     rintro e sG ⟨v245, rfl, mB, T⟩
     have yF := (T.cell (World.block_lt_of_cell? _ _ (x.2.2.2.2.2.1))).trans (x.2.2.2.2.2.1)
     have zF := (T.cell (World.block_lt_of_cell? _ _ (x.2.2.2.2.2.2.1))).trans (x.2.2.2.2.2.2.1)
     have aG := (T.cell (World.block_lt_of_cell? _ _ (x.2.2.2.2.2.2.2.1))).trans (x.2.2.2.2.2.2.2.1)
     have bG := (T.cell (World.block_lt_of_cell? _ _ (x.2.2.2.2.2.2.2.2.1))).trans (x.2.2.2.2.2.2.2.2.1)
     have cG := (T.cell (World.block_lt_of_cell? _ _ (x.2.2.2.2.2.2.2.2.2))).trans (x.2.2.2.2.2.2.2.2.2)
     refine ⟨_, rfl, ?_⟩
     have nC := mk0 (Kd.Az (Bj s.out) (Kd.Bp mB) T)
     have oC := mk0 (Kd.Az (Bj a.out) (Kd.Bp mB) T)
     have pC := mk0 (Kd.Az (Bj wB.out) (Kd.Bp mB) T)
     have qC := mk0 (Kd.Az (Bj oB.out) (Kd.Bp mB) T)
     have rC := mk0 (Kd.Az (Bj jC.out) (Kd.Bp mB) T)
     have sC := rb hD T
     have zD := mk0 (Kd.Az (Bj mD.out) (Kd.Bp mB) T)
     have aE := mk0 (Kd.DF (Kd.Av (ok' := fun D => ((aB D ∨ bB D) ∨ w.heap.size ≤ D) ∧ some D ≠ (v234 : Value).ownBlock ∧ D ≠ Z ∧ D ≠ O ∧ D ≠ d) mB (fun D tB => ⟨Or.elim tB (fun dB => dB.1.1) (fun cB => (.inr (Nat.le_trans (AQ (be3 X z G I)) cB))), Or.elim tB (fun dB => dB.2) (fun cB => (Kd.fresh' (Kd.En (DC hD.out)) D cB)), Or.elim tB (fun dB => dB.1.2.1) (fun cB => (Kd.Al (g := Z) (o := .cells #[.int .i64 fC, .int .i64 gC, .string hC, .slice tC zB.length vC, .slice uC aC.length wC] 26 (0, 0)) (AY u.out) D cB)), Or.elim tB (fun dB => dB.1.2.2.1) (fun cB => (Kd.Al (g := O) (o := .cells #[.int .i64 qB, .int .i64 sB, .slice dC jB.length iC, .slice uB Y.length yB, .slice (some eB) y.length hB] 33 (0, 0)) (AY j.out) D cB)), Or.elim tB (fun dB => dB.1.2.2.2) (fun cB => (Kd.Al (g := d) (o := .cells #[.int .i64 0, .int .i64 0, .slice none 0 0, .slice none 0 0, .slice none 0 0] 33 (0, 0)) (AY l.out) D cB))⟩)) (AQ (be3 X z G I)))
     have xE := kb u T
     have pG := kb j T
     have uE := kb l T
     have vE := cb kB T
     have wE := cb xB T
     have kH := kh3 X z G I T
     clear s; clear a; clear wB; clear oB; clear jC; clear hD; clear mD; clear u; clear j; clear l; clear kB; clear xB; clear X; have s := nC; have a := oC; have wB := pC; have oB := qC; have jC := rC; have hD := sC; have mD := zD; have xF := aE; have u := xE; have j := pG; have l := uE; have kB := vE; have xB := wE; have X := kH; clear nC oC pC qC rC sC zD aE xE pG uE vE wE kH
     try clear T
     try clear r
     try clear mB
     obtain ⟨kI, dJ, gH⟩ := Kd.Ce xF.out
     (first | subst gH | (injection gH with f1_ f2_ f3_; have pD := f1_.symm; have qD := f3_.symm; clear f1_ f2_ f3_; subst pD; subst qD))
     obtain ⟨lI, eJ, hH⟩ := Kd.Bu mD.out
     (first | subst hH | (injection hH with f1_ f2_ f3_; have pD := f1_.symm; have qD := f3_.symm; clear f1_ f2_ f3_; subst pD; subst qD))
     obtain ⟨mI, fJ, iH⟩ := Kd.Bn hD.out
     (first | subst iH | (injection iH with f1_ f2_ f3_; have pD := f1_.symm; have qD := f3_.symm; clear f1_ f2_ f3_; subst pD; subst qD))
     refine hK.out _ _ ⟨bc j 0, bc j 1, bc j 2, bc j 3, bc j 4, yF, zF, aG, bG, cG⟩ (fun x => ?_)
     clear hK K
     refine CJ (a' := ?_) ?_ ?_
     rotate_left
     ·show Act.put _ (some 55) _ = _
      simp only [ps]
      rfl
     refine pv 10 56 (tf 11 3) lB ?_
     refine DN (i := 11) (N := none) (tf 12 2) rfl rfl (Bv lB.out (by kernel_rfl)) (by decide) (fun K hK => ?_)
     have uO : sG.cell? ⟨d, 0, none⟩ = some (.int .i64 0) := bc l 0
     have oM := AB l.out 0
     have oK := J.out; have pK := b.out; have tJ := L.out; have uJ := B.out
     have vO : sG.cell? ⟨d, 1, none⟩ = some (.int .i64 0) := bc l 1
     have pM := AB l.out 1
     have qK := J.out; have rK := b.out; have vJ := L.out; have wJ := B.out
     have wO : sG.cell? ⟨d, 2, none⟩ = some (.slice none 0 0) := bc l 2
     have qM := AB l.out 2
     have sK := J.out; have tK := b.out; have xJ := L.out; have yJ := B.out
     have xO : sG.cell? ⟨d, 3, none⟩ = some (.slice none 0 0) := bc l 3
     have rM := AB l.out 3
     have uK := J.out; have vK := b.out; have zJ := L.out; have aK := B.out
     have yO : sG.cell? ⟨d, 4, none⟩ = some (.slice none 0 0) := bc l 4
     have sM := AB l.out 4
     have wK := J.out; have xK := b.out; have bK := L.out; have cK := B.out
     refine Fu (w1 := ?_) (by rfl) rfl ?_ ?_
     rotate_left
     ·go_simp
      rfl
     refine hK.out _ _ ⟨((cell_far (p := ⟨d, _, none⟩) b.out _).trans (((cell_far (p := ⟨d, _, none⟩) b.out _).trans (((cell_far (p := ⟨d, _, none⟩) b.out _).trans (((cell_far (p := ⟨d, _, none⟩) b.out _).trans (((cell_far (p := ⟨d, _, none⟩) b.out _).trans (x.1)))))))))), ((cell_far (p := ⟨d, _, none⟩) b.out _).trans (((cell_far (p := ⟨d, _, none⟩) b.out _).trans (((cell_far (p := ⟨d, _, none⟩) b.out _).trans (((cell_far (p := ⟨d, _, none⟩) b.out _).trans (((cell_far (p := ⟨d, _, none⟩) b.out _).trans (x.2.1)))))))))), ((cell_far (p := ⟨d, _, none⟩) b.out _).trans (((cell_far (p := ⟨d, _, none⟩) b.out _).trans (((cell_far (p := ⟨d, _, none⟩) b.out _).trans (((cell_far (p := ⟨d, _, none⟩) b.out _).trans (((cell_far (p := ⟨d, _, none⟩) b.out _).trans (x.2.2.1)))))))))), ((cell_far (p := ⟨d, _, none⟩) b.out _).trans (((cell_far (p := ⟨d, _, none⟩) b.out _).trans (((cell_far (p := ⟨d, _, none⟩) b.out _).trans (((cell_far (p := ⟨d, _, none⟩) b.out _).trans (((cell_far (p := ⟨d, _, none⟩) b.out _).trans (x.2.2.2.1)))))))))), ((cell_far (p := ⟨d, _, none⟩) b.out _).trans (((cell_far (p := ⟨d, _, none⟩) b.out _).trans (((cell_far (p := ⟨d, _, none⟩) b.out _).trans (((cell_far (p := ⟨d, _, none⟩) b.out _).trans (((cell_far (p := ⟨d, _, none⟩) b.out _).trans (x.2.2.2.2.1)))))))))), ((cell_far (p := ⟨d, _, none⟩) (by first | exact Kd.Ah (Kd.Ay a.out (fun _ r => r.1.1.2.2.2)) | (rw [add_block]; exact Kd.Ah (Kd.Ay a.out (fun _ r => r.1.1.2.2.2))) | (show (Addr.add _ _).block ≠ _; rw [add_block]; exact Kd.Ah (Kd.Ay a.out (fun _ r => r.1.1.2.2.2))) | (dsimp only; exact Kd.Ah (Kd.Ay a.out (fun _ r => r.1.1.2.2.2)))) _).trans (((cell_far (p := ⟨d, _, none⟩) (by first | exact Kd.Ah (Kd.Ay a.out (fun _ r => r.1.1.2.2.2)) | (rw [add_block]; exact Kd.Ah (Kd.Ay a.out (fun _ r => r.1.1.2.2.2))) | (show (Addr.add _ _).block ≠ _; rw [add_block]; exact Kd.Ah (Kd.Ay a.out (fun _ r => r.1.1.2.2.2))) | (dsimp only; exact Kd.Ah (Kd.Ay a.out (fun _ r => r.1.1.2.2.2)))) _).trans (((cell_far (p := ⟨d, _, none⟩) (by first | exact Kd.Ah (Kd.Ay a.out (fun _ r => r.1.1.2.2.2)) | (rw [add_block]; exact Kd.Ah (Kd.Ay a.out (fun _ r => r.1.1.2.2.2))) | (show (Addr.add _ _).block ≠ _; rw [add_block]; exact Kd.Ah (Kd.Ay a.out (fun _ r => r.1.1.2.2.2))) | (dsimp only; exact Kd.Ah (Kd.Ay a.out (fun _ r => r.1.1.2.2.2)))) _).trans (((cell_far (p := ⟨d, _, none⟩) (by first | exact Kd.Ah (Kd.Ay a.out (fun _ r => r.1.1.2.2.2)) | (rw [add_block]; exact Kd.Ah (Kd.Ay a.out (fun _ r => r.1.1.2.2.2))) | (show (Addr.add _ _).block ≠ _; rw [add_block]; exact Kd.Ah (Kd.Ay a.out (fun _ r => r.1.1.2.2.2))) | (dsimp only; exact Kd.Ah (Kd.Ay a.out (fun _ r => r.1.1.2.2.2)))) _).trans (((cell_far (p := ⟨d, _, none⟩) (by first | exact Kd.Ah (Kd.Ay a.out (fun _ r => r.1.1.2.2.2)) | (rw [add_block]; exact Kd.Ah (Kd.Ay a.out (fun _ r => r.1.1.2.2.2))) | (show (Addr.add _ _).block ≠ _; rw [add_block]; exact Kd.Ah (Kd.Ay a.out (fun _ r => r.1.1.2.2.2))) | (dsimp only; exact Kd.Ah (Kd.Ay a.out (fun _ r => r.1.1.2.2.2)))) _).trans (x.2.2.2.2.2.1)))))))))), ((cell_far (p := ⟨d, _, none⟩) (by first | exact Kd.Ah (Kd.Ay a.out (fun _ r => r.1.1.2.2.2)) | (rw [add_block]; exact Kd.Ah (Kd.Ay a.out (fun _ r => r.1.1.2.2.2))) | (show (Addr.add _ _).block ≠ _; rw [add_block]; exact Kd.Ah (Kd.Ay a.out (fun _ r => r.1.1.2.2.2))) | (dsimp only; exact Kd.Ah (Kd.Ay a.out (fun _ r => r.1.1.2.2.2)))) _).trans (((cell_far (p := ⟨d, _, none⟩) (by first | exact Kd.Ah (Kd.Ay a.out (fun _ r => r.1.1.2.2.2)) | (rw [add_block]; exact Kd.Ah (Kd.Ay a.out (fun _ r => r.1.1.2.2.2))) | (show (Addr.add _ _).block ≠ _; rw [add_block]; exact Kd.Ah (Kd.Ay a.out (fun _ r => r.1.1.2.2.2))) | (dsimp only; exact Kd.Ah (Kd.Ay a.out (fun _ r => r.1.1.2.2.2)))) _).trans (((cell_far (p := ⟨d, _, none⟩) (by first | exact Kd.Ah (Kd.Ay a.out (fun _ r => r.1.1.2.2.2)) | (rw [add_block]; exact Kd.Ah (Kd.Ay a.out (fun _ r => r.1.1.2.2.2))) | (show (Addr.add _ _).block ≠ _; rw [add_block]; exact Kd.Ah (Kd.Ay a.out (fun _ r => r.1.1.2.2.2))) | (dsimp only; exact Kd.Ah (Kd.Ay a.out (fun _ r => r.1.1.2.2.2)))) _).trans (((cell_far (p := ⟨d, _, none⟩) (by first | exact Kd.Ah (Kd.Ay a.out (fun _ r => r.1.1.2.2.2)) | (rw [add_block]; exact Kd.Ah (Kd.Ay a.out (fun _ r => r.1.1.2.2.2))) | (show (Addr.add _ _).block ≠ _; rw [add_block]; exact Kd.Ah (Kd.Ay a.out (fun _ r => r.1.1.2.2.2))) | (dsimp only; exact Kd.Ah (Kd.Ay a.out (fun _ r => r.1.1.2.2.2)))) _).trans (((cell_far (p := ⟨d, _, none⟩) (by first | exact Kd.Ah (Kd.Ay a.out (fun _ r => r.1.1.2.2.2)) | (rw [add_block]; exact Kd.Ah (Kd.Ay a.out (fun _ r => r.1.1.2.2.2))) | (show (Addr.add _ _).block ≠ _; rw [add_block]; exact Kd.Ah (Kd.Ay a.out (fun _ r => r.1.1.2.2.2))) | (dsimp only; exact Kd.Ah (Kd.Ay a.out (fun _ r => r.1.1.2.2.2)))) _).trans (x.2.2.2.2.2.2.1)))))))))), ((cell_far (p := ⟨d, _, none⟩) (by first | exact Kd.Ah (Kd.Ay a.out (fun _ r => r.1.1.2.2.2)) | (rw [add_block]; exact Kd.Ah (Kd.Ay a.out (fun _ r => r.1.1.2.2.2))) | (show (Addr.add _ _).block ≠ _; rw [add_block]; exact Kd.Ah (Kd.Ay a.out (fun _ r => r.1.1.2.2.2))) | (dsimp only; exact Kd.Ah (Kd.Ay a.out (fun _ r => r.1.1.2.2.2)))) _).trans (((cell_far (p := ⟨d, _, none⟩) (by first | exact Kd.Ah (Kd.Ay a.out (fun _ r => r.1.1.2.2.2)) | (rw [add_block]; exact Kd.Ah (Kd.Ay a.out (fun _ r => r.1.1.2.2.2))) | (show (Addr.add _ _).block ≠ _; rw [add_block]; exact Kd.Ah (Kd.Ay a.out (fun _ r => r.1.1.2.2.2))) | (dsimp only; exact Kd.Ah (Kd.Ay a.out (fun _ r => r.1.1.2.2.2)))) _).trans (((cell_far (p := ⟨d, _, none⟩) (by first | exact Kd.Ah (Kd.Ay a.out (fun _ r => r.1.1.2.2.2)) | (rw [add_block]; exact Kd.Ah (Kd.Ay a.out (fun _ r => r.1.1.2.2.2))) | (show (Addr.add _ _).block ≠ _; rw [add_block]; exact Kd.Ah (Kd.Ay a.out (fun _ r => r.1.1.2.2.2))) | (dsimp only; exact Kd.Ah (Kd.Ay a.out (fun _ r => r.1.1.2.2.2)))) _).trans (((cell_far (p := ⟨d, _, none⟩) (by first | exact Kd.Ah (Kd.Ay a.out (fun _ r => r.1.1.2.2.2)) | (rw [add_block]; exact Kd.Ah (Kd.Ay a.out (fun _ r => r.1.1.2.2.2))) | (show (Addr.add _ _).block ≠ _; rw [add_block]; exact Kd.Ah (Kd.Ay a.out (fun _ r => r.1.1.2.2.2))) | (dsimp only; exact Kd.Ah (Kd.Ay a.out (fun _ r => r.1.1.2.2.2)))) _).trans (((cell_far (p := ⟨d, _, none⟩) (by first | exact Kd.Ah (Kd.Ay a.out (fun _ r => r.1.1.2.2.2)) | (rw [add_block]; exact Kd.Ah (Kd.Ay a.out (fun _ r => r.1.1.2.2.2))) | (show (Addr.add _ _).block ≠ _; rw [add_block]; exact Kd.Ah (Kd.Ay a.out (fun _ r => r.1.1.2.2.2))) | (dsimp only; exact Kd.Ah (Kd.Ay a.out (fun _ r => r.1.1.2.2.2)))) _).trans (x.2.2.2.2.2.2.2.1)))))))))), ((cell_far (p := ⟨d, _, none⟩) (by first | exact Kd.Ah (Kd.Ay a.out (fun _ r => r.1.1.2.2.2)) | (rw [add_block]; exact Kd.Ah (Kd.Ay a.out (fun _ r => r.1.1.2.2.2))) | (show (Addr.add _ _).block ≠ _; rw [add_block]; exact Kd.Ah (Kd.Ay a.out (fun _ r => r.1.1.2.2.2))) | (dsimp only; exact Kd.Ah (Kd.Ay a.out (fun _ r => r.1.1.2.2.2)))) _).trans (((cell_far (p := ⟨d, _, none⟩) (by first | exact Kd.Ah (Kd.Ay a.out (fun _ r => r.1.1.2.2.2)) | (rw [add_block]; exact Kd.Ah (Kd.Ay a.out (fun _ r => r.1.1.2.2.2))) | (show (Addr.add _ _).block ≠ _; rw [add_block]; exact Kd.Ah (Kd.Ay a.out (fun _ r => r.1.1.2.2.2))) | (dsimp only; exact Kd.Ah (Kd.Ay a.out (fun _ r => r.1.1.2.2.2)))) _).trans (((cell_far (p := ⟨d, _, none⟩) (by first | exact Kd.Ah (Kd.Ay a.out (fun _ r => r.1.1.2.2.2)) | (rw [add_block]; exact Kd.Ah (Kd.Ay a.out (fun _ r => r.1.1.2.2.2))) | (show (Addr.add _ _).block ≠ _; rw [add_block]; exact Kd.Ah (Kd.Ay a.out (fun _ r => r.1.1.2.2.2))) | (dsimp only; exact Kd.Ah (Kd.Ay a.out (fun _ r => r.1.1.2.2.2)))) _).trans (((cell_far (p := ⟨d, _, none⟩) (by first | exact Kd.Ah (Kd.Ay a.out (fun _ r => r.1.1.2.2.2)) | (rw [add_block]; exact Kd.Ah (Kd.Ay a.out (fun _ r => r.1.1.2.2.2))) | (show (Addr.add _ _).block ≠ _; rw [add_block]; exact Kd.Ah (Kd.Ay a.out (fun _ r => r.1.1.2.2.2))) | (dsimp only; exact Kd.Ah (Kd.Ay a.out (fun _ r => r.1.1.2.2.2)))) _).trans (((cell_far (p := ⟨d, _, none⟩) (by first | exact Kd.Ah (Kd.Ay a.out (fun _ r => r.1.1.2.2.2)) | (rw [add_block]; exact Kd.Ah (Kd.Ay a.out (fun _ r => r.1.1.2.2.2))) | (show (Addr.add _ _).block ≠ _; rw [add_block]; exact Kd.Ah (Kd.Ay a.out (fun _ r => r.1.1.2.2.2))) | (dsimp only; exact Kd.Ah (Kd.Ay a.out (fun _ r => r.1.1.2.2.2)))) _).trans (x.2.2.2.2.2.2.2.2.1)))))))))), ((cell_far (p := ⟨d, _, none⟩) (by first | exact Kd.Ah (Kd.Ay a.out (fun _ r => r.1.1.2.2.2)) | (rw [add_block]; exact Kd.Ah (Kd.Ay a.out (fun _ r => r.1.1.2.2.2))) | (show (Addr.add _ _).block ≠ _; rw [add_block]; exact Kd.Ah (Kd.Ay a.out (fun _ r => r.1.1.2.2.2))) | (dsimp only; exact Kd.Ah (Kd.Ay a.out (fun _ r => r.1.1.2.2.2)))) _).trans (((cell_far (p := ⟨d, _, none⟩) (by first | exact Kd.Ah (Kd.Ay a.out (fun _ r => r.1.1.2.2.2)) | (rw [add_block]; exact Kd.Ah (Kd.Ay a.out (fun _ r => r.1.1.2.2.2))) | (show (Addr.add _ _).block ≠ _; rw [add_block]; exact Kd.Ah (Kd.Ay a.out (fun _ r => r.1.1.2.2.2))) | (dsimp only; exact Kd.Ah (Kd.Ay a.out (fun _ r => r.1.1.2.2.2)))) _).trans (((cell_far (p := ⟨d, _, none⟩) (by first | exact Kd.Ah (Kd.Ay a.out (fun _ r => r.1.1.2.2.2)) | (rw [add_block]; exact Kd.Ah (Kd.Ay a.out (fun _ r => r.1.1.2.2.2))) | (show (Addr.add _ _).block ≠ _; rw [add_block]; exact Kd.Ah (Kd.Ay a.out (fun _ r => r.1.1.2.2.2))) | (dsimp only; exact Kd.Ah (Kd.Ay a.out (fun _ r => r.1.1.2.2.2)))) _).trans (((cell_far (p := ⟨d, _, none⟩) (by first | exact Kd.Ah (Kd.Ay a.out (fun _ r => r.1.1.2.2.2)) | (rw [add_block]; exact Kd.Ah (Kd.Ay a.out (fun _ r => r.1.1.2.2.2))) | (show (Addr.add _ _).block ≠ _; rw [add_block]; exact Kd.Ah (Kd.Ay a.out (fun _ r => r.1.1.2.2.2))) | (dsimp only; exact Kd.Ah (Kd.Ay a.out (fun _ r => r.1.1.2.2.2)))) _).trans (((cell_far (p := ⟨d, _, none⟩) (by first | exact Kd.Ah (Kd.Ay a.out (fun _ r => r.1.1.2.2.2)) | (rw [add_block]; exact Kd.Ah (Kd.Ay a.out (fun _ r => r.1.1.2.2.2))) | (show (Addr.add _ _).block ≠ _; rw [add_block]; exact Kd.Ah (Kd.Ay a.out (fun _ r => r.1.1.2.2.2))) | (dsimp only; exact Kd.Ah (Kd.Ay a.out (fun _ r => r.1.1.2.2.2)))) _).trans (x.2.2.2.2.2.2.2.2.2))))))))))⟩ (fun x => ?_)
     clear hK K
     refine pv 12 7 (tf 13 1) lB ?_
     refine pv 13 8 (tf 14 0) lB ?_
     refine Dv (Cu lB.out (by kernel_rfl)) ?_
     try go_wp2
     refine bodyPost_ret (Eo rfl _ _ d 33 #[.int .i64 qG, .int .i64 t232, .slice mI t233.length fJ, .slice lI t236.length eJ, .slice kI yE.length dJ] (0, 0) _ rfl (pB l) Try.underlying33 rfl (by kernel_rfl)) rfl ?_
     exact ⟨_, _, _, rfl, by exact DZ (Kd.BC (rI (q := d) (Kd.Ao hD.out l.out (by decide)) (fun _ r => r.2)) (fun _ r => r.1.1)), by exact BO (Kd.AL (vI (q := d) (Kd.AL mD.out (fun D r => (⟨r, r.1.2.2.2.2⟩ : _ ∧ D ≠ d))) (fun _ r => r.2)) (fun _ r => ⟨r.1.1.1, ⟨r.1.1.2.1, r.1.2⟩⟩)), by exact DL (Kd.Av (nI (q := d) (Kd.Av xF.out (fun D r => (⟨r, r.2.2.2.2⟩ : _ ∧ D ≠ d))) (fun _ r => r.2)) (fun _ r => ⟨r.1.1, r.1.2.1⟩)), be3 X z G I⟩
end Go.Proofs.Ytojankgmedccdaa.PGn
