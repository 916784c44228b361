/- Lemmas for LawDriversTakes. -/
import Derived.Test.YtojankgmedccdaaYTPGnx0
import Derived.Test.YtojankgmedccdaaYTHandV
namespace Go.Proofs.Ytojankgmedccdaa.PGn
open Go.RowKit Own PTy Hand PIs PAw YtojankgmedccdaaW.PrintWords YtojankgmedccdaaW.PrintLast YtojankgmedccdaaW.PrintMore
attribute [local go_sem] BN BO Be Bf Az BA BR BS
set_option linter.unusedVariables false
set_option linter.unusedSimpArgs false
mutual
def Ah.j0 : Nat → Int → Bool → Int → Int → List Int → List (S30) → List (S63) → Option (Int × Int × List Int × (List (S30)) × (List (S63)) × Bool × Int)
 | 0, _, _, _, _, _, _, _ => none
 | k + 1, x2, x20, b, c, d, e, a => if x20 = true then (some (0, 0, ([] : List Int), ([] : List (S30)), ([] : List (S63)), false, 2)) else ((drivers_behind.f b c d e a x2).bind fun i => (if i = true then (some (0, 0, ([] : List Int), ([] : List (S30)), ([] : List (S63)), false, 5)) else (if (a.length : Int) = 0 then (Ah.j1 k true b c d e a) else (if 0 < (a.length : Int) then (Ah.j1 k (((AA a 0).f0) != x2) b c d e a) else (none)))))
def Ah.j1 : Nat → Bool → Int → Int → List Int → List (S30) → List (S63) → Option (Int × Int × List Int × (List (S30)) × (List (S63)) × Bool × Int)
 | 0, _, _, _, _, _, _ => none
 | k + 1, x38, b, c, d, e, a => if x38 = true then ((drivers_copied.f b c d e).bind fun g => ((drivers_all.f k a).bind fun t227 => (some (g.1, g.2.1, g.2.2.1, g.2.2.2, t227, false, 0)))) else (if 0 < (a.length : Int) then ((drivers_copied.f ((AA a 0).f1.f0) ((AA a 0).f1.f1) ((AA a 0).f1.f2) ((AA a 0).f1.f3)).bind fun h => (if 1 ≤ (a.length : Int) then ((drivers_all.f k (a.drop 1)).bind fun j => (some (h.1, h.2.1, h.2.2.1, h.2.2.2, j, true, 0))) else (none))) else (none))
end
def Ah.f (k : Nat) (g : Int) (h : Int) (i : ByteArray) (l : List ByteArray) (m : List (S26)) (a : Int) (b : Int) (c : List Int) (d : List (S30)) (e : List (S63)) (j : Int) : Option (Int × Int × List Int × (List (S30)) × (List (S63)) × Bool × Int) := (BK.f k g h i l m a b c d e).bind fun n => (if n = true then (if j < 0 then (Ah.j0 k j true a b c d e) else (Ah.j0 k j (decide (j > 2000000)) a b c d e)) else (Ah.j0 k j true a b c d e))
def Ah.T6 : Bool × List (List Nat × List Nat) := (true, [([], []), ([0], [0]), ([1], [1]), ([], []), ([3], [3]), ([4, 2], [4]), ([2, 5], [2, 5]), ([6, 5, 0, 1, 2, 3, 4, 5, 6], [6]), ([7, 0, 1, 2, 3, 4, 5, 6, 7], []), ([8, 0, 1, 2, 3, 4, 5, 6, 7, 8], [])])
def Ah.B6 : List Nat := [0, 1, 3, 0, 8, 31, 63, 127, 255, 511]
theorem Ah.KF : C9 .any (opsOf Try.f28 6) = Ah.T6 := by kernel_rfl
theorem Ah.H5 : Ca Ah.T6.2 Ah.B6 = true := by kernel_rfl
def Ah.T7 : Bool × List (List Nat × List Nat) := (true, [([], []), ([0], [0]), ([1], [1]), ([2], [2]), ([3], [3]), ([4], [4]), ([], []), ([6], [6]), ([7], [7]), ([8, 5], [8]), ([5, 9], [5, 9]), ([10, 9, 0, 1, 2, 3, 4, 5, 6, 7, 8, 9, 10], [10]), ([11, 0, 1, 2, 3, 4, 5, 6, 7, 8, 9, 10, 11], []), ([12, 0, 1, 2, 3, 4, 5, 6, 7, 8, 9, 10, 11, 12], [])])
def Ah.B7 : List Nat := [0, 1, 3, 7, 15, 31, 0, 64, 192, 511, 1023, 2047, 4095, 8191]
theorem Ah.Qi : C9 .any (opsOf Try.f28 7) = Ah.T7 := by kernel_rfl
theorem Ah.Pg : Ca Ah.T7.2 Ah.B7 = true := by kernel_rfl
set_option maxHeartbeats 8000000 in
set_option maxRecDepth 100000 in
theorem Ah.calls (k : Nat) (fC : Int) (gC : Int) (hC : ByteArray) (tC : Option Addr) (vC : Nat) (zB : List ByteArray) (uC : Option Addr) (wC : Nat) (aC : List (S26)) (qB : Int) (sB : Int) (dC : Option Addr) (iC : Nat) (jB : List Int) (aB : Nat → Prop) (uB : Option Addr) (yB : Nat) (Y : List (S30)) (bB : Nat → Prop) (eC : Option Addr) (hB : Nat) (y : List (S63)) (a2 : Int) (r1 : Int) (r2 : Int) (r3 : List Int) (r4 : List (S30)) (r5 : List (S63)) (r6 : Bool) (r7 : Int) (w : World) (hG : EN w) (lG : Kd.C Kd.string w tC zB.length zB) (fG : zB.length ≤ vC) (mG : Kd.C k26 w uC aC.length aC) (gG : aC.length ≤ wC) (nG : Kd.C (Kd.int .u8) w dC jB.length jB) (iG : jB.length ≤ iC) (wH : Kd.V k30 30 w w.heap.size (fun D => aB D) (.slice uB Y.length yB) Y) (xH : Kd.V k63 63 w w.heap.size (fun D => bB D) (.slice eC y.length hB) y) (h : Ah.f k fC gC hC zB aC qB sB jB Y y a2 = some (r1, r2, r3, r4, r5, r6, r7)) :
  Calls Try.prog 28 #[.agg #[.int .i64 fC, .int .i64 gC, .string hC, .slice tC zB.length vC, .slice uC aC.length wC], .agg #[.int .i64 qB, .int .i64 sB, .slice dC jB.length iC, .slice uB Y.length yB, .slice eC y.length hB], .int .i64 a2] w fun e w' => ∃ bH hL gI : Value, e = .returned (.tuple #[.agg #[.int .i64 r1, .int .i64 r2, bH, hL, gI], .bool r6, .int .i64 r7]) ∧ Kd.R (Kd.int .u8) 73 w' w.heap.size (fun D => (w.heap.size ≤ D)) bH r3 ∧ Kd.V k30 30 w' w.heap.size (fun D => ((aB D ∨ bB D) ∨ w.heap.size ≤ D) ∧ some D ≠ (bH : Value).ownBlock ∧ some D ≠ (gI : Value).ownBlock) hL r4 ∧ Kd.N k63 63 w' w.heap.size (fun D => ((aB D ∨ bB D) ∨ w.heap.size ≤ D) ∧ some D ≠ (bH : Value).ownBlock) gI r5 ∧ Below w.heap.size w w' := by
 have HG := mk0 hG; clear hG
 have aP := Try.underlying26
 have cP := Try.underlying33
 have bP := Try.underlying30
 have cF := mk0 lG; have zE := mk0 fG; clear lG fG; have dF := mk0 mG; have aF := mk0 gG; clear mG gG; have jD := mk0 nG; have fD := mk0 iG; clear nG iG
 have U := mk0 (show Kd.V k30 30 w w.heap.size (fun D => ((aB D ∨ bB D) ∨ w.heap.size ≤ D)) (.slice uB Y.length yB) Y from Kd.AR wH (fun D r => .inl (.inl r)))
 have W := mk0 (show Kd.V k63 63 w w.heap.size (fun D => ((aB D ∨ bB D) ∨ w.heap.size ≤ D)) (.slice eC y.length hB) y from Kd.AR xH (fun D r => .inl (.inr r)))
 have X := mk0 (Below.refl w.heap.size w)
 have H := h; unfold Ah.f at H
 clear h; have tH := mk0 H; clear H
 go_enter Try.func28, Try.ntmps28
 go_upto_region 1 with (first | ((with_reducible refine AJ rfl (N := 3) rfl (cs := #[.int .i64 fC, .int .i64 gC, .string hC, .slice tC zB.length vC, .slice uC aC.length wC]) (t := 26) ?hr ?_); (case hr => first | (go_simp; done) | (go_simp; rfl)); intro Z hg w5 kD T; obtain ⟨U, W⟩ := tg2 hg T U W; have u := mk0 (kD); have z := bs (be X) hg; replace X := kh X T; clear T kD hg) | ((with_reducible refine AJ rfl (N := 4) rfl (cs := #[.int .i64 qB, .int .i64 sB, .slice dC jB.length iC, .slice uB Y.length yB, .slice eC y.length hB]) (t := 33) ?hr ?_); (case hr => first | (go_simp; done) | (go_simp; rfl)); intro O hg w6 kD T; obtain ⟨U, W⟩ := tg2 hg T U W; have j := mk0 (kD); have G := bs (be1 X z) hg; replace X := kh1 X z T; have ⟨fB, gB⟩ := nn u hg; replace u := kb u T; clear T kD hg) | ((with_reducible refine AJ rfl (N := 6) rfl (cs := #[.int .i64 0, .int .i64 0, .slice none 0 0, .slice none 0 0, .slice none 0 0]) (t := 33) ?hr ?_); (case hr => first | (go_simp; done) | (go_simp; rfl)); intro d hg w7 kD T; obtain ⟨U, W⟩ := tg2 hg T U W; have l := mk0 (kD); have I := bs (be2 X z G) hg; replace X := kh2 X z G T; have ⟨J, L⟩ := nn u hg; have ⟨b, B⟩ := nn j hg; obtain ⟨u, j⟩ := tb2 T u j; clear T kD hg))
 (try simp only [Act.put, List.setIfInBounds_toArray, List.set_cons_zero, List.set_cons_succ])
 go_cut [20] (fun v20 wc => ∃ (kq : Nat) (eF : Bool), v20 = .bool eF ∧ Aside0 (Ah.j0 kq a2 eF qB sB jB Y y = some (r1, r2, r3, r4, r5, r6, r7)) ∧ Aside0 (kq ≤ k) ∧ Aside0 (Kd.V k30 30 wc w.heap.size (fun D => ((aB D ∨ bB D) ∨ w.heap.size ≤ D) ∧ D ≠ Z ∧ D ≠ O ∧ D ≠ d) (.slice uB Y.length yB) Y) ∧ Aside0 (Kd.V k63 63 wc w.heap.size (fun D => ((aB D ∨ bB D) ∨ w.heap.size ≤ D) ∧ D ≠ Z ∧ D ≠ O ∧ D ≠ d) (.slice eC y.length hB) y) ∧ Aside0 (wc.heap[Z]? = some (.cells #[.int .i64 fC, .int .i64 gC, .string hC, (.slice tC zB.length vC), (.slice uC aC.length wC)] 26 (0, 0))) ∧ Aside0 (wc.heap[O]? = some (.cells #[.int .i64 qB, .int .i64 sB, (.slice dC jB.length iC), (.slice uB Y.length yB), (.slice eC y.length hB)] 33 (0, 0))) ∧ Aside0 (wc.heap[d]? = some (.cells #[.int .i64 0, .int .i64 0, (.slice none 0 0), (.slice none 0 0), (.slice none 0 0)] 33 (0, 0))) ∧ Aside0 (Below w.heap.size w wc))
 case first =>
  have H := tH.out; clear tH
  replace H := bS H; obtain ⟨jP, A8, H⟩ := H
  replace H := iB' H; obtain ⟨rfl, H⟩ | ⟨rfl, H⟩ := H
  ·have H' := mk0 H
   clear H; have ⟨aN, vN⟩ := no fB gB; have ⟨bN, wN⟩ := no J L
   have pP := cells5 u.out
   have ⟨cN, xN⟩ := no b B
   have qP := cells5 j.out
   go_wp2_with ((with_reducible refine AL (f := 19) rfl ?_); refine CV Try.func19 (BK.calls k fC gC hC _ _ zB _ _ aC qB sB _ _ jB _ _ Y _ _ y false _ (Al HG.out (be3 X z G I)) (cu cF X) zE.out (cu dF X) aF.out (cu jD X) fD.out (EO (Kd.Ac U.out).2.2) ((Kd.Ac U.out).2.1) (EO (Kd.Ac W.out).2.2) ((Kd.Ac W.out).2.1) A8.out) ?_; intro cQ T; replace U := vb U T; replace W := vb W T; obtain ⟨u, j, l⟩ := tb3 T u j l; replace X := kh3 X z G I T)
   go_meet
   case rel => exact ⟨_, (true), rfl, H', ⟨by omega⟩, ⟨Bn (Kd.AR U.out (fun _ r => ⟨r.1.1.1, ⟨r.1.1.2, ⟨r.1.2, r.2⟩⟩⟩))⟩, ⟨Bn (Kd.AR W.out (fun _ r => ⟨r.1.1.1, ⟨r.1.1.2, ⟨r.1.2, r.2⟩⟩⟩))⟩, ⟨bu u⟩, ⟨bu j⟩, ⟨bu l⟩, ⟨be3 X z G I⟩⟩
  replace H := iD' H; obtain ⟨-, nD, H⟩ | ⟨-, nD, H⟩ := H
  ·(first | rw [nD] | (simp only [CO, Da]; rw [nD]) | skip)
   have H' := mk0 H
   clear H; have ⟨xM, sN⟩ := no fB gB; have ⟨yM, tN⟩ := no J L
   have nP := cells5 u.out
   have ⟨zM, uN⟩ := no b B
   have oP := cells5 j.out
   go_wp2_with ((with_reducible refine AL (f := 19) rfl ?_); refine CV Try.func19 (BK.calls k fC gC hC _ _ zB _ _ aC qB sB _ _ jB _ _ Y _ _ y true _ (Al HG.out (be3 X z G I)) (cu cF X) zE.out (cu dF X) aF.out (cu jD X) fD.out (EO (Kd.Ac U.out).2.2) ((Kd.Ac U.out).2.1) (EO (Kd.Ac W.out).2.2) ((Kd.Ac W.out).2.1) A8.out) ?_; intro bQ T; replace U := vb U T; replace W := vb W T; obtain ⟨u, j, l⟩ := tb3 T u j l; replace X := kh3 X z G I T)
   go_meet
   case rel => exact ⟨_, (decide (a2 > 2000000)), rfl, H', ⟨by omega⟩, ⟨Bn (Kd.AR U.out (fun _ r => ⟨r.1.1.1, ⟨r.1.1.2, ⟨r.1.2, r.2⟩⟩⟩))⟩, ⟨Bn (Kd.AR W.out (fun _ r => ⟨r.1.1.1, ⟨r.1.1.2, ⟨r.1.2, r.2⟩⟩⟩))⟩, ⟨bu u⟩, ⟨bu j⟩, ⟨bu l⟩, ⟨be3 X z G I⟩⟩
  (first | rw [nD] | (simp only [CO, Da]; rw [nD]) | skip)
  have H' := mk0 H
  clear H; have ⟨uM, pN⟩ := no fB gB; have ⟨vM, qN⟩ := no J L
  have lP := cells5 u.out
  have ⟨wM, rN⟩ := no b B
  have mP := cells5 j.out
  go_wp2_with ((with_reducible refine AL (f := 19) rfl ?_); refine CV Try.func19 (BK.calls k fC gC hC _ _ zB _ _ aC qB sB _ _ jB _ _ Y _ _ y true _ (Al HG.out (be3 X z G I)) (cu cF X) zE.out (cu dF X) aF.out (cu jD X) fD.out (EO (Kd.Ac U.out).2.2) ((Kd.Ac U.out).2.1) (EO (Kd.Ac W.out).2.2) ((Kd.Ac W.out).2.1) A8.out) ?_; intro aQ T; replace U := vb U T; replace W := vb W T; obtain ⟨u, j, l⟩ := tb3 T u j l; replace X := kh3 X z G I T)
  go_meet
  case rel => exact ⟨_, (true), rfl, H', ⟨by omega⟩, ⟨Bn (Kd.AR U.out (fun _ r => ⟨r.1.1.1, ⟨r.1.1.2, ⟨r.1.2, r.2⟩⟩⟩))⟩, ⟨Bn (Kd.AR W.out (fun _ r => ⟨r.1.1.1, ⟨r.1.1.2, ⟨r.1.2, r.2⟩⟩⟩))⟩, ⟨bu u⟩, ⟨bu j⟩, ⟨bu l⟩, ⟨be3 X z G I⟩⟩
 case rest =>
  clear tH
  obtain ⟨kq, eF, rfl, HA, uI, s, a, u, j, l, X⟩ := hcut
  cases kq with
  | zero => exact absurd HA.out (by simp [Ah.j0])
  | succ jO =>
   have H := HA.out; clear HA
   simp only [Ah.j0] at H
   replace H := iB H; obtain ⟨rfl, H⟩ | ⟨rfl, H⟩ := H
   ·simp only [Option.some.injEq, Prod.mk.injEq] at H
    obtain ⟨rfl, rfl, rfl, rfl, rfl, rfl, rfl⟩ := H
    have ⟨dN, yN⟩ := no L J; have ⟨eN, zN⟩ := no B b
    have rP := cells5 l.out
    go_wp2
    refine bodyPost_ret (EB rfl _ _ d 33 #[.int .i64 0, .int .i64 0, .slice none 0 0, .slice none 0 0, .slice none 0 0] (0, 0) _ rfl (pB l) Try.underlying33 rfl (by kernel_rfl)) rfl ?_
    exact ⟨_, _, _, rfl, by first | exact Kd.D5 _ _ _ _ _ | exact Kd.ET _ _ _ _ _ | exact Kd.D7 _ _ _ _ _ | exact Kd.ER _ _ _ _ _ | exact Kd.ES _ _ _ _ _, Kd.D7 _ _ _ _ _, by first | exact Kd.D5 _ _ _ _ _ | exact Kd.ET _ _ _ _ _ | exact Kd.D7 _ _ _ _ _ | exact Kd.ER _ _ _ _ _ | exact Kd.ES _ _ _ _ _, be3 X z G I⟩
   replace H := bS H; obtain ⟨kP, hI, H⟩ := H
   replace H := iB H; obtain ⟨rfl, H⟩ | ⟨rfl, H⟩ := H
   ·simp only [Option.some.injEq, Prod.mk.injEq] at H
    obtain ⟨rfl, rfl, rfl, rfl, rfl, rfl, rfl⟩ := H
    have ⟨fN, aO⟩ := no gB fB; have ⟨gN, bO⟩ := no b B
    have sP := cells5 j.out
    go_wp2_with ((with_reducible refine AL (f := 50) rfl ?_); refine CV Try.func50 (drivers_behind.calls (cu jD X) fD.out (EO (Kd.Ac s.out).2.2) ((Kd.Ac s.out).2.1) (EO (Kd.Ac a.out).2.2) ((Kd.Ac a.out).2.1) hI.out) ?_; intro dQ T; replace s := vb s T; replace a := vb a T; obtain ⟨u, j, l⟩ := tb3 T u j l; replace X := kh3 X z G I T; have ⟨hN, cO⟩ := no L J; have tP := cells5 l.out)
    refine bodyPost_ret (EB rfl _ _ d 33 #[.int .i64 0, .int .i64 0, .slice none 0 0, .slice none 0 0, .slice none 0 0] (0, 0) _ rfl (pB l) Try.underlying33 rfl (by kernel_rfl)) rfl ?_
    exact ⟨_, _, _, rfl, by first | exact Kd.D5 _ _ _ _ _ | exact Kd.ET _ _ _ _ _ | exact Kd.D7 _ _ _ _ _ | exact Kd.ER _ _ _ _ _ | exact Kd.ES _ _ _ _ _, Kd.D7 _ _ _ _ _, by first | exact Kd.D5 _ _ _ _ _ | exact Kd.ET _ _ _ _ _ | exact Kd.D7 _ _ _ _ _ | exact Kd.ER _ _ _ _ _ | exact Kd.ES _ _ _ _ _, be3 X z G I⟩
   have wF := mk0 H; clear H; have ⟨jN, dO⟩ := no gB fB; have ⟨kN, eO⟩ := no b B
   have uP := cells5 j.out
   go_upto_region 5 with ((with_reducible refine AL (f := 50) rfl ?_); refine CV Try.func50 (drivers_behind.calls (cu jD X) fD.out (EO (Kd.Ac s.out).2.2) ((Kd.Ac s.out).2.1) (EO (Kd.Ac a.out).2.2) ((Kd.Ac a.out).2.1) hI.out) ?_; intro eQ T; replace s := vb s T; replace a := vb a T; obtain ⟨u, j, l⟩ := tb3 T u j l; replace X := kh3 X z G I T)
   (try simp only [Act.put, List.setIfInBounds_toArray, List.set_cons_zero, List.set_cons_succ])
   go_cut [38] (fun v38 wc => ∃ (kq : Nat) (hE : Bool), v38 = .bool hE ∧ Aside0 (Ah.j1 kq hE qB sB jB Y y = some (r1, r2, r3, r4, r5, r6, r7)) ∧ Aside0 (kq ≤ jO) ∧ Aside0 (Kd.V k30 30 wc w.heap.size (fun D => ((aB D ∨ bB D) ∨ w.heap.size ≤ D) ∧ D ≠ Z ∧ D ≠ O ∧ D ≠ d) (.slice uB Y.length yB) Y) ∧ Aside0 (Kd.V k63 63 wc w.heap.size (fun D => ((aB D ∨ bB D) ∨ w.heap.size ≤ D) ∧ D ≠ Z ∧ D ≠ O ∧ D ≠ d) (.slice eC y.length hB) y) ∧ Aside0 (wc.heap[Z]? = some (.cells #[.int .i64 fC, .int .i64 gC, .string hC, (.slice tC zB.length vC), (.slice uC aC.length wC)] 26 (0, 0))) ∧ Aside0 (wc.heap[O]? = some (.cells #[.int .i64 qB, .int .i64 sB, (.slice dC jB.length iC), (.slice uB Y.length yB), (.slice eC y.length hB)] 33 (0, 0))) ∧ Aside0 (wc.heap[d]? = some (.cells #[.int .i64 0, .int .i64 0, (.slice none 0 0), (.slice none 0 0), (.slice none 0 0)] 33 (0, 0))) ∧ Aside0 (Below w.heap.size w wc))
   case first =>
    have H := wF.out; clear wF
    replace H := iE H; obtain ⟨oD, uH, H⟩ | ⟨c46, oD, uH, H⟩ := H
    ·(first | rw [oD] | (simp only [CO, Da]; rw [oD]) | skip)
     have H' := mk0 H
     clear H; have ⟨lN, fO⟩ := no gB fB; have ⟨mN, gO⟩ := no b B
     have vP := cells5 j.out
     go_wp2
     go_meet
     case rel => exact ⟨_, (true), rfl, H', ⟨by have := uI.out; omega⟩, ⟨CE s.out⟩, ⟨CE a.out⟩, ⟨bu u⟩, ⟨bu j⟩, ⟨bu l⟩, ⟨be3 X z G I⟩⟩
    have zL : ¬ (y = []) := fun h_ => c46 (by rw [h_]; rfl)
    (first | rw [oD] | (simp only [CO, Da]; rw [oD]) | skip)
    replace H := iN H; obtain ⟨aM, bM, H⟩ := H
    have cM : decide (0 < y.length) = true := decide_eq_true (by omega)
    clear aM
    have H' := mk0 H
    clear H; have ⟨nN, hO⟩ := no gB fB; have ⟨oN, iO⟩ := no b B
    have wP := cells5 j.out
    have oF : 0 ≤ (0 : Int) := (by omega)
    have qF : 0 < (y.length : Int) := od
    obtain ⟨yL, iL, kL, jL, lL, hJ, vD, wD, xD, cD, dD, oE, kE, pE, lE⟩ := Cg (Kd.Ac a.out).2.2 0 oF qF
    cases hJ
    obtain ⟨iM, xG, vG, fE⟩ := Kd.Gj a.out z63 0 oF (by first | exact qF | exact of_decide_eq_true (by assumption) | (have e_ := (Kd.Ac a.out).1; omega))
    obtain ⟨zK, dL, aL, eL, rfl, bE, rD, cE, sD⟩ := Ej vG
    have yC := fE 3 _ rfl
    rw [Bq _ _ 3 (by omega)] at yC
    replace yC := Option.some.inj (yC.symm.trans cD)
    injection yC with hva_ hvn_ hvc_
    rw [hva_] at rD
    rw [hvc_] at bE
    have wI := mk0 (show Kd.V (Kd.int .u8) 73 _ w.heap.size _ _ ((AA y 0).f1.f2) from Kd.EA bE rD)
    clear hva_ hvn_ hvc_ rD bE
    have zC := fE 4 _ rfl
    rw [Bq _ _ 4 (by omega)] at zC
    replace zC := Option.some.inj (zC.symm.trans dD)
    injection zC with hva_ hvn_ hvc_
    rw [hva_] at sD
    rw [hvc_] at cE
    have xI := mk0 (show Kd.V k30 30 _ w.heap.size _ _ ((AA y 0).f1.f3) from Kd.EA cE sD)
    clear hva_ hvn_ hvc_ sD cE; clear fE xG
    have kO : (0 < y.length) = True := eq_true (by omega)
    (try rw [show ((0 : Int)).toNat = 0 from rfl] at vD)
    (try rw [show 0 * 5 = 0 from rfl] at vD)
    (try rw [Addr.add_zero'] at vD)
    (try rw [show ((0 : Int)).toNat = 0 from rfl] at wD)
    (try rw [show 0 * 5 = 0 from rfl] at wD)
    (try rw [Addr.add_zero'] at wD)
    (try rw [show ((0 : Int)).toNat = 0 from rfl] at xD)
    (try rw [show 0 * 5 = 0 from rfl] at xD)
    (try rw [Addr.add_zero'] at xD)
    (try rw [show ((0 : Int)).toNat = 0 from rfl] at cD)
    (try rw [show 0 * 5 = 0 from rfl] at cD)
    (try rw [Addr.add_zero'] at cD)
    (try rw [show ((0 : Int)).toNat = 0 from rfl] at dD)
    (try rw [show 0 * 5 = 0 from rfl] at dD)
    (try rw [Addr.add_zero'] at dD)
    have yI := mk0 kE; have pI := mk0 oE; clear kE oE; have zI := mk0 lE; have qI := mk0 pE; clear lE pE; replace oF := eq_true oF; replace qF := eq_true qF
    go_wp2
    go_meet
    case rel => exact ⟨_, ((((AA y 0).f0) != a2)), rfl, H', ⟨by have := uI.out; omega⟩, ⟨CE s.out⟩, ⟨CE a.out⟩, ⟨bu u⟩, ⟨bu j⟩, ⟨bu l⟩, ⟨be3 X z G I⟩⟩
   case rest =>
    clear wF
    obtain ⟨kq, hE, rfl, HA, mO, s, a, u, j, l, X⟩ := hcut
    cases kq with
    | zero => exact absurd HA.out (by simp [Ah.j1])
    | succ pG =>
     have H := HA.out; clear HA
     simp only [Ah.j1] at H
     replace H := iB H; obtain ⟨rfl, H⟩ | ⟨rfl, H⟩ := H
     ·replace H := Option.bind_eq_some_iff.mp H
      obtain ⟨⟨mH, nH, oH, pH⟩, cH, H⟩ := H
      replace H : ((drivers_all.f pG y).bind fun t227 => (some (mH, nH, oH, pH, t227, false, 0))) = some (r1, r2, r3, r4, r5, r6, r7) := H
      have rL := mk0 cH; clear cH
      replace H := bS H; obtain ⟨t227, sL, H⟩ := H
      simp only [Option.some.injEq, Prod.mk.injEq] at H
      obtain ⟨rfl, rfl, rfl, rfl, rfl, rfl, rfl⟩ := H
      try go_wp2
      have nC := mk0 (Kd.Bl s.out)
      have oC := mk0 (Kd.Bl a.out)
      have pC := mk0 (AV u.out)
      have qC := mk0 (AV j.out)
      have rC := mk0 (AV l.out)
      have sC := mk0 (AZ X.out)
      clear s; clear a; clear u; clear j; clear l; clear X; have s := nC; have a := oC; have u := pC; have j := qC; have l := rC; have X := sC; clear nC oC pC qC rC sC
      refine DU (n := 10) (S := fun w' => w'.cell? ⟨O, 0, none⟩ = some (.int .i64 qB) ∧ w'.cell? ⟨O, 1, none⟩ = some (.int .i64 sB) ∧ w'.cell? ⟨O, 2, none⟩ = some (.slice dC jB.length iC) ∧ w'.cell? ⟨O, 3, none⟩ = some (.slice uB Y.length yB) ∧ w'.cell? ⟨O, 4, none⟩ = some (.slice eC y.length hB)) (ds := []) (tf 0 10) (by kernel_rfl) rfl rfl ⟨bc j 0, bc j 1, bc j 2, bc j 3, bc j 4⟩ (fun x => ?_); refine CQ Ah.KF Ah.H5 (fun lB tF => ?_)
      generalize wc.drew = fQ at s a u j l X x ⊢
      refine pv 0 39 (tf 1 9) lB ?_
      refine pv 3 42 #[true, false, false, true, false, false, false, false, false, false] lB ?_
      refine Bj (i := 1) (N := some 40) (v := ?_) (a' := ?_) #[true, true, false, true, false, false, false, false, false, false] rfl rfl (Av lB.out tF.out (by kernel_rfl)) (fun _ _ _ h => h) (Or.inl ⟨by rfl, ?_⟩) x ?_ ?_
      rotate_left
      ·rintro w' ⟨s0, s1, s2, s3, s4⟩
       go_simp
       with_reducible rfl
      rotate_left
      ·simp only [ps]
       rfl
      refine Bj (i := 4) (N := some 43) (v := ?_) (a' := ?_) #[true, true, false, true, true, false, false, false, false, false] rfl rfl (Av lB.out tF.out (by kernel_rfl)) (fun _ _ _ h => h) (Or.inl ⟨by rfl, ?_⟩) x ?_ ?_
      rotate_left
      ·rintro w' ⟨s0, s1, s2, s3, s4⟩
       go_simp
       with_reducible rfl
      rotate_left
      ·simp only [ps]
       rfl
      refine DL (i := 2) (N := some 41) (tf 5 5) rfl rfl (Bo lB.out (by kernel_rfl)) (by decide) (fun K hK => ?_)
      refine Co Try.func51 (by kernel_rfl) rfl #[.agg #[.int .i64 qB, .int .i64 sB, .slice dC jB.length iC, .slice uB Y.length yB]] (by rfl) rfl rfl (by (try simp only [List.map_toArray, List.map_cons, List.map_nil]); first | done | rfl | (simp only [List.length_drop, List.length_take]; rfl)) ?_
      with_reducible refine (drivers_copied.calls (fun D => (((aB D ∨ bB D) ∨ w.heap.size ≤ D) ∧ (D ≠ Z ∧ (D ≠ O ∧ D ≠ d)))) ?side1 ?side2 ?side3 rL.out).mono ?_
      (case side1 => exact cu jD X)
      (case side2 => exact fD.out)
      (case side3 => exact s.out)
      rintro e gQ ⟨v222, v225, rfl, mB, kG, T⟩
      refine ⟨_, rfl, ?_⟩
      have nC := mk0 (Kd.BG (CE s.out) (Kd.Am mB) T)
      have oC := mk0 (Kd.BG (CE a.out) (Kd.Am mB) T)
      have pC := mk0 (Kd.CF (Kd.E9 (M := fun D => (w.heap.size ≤ D)) (Kd.Ai (ok' := fun D => True) mB (fun _ tB => trivial)) (AP (be3 X z G I)) (fun D h_ => h_)) (AP (be3 X z G I)))
      have qC := mk0 (Kd.En (Kd.AR (ok' := fun D => ((aB D ∨ bB D) ∨ w.heap.size ≤ D) ∧ some D ≠ (v222 : Value).ownBlock ∧ D ≠ Z ∧ D ≠ O ∧ D ≠ d) kG (fun D tB => ⟨Or.elim tB.1 (fun dB => dB.1) (fun cB => (.inr (Nat.le_trans (AP (be3 X z G I)) cB))), tB.2, Or.elim tB.1 (fun dB => dB.2.1) (fun cB => (Kd.Aq (g := Z) (o := .cells #[.int .i64 fC, .int .i64 gC, .string hC, .slice tC zB.length vC, .slice uC aC.length wC] 26 (0, 0)) (AU u.out) D cB)), Or.elim tB.1 (fun dB => dB.2.2.1) (fun cB => (Kd.Aq (g := O) (o := .cells #[.int .i64 qB, .int .i64 sB, .slice dC jB.length iC, .slice uB Y.length yB, .slice eC y.length hB] 33 (0, 0)) (AU j.out) D cB)), Or.elim tB.1 (fun dB => dB.2.2.2) (fun cB => (Kd.Aq (g := d) (o := .cells #[.int .i64 0, .int .i64 0, .slice none 0 0, .slice none 0 0, .slice none 0 0] 33 (0, 0)) (AU l.out) D cB))⟩)) (AP (be3 X z G I)))
      have rC := kb u T
      have sC := kb j T
      have zD := kb l T
      have aE := kh3 X z G I T
      clear s; clear a; clear u; clear j; clear l; clear X; have s := nC; have a := oC; have gD := pC; have lD := qC; have u := rC; have j := sC; have l := zD; have X := aE; clear nC oC pC qC rC sC zD aE
      try clear T
      try clear r
      try clear mB
      try clear kG
      refine hK.out _ _ ⟨bc j 0, bc j 1, bc j 2, bc j 3, bc j 4⟩ (fun x => ?_)
      clear hK K
      refine Br (a' := ?_) ?_ ?_
      rotate_left
      ·show Act.put _ (some 41) _ = _
       simp only [ps]
       rfl
      refine DL (i := 5) (N := some 44) (tf 6 4) rfl rfl (Bo lB.out (by kernel_rfl)) (by decide) (fun K hK => ?_)
      refine Co Try.func52 (by kernel_rfl) rfl #[.slice eC y.length hB] (by rfl) rfl rfl (by (try simp only [List.map_toArray, List.map_cons, List.map_nil]); first | done | rfl | (simp only [List.length_drop, List.length_take]; rfl)) ?_
      with_reducible refine (drivers_all.calls (fun D => ((((aB D ∨ bB D) ∨ w.heap.size ≤ D) ∧ (D ≠ Z ∧ (D ≠ O ∧ D ≠ d))) ∧ some D ≠ (v222 : Value).ownBlock)) ?side1 sL.out).mono ?_
      (case side1 => exact a.out)
      rintro e sG ⟨v228, rfl, mB, T⟩
      refine ⟨_, rfl, ?_⟩
      have nC := mk0 (Kd.BG (CE s.out) (Kd.Bi mB) T)
      have oC := mk0 (Kd.BG (CE a.out) (Kd.Bi mB) T)
      have pC := rb gD T
      have qC := mk0 (Kd.BG (CE lD.out) (Kd.Bi mB) T)
      have rC := mk0 (Kd.Dk (Kd.BM (ok' := fun D => ((aB D ∨ bB D) ∨ w.heap.size ≤ D) ∧ some D ≠ (v222 : Value).ownBlock ∧ D ≠ Z ∧ D ≠ O ∧ D ≠ d) mB (fun D tB => ⟨Or.elim tB (fun dB => dB.1.1) (fun cB => (.inr (Nat.le_trans (AP (be3 X z G I)) cB))), Or.elim tB (fun dB => dB.2) (fun cB => (Kd.fresh' (Kd.Cz (CP gD.out)) D cB)), Or.elim tB (fun dB => dB.1.2.1) (fun cB => (Kd.Aq (g := Z) (o := .cells #[.int .i64 fC, .int .i64 gC, .string hC, .slice tC zB.length vC, .slice uC aC.length wC] 26 (0, 0)) (AU u.out) D cB)), Or.elim tB (fun dB => dB.1.2.2.1) (fun cB => (Kd.Aq (g := O) (o := .cells #[.int .i64 qB, .int .i64 sB, .slice dC jB.length iC, .slice uB Y.length yB, .slice eC y.length hB] 33 (0, 0)) (AU j.out) D cB)), Or.elim tB (fun dB => dB.1.2.2.2) (fun cB => (Kd.Aq (g := d) (o := .cells #[.int .i64 0, .int .i64 0, .slice none 0 0, .slice none 0 0, .slice none 0 0] 33 (0, 0)) (AU l.out) D cB))⟩)) (AP (be3 X z G I)))
      have sC := kb u T
      have zD := kb j T
      have aE := kb l T
      have xE := kh3 X z G I T
      clear s; clear a; clear gD; clear lD; clear u; clear j; clear l; clear X; have s := nC; have a := oC; have gD := pC; have lD := qC; have xF := rC; have u := sC; have j := zD; have l := aE; have X := xE; clear nC oC pC qC rC sC zD aE xE
      try clear T
      try clear r
      try clear mB
      obtain ⟨iI, bJ, eH⟩ := Kd.Cw xF.out
      (first | subst eH | (injection eH with f1_ f2_ f3_; have pD := f1_.symm; have qD := f3_.symm; clear f1_ f2_ f3_; subst pD; subst qD))
      obtain ⟨jI, cJ, fH⟩ := Kd.D6 lD.out
      (first | subst fH | (injection fH with f1_ f2_ f3_; have pD := f1_.symm; have qD := f3_.symm; clear f1_ f2_ f3_; subst pD; subst qD))
      obtain ⟨kI, dJ, gH⟩ := Kd.Bg gD.out
      (first | subst gH | (injection gH with f1_ f2_ f3_; have pD := f1_.symm; have qD := f3_.symm; clear f1_ f2_ f3_; subst pD; subst qD))
      refine hK.out _ _ ⟨bc j 0, bc j 1, bc j 2, bc j 3, bc j 4⟩ (fun x => ?_)
      clear hK K
      refine Br (a' := ?_) ?_ ?_
      rotate_left
      ·show Act.put _ (some 44) _ = _
       simp only [ps]
       rfl
      refine pv 6 45 (tf 7 3) lB ?_
      refine DL (i := 7) (N := none) (tf 8 2) rfl rfl (Bo lB.out (by kernel_rfl)) (by decide) (fun K hK => ?_)
      have qO : sG.cell? ⟨d, 0, none⟩ = some (.int .i64 0) := bc l 0
      have kM := Aa l.out 0
      have eK := J.out; have fK := b.out; have kJ := L.out; have lJ := B.out
      have rO : sG.cell? ⟨d, 1, none⟩ = some (.int .i64 0) := bc l 1
      have lM := Aa l.out 1
      have gK := J.out; have iK := b.out; have mJ := L.out; have nJ := B.out
      have sO : sG.cell? ⟨d, 2, none⟩ = some (.slice none 0 0) := bc l 2
      have mM := Aa l.out 2
      have jK := J.out; have kK := b.out; have oJ := L.out; have pJ := B.out
      have tO : sG.cell? ⟨d, 3, none⟩ = some (.slice none 0 0) := bc l 3
      have nM := Aa l.out 3
      have lK := J.out; have mK := b.out; have qJ := L.out; have rJ := B.out
      have uO : sG.cell? ⟨d, 4, none⟩ = some (.slice none 0 0) := bc l 4
      have oM := Aa l.out 4
      have nK := J.out; have oK := b.out; have sJ := L.out; have tJ := B.out
      refine Fp (w1 := ?_) (by rfl) rfl ?_ ?_
      rotate_left
      ·go_simp
       rfl
      refine hK.out _ _ ⟨((cell_far (p := ⟨d, _, none⟩) b.out _).trans (((cell_far (p := ⟨d, _, none⟩) b.out _).trans (((cell_far (p := ⟨d, _, none⟩) b.out _).trans (((cell_far (p := ⟨d, _, none⟩) b.out _).trans (((cell_far (p := ⟨d, _, none⟩) b.out _).trans (x.1)))))))))), ((cell_far (p := ⟨d, _, none⟩) b.out _).trans (((cell_far (p := ⟨d, _, none⟩) b.out _).trans (((cell_far (p := ⟨d, _, none⟩) b.out _).trans (((cell_far (p := ⟨d, _, none⟩) b.out _).trans (((cell_far (p := ⟨d, _, none⟩) b.out _).trans (x.2.1)))))))))), ((cell_far (p := ⟨d, _, none⟩) b.out _).trans (((cell_far (p := ⟨d, _, none⟩) b.out _).trans (((cell_far (p := ⟨d, _, none⟩) b.out _).trans (((cell_far (p := ⟨d, _, none⟩) b.out _).trans (((cell_far (p := ⟨d, _, none⟩) b.out _).trans (x.2.2.1)))))))))), ((cell_far (p := ⟨d, _, none⟩) b.out _).trans (((cell_far (p := ⟨d, _, none⟩) b.out _).trans (((cell_far (p := ⟨d, _, none⟩) b.out _).trans (((cell_far (p := ⟨d, _, none⟩) b.out _).trans (((cell_far (p := ⟨d, _, none⟩) b.out _).trans (x.2.2.2.1)))))))))), ((cell_far (p := ⟨d, _, none⟩) b.out _).trans (((cell_far (p := ⟨d, _, none⟩) b.out _).trans (((cell_far (p := ⟨d, _, none⟩) b.out _).trans (((cell_far (p := ⟨d, _, none⟩) b.out _).trans (((cell_far (p := ⟨d, _, none⟩) b.out _).trans (x.2.2.2.2))))))))))⟩ (fun x => ?_)
      clear hK K
      refine pv 8 7 (tf 9 1) lB ?_
      refine pv 9 8 (tf 10 0) lB ?_
      refine EG (DW lB.out (by kernel_rfl)) ?_
      try go_wp2
      refine bodyPost_ret (EB rfl _ _ d 33 #[.int .i64 mH, .int .i64 nH, .slice kI oH.length dJ, .slice jI pH.length cJ, .slice iI t227.length bJ] (0, 0) _ rfl (pB l) Try.underlying33 rfl (by kernel_rfl)) rfl ?_
      exact ⟨_, _, _, rfl, by exact CS (Kd.Ai (rI (q := d) (Kd.Ao gD.out l.out (by decide)) (fun _ r => r.2)) (fun _ r => r.1.1)), by exact Bn (Kd.AR (vI (q := d) (Kd.AR lD.out (fun D r => (⟨r, r.1.2.2.2.2⟩ : _ ∧ D ≠ d))) (fun _ r => r.2)) (fun _ r => ⟨r.1.1.1, ⟨r.1.1.2.1, r.1.2⟩⟩)), by exact DC (Kd.BM (nI (q := d) (Kd.BM xF.out (fun D r => (⟨r, r.2.2.2.2⟩ : _ ∧ D ≠ d))) (fun _ r => r.2)) (fun _ r => ⟨r.1.1, r.1.2.1⟩)), be3 X z G I⟩
     replace H := iN H; obtain ⟨dM, eM, H⟩ := H
     have fM : decide (0 < y.length) = true := decide_eq_true (by omega)
     clear dM
     replace H := Option.bind_eq_some_iff.mp H
     obtain ⟨⟨rG, t232, t233, t236⟩, dH, H⟩ := H
     replace H : (if 1 ≤ (y.length : Int) then ((drivers_all.f pG (y.drop 1)).bind fun yE => (some (rG, t232, t233, t236, yE, true, 0))) else (none)) = some (r1, r2, r3, r4, r5, r6, r7) := H
     have tL := mk0 dH; clear dH
     by_cases c70 : 1 ≤ (y.length : Int)
     rotate_left
     ·rw [if_neg c70] at H
      exact absurd H (by simp)
     rw [if_pos c70] at H; have gM := eq_true c70; have hM : decide (1 ≤ (y.length : Int)) = true := decide_eq_true c70; clear c70
     obtain ⟨eD, yD⟩ : ∃ y_ : List (S63), y_ = (y.drop 1) := ⟨_, rfl⟩
     replace H : ((drivers_all.f pG eD).bind fun yE => (some (rG, t232, t233, t236, yE, true, 0))) = some (r1, r2, r3, r4, r5, r6, r7) := by first | (rw [yD]; with_reducible exact H) | (have rH := (Option.bind_some _ _).symm.trans H; rw [yD]; with_reducible exact rH) | (have rH := (Option.bind_some _ _).symm.trans H; with_reducible exact rH) | with_reducible exact H | (rw [yD]; exact H) | exact H
     have eG := mk0 yD; clear yD
     replace H := bS H; obtain ⟨yE, uL, H⟩ := H
     simp only [Option.some.injEq, Prod.mk.injEq] at H
     obtain ⟨rfl, rfl, rfl, rfl, rfl, rfl, rfl⟩ := H
     try go_wp2
     have nC := mk0 (Kd.Bl s.out)
     have oC := mk0 (Kd.Bl a.out)
     have pC := mk0 (AV u.out)
     have qC := mk0 (AV j.out)
     have rC := mk0 (AV l.out)
     have sC := mk0 (AZ X.out)
     clear s; clear a; clear u; clear j; clear l; clear X; have s := nC; have a := oC; have u := pC; have j := qC; have l := rC; have X := sC; clear nC oC pC qC rC sC
     have pF : 0 ≤ (0 : Int) := (by omega)
     have sF : 0 < (y.length : Int) := od
     obtain ⟨eB, fF, hF, gF, jF, iJ, kC, lC, mC, bC, cC, qE, mE, rE, nE⟩ := Cg (Kd.Ac a.out).2.2 0 pF sF
     cases iJ
     obtain ⟨jM, yG, wG, gE⟩ := Kd.Gj a.out z63 0 pF (by first | exact sF | exact of_decide_eq_true (by assumption) | (have e_ := (Kd.Ac a.out).1; omega))
     obtain ⟨bL, fL, cL, gL, rfl, dE, tD, eE, uD⟩ := Ej wG
     have aD := gE 3 _ rfl
     rw [Bq _ _ 3 (by omega)] at aD
     replace aD := Option.some.inj (aD.symm.trans bC)
     injection aD with hva_ hvn_ hvc_
     rw [hva_] at tD
     rw [hvc_] at dE
     have wB := mk0 (show Kd.V (Kd.int .u8) 73 _ w.heap.size _ _ ((AA y 0).f1.f2) from Kd.EA dE tD)
     clear hva_ hvn_ hvc_ tD dE
     have bD := gE 4 _ rfl
     rw [Bq _ _ 4 (by omega)] at bD
     replace bD := Option.some.inj (bD.symm.trans cC)
     injection bD with hva_ hvn_ hvc_
     rw [hva_] at uD
     rw [hvc_] at eE
     have oB := mk0 (show Kd.V k30 30 _ w.heap.size _ _ ((AA y 0).f1.f3) from Kd.EA eE uD)
     clear hva_ hvn_ hvc_ uD eE; clear gE yG
     have lO : (0 < y.length) = True := eq_true (by omega)
     (try rw [show ((0 : Int)).toNat = 0 from rfl] at kC)
     (try rw [show 0 * 5 = 0 from rfl] at kC)
     (try rw [Addr.add_zero'] at kC)
     (try rw [show ((0 : Int)).toNat = 0 from rfl] at lC)
     (try rw [show 0 * 5 = 0 from rfl] at lC)
     (try rw [Addr.add_zero'] at lC)
     (try rw [show ((0 : Int)).toNat = 0 from rfl] at mC)
     (try rw [show 0 * 5 = 0 from rfl] at mC)
     (try rw [Addr.add_zero'] at mC)
     (try rw [show ((0 : Int)).toNat = 0 from rfl] at bC)
     (try rw [show 0 * 5 = 0 from rfl] at bC)
     (try rw [Addr.add_zero'] at bC)
     (try rw [show ((0 : Int)).toNat = 0 from rfl] at cC)
     (try rw [show 0 * 5 = 0 from rfl] at cC)
     (try rw [Addr.add_zero'] at cC)
     have kB := mk0 mE; have uF := mk0 qE; clear mE qE; have xB := mk0 nE; have tI := mk0 rE; clear nE rE; replace pF := eq_true pF; replace sF := eq_true sF
     have yH : (1 : Int) ≤ ((y.length : Int) : Int) := od
     obtain ⟨dP, jG, _, oG, _⟩ := info_parts Ff
     have xC : y.length ≤ hB := (Kd.Ac a.out).2.1
     have kH : Kd.F k63 _ _ (some eB) y.length y := (Kd.KY (base := w.heap.size) a.out).2.2
     have zG := MR (P := Try.prog) 31 63 .i64 Try.underlying31 jG 5 oG (some eB) y.length hB 1 (by omega) yH
     have sE := Kd.PO (m := (1 : Int).toNat) (c := hB) kH (by omega) xC
     obtain ⟨qH, lF⟩ : ∃ A1, A1 = (if hB = (1 : Int).toNat then (some eB) else ((some eB) : Option Addr).map (·.add ((1 : Int).toNat * 5))) := ⟨_, rfl⟩
     obtain ⟨vH, mF⟩ : ∃ c1, c1 = hB - (1 : Int).toNat := ⟨_, rfl⟩
     have tE : eD.length = y.length - (1 : Int).toNat := (by rw [eG.out, List.length_drop] <;> omega)
     rw [show (y).drop (1 : Int).toNat = eD from eG.out.symm] at sE
     replace sE : Kd.F k63 _ _ qH eD.length eD := (by rw [lF]; exact sE)
     rw [← tE, ← lF, ← mF] at zG
     have jC := mk0 (show Kd.V k63 63 _ w.heap.size _ (.slice qH eD.length vH) eD from Kd.EA (by rw [tE, mF]; exact Nat.sub_le_sub_right xC _) sE)
     have wL := mk0 (show eD.length ≤ vH from by rw [tE, mF]; exact Nat.sub_le_sub_right xC _)
     clear sE kH xC jG oG mF; have oO := mk0 tE; have nO := mk0 lF; clear tE lF; replace yH := eq_true yH
     refine DU (n := 14) (S := fun w' => w'.cell? ⟨O, 0, none⟩ = some (.int .i64 qB) ∧ w'.cell? ⟨O, 1, none⟩ = some (.int .i64 sB) ∧ w'.cell? ⟨O, 2, none⟩ = some (.slice dC jB.length iC) ∧ w'.cell? ⟨O, 3, none⟩ = some (.slice uB Y.length yB) ∧ w'.cell? ⟨O, 4, none⟩ = some (.slice (some eB) y.length hB) ∧ w'.cell? eB = some (.int .i64 ((AA y 0).f0)) ∧ w'.cell? ⟨eB.block, eB.off + 1, none⟩ = some (.int .i64 ((AA y 0).f1.f0)) ∧ w'.cell? ⟨eB.block, eB.off + 2, none⟩ = some (.int .i64 ((AA y 0).f1.f1)) ∧ w'.cell? ⟨eB.block, eB.off + 3, none⟩ = some (.slice fF ((AA y 0).f1.f2).length hF) ∧ w'.cell? ⟨eB.block, eB.off + 4, none⟩ = some (.slice gF ((AA y 0).f1.f3).length jF)) (ds := []) (tf 0 14) (by kernel_rfl) rfl rfl ⟨bc j 0, bc j 1, bc j 2, bc j 3, bc j 4, kC, lC, mC, bC, cC⟩ (fun x => ?_); refine CQ Ah.Qi Ah.Pg (fun lB tF => ?_)
     generalize wc.drew = hQ at s a u j l X wB oB jC kB xB kC lC mC bC cC x ⊢
     refine pv 0 46 (tf 1 13) lB ?_
     refine pv 6 52 #[true, false, false, false, false, false, true, false, false, false, false, false, false, false] lB ?_
     refine Bj (i := 1) (N := some 47) (v := ?_) (a' := ?_) #[true, true, false, false, false, false, true, false, false, false, false, false, false, false] rfl rfl (Av lB.out tF.out (by kernel_rfl)) (fun _ _ _ h => h) (Or.inl ⟨by rfl, ?_⟩) x ?_ ?_
     rotate_left
     ·rintro w' ⟨s0, s1, s2, s3, s4, s5, s6, s7, s8, s9⟩
      go_simp
      with_reducible rfl
     rotate_left
     ·simp only [ps]
      rfl
     refine pv 2 48 #[true, true, true, false, false, false, true, false, false, false, false, false, false, false] lB ?_
     refine pv 3 49 #[true, true, true, true, false, false, true, false, false, false, false, false, false, false] lB ?_
     refine Bj (i := 4) (N := some 50) (v := ?_) (a' := ?_) #[true, true, true, true, true, false, true, false, false, false, false, false, false, false] rfl rfl (Av lB.out tF.out (by kernel_rfl)) (fun _ _ _ h => h) (Or.inl ⟨by rfl, ?_⟩) x ?_ ?_
     rotate_left
     ·rintro w' ⟨s0, s1, s2, s3, s4, s5, s6, s7, s8, s9⟩
      go_simp
      with_reducible rfl
     rotate_left
     ·simp only [ps]
      rfl
     refine Bj (i := 7) (N := some 53) (v := ?_) (a' := ?_) #[true, true, true, true, true, false, true, true, false, false, false, false, false, false] rfl rfl (Av lB.out tF.out (by kernel_rfl)) (fun _ _ _ h => h) (Or.inl ⟨by rfl, ?_⟩) x ?_ ?_
     rotate_left
     ·rintro w' ⟨s0, s1, s2, s3, s4, s5, s6, s7, s8, s9⟩
      go_simp
      with_reducible rfl
     rotate_left
     ·simp only [ps]
      rfl
     refine pv 8 54 #[true, true, true, true, true, false, true, true, true, false, false, false, false, false] lB ?_
     refine DL (i := 5) (N := some 51) (tf 9 5) rfl rfl (Bo lB.out (by kernel_rfl)) (by decide) (fun K hK => ?_)
     refine Co Try.func51 (by kernel_rfl) rfl #[.agg #[.int .i64 ((AA y 0).f1.f0), .int .i64 ((AA y 0).f1.f1), .slice fF ((AA y 0).f1.f2).length hF, .slice gF ((AA y 0).f1.f3).length jF]] (by rfl) rfl rfl (by (try simp only [List.map_toArray, List.map_cons, List.map_nil]); first | done | rfl | (simp only [List.length_drop, List.length_take]; rfl)) ?_
     with_reducible refine (drivers_copied.calls (fun D => (((aB D ∨ bB D) ∨ w.heap.size ≤ D) ∧ (D ≠ Z ∧ (D ≠ O ∧ D ≠ d)))) ?side1 ?side2 ?side3 tL.out).mono ?_
     (case side1 => repeat (first | exact (by repeat (first | (with_reducible exact kB.out) | (with_reducible refine Kd.Cu ?_ _) | (with_reducible refine Kd.Cv ?_ _) | (with_reducible refine Kd.DN ?_) | exact kB.out)) | (with_reducible refine Kd.Cu ?_ _) | (with_reducible refine Kd.Cv ?_ _) | (with_reducible refine Kd.DN ?_)))
     (case side2 => exact uF.out)
     (case side3 => exact oB.out)
     rintro e iQ ⟨v234, v237, rfl, mB, kG, T⟩
     have zF := (T.cell (World.block_lt_of_cell? _ _ (x.2.2.2.2.2.1))).trans (x.2.2.2.2.2.1)
     have aG := (T.cell (World.block_lt_of_cell? _ _ (x.2.2.2.2.2.2.1))).trans (x.2.2.2.2.2.2.1)
     have bG := (T.cell (World.block_lt_of_cell? _ _ (x.2.2.2.2.2.2.2.1))).trans (x.2.2.2.2.2.2.2.1)
     have cG := (T.cell (World.block_lt_of_cell? _ _ (x.2.2.2.2.2.2.2.2.1))).trans (x.2.2.2.2.2.2.2.2.1)
     have dG := (T.cell (World.block_lt_of_cell? _ _ (x.2.2.2.2.2.2.2.2.2))).trans (x.2.2.2.2.2.2.2.2.2)
     refine ⟨_, rfl, ?_⟩
     have nC := mk0 (Kd.BG (CE s.out) (Kd.Am mB) T)
     have oC := mk0 (Kd.BG (CE a.out) (Kd.Am mB) T)
     have pC := mk0 (Kd.BG (CE wB.out) (Kd.Am mB) T)
     have qC := mk0 (Kd.BG (CE oB.out) (Kd.Am mB) T)
     have rC := mk0 (Kd.BG (CE jC.out) (Kd.Am mB) T)
     have sC := mk0 (Kd.CF (Kd.E9 (M := fun D => (w.heap.size ≤ D)) (Kd.Ai (ok' := fun D => True) mB (fun _ tB => trivial)) (AP (be3 X z G I)) (fun D h_ => h_)) (AP (be3 X z G I)))
     have zD := mk0 (Kd.En (Kd.AR (ok' := fun D => ((aB D ∨ bB D) ∨ w.heap.size ≤ D) ∧ some D ≠ (v234 : Value).ownBlock ∧ D ≠ Z ∧ D ≠ O ∧ D ≠ d) kG (fun D tB => ⟨Or.elim tB.1 (fun dB => dB.1) (fun cB => (.inr (Nat.le_trans (AP (be3 X z G I)) cB))), tB.2, Or.elim tB.1 (fun dB => dB.2.1) (fun cB => (Kd.Aq (g := Z) (o := .cells #[.int .i64 fC, .int .i64 gC, .string hC, .slice tC zB.length vC, .slice uC aC.length wC] 26 (0, 0)) (AU u.out) D cB)), Or.elim tB.1 (fun dB => dB.2.2.1) (fun cB => (Kd.Aq (g := O) (o := .cells #[.int .i64 qB, .int .i64 sB, .slice dC jB.length iC, .slice uB Y.length yB, .slice (some eB) y.length hB] 33 (0, 0)) (AU j.out) D cB)), Or.elim tB.1 (fun dB => dB.2.2.2) (fun cB => (Kd.Aq (g := d) (o := .cells #[.int .i64 0, .int .i64 0, .slice none 0 0, .slice none 0 0, .slice none 0 0] 33 (0, 0)) (AU l.out) D cB))⟩)) (AP (be3 X z G I)))
     have aE := kb u T
     have xE := kb j T
     have qG := kb l T
     have uE := cb kB T
     have vE := cb xB T
     have wE := kh3 X z G I T
     clear s; clear a; clear wB; clear oB; clear jC; clear u; clear j; clear l; clear kB; clear xB; clear X; have s := nC; have a := oC; have wB := pC; have oB := qC; have jC := rC; have hD := sC; have mD := zD; have u := aE; have j := xE; have l := qG; have kB := uE; have xB := vE; have X := wE; clear nC oC pC qC rC sC zD aE xE qG uE vE wE
     try clear T
     try clear r
     try clear mB
     try clear kG
     refine hK.out _ _ ⟨bc j 0, bc j 1, bc j 2, bc j 3, bc j 4, zF, aG, bG, cG, dG⟩ (fun x => ?_)
     clear hK K
     refine Br (a' := ?_) ?_ ?_
     rotate_left
     ·show Act.put _ (some 51) _ = _
      simp only [ps]
      rfl
     refine DL (i := 9) (N := some 55) (tf 10 4) rfl rfl (Bo lB.out (by kernel_rfl)) (by decide) (fun K hK => ?_)
     refine Co Try.func52 (by kernel_rfl) rfl #[.slice qH eD.length vH] (by rfl) rfl rfl (by (try simp only [List.map_toArray, List.map_cons, List.map_nil]); first | done | rfl | (simp only [List.length_drop, List.length_take]; rfl)) ?_
     with_reducible refine (drivers_all.calls (fun D => ((((aB D ∨ bB D) ∨ w.heap.size ≤ D) ∧ (D ≠ Z ∧ (D ≠ O ∧ D ≠ d))) ∧ some D ≠ (v234 : Value).ownBlock)) ?side1 uL.out).mono ?_
     (case side1 => exact jC.out)
     rintro e tG ⟨v245, rfl, mB, T⟩
     have zF := (T.cell (World.block_lt_of_cell? _ _ (x.2.2.2.2.2.1))).trans (x.2.2.2.2.2.1)
     have aG := (T.cell (World.block_lt_of_cell? _ _ (x.2.2.2.2.2.2.1))).trans (x.2.2.2.2.2.2.1)
     have bG := (T.cell (World.block_lt_of_cell? _ _ (x.2.2.2.2.2.2.2.1))).trans (x.2.2.2.2.2.2.2.1)
     have cG := (T.cell (World.block_lt_of_cell? _ _ (x.2.2.2.2.2.2.2.2.1))).trans (x.2.2.2.2.2.2.2.2.1)
     have dG := (T.cell (World.block_lt_of_cell? _ _ (x.2.2.2.2.2.2.2.2.2))).trans (x.2.2.2.2.2.2.2.2.2)
     refine ⟨_, rfl, ?_⟩
     have nC := mk0 (Kd.BG (CE s.out) (Kd.Bi mB) T)
     have oC := mk0 (Kd.BG (CE a.out) (Kd.Bi mB) T)
     have pC := mk0 (Kd.BG (CE wB.out) (Kd.Bi mB) T)
     have qC := mk0 (Kd.BG (CE oB.out) (Kd.Bi mB) T)
     have rC := mk0 (Kd.BG (CE jC.out) (Kd.Bi mB) T)
     have sC := rb hD T
     have zD := mk0 (Kd.BG (CE mD.out) (Kd.Bi mB) T)
     have aE := mk0 (Kd.Dk (Kd.BM (ok' := fun D => ((aB D ∨ bB D) ∨ w.heap.size ≤ D) ∧ some D ≠ (v234 : Value).ownBlock ∧ D ≠ Z ∧ D ≠ O ∧ D ≠ d) mB (fun D tB => ⟨Or.elim tB (fun dB => dB.1.1) (fun cB => (.inr (Nat.le_trans (AP (be3 X z G I)) cB))), Or.elim tB (fun dB => dB.2) (fun cB => (Kd.fresh' (Kd.Cz (CP hD.out)) D cB)), Or.elim tB (fun dB => dB.1.2.1) (fun cB => (Kd.Aq (g := Z) (o := .cells #[.int .i64 fC, .int .i64 gC, .string hC, .slice tC zB.length vC, .slice uC aC.length wC] 26 (0, 0)) (AU u.out) D cB)), Or.elim tB (fun dB => dB.1.2.2.1) (fun cB => (Kd.Aq (g := O) (o := .cells #[.int .i64 qB, .int .i64 sB, .slice dC jB.length iC, .slice uB Y.length yB, .slice (some eB) y.length hB] 33 (0, 0)) (AU j.out) D cB)), Or.elim tB (fun dB => dB.1.2.2.2) (fun cB => (Kd.Aq (g := d) (o := .cells #[.int .i64 0, .int .i64 0, .slice none 0 0, .slice none 0 0, .slice none 0 0] 33 (0, 0)) (AU l.out) D cB))⟩)) (AP (be3 X z G I)))
     have xE := kb u T
     have qG := kb j T
     have uE := kb l T
     have vE := cb kB T
     have wE := cb xB T
     have lH := kh3 X z G I T
     clear s; clear a; clear wB; clear oB; clear jC; clear hD; clear mD; clear u; clear j; clear l; clear kB; clear xB; clear X; have s := nC; have a := oC; have wB := pC; have oB := qC; have jC := rC; have hD := sC; have mD := zD; have yF := aE; have u := xE; have j := qG; have l := uE; have kB := vE; have xB := wE; have X := lH; clear nC oC pC qC rC sC zD aE xE qG uE vE wE lH
     try clear T
     try clear r
     try clear mB
     obtain ⟨lI, eJ, hH⟩ := Kd.Cw yF.out
     (first | subst hH | (injection hH with f1_ f2_ f3_; have pD := f1_.symm; have qD := f3_.symm; clear f1_ f2_ f3_; subst pD; subst qD))
     obtain ⟨mI, fJ, iH⟩ := Kd.D6 mD.out
     (first | subst iH | (injection iH with f1_ f2_ f3_; have pD := f1_.symm; have qD := f3_.symm; clear f1_ f2_ f3_; subst pD; subst qD))
     obtain ⟨oI, gJ, jH⟩ := Kd.Bg hD.out
     (first | subst jH | (injection jH with f1_ f2_ f3_; have pD := f1_.symm; have qD := f3_.symm; clear f1_ f2_ f3_; subst pD; subst qD))
     refine hK.out _ _ ⟨bc j 0, bc j 1, bc j 2, bc j 3, bc j 4, zF, aG, bG, cG, dG⟩ (fun x => ?_)
     clear hK K
     refine Br (a' := ?_) ?_ ?_
     rotate_left
     ·show Act.put _ (some 55) _ = _
      simp only [ps]
      rfl
     refine pv 10 56 (tf 11 3) lB ?_
     refine DL (i := 11) (N := none) (tf 12 2) rfl rfl (Bo lB.out (by kernel_rfl)) (by decide) (fun K hK => ?_)
     have vO : tG.cell? ⟨d, 0, none⟩ = some (.int .i64 0) := bc l 0
     have pM := Aa l.out 0
     have pK := J.out; have qK := b.out; have uJ := L.out; have vJ := B.out
     have wO : tG.cell? ⟨d, 1, none⟩ = some (.int .i64 0) := bc l 1
     have qM := Aa l.out 1
     have rK := J.out; have sK := b.out; have wJ := L.out; have xJ := B.out
     have xO : tG.cell? ⟨d, 2, none⟩ = some (.slice none 0 0) := bc l 2
     have rM := Aa l.out 2
     have tK := J.out; have uK := b.out; have yJ := L.out; have zJ := B.out
     have yO : tG.cell? ⟨d, 3, none⟩ = some (.slice none 0 0) := bc l 3
     have sM := Aa l.out 3
     have vK := J.out; have wK := b.out; have aK := L.out; have bK := B.out
     have zO : tG.cell? ⟨d, 4, none⟩ = some (.slice none 0 0) := bc l 4
     have tM := Aa l.out 4
     have xK := J.out; have yK := b.out; have cK := L.out; have dK := B.out
     refine Fp (w1 := ?_) (by rfl) rfl ?_ ?_
     rotate_left
     ·go_simp
      rfl
     refine hK.out _ _ ⟨((cell_far (p := ⟨d, _, none⟩) b.out _).trans (((cell_far (p := ⟨d, _, none⟩) b.out _).trans (((cell_far (p := ⟨d, _, none⟩) b.out _).trans (((cell_far (p := ⟨d, _, none⟩) b.out _).trans (((cell_far (p := ⟨d, _, none⟩) b.out _).trans (x.1)))))))))), ((cell_far (p := ⟨d, _, none⟩) b.out _).trans (((cell_far (p := ⟨d, _, none⟩) b.out _).trans (((cell_far (p := ⟨d, _, none⟩) b.out _).trans (((cell_far (p := ⟨d, _, none⟩) b.out _).trans (((cell_far (p := ⟨d, _, none⟩) b.out _).trans (x.2.1)))))))))), ((cell_far (p := ⟨d, _, none⟩) b.out _).trans (((cell_far (p := ⟨d, _, none⟩) b.out _).trans (((cell_far (p := ⟨d, _, none⟩) b.out _).trans (((cell_far (p := ⟨d, _, none⟩) b.out _).trans (((cell_far (p := ⟨d, _, none⟩) b.out _).trans (x.2.2.1)))))))))), ((cell_far (p := ⟨d, _, none⟩) b.out _).trans (((cell_far (p := ⟨d, _, none⟩) b.out _).trans (((cell_far (p := ⟨d, _, none⟩) b.out _).trans (((cell_far (p := ⟨d, _, none⟩) b.out _).trans (((cell_far (p := ⟨d, _, none⟩) b.out _).trans (x.2.2.2.1)))))))))), ((cell_far (p := ⟨d, _, none⟩) b.out _).trans (((cell_far (p := ⟨d, _, none⟩) b.out _).trans (((cell_far (p := ⟨d, _, none⟩) b.out _).trans (((cell_far (p := ⟨d, _, none⟩) b.out _).trans (((cell_far (p := ⟨d, _, none⟩) b.out _).trans (x.2.2.2.2.1)))))))))), ((cell_far (p := ⟨d, _, none⟩) (by first | exact Kd.Ak (Kd.Ay a.out (fun _ r => r.1.1.2.2.2)) | (rw [add_block]; exact Kd.Ak (Kd.Ay a.out (fun _ r => r.1.1.2.2.2))) | (show (Addr.add _ _).block ≠ _; rw [add_block]; exact Kd.Ak (Kd.Ay a.out (fun _ r => r.1.1.2.2.2))) | (dsimp only; exact Kd.Ak (Kd.Ay a.out (fun _ r => r.1.1.2.2.2)))) _).trans (((cell_far (p := ⟨d, _, none⟩) (by first | exact Kd.Ak (Kd.Ay a.out (fun _ r => r.1.1.2.2.2)) | (rw [add_block]; exact Kd.Ak (Kd.Ay a.out (fun _ r => r.1.1.2.2.2))) | (show (Addr.add _ _).block ≠ _; rw [add_block]; exact Kd.Ak (Kd.Ay a.out (fun _ r => r.1.1.2.2.2))) | (dsimp only; exact Kd.Ak (Kd.Ay a.out (fun _ r => r.1.1.2.2.2)))) _).trans (((cell_far (p := ⟨d, _, none⟩) (by first | exact Kd.Ak (Kd.Ay a.out (fun _ r => r.1.1.2.2.2)) | (rw [add_block]; exact Kd.Ak (Kd.Ay a.out (fun _ r => r.1.1.2.2.2))) | (show (Addr.add _ _).block ≠ _; rw [add_block]; exact Kd.Ak (Kd.Ay a.out (fun _ r => r.1.1.2.2.2))) | (dsimp only; exact Kd.Ak (Kd.Ay a.out (fun _ r => r.1.1.2.2.2)))) _).trans (((cell_far (p := ⟨d, _, none⟩) (by first | exact Kd.Ak (Kd.Ay a.out (fun _ r => r.1.1.2.2.2)) | (rw [add_block]; exact Kd.Ak (Kd.Ay a.out (fun _ r => r.1.1.2.2.2))) | (show (Addr.add _ _).block ≠ _; rw [add_block]; exact Kd.Ak (Kd.Ay a.out (fun _ r => r.1.1.2.2.2))) | (dsimp only; exact Kd.Ak (Kd.Ay a.out (fun _ r => r.1.1.2.2.2)))) _).trans (((cell_far (p := ⟨d, _, none⟩) (by first | exact Kd.Ak (Kd.Ay a.out (fun _ r => r.1.1.2.2.2)) | (rw [add_block]; exact Kd.Ak (Kd.Ay a.out (fun _ r => r.1.1.2.2.2))) | (show (Addr.add _ _).block ≠ _; rw [add_block]; exact Kd.Ak (Kd.Ay a.out (fun _ r => r.1.1.2.2.2))) | (dsimp only; exact Kd.Ak (Kd.Ay a.out (fun _ r => r.1.1.2.2.2)))) _).trans (x.2.2.2.2.2.1)))))))))), ((cell_far (p := ⟨d, _, none⟩) (by first | exact Kd.Ak (Kd.Ay a.out (fun _ r => r.1.1.2.2.2)) | (rw [add_block]; exact Kd.Ak (Kd.Ay a.out (fun _ r => r.1.1.2.2.2))) | (show (Addr.add _ _).block ≠ _; rw [add_block]; exact Kd.Ak (Kd.Ay a.out (fun _ r => r.1.1.2.2.2))) | (dsimp only; exact Kd.Ak (Kd.Ay a.out (fun _ r => r.1.1.2.2.2)))) _).trans (((cell_far (p := ⟨d, _, none⟩) (by first | exact Kd.Ak (Kd.Ay a.out (fun _ r => r.1.1.2.2.2)) | (rw [add_block]; exact Kd.Ak (Kd.Ay a.out (fun _ r => r.1.1.2.2.2))) | (show (Addr.add _ _).block ≠ _; rw [add_block]; exact Kd.Ak (Kd.Ay a.out (fun _ r => r.1.1.2.2.2))) | (dsimp only; exact Kd.Ak (Kd.Ay a.out (fun _ r => r.1.1.2.2.2)))) _).trans (((cell_far (p := ⟨d, _, none⟩) (by first | exact Kd.Ak (Kd.Ay a.out (fun _ r => r.1.1.2.2.2)) | (rw [add_block]; exact Kd.Ak (Kd.Ay a.out (fun _ r => r.1.1.2.2.2))) | (show (Addr.add _ _).block ≠ _; rw [add_block]; exact Kd.Ak (Kd.Ay a.out (fun _ r => r.1.1.2.2.2))) | (dsimp only; exact Kd.Ak (Kd.Ay a.out (fun _ r => r.1.1.2.2.2)))) _).trans (((cell_far (p := ⟨d, _, none⟩) (by first | exact Kd.Ak (Kd.Ay a.out (fun _ r => r.1.1.2.2.2)) | (rw [add_block]; exact Kd.Ak (Kd.Ay a.out (fun _ r => r.1.1.2.2.2))) | (show (Addr.add _ _).block ≠ _; rw [add_block]; exact Kd.Ak (Kd.Ay a.out (fun _ r => r.1.1.2.2.2))) | (dsimp only; exact Kd.Ak (Kd.Ay a.out (fun _ r => r.1.1.2.2.2)))) _).trans (((cell_far (p := ⟨d, _, none⟩) (by first | exact Kd.Ak (Kd.Ay a.out (fun _ r => r.1.1.2.2.2)) | (rw [add_block]; exact Kd.Ak (Kd.Ay a.out (fun _ r => r.1.1.2.2.2))) | (show (Addr.add _ _).block ≠ _; rw [add_block]; exact Kd.Ak (Kd.Ay a.out (fun _ r => r.1.1.2.2.2))) | (dsimp only; exact Kd.Ak (Kd.Ay a.out (fun _ r => r.1.1.2.2.2)))) _).trans (x.2.2.2.2.2.2.1)))))))))), ((cell_far (p := ⟨d, _, none⟩) (by first | exact Kd.Ak (Kd.Ay a.out (fun _ r => r.1.1.2.2.2)) | (rw [add_block]; exact Kd.Ak (Kd.Ay a.out (fun _ r => r.1.1.2.2.2))) | (show (Addr.add _ _).block ≠ _; rw [add_block]; exact Kd.Ak (Kd.Ay a.out (fun _ r => r.1.1.2.2.2))) | (dsimp only; exact Kd.Ak (Kd.Ay a.out (fun _ r => r.1.1.2.2.2)))) _).trans (((cell_far (p := ⟨d, _, none⟩) (by first | exact Kd.Ak (Kd.Ay a.out (fun _ r => r.1.1.2.2.2)) | (rw [add_block]; exact Kd.Ak (Kd.Ay a.out (fun _ r => r.1.1.2.2.2))) | (show (Addr.add _ _).block ≠ _; rw [add_block]; exact Kd.Ak (Kd.Ay a.out (fun _ r => r.1.1.2.2.2))) | (dsimp only; exact Kd.Ak (Kd.Ay a.out (fun _ r => r.1.1.2.2.2)))) _).trans (((cell_far (p := ⟨d, _, none⟩) (by first | exact Kd.Ak (Kd.Ay a.out (fun _ r => r.1.1.2.2.2)) | (rw [add_block]; exact Kd.Ak (Kd.Ay a.out (fun _ r => r.1.1.2.2.2))) | (show (Addr.add _ _).block ≠ _; rw [add_block]; exact Kd.Ak (Kd.Ay a.out (fun _ r => r.1.1.2.2.2))) | (dsimp only; exact Kd.Ak (Kd.Ay a.out (fun _ r => r.1.1.2.2.2)))) _).trans (((cell_far (p := ⟨d, _, none⟩) (by first | exact Kd.Ak (Kd.Ay a.out (fun _ r => r.1.1.2.2.2)) | (rw [add_block]; exact Kd.Ak (Kd.Ay a.out (fun _ r => r.1.1.2.2.2))) | (show (Addr.add _ _).block ≠ _; rw [add_block]; exact Kd.Ak (Kd.Ay a.out (fun _ r => r.1.1.2.2.2))) | (dsimp only; exact Kd.Ak (Kd.Ay a.out (fun _ r => r.1.1.2.2.2)))) _).trans (((cell_far (p := ⟨d, _, none⟩) (by first | exact Kd.Ak (Kd.Ay a.out (fun _ r => r.1.1.2.2.2)) | (rw [add_block]; exact Kd.Ak (Kd.Ay a.out (fun _ r => r.1.1.2.2.2))) | (show (Addr.add _ _).block ≠ _; rw [add_block]; exact Kd.Ak (Kd.Ay a.out (fun _ r => r.1.1.2.2.2))) | (dsimp only; exact Kd.Ak (Kd.Ay a.out (fun _ r => r.1.1.2.2.2)))) _).trans (x.2.2.2.2.2.2.2.1)))))))))), ((cell_far (p := ⟨d, _, none⟩) (by first | exact Kd.Ak (Kd.Ay a.out (fun _ r => r.1.1.2.2.2)) | (rw [add_block]; exact Kd.Ak (Kd.Ay a.out (fun _ r => r.1.1.2.2.2))) | (show (Addr.add _ _).block ≠ _; rw [add_block]; exact Kd.Ak (Kd.Ay a.out (fun _ r => r.1.1.2.2.2))) | (dsimp only; exact Kd.Ak (Kd.Ay a.out (fun _ r => r.1.1.2.2.2)))) _).trans (((cell_far (p := ⟨d, _, none⟩) (by first | exact Kd.Ak (Kd.Ay a.out (fun _ r => r.1.1.2.2.2)) | (rw [add_block]; exact Kd.Ak (Kd.Ay a.out (fun _ r => r.1.1.2.2.2))) | (show (Addr.add _ _).block ≠ _; rw [add_block]; exact Kd.Ak (Kd.Ay a.out (fun _ r => r.1.1.2.2.2))) | (dsimp only; exact Kd.Ak (Kd.Ay a.out (fun _ r => r.1.1.2.2.2)))) _).trans (((cell_far (p := ⟨d, _, none⟩) (by first | exact Kd.Ak (Kd.Ay a.out (fun _ r => r.1.1.2.2.2)) | (rw [add_block]; exact Kd.Ak (Kd.Ay a.out (fun _ r => r.1.1.2.2.2))) | (show (Addr.add _ _).block ≠ _; rw [add_block]; exact Kd.Ak (Kd.Ay a.out (fun _ r => r.1.1.2.2.2))) | (dsimp only; exact Kd.Ak (Kd.Ay a.out (fun _ r => r.1.1.2.2.2)))) _).trans (((cell_far (p := ⟨d, _, none⟩) (by first | exact Kd.Ak (Kd.Ay a.out (fun _ r => r.1.1.2.2.2)) | (rw [add_block]; exact Kd.Ak (Kd.Ay a.out (fun _ r => r.1.1.2.2.2))) | (show (Addr.add _ _).block ≠ _; rw [add_block]; exact Kd.Ak (Kd.Ay a.out (fun _ r => r.1.1.2.2.2))) | (dsimp only; exact Kd.Ak (Kd.Ay a.out (fun _ r => r.1.1.2.2.2)))) _).trans (((cell_far (p := ⟨d, _, none⟩) (by first | exact Kd.Ak (Kd.Ay a.out (fun _ r => r.1.1.2.2.2)) | (rw [add_block]; exact Kd.Ak (Kd.Ay a.out (fun _ r => r.1.1.2.2.2))) | (show (Addr.add _ _).block ≠ _; rw [add_block]; exact Kd.Ak (Kd.Ay a.out (fun _ r => r.1.1.2.2.2))) | (dsimp only; exact Kd.Ak (Kd.Ay a.out (fun _ r => r.1.1.2.2.2)))) _).trans (x.2.2.2.2.2.2.2.2.1)))))))))), ((cell_far (p := ⟨d, _, none⟩) (by first | exact Kd.Ak (Kd.Ay a.out (fun _ r => r.1.1.2.2.2)) | (rw [add_block]; exact Kd.Ak (Kd.Ay a.out (fun _ r => r.1.1.2.2.2))) | (show (Addr.add _ _).block ≠ _; rw [add_block]; exact Kd.Ak (Kd.Ay a.out (fun _ r => r.1.1.2.2.2))) | (dsimp only; exact Kd.Ak (Kd.Ay a.out (fun _ r => r.1.1.2.2.2)))) _).trans (((cell_far (p := ⟨d, _, none⟩) (by first | exact Kd.Ak (Kd.Ay a.out (fun _ r => r.1.1.2.2.2)) | (rw [add_block]; exact Kd.Ak (Kd.Ay a.out (fun _ r => r.1.1.2.2.2))) | (show (Addr.add _ _).block ≠ _; rw [add_block]; exact Kd.Ak (Kd.Ay a.out (fun _ r => r.1.1.2.2.2))) | (dsimp only; exact Kd.Ak (Kd.Ay a.out (fun _ r => r.1.1.2.2.2)))) _).trans (((cell_far (p := ⟨d, _, none⟩) (by first | exact Kd.Ak (Kd.Ay a.out (fun _ r => r.1.1.2.2.2)) | (rw [add_block]; exact Kd.Ak (Kd.Ay a.out (fun _ r => r.1.1.2.2.2))) | (show (Addr.add _ _).block ≠ _; rw [add_block]; exact Kd.Ak (Kd.Ay a.out (fun _ r => r.1.1.2.2.2))) | (dsimp only; exact Kd.Ak (Kd.Ay a.out (fun _ r => r.1.1.2.2.2)))) _).trans (((cell_far (p := ⟨d, _, none⟩) (by first | exact Kd.Ak (Kd.Ay a.out (fun _ r => r.1.1.2.2.2)) | (rw [add_block]; exact Kd.Ak (Kd.Ay a.out (fun _ r => r.1.1.2.2.2))) | (show (Addr.add _ _).block ≠ _; rw [add_block]; exact Kd.Ak (Kd.Ay a.out (fun _ r => r.1.1.2.2.2))) | (dsimp only; exact Kd.Ak (Kd.Ay a.out (fun _ r => r.1.1.2.2.2)))) _).trans (((cell_far (p := ⟨d, _, none⟩) (by first | exact Kd.Ak (Kd.Ay a.out (fun _ r => r.1.1.2.2.2)) | (rw [add_block]; exact Kd.Ak (Kd.Ay a.out (fun _ r => r.1.1.2.2.2))) | (show (Addr.add _ _).block ≠ _; rw [add_block]; exact Kd.Ak (Kd.Ay a.out (fun _ r => r.1.1.2.2.2))) | (dsimp only; exact Kd.Ak (Kd.Ay a.out (fun _ r => r.1.1.2.2.2)))) _).trans (x.2.2.2.2.2.2.2.2.2))))))))))⟩ (fun x => ?_)
     clear hK K
     refine pv 12 7 (tf 13 1) lB ?_
     refine pv 13 8 (tf 14 0) lB ?_
     refine EG (DW lB.out (by kernel_rfl)) ?_
     try go_wp2
     refine bodyPost_ret (EB rfl _ _ d 33 #[.int .i64 rG, .int .i64 t232, .slice oI t233.length gJ, .slice mI t236.length fJ, .slice lI yE.length eJ] (0, 0) _ rfl (pB l) Try.underlying33 rfl (by kernel_rfl)) rfl ?_
     exact ⟨_, _, _, rfl, by exact CS (Kd.Ai (rI (q := d) (Kd.Ao hD.out l.out (by decide)) (fun _ r => r.2)) (fun _ r => r.1.1)), by exact Bn (Kd.AR (vI (q := d) (Kd.AR mD.out (fun D r => (⟨r, r.1.2.2.2.2⟩ : _ ∧ D ≠ d))) (fun _ r => r.2)) (fun _ r => ⟨r.1.1.1, ⟨r.1.1.2.1, r.1.2⟩⟩)), by exact DC (Kd.BM (nI (q := d) (Kd.BM yF.out (fun D r => (⟨r, r.2.2.2.2⟩ : _ ∧ D ≠ d))) (fun _ r => r.2)) (fun _ r => ⟨r.1.1, r.1.2.1⟩)), be3 X z G I⟩
end Go.Proofs.Ytojankgmedccdaa.PGn
