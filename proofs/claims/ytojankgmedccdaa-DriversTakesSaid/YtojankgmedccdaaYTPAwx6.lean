/- Lemmas for LawDriversTakes. -/
import Derived.Test.YtojankgmedccdaaYTHandE
import Derived.Test.YtojankgmedccdaaYTPAwx4
import Derived.Test.YtojankgmedccdaaYTPAwx5
namespace Go.Proofs.Ytojankgmedccdaa.PAw
open Go.RowKit Own PTy Hand PIs YtojankgmedccdaaW.PrintWords YtojankgmedccdaaW.PrintLast YtojankgmedccdaaW.PrintMore
attribute [local go_sem] BN BO Be Bf Az BA BR BS
set_option linter.unusedVariables false
set_option linter.unusedSimpArgs false
mutual
def AQ.l0 : Nat → Int → List (S30) → List Int → Bool → List (S30) → Int → Int → Int → Int → ByteArray → List ByteArray → List (S26) → Int → Int → List Int → List (S30) → List (S63) → Int → List Int → Option (Int × Int × List Int × (List (S30)) × (List (S63)) × Int)
 | 0, _, _, _, _, _, _, _, _, _, _, _, _, _, _, _, _, _, _, _ => none
 | k + 1, x2, x3, x4, x5, D, O, z, i, j, l, m, n, d, e, g, h, a, b, c => if z < O then (if 0 ≤ z then (if z < (D.length : Int) then ((Cm.f k i j l m n ((AB D z).f0) ((AB D z).f1) ((AB D z).f2) ((AB D z).f3)).bind fun I => (if I = true then (AQ.l0 k x2 x3 x4 x5 D O (wrap64 (z + 1)) i j l m n d e g h a b c) else (none))) else (none)) else (none)) else ((drivers_behind.f d e g h a b).bind fun t222 => (if t222 = true then (none) else ((Fy.f a x2 x4).bind fun J => (if J < 0 then (if x5 = true then (AQ.j2 k x3 (a.length : Int) 0 d e g h a b c) else (AQ.l1 k x3 (a.length : Int) (a.length : Int) i j l m n d e g h a b c)) else (none)))))
def AQ.j2 : Nat → List (S30) → Int → Int → Int → Int → List Int → List (S30) → List (S63) → Int → List Int → Option (Int × Int × List Int × (List (S30)) × (List (S63)) × Int)
 | 0, _, _, _, _, _, _, _, _, _, _ => none
 | k + 1, x3, B, p, d, e, g, h, a, b, c => if (wrap64 ((wrap64 (B - p)) + (x3.length : Int))) > 64 then (none) else ((drivers_copied.f d e g h).bind fun s => (if 0 ≤ p then (if p ≤ B then (if B ≤ (a.length : Int) then ((drivers_all.f k ((a.take (B : Int).toNat).drop (p : Int).toNat)).bind fun L => (AQ.l2 k x3 (x3.length : Int) 0 b c s.1 s.2.1 s.2.2.1 s.2.2.2 L)) else (none)) else (none)) else (none)))
def AQ.l2 : Nat → List (S30) → Int → Int → Int → List Int → Int → Int → List Int → List (S30) → List (S63) → Option (Int × Int × List Int × (List (S30)) × (List (S63)) × Int)
 | 0, _, _, _, _, _, _, _, _, _, _ => none
 | k + 1, r, G, o, b, c, v, w, x, y, q => if o < G then (if 0 ≤ o then (if o < (r.length : Int) then (if o < (c.length : Int) then ((drivers_copied.f ((AB r o).f0) ((AB r o).f1) ((AB r o).f2) ((AB r o).f3)).bind fun u => (if q.length < 1954687338268 then (AQ.l2 k r G (wrap64 (o + 1)) b c v w x y (q ++ [(⟨wrap64 (b + (rd c o)), (⟨u.1, u.2.1, u.2.2.1, u.2.2.2⟩ : S30)⟩ : S63)])) else (none))) else (none)) else (none)) else (none)) else (some (v, w, x, y, q, 0))
def AQ.l1 : Nat → List (S30) → Int → Int → Int → Int → ByteArray → List ByteArray → List (S26) → Int → Int → List Int → List (S30) → List (S63) → Int → List Int → Option (Int × Int × List Int × (List (S30)) × (List (S63)) × Int)
 | 0, _, _, _, _, _, _, _, _, _, _, _, _, _, _, _ => none
 | k + 1, x3, B, p, i, j, l, m, n, d, e, g, h, a, b, c => if p > 0 then (if 0 ≤ (wrap64 (p - 1)) then (if (wrap64 (p - 1)) < (a.length : Int) then (if 0 < (x3.length : Int) then ((Dh.f k i j l m n ((AA a (wrap64 (p - 1))).f1.f0) ((AA a (wrap64 (p - 1))).f1.f1) ((AA a (wrap64 (p - 1))).f1.f2) ((AA a (wrap64 (p - 1))).f1.f3) ((AB x3 0).f0) ((AB x3 0).f1) ((AB x3 0).f2) ((AB x3 0).f3)).bind fun t226 => (if t226 = true then (none) else (AQ.j2 k x3 B p d e g h a b c))) else (none)) else (none)) else (none)) else (AQ.j2 k x3 B p d e g h a b c)
end
def AQ.f (k : Nat) (a : Int) (b : Int) (c : ByteArray) (g : List ByteArray) (h : List (S26)) (d : Int) (e : Int) (i : List Int) (j : List (S30)) (l : List (S63)) (o : Int) (m : List (S30)) (p : List Int) (a5 : Bool) : Option (Int × Int × List Int × (List (S30)) × (List (S63)) × Int) := (BK.f k a b c g h d e i j l).bind fun n => (if n = true then (if o < 0 then (none) else (if o > 1000000 then (none) else (if (m.length : Int) < 1 then (none) else (if (m.length : Int) > 64 then (none) else (if (p.length : Int) = (m.length : Int) then ((Ci.f k p).bind fun t218 => (if t218 = true then (AQ.l0 k o m p a5 m (m.length : Int) 0 a b c g h d e i j l o p) else (none))) else (none)))))) else (none))
def AQ.T17 : Bool × List (List Nat × List Nat) := (true, [([], []), ([0], [0]), ([1], [1]), ([2], [2]), ([2], [2]), ([4, 2], [2, 4]), ([2], [2]), ([6, 2], [2, 6]), ([5, 7, 2], [2, 5, 7]), ([8, 2], [2, 8]), ([9, 2], [2, 9]), ([2], [2]), ([11, 2], [2, 11]), ([12, 2], [2, 12]), ([3, 10, 13, 2, 2], [2, 3, 10, 13]), ([2, 14], [2, 14])])
def AQ.B17 : List Nat := [0, 1, 3, 7, 7, 23, 7, 71, 247, 503, 1015, 7, 2055, 6151, 16383, 32767]
theorem AQ.OY : C9 .any (opsOf Try.f38 17) = AQ.T17 := by kernel_rfl
theorem AQ.NE : Ca AQ.T17.2 AQ.B17 = true := by kernel_rfl
def AQ.T21 : Bool × List (List Nat × List Nat) := (true, [([], []), ([0], [0]), ([1], [1]), ([], []), ([3], [3]), ([], []), ([], []), ([4, 5, 6], [4, 5, 6]), ([7, 2], [7]), ([2, 8], [2, 8]), ([], []), ([10, 9, 8, 0, 1, 2, 3, 4, 5, 6, 7, 8, 9, 10], [9, 10])])
def AQ.B21 : List Nat := [0, 1, 3, 0, 8, 0, 0, 120, 255, 511, 0, 2047]
theorem AQ.Pd : C9 .any (opsOf Try.f38 21) = AQ.T21 := by kernel_rfl
theorem AQ.Ov : Ca AQ.T21.2 AQ.B21 = true := by kernel_rfl
def AQ.T25 : Bool × List (List Nat × List Nat) := (true, [([], []), ([0], [0]), ([], []), ([], []), ([], []), ([3, 4], [3, 4]), ([5], [5]), ([2, 6], [2, 6]), ([], []), ([8], [8]), ([7, 9], [7, 9]), ([10], [10]), ([1, 11, 9], [1, 11]), ([0, 1, 2, 3, 4, 5, 6, 7, 8, 9, 10, 11, 12], []), ([13, 12, 12, 0, 1, 2, 3, 4, 5, 6, 7, 8, 9, 10, 11, 12], [12, 13])])
def AQ.B25 : List Nat := [0, 1, 0, 0, 0, 24, 56, 124, 0, 256, 1020, 2044, 4095, 8191, 16383]
theorem AQ.Pe : C9 .any (opsOf Try.f38 25) = AQ.T25 := by kernel_rfl
theorem AQ.Ow : Ca AQ.T25.2 AQ.B25 = true := by kernel_rfl
set_option maxHeartbeats 8000000 in
set_option maxRecDepth 100000 in
theorem AQ.calls (k : Nat) (bE : Int) (cE : Int) (dE : ByteArray) (hE : Option Addr) (kE : Nat) (wD : List ByteArray) (jE : Option Addr) (lE : Nat) (xD : List (S26)) (sD : Int) (tD : Int) (fE : Option Addr) (gE : Nat) (pD : List Int) (bB : Nat → Prop) (nD : Option Addr) (oD : Nat) (xB : List (S30)) (cB : Nat → Prop) (hD : Option Addr) (wC : Nat) (W : List (S63)) (a2 : Int) (cC : Nat → Prop) (A3 : Option Addr) (c3 : Nat) (l3 : List (S30)) (A4 : Option Addr) (c4 : Nat) (l4 : List Int) (a5 : Bool) (r1 : Int) (r2 : Int) (r3 : List Int) (r4 : List (S30)) (r5 : List (S63)) (r6 : Int) (w : World) (hG : EN w) (sO : Kd.C Kd.string w hE wD.length wD) (oO : wD.length ≤ kE) (tO : Kd.C k26 w jE xD.length xD) (pO : xD.length ≤ lE) (uO : Kd.C (Kd.int .u8) w fE pD.length pD) (qO : pD.length ≤ gE) (yR : Kd.V k30 30 w w.heap.size (fun a => bB a) (.slice nD xB.length oD) xB) (zR : Kd.V k63 63 w w.heap.size (fun a => cB a) (.slice hD W.length wC) W) (z1 : Kd.V k30 30 w w.heap.size (fun a => cC a) (.slice A3 l3.length c3) l3) (wV : Kd.C (Kd.int .i64) w A4 l4.length l4) (vV : l4.length ≤ c4) (h : AQ.f k bE cE dE wD xD sD tD pD xB W a2 l3 l4 a5 = some (r1, r2, r3, r4, r5, r6)) :
  Calls Try.prog 38 #[.agg #[.int .i64 bE, .int .i64 cE, .string dE, .slice hE wD.length kE, .slice jE xD.length lE], .agg #[.int .i64 sD, .int .i64 tD, .slice fE pD.length gE, .slice nD xB.length oD, .slice hD W.length wC], .int .i64 a2, .slice A3 l3.length c3, .slice A4 l4.length c4, .bool a5] w fun e w' => ∃ bQ uW kS : Value, e = .returned (.tuple #[.agg #[.int .i64 r1, .int .i64 r2, bQ, uW, kS], .int .i64 r6]) ∧ Kd.R (Kd.int .u8) 73 w' w.heap.size (fun a => (w.heap.size ≤ a)) bQ r3 ∧ Kd.V k30 30 w' w.heap.size (fun a => ((bB a ∨ cB a ∨ cC a) ∨ w.heap.size ≤ a) ∧ some a ≠ (bQ : Value).ownBlock ∧ some a ≠ (kS : Value).ownBlock) uW r4 ∧ Kd.N k63 63 w' w.heap.size (fun a => ((bB a ∨ cB a ∨ cC a) ∨ w.heap.size ≤ a) ∧ some a ≠ (bQ : Value).ownBlock) kS r5 ∧ Below w.heap.size w w' := by
 have HG := mk0 hG; clear hG
 have b3 := Try.underlying26
 have e3 := Try.underlying33
 have d3 := Try.underlying30
 have g3 := Try.underlying63
 have aM := mk0 sO; have xL := mk0 oO; clear sO oO; have bM := mk0 tO; have yL := mk0 pO; clear tO pO; have wJ := mk0 uO; have uJ := mk0 qO; clear uO qO
 have mE := mk0 (show Kd.V k30 30 w w.heap.size (fun a => ((bB a ∨ cB a ∨ cC a) ∨ w.heap.size ≤ a)) (.slice nD xB.length oD) xB from Kd.AR yR (fun a d => .inl (.inl d)))
 have nE := mk0 (show Kd.V k63 63 w w.heap.size (fun a => ((bB a ∨ cB a ∨ cC a) ∨ w.heap.size ≤ a)) (.slice hD W.length wC) W from Kd.AR zR (fun a d => .inl (.inr (.inl d))))
 have zG := mk0 (show Kd.V k30 30 w w.heap.size (fun a => ((bB a ∨ cB a ∨ cC a) ∨ w.heap.size ≤ a)) (.slice A3 l3.length c3) l3 from Kd.AR z1 (fun a d => .inl (.inr (.inr d))))
 have iR := mk0 wV; have aV := mk0 vV; clear wV vV
 have HB := mk0 (Below.refl w.heap.size w)
 have H := h; unfold AQ.f at H
 clear h
 replace H := bS H; obtain ⟨n3, A7, H⟩ := H
 replace H := iB' H; obtain ⟨rfl, H⟩ | ⟨rfl, H⟩ := H
 ·exact absurd H (by simp)
 by_cases c9 : a2 < 0
 ·rw [if_pos c9] at H
  exact absurd H (by simp)
 rw [if_neg c9] at H; have eQ : decide (a2 < 0) = false := decide_eq_false c9; clear c9
 by_cases c10 : a2 > 1000000
 ·rw [if_pos c10] at H
  exact absurd H (by simp)
 rw [if_neg c10] at H; have yN : decide (1000000 < a2) = false := decide_eq_false c10; clear c10
 by_cases c11 : (l3.length : Int) < 1
 ·rw [if_pos c11] at H
  exact absurd H (by simp)
 rw [if_neg c11] at H; have zN : decide ((l3.length : Int) < 1) = false := decide_eq_false c11
 have bO : decide (l3.length < 1) = false := decide_eq_false (by omega)
 clear c11
 by_cases c12 : (l3.length : Int) > 64
 ·rw [if_pos c12] at H
  exact absurd H (by simp)
 rw [if_neg c12] at H; have cO : decide (64 < (l3.length : Int)) = false := decide_eq_false c12
 have dO : decide (64 < l3.length) = false := decide_eq_false (by omega)
 clear c12
 by_cases c13 : (l4.length : Int) = (l3.length : Int)
 rotate_left
 ·rw [if_neg c13] at H
  exact absurd H (by simp)
 rw [if_pos c13] at H
 have eO : ((l4.length : Int) == (l3.length : Int)) = true := beq_iff_eq.mpr c13
 have fO : ((l4.length : Int) != (l3.length : Int)) = false := bne_eq_false_iff_eq.mpr c13
 have gO : (l4.length == l3.length) = true := by first | simpa using c13 | (simp at c13 ⊢; omega)
 clear c13
 replace H := bS H; obtain ⟨t218, oY, H⟩ := H
 replace H := iB' H; obtain ⟨rfl, H⟩ | ⟨rfl, H⟩ := H
 ·exact absurd H (by simp)
 have H' := mk0 H
 clear H
 go_enter Try.func38, Try.ntmps38
 go_wp2_with (first | ((with_reducible refine AJ rfl (N := 6) rfl (cs := #[.int .i64 bE, .int .i64 cE, .string dE, .slice hE wD.length kE, .slice jE xD.length lE]) (t := 26) ?hr ?_); (case hr => first | (go_simp; done) | (go_simp; rfl)); intro I hg q4 uD hb; obtain ⟨mE, nE, zG⟩ := tg3 hg hb mE nE zG; have u := mk0 (uD); have U := bs (be HB) hg; replace HB := kh HB hb; clear hb uD hg) | ((with_reducible refine AJ rfl (N := 7) rfl (cs := #[.int .i64 sD, .int .i64 tD, .slice fE pD.length gE, .slice nD xB.length oD, .slice hD W.length wC]) (t := 33) ?hr ?_); (case hr => first | (go_simp; done) | (go_simp; rfl)); intro D hg y4 uD hb; obtain ⟨mE, nE, zG⟩ := tg3 hg hb mE nE zG; have l := mk0 (uD); have X := bs (be1 HB U) hg; replace HB := kh1 HB U hb; have ⟨iG, lG⟩ := nn u hg; replace u := kb u hb; clear hb uD hg) | ((with_reducible refine AJ rfl (N := 8) rfl (cs := #[.int .i64 a2]) (t := 3) ?hr ?_); (case hr => first | (go_simp; done) | (go_simp; rfl)); intro J hg b5 uD hb; obtain ⟨mE, nE, zG⟩ := tg3 hg hb mE nE zG; have x := mk0 (uD); have Y := bs (be2 HB U X) hg; replace HB := kh2 HB U X hb; have ⟨jG, nG⟩ := nn u hg; have ⟨xH, bI⟩ := nn l hg; obtain ⟨u, l⟩ := tb2 hb u l; clear hb uD hg) | ((with_reducible refine AJ rfl (N := 10) rfl (cs := #[.slice A4 l4.length c4]) (t := 38) ?hr ?_); (case hr => first | (go_simp; done) | (go_simp; rfl)); intro O hg d5 uD hb; obtain ⟨mE, nE, zG⟩ := tg3 hg hb mE nE zG; have z := mk0 (uD); have Z := bs (be3 HB U X Y) hg; replace HB := kh3 HB U X Y hb; have ⟨uH, fI⟩ := nn u hg; have ⟨yH, gI⟩ := nn l hg; have ⟨cI, hI⟩ := nn x hg; obtain ⟨u, l, x⟩ := tb3 hb u l x; clear hb uD hg) | ((with_reducible refine AJ rfl (N := 12) rfl (cs := #[.int .i64 0, .int .i64 0, .slice none 0 0, .slice none 0 0, .slice none 0 0]) (t := 33) ?hr ?_); (case hr => first | (go_simp; done) | (go_simp; rfl)); intro G hg e5 uD hb; obtain ⟨mE, nE, zG⟩ := tg3 hg hb mE nE zG; have B := mk0 (uD); have dB := bs (be4 HB U X Y Z) hg; replace HB := kh4 HB U X Y Z hb; have ⟨kG, pG⟩ := nn u hg; have ⟨mG, qG⟩ := nn l hg; have ⟨oG, rG⟩ := nn x hg; have ⟨iI, lI⟩ := nn z hg; obtain ⟨u, l, x, z⟩ := tb4 hb u l x z; clear hb uD hg; have ⟨qZ, qA⟩ := no iG lG; have ⟨rZ, rA⟩ := no jG nG; have ⟨sZ, sA⟩ := no uH fI; have ⟨tZ, tA⟩ := no kG pG; have y3 := cells5 u.out; have ⟨uZ, uA⟩ := no xH bI; have ⟨vZ, vA⟩ := no yH gI; have ⟨wZ, wA⟩ := no mG qG; have b4 := cells5 l.out) | ((with_reducible refine AL (f := 19) rfl ?_); refine CV Try.func19 (BK.calls k bE cE dE _ _ wD _ _ xD sD tD _ _ pD _ _ xB _ _ W true _ (Al HG.out (be5 HB U X Y Z dB)) (cu aM HB) xL.out (cu bM HB) yL.out (cu wJ HB) uJ.out (EO (Kd.Ac mE.out).2.2) ((Kd.Ac mE.out).2.1) (EO (Kd.Ac nE.out).2.2) ((Kd.Ac nE.out).2.1) A7.out) ?_; intro xW hb; replace mE := vb mE hb; replace nE := vb nE hb; replace zG := vb zG hb; obtain ⟨u, l, x, z, B⟩ := tb5 hb u l x z B; replace HB := kh5 HB U X Y Z dB hb; have ⟨xZ, xA⟩ := no cI hI; have ⟨yZ, yA⟩ := no oG rG; have dJ : xW.cell? ⟨J, 0, none⟩ = some (.int .i64 a2) := bc x 0; have fJ := Aa x.out 0; have ⟨zZ, zA⟩ := no iI lI; have eJ : xW.cell? ⟨O, 0, none⟩ = some (.slice A4 l4.length c4) := bc z 0; have gJ := Aa z.out 0) | (go_at_call 59; refine (Ci.calls (cu iR HB) aV.out oY.out).mono ?_; rintro e w' ⟨rfl, ⟨nd, rfl⟩⟩))
 go_loopg [58] k (fun kq v58 w' => ∃ (eE : Int) (yB : Int) (zB : Int), v58 = .int .i64 eE ∧ Aside0 (AQ.l0 kq a2 l3 l4 a5 l3 (l3.length : Int) eE bE cE dE wD xD sD tD pD xB W a2 l4 = some (r1, r2, r3, r4, r5, r6)) ∧ Aside0 (kq ≤ k) ∧ Aside0 (Kd.V k30 30 w' w.heap.size (fun a => ((bB a ∨ cB a ∨ cC a) ∨ w.heap.size ≤ a) ∧ a ≠ I ∧ a ≠ D ∧ a ≠ J ∧ a ≠ O ∧ a ≠ G) (.slice A3 l3.length c3) l3) ∧ Aside0 (Kd.V k30 30 w' w.heap.size (fun a => ((bB a ∨ cB a ∨ cC a) ∨ w.heap.size ≤ a) ∧ a ≠ I ∧ a ≠ D ∧ a ≠ J ∧ a ≠ O ∧ a ≠ G) (.slice A3 l3.length c3) l3) ∧ Aside0 (Kd.V k30 30 w' w.heap.size (fun a => ((bB a ∨ cB a ∨ cC a) ∨ w.heap.size ≤ a) ∧ a ≠ I ∧ a ≠ D ∧ a ≠ J ∧ a ≠ O ∧ a ≠ G) (.slice nD xB.length oD) xB) ∧ Aside0 (Kd.V k63 63 w' w.heap.size (fun a => ((bB a ∨ cB a ∨ cC a) ∨ w.heap.size ≤ a) ∧ a ≠ I ∧ a ≠ D ∧ a ≠ J ∧ a ≠ O ∧ a ≠ G) (.slice hD W.length wC) W) ∧ Aside0 (w'.heap[I]? = some (.cells #[.int .i64 bE, .int .i64 cE, .string dE, (.slice hE wD.length kE), (.slice jE xD.length lE)] 26 (0, 0))) ∧ Aside0 (w'.heap[D]? = some (.cells #[.int .i64 sD, .int .i64 tD, (.slice fE pD.length gE), (.slice nD xB.length oD), (.slice hD W.length wC)] 33 (0, 0))) ∧ Aside0 (w'.heap[J]? = some (.cells #[.int .i64 a2] 3 (0, 0))) ∧ Aside0 (w'.heap[O]? = some (.cells #[(.slice A4 l4.length c4)] 38 (0, 0))) ∧ Aside0 (w'.heap[G]? = some (.cells #[.int .i64 yB, .int .i64 zB, (.slice none 0 0), (.slice none 0 0), (.slice none 0 0)] 33 (0, 0))) ∧ Aside0 (Below w.heap.size w w'))
 case atStart => exact ⟨(0), (0), (0), rfl, H', ⟨Nat.le_refl _⟩, ⟨Bn (Kd.AR zG.out (fun _ d => ⟨d.1.1.1.1.1, ⟨d.1.1.1.1.2, ⟨d.1.1.1.2, ⟨d.1.1.2, ⟨d.1.2, d.2⟩⟩⟩⟩⟩))⟩, ⟨Bn (Kd.AR zG.out (fun _ d => ⟨d.1.1.1.1.1, ⟨d.1.1.1.1.2, ⟨d.1.1.1.2, ⟨d.1.1.2, ⟨d.1.2, d.2⟩⟩⟩⟩⟩))⟩, ⟨Bn (Kd.AR mE.out (fun _ d => ⟨d.1.1.1.1.1, ⟨d.1.1.1.1.2, ⟨d.1.1.1.2, ⟨d.1.1.2, ⟨d.1.2, d.2⟩⟩⟩⟩⟩))⟩, ⟨Bn (Kd.AR nE.out (fun _ d => ⟨d.1.1.1.1.1, ⟨d.1.1.1.1.2, ⟨d.1.1.1.2, ⟨d.1.1.2, ⟨d.1.2, d.2⟩⟩⟩⟩⟩))⟩, ⟨bu u⟩, ⟨bu l⟩, ⟨bu x⟩, ⟨bu z⟩, ⟨bu B⟩, ⟨be5 HB U X Y Z dB⟩⟩
 case round =>
  clear H'
  try clear c3; try clear c4; try clear c9; try clear eQ; try clear c10; try clear yN; try clear c11; try clear zN; try clear bO; try clear c12; try clear cO; try clear dO; try clear c13; try clear eO; try clear fO; try clear gO; try clear dJ; try clear fJ; try clear eJ; try clear gJ
  obtain ⟨eE, yB, zB, rfl, HA, zL, hB, tE, m, b, u, l, x, z, B, HB⟩ := hrel
  cases gk with
  | zero => exact absurd HA.out (by simp [AQ.l0])
  | succ k1 =>
   have H := HA.out; clear HA
   simp only [AQ.l0] at H
   replace H := iD H; obtain ⟨-, hO, H⟩ | ⟨-, hO, H⟩ := H
   ·replace H := iN H; obtain ⟨-, wY, H⟩ := H
    replace H := iN H; obtain ⟨-, xY, H⟩ := H
    replace H := bS H; obtain ⟨o3, pY, H⟩ := H
    replace H := iB' H; obtain ⟨rfl, H⟩ | ⟨rfl, H⟩ := H
    ·exact absurd H (by simp)
    have H' := mk0 H
    clear H
    have cN : 0 ≤ (eE : Int) := od
    have gN : eE < (l3.length : Int) := od
    obtain ⟨vY, nM, tM, oM, uM, fV, xV, yV, wO, xO, xK, pK, yK, qK⟩ := EP (Kd.Ac tE.out).2.2 eE cN gN
    cases fV
    obtain ⟨kZ, wP, sP, xJ⟩ := Kd.Gj tE.out z30 eE cN (by first | exact gN | exact of_decide_eq_true (by assumption) | (have e_ := (Kd.Ac tE.out).1; omega))
    obtain ⟨eW, mW, fW, nW, rfl, lJ, uI, mJ, wI⟩ := Hg sP
    have cH := xJ 2 _ rfl
    rw [Bq _ _ 2 (by omega)] at cH
    replace cH := Option.some.inj (cH.symm.trans wO)
    injection cH with hva_ hvn_ hvc_
    rw [hva_] at uI
    rw [hvc_] at lJ
    have eF := mk0 (show Kd.V (Kd.int .u8) 73 _ w.heap.size _ _ ((AB l3 eE).f2) from Kd.EA lJ uI)
    clear hva_ hvn_ hvc_ uI lJ
    have dH := xJ 3 _ rfl
    rw [Bq _ _ 3 (by omega)] at dH
    replace dH := Option.some.inj (dH.symm.trans xO)
    injection dH with hva_ hvn_ hvc_
    rw [hva_] at wI
    rw [hvc_] at mJ
    have fF := mk0 (show Kd.V k30 30 _ w.heap.size _ _ ((AB l3 eE).f3) from Kd.EA mJ wI)
    clear hva_ hvn_ hvc_ wI mJ; clear xJ wP; have sH := mk0 pK; have oN := mk0 xK; clear pK xK; have tH := mk0 qK; have pN := mk0 yK; clear qK yK; replace cN := eq_true cN; replace gN := eq_true gN
    go_wp2_with (first | ((with_reducible refine AJ rfl (N := 15) rfl (cs := #[.int .i64 0, .int .i64 0, .slice none 0 0, .slice none 0 0]) (t := 30) ?hr ?_); (case hr => first | (go_simp; done) | (go_simp; rfl)); intro vE hg f5 uD hb; obtain ⟨hB, tE, m, b, eF, fF⟩ := tg6 hg hb hB tE m b eF fF; obtain ⟨sH, tH⟩ := tb2 hb sH tH; have uL := mk0 (uD); have rH := bs (be5 HB U X Y Z dB) hg; replace HB := kh5 HB U X Y Z dB hb; have ⟨vH, cM⟩ := nn u hg; have ⟨zH, dM⟩ := nn l hg; have ⟨dI, eM⟩ := nn x hg; have ⟨jI, fM⟩ := nn z hg; have ⟨mI, gM⟩ := nn B hg; obtain ⟨u, l, x, z, B⟩ := tb5 hb u l x z B; clear hb uD hg; have ⟨aA, b0⟩ := no cM vH; have ⟨bA, d0⟩ := no dM zH; have ⟨cA, e0⟩ := no eM dI; have ⟨dA, g0⟩ := no fM jI; have ⟨eA, m0⟩ := no gM mI; have d4 := Au uL.out; have ⟨fA, n0⟩ := no iG lG; have ⟨gA, o0⟩ := no jG nG; have ⟨hA, p0⟩ := no uH fI; have ⟨iA, q0⟩ := no kG pG; have e4 := cells5 u.out) | ((with_reducible refine AL (f := 45) rfl ?_); refine H9 Try.func45 #[.agg #[.int .i64 bE, .int .i64 cE, .string dE, .slice hE wD.length kE, .slice jE xD.length lE], .agg #[.int .i64 ((AB l3 eE).f0), .int .i64 ((AB l3 eE).f1), .slice nM ((AB l3 eE).f2).length tM, .slice oM ((AB l3 eE).f3).length uM]] ?_; (with_reducible refine (Cm.calls ?side9 ?side1 ?side2 ?side3 ?side4 ?side5 ?side6 ?side7 ?side8 pY.out).mono ?_); (case side1 => exact Kd.BH aM.out (be6 HB U X Y Z dB rH)); (case side2 => exact xL.out); (case side3 => exact Kd.BH bM.out (be6 HB U X Y Z dB rH)); (case side4 => exact yL.out); (case side5 => exact ((Kd.Ac (by exact Bn ((vF (q := vE) eF (fun _ d => d.2))))).2.2)); (case side6 => exact oN.out); (case side7 => exact ((Kd.Ac (by exact Bn ((vF (q := vE) fF (fun _ d => d.2))))).2.2)); (case side8 => exact pN.out); (case side9 => exact Al HG.out (be6 HB U X Y Z dB rH)); rintro e g5 ⟨rfl, hb⟩; refine ⟨_, rfl, ?_⟩; replace hB := mk0 (Kd.CR (Bn ((vF (q := vE) hB (fun _ d => d.2)))) hb); replace tE := mk0 (Kd.CR (Bn ((vF (q := vE) tE (fun _ d => d.2)))) hb); replace m := mk0 (Kd.CR (Bn ((vF (q := vE) m (fun _ d => d.2)))) hb); replace b := mk0 (Kd.CR (Bn ((vF (q := vE) b (fun _ d => d.2)))) hb); replace u := kF vH u hb; replace l := kF zH l hb; replace x := kF dI x hb; replace z := kF jI z hb; replace B := kF mI B hb; replace sH := mk0 (Kd.BH ((Kd.Ac (by exact Bn ((vF (q := vE) eF (fun _ d => d.2))))).2.2) hb); replace eF := mk0 (Kd.CR (Bn ((vF (q := vE) eF (fun _ d => d.2)))) hb); replace tH := mk0 (Kd.BH ((Kd.Ac (by exact Bn ((vF (q := vE) fF (fun _ d => d.2))))).2.2) hb); replace fF := mk0 (Kd.CR (Bn ((vF (q := vE) fF (fun _ d => d.2)))) hb); replace uL := mk0 (AY (g := vE) (o := .cells #[.int .i64 ((AB l3 eE).f0), .int .i64 ((AB l3 eE).f1), .slice nM ((AB l3 eE).f2).length tM, .slice oM ((AB l3 eE).f3).length uM] 30 (0, 0)) (pB uL) hb); replace HB := kh6 HB U X Y Z dB rH hb))
    go_roundg k1
    case measure => have := zL.out; omega
    case rel => exact ⟨(wrap64 (eE + 1)), (yB), (zB), rfl, H', ⟨by have := zL.out; omega⟩, ⟨Bn (Kd.AR hB.out (fun _ d => ⟨d.1.1, ⟨d.1.2.1, ⟨d.1.2.2.1, ⟨d.1.2.2.2.1, ⟨d.1.2.2.2.2.1, d.1.2.2.2.2.2⟩⟩⟩⟩⟩))⟩, ⟨Bn (Kd.AR tE.out (fun _ d => ⟨d.1.1, ⟨d.1.2.1, ⟨d.1.2.2.1, ⟨d.1.2.2.2.1, ⟨d.1.2.2.2.2.1, d.1.2.2.2.2.2⟩⟩⟩⟩⟩))⟩, ⟨Bn (Kd.AR m.out (fun _ d => ⟨d.1.1, ⟨d.1.2.1, ⟨d.1.2.2.1, ⟨d.1.2.2.2.1, ⟨d.1.2.2.2.2.1, d.1.2.2.2.2.2⟩⟩⟩⟩⟩))⟩, ⟨Bn (Kd.AR b.out (fun _ d => ⟨d.1.1, ⟨d.1.2.1, ⟨d.1.2.2.1, ⟨d.1.2.2.2.1, ⟨d.1.2.2.2.2.1, d.1.2.2.2.2.2⟩⟩⟩⟩⟩))⟩, ⟨bu u⟩, ⟨bu l⟩, ⟨bu x⟩, ⟨bu z⟩, ⟨bu B⟩, ⟨be6 HB U X Y Z dB rH⟩⟩
   replace H := bS H; obtain ⟨t222, qY, H⟩ := H
   replace H := iB H; obtain ⟨rfl, H⟩ | ⟨rfl, H⟩ := H
   ·exact absurd H (by simp)
   replace H := bS H; obtain ⟨dW, rY, H⟩ := H
   replace H := iN H; obtain ⟨-, iO, H⟩ := H
   have vN := mk0 H; clear H; have ⟨jA, r0⟩ := no lG iG; have ⟨kA, y0⟩ := no xH bI; have ⟨lA, a1⟩ := no yH gI; have ⟨mA, b1⟩ := no mG qG
   have g4 := cells5 l.out
   have ⟨nA, d1⟩ := no nG jG; have ⟨oA, e1⟩ := no cI hI; have ⟨pA, i1⟩ := no oG rG
   have nK : wr.cell? ⟨J, 0, none⟩ = some (.int .i64 a2) := bc x 0
   have oK := Aa x.out 0
   go_upto_if 82 with (first | ((with_reducible refine AL (f := 50) rfl ?_); refine CV Try.func50 (drivers_behind.calls (cu wJ HB) uJ.out (EO (Kd.Ac m.out).2.2) ((Kd.Ac m.out).2.1) (EO (Kd.Ac b.out).2.2) ((Kd.Ac b.out).2.1) qY.out) ?_; intro i5 hb; replace hB := vb hB hb; replace tE := vb tE hb; replace m := vb m hb; replace b := vb b hb; obtain ⟨u, l, x, z, B⟩ := tb5 hb u l x z B; replace HB := kh5 HB U X Y Z dB hb; have j4 := cells5 l.out) | ((with_reducible refine AL (f := 60) rfl ?_); refine CV Try.func60 (Fy.calls _ _ W a2 _ _ l4 dW J O _ (EO (Kd.Ac b.out).2.2) ((Kd.Ac b.out).2.1) (cu iR HB) aV.out (bu x) (bu z) rY.out) ?_; intro j5 hb; replace hB := vb hB hb; replace tE := vb tE hb; replace m := vb m hb; replace b := vb b hb; obtain ⟨u, l, x, z, B⟩ := tb5 hb u l x z B; replace HB := kh5 HB U X Y Z dB hb; have m4 := cells5 l.out))
   (try simp only [Act.put, List.setIfInBounds_toArray, List.set_cons_zero, List.set_cons_succ])
   go_cut [17] (fun v17 wc => ∃ (kq : Nat) (qC : Int), v17 = .int .i64 qC ∧ Aside0 (AQ.j2 kq l3 (W.length : Int) qC sD tD pD xB W a2 l4 = some (r1, r2, r3, r4, r5, r6)) ∧ Aside0 (kq ≤ k1) ∧ Aside0 (Kd.V k30 30 wc w.heap.size (fun a => ((bB a ∨ cB a ∨ cC a) ∨ w.heap.size ≤ a) ∧ a ≠ I ∧ a ≠ D ∧ a ≠ J ∧ a ≠ O ∧ a ≠ G) (.slice A3 l3.length c3) l3) ∧ Aside0 (Kd.V k30 30 wc w.heap.size (fun a => ((bB a ∨ cB a ∨ cC a) ∨ w.heap.size ≤ a) ∧ a ≠ I ∧ a ≠ D ∧ a ≠ J ∧ a ≠ O ∧ a ≠ G) (.slice nD xB.length oD) xB) ∧ Aside0 (Kd.V k63 63 wc w.heap.size (fun a => ((bB a ∨ cB a ∨ cC a) ∨ w.heap.size ≤ a) ∧ a ≠ I ∧ a ≠ D ∧ a ≠ J ∧ a ≠ O ∧ a ≠ G) (.slice hD W.length wC) W) ∧ Aside0 (wc.heap[I]? = some (.cells #[.int .i64 bE, .int .i64 cE, .string dE, (.slice hE wD.length kE), (.slice jE xD.length lE)] 26 (0, 0))) ∧ Aside0 (wc.heap[D]? = some (.cells #[.int .i64 sD, .int .i64 tD, (.slice fE pD.length gE), (.slice nD xB.length oD), (.slice hD W.length wC)] 33 (0, 0))) ∧ Aside0 (wc.heap[J]? = some (.cells #[.int .i64 a2] 3 (0, 0))) ∧ Aside0 (wc.heap[O]? = some (.cells #[(.slice A4 l4.length c4)] 38 (0, 0))) ∧ Aside0 (wc.heap[G]? = some (.cells #[.int .i64 yB, .int .i64 zB, (.slice none 0 0), (.slice none 0 0), (.slice none 0 0)] 33 (0, 0))) ∧ Aside0 (Below w.heap.size w wc))
   case first =>
    have H := vN.out; clear vN
    replace H := iB H; obtain ⟨rfl, H⟩ | ⟨rfl, H⟩ := H
    ·have H' := mk0 H
     clear H
     go_wp2
     go_meet
     case rel => exact ⟨_, (0), rfl, H', ⟨by have := zL.out; omega⟩, ⟨CE hB.out⟩, ⟨CE m.out⟩, ⟨CE b.out⟩, ⟨bu u⟩, ⟨bu l⟩, ⟨bu x⟩, ⟨bu z⟩, ⟨bu B⟩, ⟨be5 HB U X Y Z dB⟩⟩
    have H' := mk0 H
    clear H
    go_wp2
    go_loopg [17] k1 (fun kq v17 w' => ∃ (wE : Int), v17 = .int .i64 wE ∧ Aside0 (AQ.l1 kq l3 (W.length : Int) wE bE cE dE wD xD sD tD pD xB W a2 l4 = some (r1, r2, r3, r4, r5, r6)) ∧ Aside0 (kq ≤ k1) ∧ Aside0 (Kd.V k30 30 w' w.heap.size (fun a => ((bB a ∨ cB a ∨ cC a) ∨ w.heap.size ≤ a) ∧ a ≠ I ∧ a ≠ D ∧ a ≠ J ∧ a ≠ O ∧ a ≠ G) (.slice A3 l3.length c3) l3) ∧ Aside0 (Kd.V k30 30 w' w.heap.size (fun a => ((bB a ∨ cB a ∨ cC a) ∨ w.heap.size ≤ a) ∧ a ≠ I ∧ a ≠ D ∧ a ≠ J ∧ a ≠ O ∧ a ≠ G) (.slice nD xB.length oD) xB) ∧ Aside0 (Kd.V k63 63 w' w.heap.size (fun a => ((bB a ∨ cB a ∨ cC a) ∨ w.heap.size ≤ a) ∧ a ≠ I ∧ a ≠ D ∧ a ≠ J ∧ a ≠ O ∧ a ≠ G) (.slice hD W.length wC) W) ∧ Aside0 (w'.heap[I]? = some (.cells #[.int .i64 bE, .int .i64 cE, .string dE, (.slice hE wD.length kE), (.slice jE xD.length lE)] 26 (0, 0))) ∧ Aside0 (w'.heap[D]? = some (.cells #[.int .i64 sD, .int .i64 tD, (.slice fE pD.length gE), (.slice nD xB.length oD), (.slice hD W.length wC)] 33 (0, 0))) ∧ Aside0 (w'.heap[J]? = some (.cells #[.int .i64 a2] 3 (0, 0))) ∧ Aside0 (w'.heap[O]? = some (.cells #[(.slice A4 l4.length c4)] 38 (0, 0))) ∧ Aside0 (w'.heap[G]? = some (.cells #[.int .i64 yB, .int .i64 zB, (.slice none 0 0), (.slice none 0 0), (.slice none 0 0)] 33 (0, 0))) ∧ Aside0 (Below w.heap.size w w'))
    case atStart => exact ⟨((W.length : Int)), rfl, H', ⟨Nat.le_refl _⟩, ⟨CE hB.out⟩, ⟨CE m.out⟩, ⟨CE b.out⟩, ⟨bu u⟩, ⟨bu l⟩, ⟨bu x⟩, ⟨bu z⟩, ⟨bu B⟩, ⟨be5 HB U X Y Z dB⟩⟩
    case round =>
     clear H'
     try clear c3; try clear c4; try clear c9; try clear eQ; try clear c10; try clear yN; try clear c11; try clear zN; try clear bO; try clear c12; try clear cO; try clear dO; try clear c13; try clear eO; try clear fO; try clear gO; try clear hO; try clear iO; try clear dJ; try clear fJ; try clear eJ; try clear gJ; try clear nK; try clear oK
     obtain ⟨wE, rfl, HA, bV, hB, m, b, u, l, x, z, B, HB⟩ := hrel
     cases gk with
     | zero => exact absurd HA.out (by simp [AQ.l1])
     | succ k2 =>
      have H := HA.out; clear HA
      simp only [AQ.l1] at H
      by_cases c73 : wE > 0
      rotate_left
      ·rw [if_neg c73] at H
       have tI : decide (0 < wE) = false := decide_eq_false c73; clear c73
       (first | rw [tI] | (simp only [CO, Da]; rw [tI]) | skip)
       have H' := mk0 H
       clear H
       try go_wp2
       have yC := mk0 (Kd.Bl hB.out)
       have zC := mk0 (Kd.Bl m.out)
       have aD := mk0 (Kd.Bl b.out)
       have bD := mk0 (AV u.out)
       have cD := mk0 (AV l.out)
       have dD := mk0 (AV x.out)
       have eD := mk0 (AV z.out)
       have fD := mk0 (AV B.out)
       have gD := mk0 (AZ HB.out)
       clear hB; clear m; clear b; clear u; clear l; clear x; clear z; clear B; clear HB; have hB := yC; have m := zC; have b := aD; have u := bD; have l := cD; have x := dD; have z := eD; have B := fD; have HB := gD; clear yC zC aD bD cD dD eD fD gD
       refine DU (n := 16) (S := fun w' => True) (ds := []) (tf 0 16) (by kernel_rfl) rfl rfl trivial (fun eB => ?_); refine CQ AQ.OY AQ.NE (fun wB aH => ?_)
       generalize wr.drew = n5 at hB m b u l x z B HB eB ⊢
       refine pv 0 84 (tf 1 15) wB ?_
       refine pv 1 85 (tf 2 14) wB ?_
       refine pv 2 86 (tf 3 13) wB ?_
       refine pw 3 87 (tf 4 12) wB ?_
       refine pw 4 88 (tf 5 11) wB ?_
       refine pw 5 89 (tf 6 10) wB ?_
       refine pw 6 90 (tf 7 9) wB ?_
       refine pw 7 91 (tf 8 8) wB ?_
       refine pw 8 92 (tf 9 7) wB ?_
       refine pw 9 93 (tf 10 6) wB ?_
       refine pw 10 94 (tf 11 5) wB ?_
       refine pw 11 95 (tf 12 4) wB ?_
       refine pw 12 96 (tf 13 3) wB ?_
       refine pw 13 97 (tf 14 2) wB ?_
       refine pw 14 98 (tf 15 1) wB ?_
       refine pv 15 99 (tf 16 0) wB ?_
       refine EG (DW wB.out (by kernel_rfl)) ?_
       try go_wp2
       go_meet
       case rel => exact ⟨_, (wE), rfl, H', ⟨by have := zL.out; have := bV.out; first | omega | exact Nat.le_refl _⟩, ⟨CE hB.out⟩, ⟨CE m.out⟩, ⟨CE b.out⟩, ⟨bu u⟩, ⟨bu l⟩, ⟨bu x⟩, ⟨bu z⟩, ⟨bu B⟩, ⟨be5 HB U X Y Z dB⟩⟩
      rw [if_pos c73] at H; have tI : decide (0 < wE) = true := decide_eq_true c73; clear c73
      (first | rw [tI] | (simp only [CO, Da]; rw [tI]) | skip)
      obtain ⟨rD, bK⟩ : ∃ j_ : Int, (wrap64 (wE - 1)) = j_ := ⟨_, rfl⟩
      replace H : (if 0 ≤ (rD) then (if (rD) < (W.length : Int) then (if 0 < (l3.length : Int) then ((Dh.f k2 bE cE dE wD xD ((AA W (rD)).f1.f0) ((AA W (rD)).f1.f1) ((AA W (rD)).f1.f2) ((AA W (rD)).f1.f3) ((AB l3 0).f0) ((AB l3 0).f1) ((AB l3 0).f2) ((AB l3 0).f3)).bind fun t226 => (if t226 = true then (none) else (AQ.j2 k2 l3 (W.length : Int) wE sD tD pD xB W a2 l4))) else (none)) else (none)) else (none)) = some (r1, r2, r3, r4, r5, r6) := by first | (rw [bK] at H; exact H) | (simp only [bK] at H ⊢; exact H)
      have iX : (IntKind.i64.wrap (wE - 1)) = rD := (CO _).trans bK
      replace H := iN H; obtain ⟨-, yY, H⟩ := H
      replace H := iN H; obtain ⟨-, zY, H⟩ := H
      replace H := iN H; obtain ⟨aZ, bZ, H⟩ := H
      have cZ : decide (0 < l3.length) = true := decide_eq_true (by omega)
      clear aZ
      replace H := bS H; obtain ⟨t226, sY, H⟩ := H
      replace H := iB H; obtain ⟨rfl, H⟩ | ⟨rfl, H⟩ := H
      ·exact absurd H (by simp)
      have H' := mk0 H
      clear H
      try go_wp2
      have yC := mk0 (Kd.Bl hB.out)
      have zC := mk0 (Kd.Bl m.out)
      have aD := mk0 (Kd.Bl b.out)
      have bD := mk0 (AV u.out)
      have cD := mk0 (AV l.out)
      have dD := mk0 (AV x.out)
      have eD := mk0 (AV z.out)
      have fD := mk0 (AV B.out)
      have gD := mk0 (AZ HB.out)
      clear hB; clear m; clear b; clear u; clear l; clear x; clear z; clear B; clear HB; have hB := yC; have m := zC; have b := aD; have u := bD; have l := cD; have x := dD; have z := eD; have B := fD; have HB := gD; clear yC zC aD bD cD dD eD fD gD
      have dN : 0 ≤ ((rD) : Int) := od
      have hN : (rD) < (W.length : Int) := od
      obtain ⟨dF, pM, vM, qM, wM, gV, iL, jL, kL, hJ, iJ, zK, rK, bL, sK⟩ := Cg (Kd.Ac b.out).2.2 (rD) dN hN
      cases gV
      obtain ⟨lZ, xP, tP, yJ⟩ := Kd.Gj b.out z63 (rD) dN (by first | exact hN | exact of_decide_eq_true (by assumption) | (have e_ := (Kd.Ac b.out).1; omega))
      obtain ⟨gW, oW, hW, pW, rfl, nJ, xI, oJ, yI⟩ := Ej tP
      have eH := yJ 3 _ rfl
      rw [Bq _ _ 3 (by omega)] at eH
      replace eH := Option.some.inj (eH.symm.trans hJ)
      injection eH with hva_ hvn_ hvc_
      rw [hva_] at xI
      rw [hvc_] at nJ
      have vG := mk0 (show Kd.V (Kd.int .u8) 73 _ w.heap.size _ _ ((AA W (rD)).f1.f2) from Kd.EA nJ xI)
      clear hva_ hvn_ hvc_ xI nJ
      have fH := yJ 4 _ rfl
      rw [Bq _ _ 4 (by omega)] at fH
      replace fH := Option.some.inj (fH.symm.trans iJ)
      injection fH with hva_ hvn_ hvc_
      rw [hva_] at yI
      rw [hvc_] at oJ
      have wG := mk0 (show Kd.V k30 30 _ w.heap.size _ _ ((AA W (rD)).f1.f3) from Kd.EA oJ yI)
      clear hva_ hvn_ hvc_ yI oJ; clear yJ xP; have gF := mk0 rK; have qN := mk0 zK; clear rK zK; have hF := mk0 sK; have rN := mk0 bL; clear sK bL; replace dN := eq_true dN; replace hN := eq_true hN
      have eN : 0 ≤ (0 : Int) := (by omega)
      have jN : 0 < (l3.length : Int) := od
      obtain ⟨tG, rM, xM, sM, yM, hV, zF, aG, pF, qF, cL, tK, dL, uK⟩ := EP (Kd.Ac hB.out).2.2 0 eN jN
      cases hV
      obtain ⟨mZ, yP, uP, zJ⟩ := Kd.Gj hB.out z30 0 eN (by first | exact jN | exact of_decide_eq_true (by assumption) | (have e_ := (Kd.Ac hB.out).1; omega))
      obtain ⟨iW, qW, jW, rW, rfl, pJ, zI, qJ, aJ⟩ := Hg uP
      have gH := zJ 2 _ rfl
      rw [Bq _ _ 2 (by omega)] at gH
      replace gH := Option.some.inj (gH.symm.trans pF)
      injection gH with hva_ hvn_ hvc_
      rw [hva_] at zI
      rw [hvc_] at pJ
      have xG := mk0 (show Kd.V (Kd.int .u8) 73 _ w.heap.size _ _ ((AB l3 0).f2) from Kd.EA pJ zI)
      clear hva_ hvn_ hvc_ zI pJ
      have hH := zJ 3 _ rfl
      rw [Bq _ _ 3 (by omega)] at hH
      replace hH := Option.some.inj (hH.symm.trans qF)
      injection hH with hva_ hvn_ hvc_
      rw [hva_] at aJ
      rw [hvc_] at qJ
      have yG := mk0 (show Kd.V k30 30 _ w.heap.size _ _ ((AB l3 0).f3) from Kd.EA qJ aJ)
      clear hva_ hvn_ hvc_ aJ qJ; clear zJ yP
      have d2 : (0 < l3.length) = True := eq_true (by omega)
      (try rw [show ((0 : Int)).toNat = 0 from rfl] at zF)
      (try rw [show 0 * 4 = 0 from rfl] at zF)
      (try rw [Addr.add_zero'] at zF)
      (try rw [show ((0 : Int)).toNat = 0 from rfl] at aG)
      (try rw [show 0 * 4 = 0 from rfl] at aG)
      (try rw [Addr.add_zero'] at aG)
      (try rw [show ((0 : Int)).toNat = 0 from rfl] at pF)
      (try rw [show 0 * 4 = 0 from rfl] at pF)
      (try rw [Addr.add_zero'] at pF)
      (try rw [show ((0 : Int)).toNat = 0 from rfl] at qF)
      (try rw [show 0 * 4 = 0 from rfl] at qF)
      (try rw [Addr.add_zero'] at qF)
      have jF := mk0 tK; have sN := mk0 cL; clear tK cL; have lF := mk0 uK; have tN := mk0 dL; clear uK dL; replace eN := eq_true eN; replace jN := eq_true jN
      refine DU (n := 16) (S := fun w' => w'.cell? ⟨I, 0, none⟩ = some (.int .i64 bE) ∧ w'.cell? ⟨I, 1, none⟩ = some (.int .i64 cE) ∧ w'.cell? ⟨I, 2, none⟩ = some (.string dE) ∧ w'.cell? ⟨I, 3, none⟩ = some (.slice hE wD.length kE) ∧ w'.cell? ⟨I, 4, none⟩ = some (.slice jE xD.length lE) ∧ w'.cell? ⟨D, 0, none⟩ = some (.int .i64 sD) ∧ w'.cell? ⟨D, 1, none⟩ = some (.int .i64 tD) ∧ w'.cell? ⟨D, 2, none⟩ = some (.slice fE pD.length gE) ∧ w'.cell? ⟨D, 3, none⟩ = some (.slice nD xB.length oD) ∧ w'.cell? ⟨D, 4, none⟩ = some (.slice (some dF) W.length wC) ∧ w'.cell? (dF.add (((rD)).toNat * 5)) = some (.int .i64 ((AA W (rD)).f0)) ∧ w'.cell? ⟨(dF.add (((rD)).toNat * 5)).block, (dF.add (((rD)).toNat * 5)).off + 1, none⟩ = some (.int .i64 ((AA W (rD)).f1.f0)) ∧ w'.cell? ⟨(dF.add (((rD)).toNat * 5)).block, (dF.add (((rD)).toNat * 5)).off + 2, none⟩ = some (.int .i64 ((AA W (rD)).f1.f1)) ∧ w'.cell? ⟨(dF.add (((rD)).toNat * 5)).block, (dF.add (((rD)).toNat * 5)).off + 3, none⟩ = some (.slice pM ((AA W (rD)).f1.f2).length vM) ∧ w'.cell? ⟨(dF.add (((rD)).toNat * 5)).block, (dF.add (((rD)).toNat * 5)).off + 4, none⟩ = some (.slice qM ((AA W (rD)).f1.f3).length wM) ∧ w'.cell? tG = some (.int .i64 ((AB l3 0).f0)) ∧ w'.cell? ⟨tG.block, tG.off + 1, none⟩ = some (.int .i64 ((AB l3 0).f1)) ∧ w'.cell? ⟨tG.block, tG.off + 2, none⟩ = some (.slice rM ((AB l3 0).f2).length xM) ∧ w'.cell? ⟨tG.block, tG.off + 3, none⟩ = some (.slice sM ((AB l3 0).f3).length yM)) (ds := []) (tf 0 16) (by kernel_rfl) rfl rfl ⟨bc u 0, bc u 1, bc u 2, bc u 3, bc u 4, bc l 0, bc l 1, bc l 2, bc l 3, bc l 4, iL, jL, kL, hJ, iJ, zF, aG, pF, qF⟩ (fun eB => ?_); refine CQ AQ.OY AQ.NE (fun wB aH => ?_)
      generalize wr.drew = l5 at hB m b u l x z B HB vG wG xG yG gF hF jF lF iL jL kL hJ iJ zF aG pF qF eB ⊢
      refine pv 0 84 (tf 1 15) wB ?_
      refine pv 1 85 (tf 2 14) wB ?_
      refine pv 2 86 (tf 3 13) wB ?_
      refine pv 4 88 #[true, true, true, false, true, false, false, false, false, false, false, false, false, false, false, false] wB ?_
      refine pv 6 90 #[true, true, true, false, true, false, true, false, false, false, false, false, false, false, false, false] wB ?_
      refine pv 7 91 #[true, true, true, false, true, false, true, true, false, false, false, false, false, false, false, false] wB ?_
      refine pv 11 95 #[true, true, true, false, true, false, true, true, false, false, false, true, false, false, false, false] wB ?_
      refine pv 12 96 #[true, true, true, false, true, false, true, true, false, false, false, true, true, false, false, false] wB ?_
      refine Bj (i := 3) (N := some 87) (v := ?_) (a' := ?_) #[true, true, true, true, true, false, true, true, false, false, false, true, true, false, false, false] rfl rfl (Av wB.out aH.out (by kernel_rfl)) (fun _ _ _ h => h) (Or.inl ⟨by rfl, ?_⟩) eB ?_ ?_
      rotate_left
      ·rintro w' ⟨s0, s1, s2, s3, s4, s5, s6, s7, s8, s9, nL, oL, dS, eS, fS, gS, hS, iS, jS⟩
       go_simp
       with_reducible rfl
      rotate_left
      ·simp only [ps]
       rfl
      refine Bj (i := 5) (N := some 89) (v := ?_) (a' := ?_) #[true, true, true, true, true, true, true, true, false, false, false, true, true, false, false, false] rfl rfl (Av wB.out aH.out (by kernel_rfl)) (fun _ _ _ h => h) (Or.inl ⟨by rfl, ?_⟩) eB ?_ ?_
      rotate_left
      ·rintro w' ⟨s0, s1, s2, s3, s4, s5, s6, s7, s8, s9, nL, oL, dS, eS, fS, gS, hS, iS, jS⟩
       go_simp
       with_reducible rfl
      rotate_left
      ·simp only [ps]
       rfl
      refine pv 8 92 #[true, true, true, true, true, true, true, true, true, false, false, true, true, false, false, false] wB ?_
      refine pv 9 93 #[true, true, true, true, true, true, true, true, true, true, false, true, true, false, false, false] wB ?_
      refine Bj (i := 10) (N := some 94) (v := ?_) (a' := ?_) (tf 13 3) rfl rfl (Av wB.out aH.out (by kernel_rfl)) (fun _ _ _ h => h) (Or.inl ⟨by rfl, ?_⟩) eB ?_ ?_
      rotate_left
      ·rintro w' ⟨s0, s1, s2, s3, s4, s5, s6, s7, s8, s9, nL, oL, dS, eS, fS, gS, hS, iS, jS⟩
       go_simp
       with_reducible rfl
      rotate_left
      ·simp only [ps]
       rfl
      refine Bj (i := 13) (N := some 97) (v := ?_) (a' := ?_) (tf 14 2) rfl rfl (Av wB.out aH.out (by kernel_rfl)) (fun _ _ _ h => h) (Or.inl ⟨by rfl, ?_⟩) eB ?_ ?_
      rotate_left
      ·rintro w' ⟨s0, s1, s2, s3, s4, s5, s6, s7, s8, s9, nL, oL, dS, eS, fS, gS, hS, iS, jS⟩
       go_simp
       with_reducible rfl
      rotate_left
      ·simp only [ps]
       rfl
      refine DL (i := 14) (N := some 98) (tf 15 1) rfl rfl (Bo wB.out (by kernel_rfl)) (by decide) (fun K hK => ?_)
      refine Co Try.func56 (by kernel_rfl) rfl #[.agg #[.int .i64 bE, .int .i64 cE, .string dE, .slice hE wD.length kE, .slice jE xD.length lE], .agg #[.int .i64 ((AA W (rD)).f1.f0), .int .i64 ((AA W (rD)).f1.f1), .slice pM ((AA W (rD)).f1.f2).length vM, .slice qM ((AA W (rD)).f1.f3).length wM], .agg #[.int .i64 ((AB l3 0).f0), .int .i64 ((AB l3 0).f1), .slice rM ((AB l3 0).f2).length xM, .slice sM ((AB l3 0).f3).length yM]] (by rfl) rfl rfl (by (try simp only [List.map_toArray, List.map_cons, List.map_nil]); first | done | (simp only [bK]; rfl) | rfl | (simp only [List.length_drop, List.length_take]; rfl)) ?_
      with_reducible refine (Dh.calls ?side13 ?side1 ?side2 ?side3 ?side4 ?side5 ?side6 ?side7 ?side8 ?side9 ?side10 ?side11 ?side12 sY.out).mono ?_
      (case side1 => exact cu aM HB)
      (case side2 => exact xL.out)
      (case side3 => exact cu bM HB)
      (case side4 => exact yL.out)
      (case side5 => repeat (first | exact (by repeat (first | (with_reducible exact gF.out) | (with_reducible refine Kd.Cu ?_ _) | (with_reducible refine Kd.Cv ?_ _) | (with_reducible refine Kd.DN ?_) | exact gF.out)) | (with_reducible refine Kd.Cu ?_ _) | (with_reducible refine Kd.Cv ?_ _) | (with_reducible refine Kd.DN ?_)))
      (case side6 => exact qN.out)
      (case side7 => repeat (first | exact (by repeat (first | (with_reducible exact hF.out) | (with_reducible refine Kd.Cu ?_ _) | (with_reducible refine Kd.Cv ?_ _) | (with_reducible refine Kd.DN ?_) | exact hF.out)) | (with_reducible refine Kd.Cu ?_ _) | (with_reducible refine Kd.Cv ?_ _) | (with_reducible refine Kd.DN ?_)))
      (case side8 => exact rN.out)
      (case side9 => repeat (first | exact (by repeat (first | (with_reducible exact jF.out) | (with_reducible refine Kd.Cu ?_ _) | (with_reducible refine Kd.Cv ?_ _) | (with_reducible refine Kd.DN ?_) | exact jF.out)) | (with_reducible refine Kd.Cu ?_ _) | (with_reducible refine Kd.Cv ?_ _) | (with_reducible refine Kd.DN ?_)))
      (case side10 => exact sN.out)
      (case side11 => repeat (first | exact (by repeat (first | (with_reducible exact lF.out) | (with_reducible refine Kd.Cu ?_ _) | (with_reducible refine Kd.Cv ?_ _) | (with_reducible refine Kd.DN ?_) | exact lF.out)) | (with_reducible refine Kd.Cu ?_ _) | (with_reducible refine Kd.Cv ?_ _) | (with_reducible refine Kd.DN ?_)))
      (case side12 => exact tN.out)
      (case side13 => exact Al HG.out (be5 HB U X Y Z dB))
      rintro e m5 ⟨rfl, hb⟩
      have jR := (hb.cell (World.block_lt_of_cell? _ _ (eB.2.2.2.2.2.2.2.2.2.2.1))).trans (eB.2.2.2.2.2.2.2.2.2.2.1)
      have kR := (hb.cell (World.block_lt_of_cell? _ _ (eB.2.2.2.2.2.2.2.2.2.2.2.1))).trans (eB.2.2.2.2.2.2.2.2.2.2.2.1)
      have lR := (hb.cell (World.block_lt_of_cell? _ _ (eB.2.2.2.2.2.2.2.2.2.2.2.2.1))).trans (eB.2.2.2.2.2.2.2.2.2.2.2.2.1)
      have mR := (hb.cell (World.block_lt_of_cell? _ _ (eB.2.2.2.2.2.2.2.2.2.2.2.2.2.1))).trans (eB.2.2.2.2.2.2.2.2.2.2.2.2.2.1)
      have nR := (hb.cell (World.block_lt_of_cell? _ _ (eB.2.2.2.2.2.2.2.2.2.2.2.2.2.2.1))).trans (eB.2.2.2.2.2.2.2.2.2.2.2.2.2.2.1)
      have oR := (hb.cell (World.block_lt_of_cell? _ _ (eB.2.2.2.2.2.2.2.2.2.2.2.2.2.2.2.1))).trans (eB.2.2.2.2.2.2.2.2.2.2.2.2.2.2.2.1)
      have pR := (hb.cell (World.block_lt_of_cell? _ _ (eB.2.2.2.2.2.2.2.2.2.2.2.2.2.2.2.2.1))).trans (eB.2.2.2.2.2.2.2.2.2.2.2.2.2.2.2.2.1)
      have qR := (hb.cell (World.block_lt_of_cell? _ _ (eB.2.2.2.2.2.2.2.2.2.2.2.2.2.2.2.2.2.1))).trans (eB.2.2.2.2.2.2.2.2.2.2.2.2.2.2.2.2.2.1)
      have rR := (hb.cell (World.block_lt_of_cell? _ _ (eB.2.2.2.2.2.2.2.2.2.2.2.2.2.2.2.2.2.2))).trans (eB.2.2.2.2.2.2.2.2.2.2.2.2.2.2.2.2.2.2)
      refine ⟨_, rfl, ?_⟩
      have yC := vb hB hb
      have zC := vb m hb
      have aD := vb b hb
      have bD := vb vG hb
      have cD := vb wG hb
      have dD := vb xG hb
      have eD := vb yG hb
      have fD := kb u hb
      have gD := kb l hb
      have yD := kb x hb
      have dC := kb z hb
      have eC := kb B hb
      have nC := cb gF hb
      have lD := cb hF hb
      have zD := cb jF hb
      have aE := cb lF hb
      have oE := kh5 HB U X Y Z dB hb
      clear hB; clear m; clear b; clear vG; clear wG; clear xG; clear yG; clear u; clear l; clear x; clear z; clear B; clear gF; clear hF; clear jF; clear lF; clear HB; have hB := yC; have m := zC; have b := aD; have vG := bD; have wG := cD; have xG := dD; have yG := eD; have u := fD; have l := gD; have x := yD; have z := dC; have B := eC; have gF := nC; have hF := lD; have jF := zD; have lF := aE; have HB := oE; clear yC zC aD bD cD dD eD fD gD yD dC eC nC lD zD aE oE
      try clear hb
      try clear d
      refine hK.out _ _ ⟨bc u 0, bc u 1, bc u 2, bc u 3, bc u 4, bc l 0, bc l 1, bc l 2, bc l 3, bc l 4, jR, kR, lR, mR, nR, oR, pR, qR, rR⟩ (fun eB => ?_)
      clear hK K
      refine Br (a' := ?_) ?_ ?_
      rotate_left
      ·show Act.put _ (some 98) _ = _
       simp only [ps]
       rfl
      refine pv 15 99 (tf 16 0) wB ?_
      refine EG (DW wB.out (by kernel_rfl)) ?_
      try go_wp2
      go_meet
      case rel => exact ⟨_, (wE), rfl, H', ⟨by have := zL.out; have := bV.out; first | omega | exact Nat.le_refl _⟩, ⟨CE hB.out⟩, ⟨CE m.out⟩, ⟨CE b.out⟩, ⟨bu u⟩, ⟨bu l⟩, ⟨bu x⟩, ⟨bu z⟩, ⟨bu B⟩, ⟨be5 HB U X Y Z dB⟩⟩
   case rest =>
    clear vN; try clear c4; try clear iO; try clear dJ; try clear fJ; try clear eJ; try clear gJ; try clear nK; try clear oK
    obtain ⟨kq, qC, rfl, HA, dQ, hB, m, b, u, l, x, z, B, HB⟩ := hcut
    cases kq with
    | zero => exact absurd HA.out (by simp [AQ.j2])
    | succ tJ =>
     have H := HA.out; clear HA
     simp only [AQ.j2] at H
     by_cases c83 : (wrap64 ((wrap64 ((W.length : Int) - qC)) + (l3.length : Int))) > 64
     ·rw [if_pos c83] at H
      exact absurd H (by simp)
     rw [if_neg c83] at H; have dZ : decide (64 < (wrap64 ((wrap64 ((W.length : Int) - qC)) + (l3.length : Int)))) = false := decide_eq_false c83; clear c83
     replace H := Option.bind_eq_some_iff.mp H
     obtain ⟨⟨t227, t228, t229, t232⟩, cQ, H⟩ := H
     replace H : (if 0 ≤ qC then (if qC ≤ (W.length : Int) then (if (W.length : Int) ≤ (W.length : Int) then ((drivers_all.f tJ ((W.take ((W.length : Int) : Int).toNat).drop (qC : Int).toNat)).bind fun gG => (AQ.l2 tJ l3 (l3.length : Int) 0 a2 l4 t227 t228 t229 t232 gG)) else (none)) else (none)) else (none)) = some (r1, r2, r3, r4, r5, r6) := H
     have wU := mk0 cQ; clear cQ
     by_cases c85 : 0 ≤ qC
     rotate_left
     ·rw [if_neg c85] at H
      exact absurd H (by simp)
     rw [if_pos c85] at H; have eZ := eq_true c85; have fZ : decide (0 ≤ qC) = true := decide_eq_true c85; clear c85
     by_cases c86 : qC ≤ (W.length : Int)
     rotate_left
     ·rw [if_neg c86] at H
      exact absurd H (by simp)
     rw [if_pos c86] at H; have gZ := eq_true c86; have hZ : decide (qC ≤ (W.length : Int)) = true := decide_eq_true c86; clear c86
     by_cases c87 : (W.length : Int) ≤ (W.length : Int)
     rotate_left
     ·rw [if_neg c87] at H
      exact absurd H (by simp)
     rw [if_pos c87] at H; have iZ := eq_true c87; have jZ : decide ((W.length : Int) ≤ (W.length : Int)) = true := decide_eq_true c87; clear c87
     obtain ⟨xE, jJ⟩ : ∃ y_ : List (S63), y_ = ((W.take ((W.length : Int) : Int).toNat).drop (qC : Int).toNat) := ⟨_, rfl⟩
     replace H : ((drivers_all.f tJ xE).bind fun gG => (AQ.l2 tJ l3 (l3.length : Int) 0 a2 l4 t227 t228 t229 t232 gG)) = some (r1, r2, r3, r4, r5, r6) := by first | (rw [jJ]; with_reducible exact H) | (have vL := (Option.bind_some _ _).symm.trans H; rw [jJ]; with_reducible exact vL) | (have vL := (Option.bind_some _ _).symm.trans H; with_reducible exact vL) | with_reducible exact H | (rw [jJ]; exact H) | exact H
     have xN := mk0 jJ; clear jJ
     replace H := bS H; obtain ⟨gG, eR, H⟩ := H
     have H' := mk0 H
     clear H
     try go_wp2
     have yC := mk0 (Kd.Bl hB.out)
     have zC := mk0 (Kd.Bl m.out)
     have aD := mk0 (Kd.Bl b.out)
     have bD := mk0 (AV u.out)
     have cD := mk0 (AV l.out)
     have dD := mk0 (AV x.out)
     have eD := mk0 (AV z.out)
     have fD := mk0 (AV B.out)
     have gD := mk0 (AZ HB.out)
     clear hB; clear m; clear b; clear u; clear l; clear x; clear z; clear B; clear HB; have hB := yC; have m := zC; have b := aD; have u := bD; have l := cD; have x := dD; have z := eD; have B := fD; have HB := gD; clear yC zC aD bD cD dD eD fD gD
     have cS : ((W.length : Int) : Int) ≤ ((W.length : Int) : Int) := od
     obtain ⟨j3, rO, _, vO, _⟩ := info_parts Ff
     have xF : W.length ≤ wC := (Kd.Ac b.out).2.1
     have yQ : Kd.F k63 _ _ hD W.length W := (Kd.KY (base := w.heap.size) b.out).2.2
     have cW : (qC : Int) ≤ ((W.length : Int) : Int) := od
     have bW : (0 : Int) ≤ (qC : Int) := od
     have aQ := Nl (P := Try.prog) 31 63 .i64 .i64 Try.underlying31 rO 5 vO hD W.length wC qC (W.length : Int) bW cW cS xF
     have hL := Kd.PP (lo := (qC : Int).toNat) (hi := ((W.length : Int) : Int).toNat) (c := wC) yQ (by omega) (by omega) xF
     obtain ⟨tL, aN⟩ : ∃ A1, A1 = (if wC = (qC : Int).toNat then hD else (hD : Option Addr).map (·.add ((qC : Int).toNat * 5))) := ⟨_, rfl⟩
     obtain ⟨iK, bN⟩ : ∃ c1, c1 = wC - (qC : Int).toNat := ⟨_, rfl⟩
     have lL : xE.length = ((W.length : Int) : Int).toNat - (qC : Int).toNat := (by rw [xN.out, List.length_drop, List.length_take] <;> omega)
     rw [show ((W).take ((W.length : Int) : Int).toNat).drop (qC : Int).toNat = xE from xN.out.symm] at hL
     replace hL : Kd.F k63 _ _ tL xE.length xE := (by rw [aN]; exact hL)
     rw [← lL, ← aN, ← bN] at aQ
     have bC := mk0 (show Kd.V k63 63 _ w.heap.size _ (.slice tL xE.length iK) xE from Kd.EA (by rw [lL, bN]; exact Nat.sub_le_sub_right (Nat.le_trans (by omega) xF) _) hL)
     have tY := mk0 (show xE.length ≤ iK from by rw [lL, bN]; exact Nat.sub_le_sub_right (Nat.le_trans (by omega) xF) _)
     clear hL yQ xF rO vO bN; have q2 := mk0 lL; have p2 := mk0 aN; clear lL aN; replace cS := eq_true cS
     refine DU (n := 12) (S := fun w' => w'.cell? ⟨D, 0, none⟩ = some (.int .i64 sD) ∧ w'.cell? ⟨D, 1, none⟩ = some (.int .i64 tD) ∧ w'.cell? ⟨D, 2, none⟩ = some (.slice fE pD.length gE) ∧ w'.cell? ⟨D, 3, none⟩ = some (.slice nD xB.length oD) ∧ w'.cell? ⟨D, 4, none⟩ = some (.slice hD W.length wC)) (ds := []) (tf 0 12) (by kernel_rfl) rfl rfl ⟨bc l 0, bc l 1, bc l 2, bc l 3, bc l 4⟩ (fun eB => ?_); refine CQ AQ.Pd AQ.Ov (fun wB aH => ?_)
     generalize wc.drew = o5 at hB m b u l x z B HB bC eB ⊢
     refine pv 0 110 (tf 1 11) wB ?_
     refine pv 3 113 #[true, false, false, true, false, false, false, false, false, false, false, false] wB ?_
     refine pv 5 115 #[true, false, false, true, false, true, false, false, false, false, false, false] wB ?_
     refine pv 6 116 #[true, false, false, true, false, true, true, false, false, false, false, false] wB ?_
     refine Bj (i := 1) (N := some 111) (v := ?_) (a' := ?_) #[true, true, false, true, false, true, true, false, false, false, false, false] rfl rfl (Av wB.out aH.out (by kernel_rfl)) (fun _ _ _ h => h) (Or.inl ⟨by rfl, ?_⟩) eB ?_ ?_
     rotate_left
     ·rintro w' ⟨s0, s1, s2, s3, s4⟩
      go_simp
      with_reducible rfl
     rotate_left
     ·simp only [ps]
      rfl
     refine Bj (i := 4) (N := some 114) (v := ?_) (a' := ?_) #[true, true, false, true, true, true, true, false, false, false, false, false] rfl rfl (Av wB.out aH.out (by kernel_rfl)) (fun _ _ _ h => h) (Or.inl ⟨by rfl, ?_⟩) eB ?_ ?_
     rotate_left
     ·rintro w' ⟨s0, s1, s2, s3, s4⟩
      go_simp
      with_reducible rfl
     rotate_left
     ·simp only [ps]
      rfl
     refine pv 7 117 #[true, true, false, true, true, true, true, true, false, false, false, false] wB ?_
     refine MW (σ := Value × Value × Value × Nat) 1 #[true, true, true, true, true, true, true, true, true, true, true, false] (fun s_ => [(112, .agg #[.int .i64 t227, .int .i64 t228, s_.1, s_.2.1]), (118, s_.2.2.1), (18, .pointer (some ⟨s_.2.2.2, 0, none⟩)), (119, .agg #[.int .i64 t227, .int .i64 t228, s_.1, s_.2.1, s_.2.2.1])]) (fun s_ w' => (w'.cell? ⟨D, 0, none⟩ = some (.int .i64 sD) ∧ w'.cell? ⟨D, 1, none⟩ = some (.int .i64 tD) ∧ w'.cell? ⟨D, 2, none⟩ = some (.slice fE pD.length gE) ∧ w'.cell? ⟨D, 3, none⟩ = some (.slice nD xB.length oD) ∧ w'.cell? ⟨D, 4, none⟩ = some (.slice hD W.length wC)) ∧ (Kd.R (Kd.int .u8) 73 w' w.heap.size (fun a => (w.heap.size ≤ a)) s_.1 t229) ∧ (Kd.V k30 30 w' w.heap.size (fun a => ((bB a ∨ cB a ∨ cC a) ∨ w.heap.size ≤ a) ∧ some a ≠ (s_.1 : Value).ownBlock ∧ some a ≠ (s_.2.2.1 : Value).ownBlock ∧ a ≠ I ∧ a ≠ D ∧ a ≠ J ∧ a ≠ O ∧ a ≠ G ∧ a ≠ s_.2.2.2) s_.2.1 t232) ∧ (Kd.V k63 63 w' w.heap.size (fun a => ((bB a ∨ cB a ∨ cC a) ∨ w.heap.size ≤ a) ∧ some a ≠ (s_.1 : Value).ownBlock ∧ some a ≠ (s_.2.2.1 : Value).ownBlock ∧ a ≠ I ∧ a ≠ D ∧ a ≠ J ∧ a ≠ O ∧ a ≠ G ∧ a ≠ s_.2.2.2) (.slice tL xE.length iK) xE) ∧ (Kd.N k63 63 w' w.heap.size (fun a => ((bB a ∨ cB a ∨ cC a) ∨ w.heap.size ≤ a) ∧ some a ≠ (s_.1 : Value).ownBlock ∧ a ≠ I ∧ a ≠ D ∧ a ≠ J ∧ a ≠ O ∧ a ≠ G ∧ a ≠ s_.2.2.2) s_.2.2.1 gG) ∧ (Kd.V k30 30 w' w.heap.size (fun a => ((bB a ∨ cB a ∨ cC a) ∨ w.heap.size ≤ a) ∧ some a ≠ (s_.1 : Value).ownBlock ∧ some a ≠ (s_.2.2.1 : Value).ownBlock ∧ a ≠ I ∧ a ≠ D ∧ a ≠ J ∧ a ≠ O ∧ a ≠ G ∧ a ≠ s_.2.2.2) (.slice nD xB.length oD) xB) ∧ (Kd.V k63 63 w' w.heap.size (fun a => ((bB a ∨ cB a ∨ cC a) ∨ w.heap.size ≤ a) ∧ some a ≠ (s_.1 : Value).ownBlock ∧ some a ≠ (s_.2.2.1 : Value).ownBlock ∧ a ≠ I ∧ a ≠ D ∧ a ≠ J ∧ a ≠ O ∧ a ≠ G ∧ a ≠ s_.2.2.2) (.slice hD W.length wC) W) ∧ (Kd.V k30 30 w' w.heap.size (fun a => ((bB a ∨ cB a ∨ cC a) ∨ w.heap.size ≤ a) ∧ some a ≠ (s_.1 : Value).ownBlock ∧ some a ≠ (s_.2.2.1 : Value).ownBlock ∧ a ≠ I ∧ a ≠ D ∧ a ≠ J ∧ a ≠ O ∧ a ≠ G ∧ a ≠ s_.2.2.2) (.slice A3 l3.length c3) l3) ∧ (w'.heap[I]? = some (.cells #[.int .i64 bE, .int .i64 cE, .string dE, .slice hE wD.length kE, .slice jE xD.length lE] 26 (0, 0))) ∧ (w'.heap[D]? = some (.cells #[.int .i64 sD, .int .i64 tD, .slice fE pD.length gE, .slice nD xB.length oD, .slice hD W.length wC] 33 (0, 0))) ∧ (w'.heap[J]? = some (.cells #[.int .i64 a2] 3 (0, 0))) ∧ (w'.heap[O]? = some (.cells #[.slice A4 l4.length c4] 38 (0, 0))) ∧ (w'.heap[G]? = some (.cells #[.int .i64 yB, .int .i64 zB, .slice none 0 0, .slice none 0 0, .slice none 0 0] 33 (0, 0))) ∧ (w'.heap[s_.2.2.2]? = some (.cells #[.int .i64 0, .int .i64 0, .slice none 0 0, .slice none 0 0, .slice none 0 0] 33 (0, 0))) ∧ (w.heap.size ≤ s_.2.2.2) ∧ (w.heap.size ≤ s_.2.2.2) ∧ (I ≠ s_.2.2.2) ∧ (s_.2.2.2 ≠ I) ∧ (D ≠ s_.2.2.2) ∧ (s_.2.2.2 ≠ D) ∧ (J ≠ s_.2.2.2) ∧ (s_.2.2.2 ≠ J) ∧ (O ≠ s_.2.2.2) ∧ (s_.2.2.2 ≠ O) ∧ (G ≠ s_.2.2.2) ∧ (s_.2.2.2 ≠ G) ∧ (Below w.heap.size w w')) ?_ ?_
     rotate_left
     ·intro mM
      refine LW (i := 2) (j := 10) (Ni := some 112) (Nj := some 18) #[true, true, true, true, true, true, true, true, false, false, false, false] #[true, true, false, true, true, true, true, true, false, false, true, false] rfl rfl rfl rfl (Hd wB.out (by kernel_rfl)) (by decide) (by decide) (fun K hK => ?_) (fun K hK => ?_)
      ·skip
       refine Co Try.func51 (by kernel_rfl) rfl #[.agg #[.int .i64 sD, .int .i64 tD, .slice fE pD.length gE, .slice nD xB.length oD]] (by rfl) rfl rfl (by (try simp only [List.map_toArray, List.map_cons, List.map_nil]); first | done | rfl | (simp only [List.length_drop, List.length_take]; rfl)) ?_
       with_reducible refine (drivers_copied.calls (fun a => (((bB a ∨ cB a ∨ cC a) ∨ w.heap.size ≤ a) ∧ (a ≠ I ∧ (a ≠ D ∧ (a ≠ J ∧ (a ≠ O ∧ a ≠ G)))))) ?side1 ?side2 ?side3 wU.out).mono ?_
       (case side1 => exact cu wJ HB)
       (case side2 => exact uJ.out)
       (case side3 => exact m.out)
       rintro e e2 ⟨v230, v233, rfl, qD, gL, hb⟩
       refine ⟨_, rfl, ?_⟩
       have yC := mk0 (Kd.BG (CE hB.out) (Kd.Am qD) hb)
       have zC := mk0 (Kd.BG (CE m.out) (Kd.Am qD) hb)
       have aD := mk0 (Kd.BG (CE b.out) (Kd.Am qD) hb)
       have bD := mk0 (Kd.BG (CE bC.out) (Kd.Am qD) hb)
       have cD := mk0 (Kd.CF (Kd.E9 (M := fun a => (w.heap.size ≤ a)) (Kd.Ai (ok' := fun a => True) qD (fun _ pC => trivial)) (AP (be5 HB U X Y Z dB)) (fun a h_ => h_)) (AP (be5 HB U X Y Z dB)))
       have dD := mk0 (Kd.En (Kd.AR (ok' := fun a => ((bB a ∨ cB a ∨ cC a) ∨ w.heap.size ≤ a) ∧ some a ≠ (v230 : Value).ownBlock ∧ a ≠ I ∧ a ≠ D ∧ a ≠ J ∧ a ≠ O ∧ a ≠ G) gL (fun a pC => ⟨Or.elim pC.1 (fun kB => kB.1) (fun jB => (.inr (Nat.le_trans (AP (be5 HB U X Y Z dB)) jB))), pC.2, Or.elim pC.1 (fun kB => kB.2.1) (fun jB => (Kd.Aq (g := I) (o := .cells #[.int .i64 bE, .int .i64 cE, .string dE, .slice hE wD.length kE, .slice jE xD.length lE] 26 (0, 0)) (AU u.out) a jB)), Or.elim pC.1 (fun kB => kB.2.2.1) (fun jB => (Kd.Aq (g := D) (o := .cells #[.int .i64 sD, .int .i64 tD, .slice fE pD.length gE, .slice nD xB.length oD, .slice hD W.length wC] 33 (0, 0)) (AU l.out) a jB)), Or.elim pC.1 (fun kB => kB.2.2.2.1) (fun jB => (Kd.Aq (g := J) (o := .cells #[.int .i64 a2] 3 (0, 0)) (AU x.out) a jB)), Or.elim pC.1 (fun kB => kB.2.2.2.2.1) (fun jB => (Kd.Aq (g := O) (o := .cells #[.slice A4 l4.length c4] 38 (0, 0)) (AU z.out) a jB)), Or.elim pC.1 (fun kB => kB.2.2.2.2.2) (fun jB => (Kd.Aq (g := G) (o := .cells #[.int .i64 yB, .int .i64 zB, .slice none 0 0, .slice none 0 0, .slice none 0 0] 33 (0, 0)) (AU B.out) a jB))⟩)) (AP (be5 HB U X Y Z dB)))
       have eD := kb u hb
       have fD := kb l hb
       have gD := kb x hb
       have yD := kb z hb
       have dC := kb B hb
       have eC := kh5 HB U X Y Z dB hb
       clear hB; clear m; clear b; clear bC; clear u; clear l; clear x; clear z; clear B; clear HB; have hB := yC; have m := zC; have b := aD; have bC := bD; have oC := cD; have xC := dD; have u := eD; have l := fD; have x := gD; have z := yD; have B := dC; have HB := eC; clear yC zC aD bD cD dD eD fD gD yD dC eC
       try clear hb
       try clear d
       try clear hi
       try clear qD
       try clear gL
       refine hK.out _ _ ⟨bc l 0, bc l 1, bc l 2, bc l 3, bc l 4⟩ (fun eB => ?_)
       clear hK K
       refine Br (a' := ?_) ?_ ?_
       rotate_left
       ·show Act.put _ (some 112) _ = _
        simp only [ps]
        rfl
       refine LW (i := 8) (j := 10) (Ni := some 118) (Nj := some 18) #[true, true, true, true, true, true, true, true, true, false, false, false] #[true, true, true, true, true, true, true, true, false, false, true, false] rfl rfl rfl rfl (Hd wB.out (by kernel_rfl)) (by decide) (by decide) (fun K hK => ?_) (fun K hK => ?_)
       ·skip
        refine Co Try.func52 (by kernel_rfl) rfl #[.slice tL xE.length iK] (by rfl) rfl rfl (by (try simp only [List.map_toArray, List.map_cons, List.map_nil]); first | done | rfl | (simp only [List.length_drop, List.length_take]; rfl)) ?_
        with_reducible refine (drivers_all.calls (fun a => ((((bB a ∨ cB a ∨ cC a) ∨ w.heap.size ≤ a) ∧ (a ≠ I ∧ (a ≠ D ∧ (a ≠ J ∧ (a ≠ O ∧ a ≠ G))))) ∧ some a ≠ (v230 : Value).ownBlock)) ?side1 eR.out).mono ?_
        (case side1 => exact bC.out)
        rintro e yW ⟨v241, rfl, qD, hb⟩
        refine ⟨_, rfl, ?_⟩
        have yC := mk0 (Kd.BG (CE hB.out) (Kd.Bi qD) hb)
        have zC := mk0 (Kd.BG (CE m.out) (Kd.Bi qD) hb)
        have aD := mk0 (Kd.BG (CE b.out) (Kd.Bi qD) hb)
        have bD := mk0 (Kd.BG (CE bC.out) (Kd.Bi qD) hb)
        have cD := rb oC hb
        have dD := mk0 (Kd.BG (CE xC.out) (Kd.Bi qD) hb)
        have eD := mk0 (Kd.Dk (Kd.BM (ok' := fun a => ((bB a ∨ cB a ∨ cC a) ∨ w.heap.size ≤ a) ∧ some a ≠ (v230 : Value).ownBlock ∧ a ≠ I ∧ a ≠ D ∧ a ≠ J ∧ a ≠ O ∧ a ≠ G) qD (fun a pC => ⟨Or.elim pC (fun kB => kB.1.1) (fun jB => (.inr (Nat.le_trans (AP (be5 HB U X Y Z dB)) jB))), Or.elim pC (fun kB => kB.2) (fun jB => (Kd.fresh' (Kd.Cz (CP oC.out)) a jB)), Or.elim pC (fun kB => kB.1.2.1) (fun jB => (Kd.Aq (g := I) (o := .cells #[.int .i64 bE, .int .i64 cE, .string dE, .slice hE wD.length kE, .slice jE xD.length lE] 26 (0, 0)) (AU u.out) a jB)), Or.elim pC (fun kB => kB.1.2.2.1) (fun jB => (Kd.Aq (g := D) (o := .cells #[.int .i64 sD, .int .i64 tD, .slice fE pD.length gE, .slice nD xB.length oD, .slice hD W.length wC] 33 (0, 0)) (AU l.out) a jB)), Or.elim pC (fun kB => kB.1.2.2.2.1) (fun jB => (Kd.Aq (g := J) (o := .cells #[.int .i64 a2] 3 (0, 0)) (AU x.out) a jB)), Or.elim pC (fun kB => kB.1.2.2.2.2.1) (fun jB => (Kd.Aq (g := O) (o := .cells #[.slice A4 l4.length c4] 38 (0, 0)) (AU z.out) a jB)), Or.elim pC (fun kB => kB.1.2.2.2.2.2) (fun jB => (Kd.Aq (g := G) (o := .cells #[.int .i64 yB, .int .i64 zB, .slice none 0 0, .slice none 0 0, .slice none 0 0] 33 (0, 0)) (AU B.out) a jB))⟩)) (AP (be5 HB U X Y Z dB)))
        have fD := kb u hb
        have gD := kb l hb
        have yD := kb x hb
        have dC := kb z hb
        have eC := kb B hb
        have nC := kh5 HB U X Y Z dB hb
        clear hB; clear m; clear b; clear bC; clear oC; clear xC; clear u; clear l; clear x; clear z; clear B; clear HB; have hB := yC; have m := zC; have b := aD; have bC := bD; have oC := cD; have xC := dD; have pE := eD; have u := fD; have l := gD; have x := yD; have z := dC; have B := eC; have HB := nC; clear yC zC aD bD cD dD eD fD gD yD dC eC nC
        try clear hb
        try clear d
        try clear hi
        try clear qD
        obtain ⟨xU, dV, fQ⟩ := Kd.Cw pE.out
        (first | subst fQ | (injection fQ with f1_ f2_ f3_; have qE := f1_.symm; have rE := f3_.symm; clear f1_ f2_ f3_; subst qE; subst rE))
        obtain ⟨dK, jK, nH⟩ := Kd.D6 xC.out
        (first | subst nH | (injection nH with f1_ f2_ f3_; have qE := f1_.symm; have rE := f3_.symm; clear f1_ f2_ f3_; subst qE; subst rE))
        obtain ⟨eK, kK, oH⟩ := Kd.Bg oC.out
        (first | subst oH | (injection oH with f1_ f2_ f3_; have qE := f1_.symm; have rE := f3_.symm; clear f1_ f2_ f3_; subst qE; subst rE))
        refine hK.out _ _ ⟨bc l 0, bc l 1, bc l 2, bc l 3, bc l 4⟩ (fun eB => ?_)
        clear hK K
        refine Br (a' := ?_) ?_ ?_
        rotate_left
        ·show Act.put _ (some 118) _ = _
         simp only [ps]
         rfl
        refine pv 9 119 (tf 10 2) wB ?_
        refine DL (i := 10) (N := some 18) (tf 11 1) rfl rfl (Bo wB.out (by kernel_rfl)) (by decide) (fun K hK => ?_)
        refine EZ ?hg (N := 18) ?hd (cs := #[.int .i64 0, .int .i64 0, .slice none 0 0, .slice none 0 0, .slice none 0 0]) (t := 33) ?hr ?_; (case hd => rfl); (case hg => rfl); (case hr => first | (go_simp; done) | (go_simp; rfl))
        intro s hg p5 uD hb
        have yC := vB hB hg hb
        have zC := vB m hg hb
        have aD := vB b hg hb
        have bD := vB bC hg hb
        have cD := rb oC hb
        have dD := vB xC hg hb
        have eD := nB pE hg hb
        have fD := kb u hb
        have gD := kb l hb
        have yD := kb x hb
        have dC := kb z hb
        have eC := kb B hb
        have nC := kh5 HB U X Y Z dB hb
        have lD := mk0 (uD)
        have zD := bs (be5 HB U X Y Z dB) hg
        have aE := bs (be5 HB U X Y Z dB) hg
        have oE := nb1 (bu u) hg
        have zE := nb2 (bu u) hg
        have bG := nb1 (bu l) hg
        have cG := nb2 (bu l) hg
        have dG := nb1 (bu x) hg
        have eG := nb2 (bu x) hg
        have fG := nb1 (bu z) hg
        have pH := nb2 (bu z) hg
        have qH := nb1 (bu B) hg
        have mL := nb2 (bu B) hg
        clear hB; clear m; clear b; clear bC; clear oC; clear xC; clear pE; clear u; clear l; clear x; clear z; clear B; clear HB; have hB := yC; have m := zC; have b := aD; have bC := bD; have oC := cD; have xC := dD; have pE := eD; have u := fD; have l := gD; have x := yD; have z := dC; have B := eC; have HB := nC; have T := lD; have lH := zD; have aC := aE; have fC := oE; have rC := zE; have L := bG; have sC := cG; have gC := dG; have tC := eG; have hC := fG; have uC := pH; have iC := qH; have vC := mL; clear yC zC aD bD cD dD eD fD gD yD dC eC nC lD zD aE oE zE bG cG dG eG fG pH qH mL; clear hb uD hg
        refine hK.out _ _ ⟨bc l 0, bc l 1, bc l 2, bc l 3, bc l 4⟩ (fun eB => ?_)
        clear hK K
        refine Br (a' := ?_) ?_ ?_
        rotate_left
        ·show Act.put _ (some 18) _ = _
         simp only [ps]
         rfl
        exact Br (by simp only [EM, Act.put, List.setIfInBounds_toArray, List.set_cons_zero, List.set_cons_succ]) (mM (.slice eK t229.length kK, .slice dK t232.length jK, .slice xU gG.length dV, s) _ ⟨eB, (CS (Kd.Ai oC.out (fun _ d => d.1))), (Bn (Kd.AR xC.out (fun _ d => ⟨d.1.1.1, ⟨d.1.1.2.1, ⟨d.1.2, ⟨d.1.1.2.2.1, ⟨d.1.1.2.2.2.1, ⟨d.1.1.2.2.2.2.1, ⟨d.1.1.2.2.2.2.2.1, ⟨d.1.1.2.2.2.2.2.2, d.2⟩⟩⟩⟩⟩⟩⟩⟩))), (Bn (Kd.AR bC.out (fun _ d => ⟨d.1.1.1.1, ⟨d.1.1.2, ⟨d.1.2, ⟨d.1.1.1.2.1, ⟨d.1.1.1.2.2.1, ⟨d.1.1.1.2.2.2.1, ⟨d.1.1.1.2.2.2.2.1, ⟨d.1.1.1.2.2.2.2.2, d.2⟩⟩⟩⟩⟩⟩⟩⟩))), (DC (Kd.BM pE.out (fun _ d => ⟨d.1.1, ⟨d.1.2.1, ⟨d.1.2.2.1, ⟨d.1.2.2.2.1, ⟨d.1.2.2.2.2.1, ⟨d.1.2.2.2.2.2.1, ⟨d.1.2.2.2.2.2.2, d.2⟩⟩⟩⟩⟩⟩⟩))), (Bn (Kd.AR m.out (fun _ d => ⟨d.1.1.1.1, ⟨d.1.1.2, ⟨d.1.2, ⟨d.1.1.1.2.1, ⟨d.1.1.1.2.2.1, ⟨d.1.1.1.2.2.2.1, ⟨d.1.1.1.2.2.2.2.1, ⟨d.1.1.1.2.2.2.2.2, d.2⟩⟩⟩⟩⟩⟩⟩⟩))), (Bn (Kd.AR b.out (fun _ d => ⟨d.1.1.1.1, ⟨d.1.1.2, ⟨d.1.2, ⟨d.1.1.1.2.1, ⟨d.1.1.1.2.2.1, ⟨d.1.1.1.2.2.2.1, ⟨d.1.1.1.2.2.2.2.1, ⟨d.1.1.1.2.2.2.2.2, d.2⟩⟩⟩⟩⟩⟩⟩⟩))), (Bn (Kd.AR hB.out (fun _ d => ⟨d.1.1.1.1, ⟨d.1.1.2, ⟨d.1.2, ⟨d.1.1.1.2.1, ⟨d.1.1.1.2.2.1, ⟨d.1.1.1.2.2.2.1, ⟨d.1.1.1.2.2.2.2.1, ⟨d.1.1.1.2.2.2.2.2, d.2⟩⟩⟩⟩⟩⟩⟩⟩))), (AU u.out), (AU l.out), (AU x.out), (AU z.out), (AU B.out), (AU T.out), lH.out, aC.out, fC.out, rC.out, L.out, sC.out, gC.out, tC.out, hC.out, uC.out, iC.out, vC.out, (be6 HB U X Y Z dB aC)⟩)
       ·skip
        refine EZ ?hg (N := 18) ?hd (cs := #[.int .i64 0, .int .i64 0, .slice none 0 0, .slice none 0 0, .slice none 0 0]) (t := 33) ?hr ?_; (case hd => rfl); (case hg => rfl); (case hr => first | (go_simp; done) | (go_simp; rfl))
        intro s hg yW uD hb
        have yC := vB hB hg hb
        have zC := vB m hg hb
        have aD := vB b hg hb
        have bD := vB bC hg hb
        have cD := rb oC hb
        have dD := vB xC hg hb
        have eD := kb u hb
        have fD := kb l hb
        have gD := kb x hb
        have yD := kb z hb
        have dC := kb B hb
        have eC := kh5 HB U X Y Z dB hb
        have nC := mk0 (uD)
        have lD := bs (be5 HB U X Y Z dB) hg
        have zD := bs (be5 HB U X Y Z dB) hg
        have aE := nb1 (bu u) hg
        have oE := nb2 (bu u) hg
        have zE := nb1 (bu l) hg
        have bG := nb2 (bu l) hg
        have cG := nb1 (bu x) hg
        have dG := nb2 (bu x) hg
        have eG := nb1 (bu z) hg
        have fG := nb2 (bu z) hg
        have pH := nb1 (bu B) hg
        have qH := nb2 (bu B) hg
        clear hB; clear m; clear b; clear bC; clear oC; clear xC; clear u; clear l; clear x; clear z; clear B; clear HB; have hB := yC; have m := zC; have b := aD; have bC := bD; have oC := cD; have xC := dD; have u := eD; have l := fD; have x := gD; have z := yD; have B := dC; have HB := eC; have T := nC; have lH := lD; have aC := zD; have fC := aE; have rC := oE; have L := zE; have sC := bG; have gC := cG; have tC := dG; have hC := eG; have uC := fG; have iC := pH; have vC := qH; clear yC zC aD bD cD dD eD fD gD yD dC eC nC lD zD aE oE zE bG cG dG eG fG pH qH; clear hb uD hg
        refine hK.out _ _ ⟨bc l 0, bc l 1, bc l 2, bc l 3, bc l 4⟩ (fun eB => ?_)
        clear hK K
        refine Br (a' := ?_) ?_ ?_
        rotate_left
        ·show Act.put _ (some 18) _ = _
         simp only [ps]
         rfl
        refine DL (i := 8) (N := some 118) #[true, true, true, true, true, true, true, true, true, false, true, false] rfl rfl (Bo wB.out (by kernel_rfl)) (by decide) (fun K hK => ?_)
        refine Co Try.func52 (by kernel_rfl) rfl #[.slice tL xE.length iK] (by rfl) rfl rfl (by (try simp only [List.map_toArray, List.map_cons, List.map_nil]); first | done | rfl | (simp only [List.length_drop, List.length_take]; rfl)) ?_
        with_reducible refine (drivers_all.calls (fun a => (((((bB a ∨ cB a ∨ cC a) ∨ w.heap.size ≤ a) ∧ (a ≠ I ∧ (a ≠ D ∧ (a ≠ J ∧ (a ≠ O ∧ a ≠ G))))) ∧ some a ≠ (v230 : Value).ownBlock) ∧ a ≠ s)) ?side1 eR.out).mono ?_
        (case side1 => exact bC.out)
        rintro e g2 ⟨v241, rfl, qD, hb⟩
        refine ⟨_, rfl, ?_⟩
        have yC := mk0 (Kd.BG (CE hB.out) (Kd.Bi qD) hb)
        have zC := mk0 (Kd.BG (CE m.out) (Kd.Bi qD) hb)
        have aD := mk0 (Kd.BG (CE b.out) (Kd.Bi qD) hb)
        have bD := mk0 (Kd.BG (CE bC.out) (Kd.Bi qD) hb)
        have cD := rb oC hb
        have dD := mk0 (Kd.BG (CE xC.out) (Kd.Bi qD) hb)
        have eD := mk0 (Kd.Dk (Kd.BM (ok' := fun a => ((bB a ∨ cB a ∨ cC a) ∨ w.heap.size ≤ a) ∧ some a ≠ (v230 : Value).ownBlock ∧ a ≠ I ∧ a ≠ D ∧ a ≠ J ∧ a ≠ O ∧ a ≠ G ∧ a ≠ s) qD (fun a pC => ⟨Or.elim pC (fun kB => kB.1.1.1) (fun jB => (.inr (Nat.le_trans (AP (be6 HB U X Y Z dB aC)) jB))), Or.elim pC (fun kB => kB.1.2) (fun jB => (Kd.fresh' (Kd.Cz (CP oC.out)) a jB)), Or.elim pC (fun kB => kB.1.1.2.1) (fun jB => (Kd.Aq (g := I) (o := .cells #[.int .i64 bE, .int .i64 cE, .string dE, .slice hE wD.length kE, .slice jE xD.length lE] 26 (0, 0)) (AU u.out) a jB)), Or.elim pC (fun kB => kB.1.1.2.2.1) (fun jB => (Kd.Aq (g := D) (o := .cells #[.int .i64 sD, .int .i64 tD, .slice fE pD.length gE, .slice nD xB.length oD, .slice hD W.length wC] 33 (0, 0)) (AU l.out) a jB)), Or.elim pC (fun kB => kB.1.1.2.2.2.1) (fun jB => (Kd.Aq (g := J) (o := .cells #[.int .i64 a2] 3 (0, 0)) (AU x.out) a jB)), Or.elim pC (fun kB => kB.1.1.2.2.2.2.1) (fun jB => (Kd.Aq (g := O) (o := .cells #[.slice A4 l4.length c4] 38 (0, 0)) (AU z.out) a jB)), Or.elim pC (fun kB => kB.1.1.2.2.2.2.2) (fun jB => (Kd.Aq (g := G) (o := .cells #[.int .i64 yB, .int .i64 zB, .slice none 0 0, .slice none 0 0, .slice none 0 0] 33 (0, 0)) (AU B.out) a jB)), Or.elim pC (fun kB => kB.2) (fun jB => (Kd.Aq (g := s) (o := .cells #[.int .i64 0, .int .i64 0, .slice none 0 0, .slice none 0 0, .slice none 0 0] 33 (0, 0)) (AU T.out) a jB))⟩)) (AP (be6 HB U X Y Z dB aC)))
        have fD := kb u hb
        have gD := kb l hb
        have yD := kb x hb
        have dC := kb z hb
        have eC := kb B hb
        have nC := kb T hb
        have lD := kh6 HB U X Y Z dB aC hb
        clear hB; clear m; clear b; clear bC; clear oC; clear xC; clear u; clear l; clear x; clear z; clear B; clear T; clear HB; have hB := yC; have m := zC; have b := aD; have bC := bD; have oC := cD; have xC := dD; have pE := eD; have u := fD; have l := gD; have x := yD; have z := dC; have B := eC; have T := nC; have HB := lD; clear yC zC aD bD cD dD eD fD gD yD dC eC nC lD
        try clear hb
        try clear d
        try clear hi
        try clear qD
        obtain ⟨dK, jK, nH⟩ := Kd.Cw pE.out
        (first | subst nH | (injection nH with f1_ f2_ f3_; have qE := f1_.symm; have rE := f3_.symm; clear f1_ f2_ f3_; subst qE; subst rE))
        obtain ⟨eK, kK, oH⟩ := Kd.D6 xC.out
        (first | subst oH | (injection oH with f1_ f2_ f3_; have qE := f1_.symm; have rE := f3_.symm; clear f1_ f2_ f3_; subst qE; subst rE))
        obtain ⟨nN, jO, lK⟩ := Kd.Bg oC.out
        (first | subst lK | (injection lK with f1_ f2_ f3_; have qE := f1_.symm; have rE := f3_.symm; clear f1_ f2_ f3_; subst qE; subst rE))
        refine hK.out _ _ ⟨bc l 0, bc l 1, bc l 2, bc l 3, bc l 4⟩ (fun eB => ?_)
        clear hK K
        refine Br (a' := ?_) ?_ ?_
        rotate_left
        ·show Act.put _ (some 118) _ = _
         simp only [ps]
         rfl
        refine pv 9 119 (tf 11 1) wB ?_
        exact Br (by simp only [EM, Act.put, List.setIfInBounds_toArray, List.set_cons_zero, List.set_cons_succ]) (mM (.slice nN t229.length jO, .slice eK t232.length kK, .slice dK gG.length jK, s) _ ⟨eB, (CS (Kd.Ai oC.out (fun _ d => d.1))), (Bn (Kd.AR xC.out (fun _ d => ⟨d.1.1.1, ⟨d.1.1.2.1, ⟨d.2, ⟨d.1.1.2.2.1, ⟨d.1.1.2.2.2.1, ⟨d.1.1.2.2.2.2.1, ⟨d.1.1.2.2.2.2.2.1, ⟨d.1.1.2.2.2.2.2.2, d.1.2⟩⟩⟩⟩⟩⟩⟩⟩))), (Bn (Kd.AR bC.out (fun _ d => ⟨d.1.1.1.1, ⟨d.1.1.2, ⟨d.2, ⟨d.1.1.1.2.1, ⟨d.1.1.1.2.2.1, ⟨d.1.1.1.2.2.2.1, ⟨d.1.1.1.2.2.2.2.1, ⟨d.1.1.1.2.2.2.2.2, d.1.2⟩⟩⟩⟩⟩⟩⟩⟩))), (DZ pE.out), (Bn (Kd.AR m.out (fun _ d => ⟨d.1.1.1.1, ⟨d.1.1.2, ⟨d.2, ⟨d.1.1.1.2.1, ⟨d.1.1.1.2.2.1, ⟨d.1.1.1.2.2.2.1, ⟨d.1.1.1.2.2.2.2.1, ⟨d.1.1.1.2.2.2.2.2, d.1.2⟩⟩⟩⟩⟩⟩⟩⟩))), (Bn (Kd.AR b.out (fun _ d => ⟨d.1.1.1.1, ⟨d.1.1.2, ⟨d.2, ⟨d.1.1.1.2.1, ⟨d.1.1.1.2.2.1, ⟨d.1.1.1.2.2.2.1, ⟨d.1.1.1.2.2.2.2.1, ⟨d.1.1.1.2.2.2.2.2, d.1.2⟩⟩⟩⟩⟩⟩⟩⟩))), (Bn (Kd.AR hB.out (fun _ d => ⟨d.1.1.1.1, ⟨d.1.1.2, ⟨d.2, ⟨d.1.1.1.2.1, ⟨d.1.1.1.2.2.1, ⟨d.1.1.1.2.2.2.1, ⟨d.1.1.1.2.2.2.2.1, ⟨d.1.1.1.2.2.2.2.2, d.1.2⟩⟩⟩⟩⟩⟩⟩⟩))), (AU u.out), (AU l.out), (AU x.out), (AU z.out), (AU B.out), (AU T.out), lH.out, aC.out, fC.out, rC.out, L.out, sC.out, gC.out, tC.out, hC.out, uC.out, iC.out, vC.out, (be6 HB U X Y Z dB aC)⟩)
      ·skip
       refine EZ ?hg (N := 18) ?hd (cs := #[.int .i64 0, .int .i64 0, .slice none 0 0, .slice none 0 0, .slice none 0 0]) (t := 33) ?hr ?_; (case hd => rfl); (case hg => rfl); (case hr => first | (go_simp; done) | (go_simp; rfl))
       intro s hg e2 uD hb
       have yC := vB hB hg hb
       have zC := vB m hg hb
       have aD := vB b hg hb
       have bD := vB bC hg hb
       have cD := kb u hb
       have dD := kb l hb
       have eD := kb x hb
       have fD := kb z hb
       have gD := kb B hb
       have yD := kh5 HB U X Y Z dB hb
       have dC := mk0 (uD)
       have eC := bs (be5 HB U X Y Z dB) hg
       have nC := bs (be5 HB U X Y Z dB) hg
       have lD := nb1 (bu u) hg
       have zD := nb2 (bu u) hg
       have aE := nb1 (bu l) hg
       have oE := nb2 (bu l) hg
       have zE := nb1 (bu x) hg
       have bG := nb2 (bu x) hg
       have cG := nb1 (bu z) hg
       have dG := nb2 (bu z) hg
       have eG := nb1 (bu B) hg
       have fG := nb2 (bu B) hg
       clear hB; clear m; clear b; clear bC; clear u; clear l; clear x; clear z; clear B; clear HB; have hB := yC; have m := zC; have b := aD; have bC := bD; have u := cD; have l := dD; have x := eD; have z := fD; have B := gD; have HB := yD; have T := dC; have lH := eC; have aC := nC; have fC := lD; have rC := zD; have L := aE; have sC := oE; have gC := zE; have tC := bG; have hC := cG; have uC := dG; have iC := eG; have vC := fG; clear yC zC aD bD cD dD eD fD gD yD dC eC nC lD zD aE oE zE bG cG dG eG fG; clear hb uD hg
       refine hK.out _ _ ⟨bc l 0, bc l 1, bc l 2, bc l 3, bc l 4⟩ (fun eB => ?_)
       clear hK K
       refine Br (a' := ?_) ?_ ?_
       rotate_left
       ·show Act.put _ (some 18) _ = _
        simp only [ps]
        rfl
       refine DL (i := 2) (N := some 112) #[true, true, true, true, true, true, true, true, false, false, true, false] rfl rfl (Bo wB.out (by kernel_rfl)) (by decide) (fun K hK => ?_)
       refine Co Try.func51 (by kernel_rfl) rfl #[.agg #[.int .i64 sD, .int .i64 tD, .slice fE pD.length gE, .slice nD xB.length oD]] (by rfl) rfl rfl (by (try simp only [List.map_toArray, List.map_cons, List.map_nil]); first | done | rfl | (simp only [List.length_drop, List.length_take]; rfl)) ?_
       with_reducible refine (drivers_copied.calls (fun a => ((((bB a ∨ cB a ∨ cC a) ∨ w.heap.size ≤ a) ∧ (a ≠ I ∧ (a ≠ D ∧ (a ≠ J ∧ (a ≠ O ∧ a ≠ G))))) ∧ a ≠ s)) ?side1 ?side2 ?side3 wU.out).mono ?_
       (case side1 => exact cu wJ HB)
       (case side2 => exact uJ.out)
       (case side3 => exact m.out)
       rintro e yW ⟨v230, v233, rfl, qD, gL, hb⟩
       refine ⟨_, rfl, ?_⟩
       have yC := mk0 (Kd.BG (CE hB.out) (Kd.Am qD) hb)
       have zC := mk0 (Kd.BG (CE m.out) (Kd.Am qD) hb)
       have aD := mk0 (Kd.BG (CE b.out) (Kd.Am qD) hb)
       have bD := mk0 (Kd.BG (CE bC.out) (Kd.Am qD) hb)
       have cD := mk0 (Kd.CF (Kd.E9 (M := fun a => (w.heap.size ≤ a)) (Kd.Ai (ok' := fun a => True) qD (fun _ pC => trivial)) (AP (be6 HB U X Y Z dB aC)) (fun a h_ => h_)) (AP (be6 HB U X Y Z dB aC)))
       have dD := mk0 (Kd.En (Kd.AR (ok' := fun a => ((bB a ∨ cB a ∨ cC a) ∨ w.heap.size ≤ a) ∧ some a ≠ (v230 : Value).ownBlock ∧ a ≠ I ∧ a ≠ D ∧ a ≠ J ∧ a ≠ O ∧ a ≠ G ∧ a ≠ s) gL (fun a pC => ⟨Or.elim pC.1 (fun kB => kB.1.1) (fun jB => (.inr (Nat.le_trans (AP (be6 HB U X Y Z dB aC)) jB))), pC.2, Or.elim pC.1 (fun kB => kB.1.2.1) (fun jB => (Kd.Aq (g := I) (o := .cells #[.int .i64 bE, .int .i64 cE, .string dE, .slice hE wD.length kE, .slice jE xD.length lE] 26 (0, 0)) (AU u.out) a jB)), Or.elim pC.1 (fun kB => kB.1.2.2.1) (fun jB => (Kd.Aq (g := D) (o := .cells #[.int .i64 sD, .int .i64 tD, .slice fE pD.length gE, .slice nD xB.length oD, .slice hD W.length wC] 33 (0, 0)) (AU l.out) a jB)), Or.elim pC.1 (fun kB => kB.1.2.2.2.1) (fun jB => (Kd.Aq (g := J) (o := .cells #[.int .i64 a2] 3 (0, 0)) (AU x.out) a jB)), Or.elim pC.1 (fun kB => kB.1.2.2.2.2.1) (fun jB => (Kd.Aq (g := O) (o := .cells #[.slice A4 l4.length c4] 38 (0, 0)) (AU z.out) a jB)), Or.elim pC.1 (fun kB => kB.1.2.2.2.2.2) (fun jB => (Kd.Aq (g := G) (o := .cells #[.int .i64 yB, .int .i64 zB, .slice none 0 0, .slice none 0 0, .slice none 0 0] 33 (0, 0)) (AU B.out) a jB)), Or.elim pC.1 (fun kB => kB.2) (fun jB => (Kd.Aq (g := s) (o := .cells #[.int .i64 0, .int .i64 0, .slice none 0 0, .slice none 0 0, .slice none 0 0] 33 (0, 0)) (AU T.out) a jB))⟩)) (AP (be6 HB U X Y Z dB aC)))
       have eD := kb u hb
       have fD := kb l hb
       have gD := kb x hb
       have yD := kb z hb
       have dC := kb B hb
       have eC := kb T hb
       have nC := kh6 HB U X Y Z dB aC hb
       clear hB; clear m; clear b; clear bC; clear u; clear l; clear x; clear z; clear B; clear T; clear HB; have hB := yC; have m := zC; have b := aD; have bC := bD; have oC := cD; have xC := dD; have u := eD; have l := fD; have x := gD; have z := yD; have B := dC; have T := eC; have HB := nC; clear yC zC aD bD cD dD eD fD gD yD dC eC nC
       try clear hb
       try clear d
       try clear hi
       try clear qD
       try clear gL
       refine hK.out _ _ ⟨bc l 0, bc l 1, bc l 2, bc l 3, bc l 4⟩ (fun eB => ?_)
       clear hK K
       refine Br (a' := ?_) ?_ ?_
       rotate_left
       ·show Act.put _ (some 112) _ = _
        simp only [ps]
        rfl
       refine DL (i := 8) (N := some 118) #[true, true, true, true, true, true, true, true, true, false, true, false] rfl rfl (Bo wB.out (by kernel_rfl)) (by decide) (fun K hK => ?_)
       refine Co Try.func52 (by kernel_rfl) rfl #[.slice tL xE.length iK] (by rfl) rfl rfl (by (try simp only [List.map_toArray, List.map_cons, List.map_nil]); first | done | rfl | (simp only [List.length_drop, List.length_take]; rfl)) ?_
       with_reducible refine (drivers_all.calls (fun a => (((((bB a ∨ cB a ∨ cC a) ∨ w.heap.size ≤ a) ∧ (a ≠ I ∧ (a ≠ D ∧ (a ≠ J ∧ (a ≠ O ∧ a ≠ G))))) ∧ a ≠ s) ∧ some a ≠ (v230 : Value).ownBlock)) ?side1 eR.out).mono ?_
       (case side1 => exact bC.out)
       rintro e g2 ⟨v241, rfl, qD, hb⟩
       refine ⟨_, rfl, ?_⟩
       have yC := mk0 (Kd.BG (CE hB.out) (Kd.Bi qD) hb)
       have zC := mk0 (Kd.BG (CE m.out) (Kd.Bi qD) hb)
       have aD := mk0 (Kd.BG (CE b.out) (Kd.Bi qD) hb)
       have bD := mk0 (Kd.BG (CE bC.out) (Kd.Bi qD) hb)
       have cD := rb oC hb
       have dD := mk0 (Kd.BG (CE xC.out) (Kd.Bi qD) hb)
       have eD := mk0 (Kd.Dk (Kd.BM (ok' := fun a => ((bB a ∨ cB a ∨ cC a) ∨ w.heap.size ≤ a) ∧ some a ≠ (v230 : Value).ownBlock ∧ a ≠ I ∧ a ≠ D ∧ a ≠ J ∧ a ≠ O ∧ a ≠ G ∧ a ≠ s) qD (fun a pC => ⟨Or.elim pC (fun kB => kB.1.1.1) (fun jB => (.inr (Nat.le_trans (AP (be6 HB U X Y Z dB aC)) jB))), Or.elim pC (fun kB => kB.2) (fun jB => (Kd.fresh' (Kd.Cz (CP oC.out)) a jB)), Or.elim pC (fun kB => kB.1.1.2.1) (fun jB => (Kd.Aq (g := I) (o := .cells #[.int .i64 bE, .int .i64 cE, .string dE, .slice hE wD.length kE, .slice jE xD.length lE] 26 (0, 0)) (AU u.out) a jB)), Or.elim pC (fun kB => kB.1.1.2.2.1) (fun jB => (Kd.Aq (g := D) (o := .cells #[.int .i64 sD, .int .i64 tD, .slice fE pD.length gE, .slice nD xB.length oD, .slice hD W.length wC] 33 (0, 0)) (AU l.out) a jB)), Or.elim pC (fun kB => kB.1.1.2.2.2.1) (fun jB => (Kd.Aq (g := J) (o := .cells #[.int .i64 a2] 3 (0, 0)) (AU x.out) a jB)), Or.elim pC (fun kB => kB.1.1.2.2.2.2.1) (fun jB => (Kd.Aq (g := O) (o := .cells #[.slice A4 l4.length c4] 38 (0, 0)) (AU z.out) a jB)), Or.elim pC (fun kB => kB.1.1.2.2.2.2.2) (fun jB => (Kd.Aq (g := G) (o := .cells #[.int .i64 yB, .int .i64 zB, .slice none 0 0, .slice none 0 0, .slice none 0 0] 33 (0, 0)) (AU B.out) a jB)), Or.elim pC (fun kB => kB.1.2) (fun jB => (Kd.Aq (g := s) (o := .cells #[.int .i64 0, .int .i64 0, .slice none 0 0, .slice none 0 0, .slice none 0 0] 33 (0, 0)) (AU T.out) a jB))⟩)) (AP (be6 HB U X Y Z dB aC)))
       have fD := kb u hb
       have gD := kb l hb
       have yD := kb x hb
       have dC := kb z hb
       have eC := kb B hb
       have nC := kb T hb
       have lD := kh6 HB U X Y Z dB aC hb
       clear hB; clear m; clear b; clear bC; clear oC; clear xC; clear u; clear l; clear x; clear z; clear B; clear T; clear HB; have hB := yC; have m := zC; have b := aD; have bC := bD; have oC := cD; have xC := dD; have pE := eD; have u := fD; have l := gD; have x := yD; have z := dC; have B := eC; have T := nC; have HB := lD; clear yC zC aD bD cD dD eD fD gD yD dC eC nC lD
       try clear hb
       try clear d
       try clear hi
       try clear qD
       obtain ⟨dK, jK, nH⟩ := Kd.Cw pE.out
       (first | subst nH | (injection nH with f1_ f2_ f3_; have qE := f1_.symm; have rE := f3_.symm; clear f1_ f2_ f3_; subst qE; subst rE))
       obtain ⟨eK, kK, oH⟩ := Kd.D6 xC.out
       (first | subst oH | (injection oH with f1_ f2_ f3_; have qE := f1_.symm; have rE := f3_.symm; clear f1_ f2_ f3_; subst qE; subst rE))
       obtain ⟨nN, jO, lK⟩ := Kd.Bg oC.out
       (first | subst lK | (injection lK with f1_ f2_ f3_; have qE := f1_.symm; have rE := f3_.symm; clear f1_ f2_ f3_; subst qE; subst rE))
       refine hK.out _ _ ⟨bc l 0, bc l 1, bc l 2, bc l 3, bc l 4⟩ (fun eB => ?_)
       clear hK K
       refine Br (a' := ?_) ?_ ?_
       rotate_left
       ·show Act.put _ (some 118) _ = _
        simp only [ps]
        rfl
       refine pv 9 119 (tf 11 1) wB ?_
       exact Br (by simp only [EM, Act.put, List.setIfInBounds_toArray, List.set_cons_zero, List.set_cons_succ]) (mM (.slice nN t229.length jO, .slice eK t232.length kK, .slice dK gG.length jK, s) _ ⟨eB, (CS (Kd.Ai oC.out (fun _ d => d.1))), (Bn (Kd.AR xC.out (fun _ d => ⟨d.1.1, ⟨d.1.2.1, ⟨d.2, ⟨d.1.2.2.1, ⟨d.1.2.2.2.1, ⟨d.1.2.2.2.2.1, ⟨d.1.2.2.2.2.2.1, ⟨d.1.2.2.2.2.2.2.1, d.1.2.2.2.2.2.2.2⟩⟩⟩⟩⟩⟩⟩⟩))), (Bn (Kd.AR bC.out (fun _ d => ⟨d.1.1.1.1, ⟨d.1.2, ⟨d.2, ⟨d.1.1.1.2.1, ⟨d.1.1.1.2.2.1, ⟨d.1.1.1.2.2.2.1, ⟨d.1.1.1.2.2.2.2.1, ⟨d.1.1.1.2.2.2.2.2, d.1.1.2⟩⟩⟩⟩⟩⟩⟩⟩))), (DZ pE.out), (Bn (Kd.AR m.out (fun _ d => ⟨d.1.1.1.1, ⟨d.1.2, ⟨d.2, ⟨d.1.1.1.2.1, ⟨d.1.1.1.2.2.1, ⟨d.1.1.1.2.2.2.1, ⟨d.1.1.1.2.2.2.2.1, ⟨d.1.1.1.2.2.2.2.2, d.1.1.2⟩⟩⟩⟩⟩⟩⟩⟩))), (Bn (Kd.AR b.out (fun _ d => ⟨d.1.1.1.1, ⟨d.1.2, ⟨d.2, ⟨d.1.1.1.2.1, ⟨d.1.1.1.2.2.1, ⟨d.1.1.1.2.2.2.1, ⟨d.1.1.1.2.2.2.2.1, ⟨d.1.1.1.2.2.2.2.2, d.1.1.2⟩⟩⟩⟩⟩⟩⟩⟩))), (Bn (Kd.AR hB.out (fun _ d => ⟨d.1.1.1.1, ⟨d.1.2, ⟨d.2, ⟨d.1.1.1.2.1, ⟨d.1.1.1.2.2.1, ⟨d.1.1.1.2.2.2.1, ⟨d.1.1.1.2.2.2.2.1, ⟨d.1.1.1.2.2.2.2.2, d.1.1.2⟩⟩⟩⟩⟩⟩⟩⟩))), (AU u.out), (AU l.out), (AU x.out), (AU z.out), (AU B.out), (AU T.out), lH.out, aC.out, fC.out, rC.out, L.out, sC.out, gC.out, tC.out, hC.out, uC.out, iC.out, vC.out, (be6 HB U X Y Z dB aC)⟩)
     rintro ⟨v230, v233, v241, s⟩ uE ⟨pZ, kV, lV, mV, nV, oV, pV, qV, rV, sV, tV, iQ, jQ, kQ, lQ, mQ, nQ, oQ, pQ, qQ, rQ, sQ, tQ, uQ, vQ, wQ, xQ⟩
     have yC : Aside0 (Kd.R (Kd.int .u8) 73 uE w.heap.size (fun a => (w.heap.size ≤ a)) v230 t229) := ⟨kV⟩
     have zC : Aside0 (Kd.V k30 30 uE w.heap.size (fun a => ((bB a ∨ cB a ∨ cC a) ∨ w.heap.size ≤ a) ∧ some a ≠ (v230 : Value).ownBlock ∧ some a ≠ (v241 : Value).ownBlock ∧ a ≠ I ∧ a ≠ D ∧ a ≠ J ∧ a ≠ O ∧ a ≠ G ∧ a ≠ s) v233 t232) := ⟨lV⟩
     have aD : Aside0 (Kd.V k63 63 uE w.heap.size (fun a => ((bB a ∨ cB a ∨ cC a) ∨ w.heap.size ≤ a) ∧ some a ≠ (v230 : Value).ownBlock ∧ some a ≠ (v241 : Value).ownBlock ∧ a ≠ I ∧ a ≠ D ∧ a ≠ J ∧ a ≠ O ∧ a ≠ G ∧ a ≠ s) (.slice tL xE.length iK) xE) := ⟨mV⟩
     have bD : Aside0 (Kd.N k63 63 uE w.heap.size (fun a => ((bB a ∨ cB a ∨ cC a) ∨ w.heap.size ≤ a) ∧ some a ≠ (v230 : Value).ownBlock ∧ a ≠ I ∧ a ≠ D ∧ a ≠ J ∧ a ≠ O ∧ a ≠ G ∧ a ≠ s) v241 gG) := ⟨nV⟩
     have cD : Aside0 (Kd.V k30 30 uE w.heap.size (fun a => ((bB a ∨ cB a ∨ cC a) ∨ w.heap.size ≤ a) ∧ some a ≠ (v230 : Value).ownBlock ∧ some a ≠ (v241 : Value).ownBlock ∧ a ≠ I ∧ a ≠ D ∧ a ≠ J ∧ a ≠ O ∧ a ≠ G ∧ a ≠ s) (.slice nD xB.length oD) xB) := ⟨oV⟩
     have dD : Aside0 (Kd.V k63 63 uE w.heap.size (fun a => ((bB a ∨ cB a ∨ cC a) ∨ w.heap.size ≤ a) ∧ some a ≠ (v230 : Value).ownBlock ∧ some a ≠ (v241 : Value).ownBlock ∧ a ≠ I ∧ a ≠ D ∧ a ≠ J ∧ a ≠ O ∧ a ≠ G ∧ a ≠ s) (.slice hD W.length wC) W) := ⟨pV⟩
     have eD : Aside0 (Kd.V k30 30 uE w.heap.size (fun a => ((bB a ∨ cB a ∨ cC a) ∨ w.heap.size ≤ a) ∧ some a ≠ (v230 : Value).ownBlock ∧ some a ≠ (v241 : Value).ownBlock ∧ a ≠ I ∧ a ≠ D ∧ a ≠ J ∧ a ≠ O ∧ a ≠ G ∧ a ≠ s) (.slice A3 l3.length c3) l3) := ⟨qV⟩
     have fD : Aside0 (uE.heap[I]? = some (.cells #[.int .i64 bE, .int .i64 cE, .string dE, .slice hE wD.length kE, .slice jE xD.length lE] 26 (0, 0))) := ⟨rV⟩
     have gD : Aside0 (uE.heap[D]? = some (.cells #[.int .i64 sD, .int .i64 tD, .slice fE pD.length gE, .slice nD xB.length oD, .slice hD W.length wC] 33 (0, 0))) := ⟨sV⟩
     have yD : Aside0 (uE.heap[J]? = some (.cells #[.int .i64 a2] 3 (0, 0))) := ⟨tV⟩
     have dC : Aside0 (uE.heap[O]? = some (.cells #[.slice A4 l4.length c4] 38 (0, 0))) := ⟨iQ⟩
     have eC : Aside0 (uE.heap[G]? = some (.cells #[.int .i64 yB, .int .i64 zB, .slice none 0 0, .slice none 0 0, .slice none 0 0] 33 (0, 0))) := ⟨jQ⟩
     have nC : Aside0 (uE.heap[s]? = some (.cells #[.int .i64 0, .int .i64 0, .slice none 0 0, .slice none 0 0, .slice none 0 0] 33 (0, 0))) := ⟨kQ⟩
     have lD : Aside0 (w.heap.size ≤ s) := ⟨lQ⟩
     have zD : Aside0 (w.heap.size ≤ s) := ⟨mQ⟩
     have aE : Aside0 (I ≠ s) := ⟨nQ⟩
     have oE : Aside0 (s ≠ I) := ⟨oQ⟩
     have zE : Aside0 (D ≠ s) := ⟨pQ⟩
     have bG : Aside0 (s ≠ D) := ⟨qQ⟩
     have cG : Aside0 (J ≠ s) := ⟨rQ⟩
     have dG : Aside0 (s ≠ J) := ⟨sQ⟩
     have eG : Aside0 (O ≠ s) := ⟨tQ⟩
     have fG : Aside0 (s ≠ O) := ⟨uQ⟩
     have pH : Aside0 (G ≠ s) := ⟨vQ⟩
     have qH : Aside0 (s ≠ G) := ⟨wQ⟩
     have mL : Aside0 (Below w.heap.size w uE) := ⟨xQ⟩
     clear hB; clear m; clear b; clear u; clear l; clear x; clear z; clear B; clear HB; clear kV lV mV nV oV pV qV rV sV tV iQ jQ kQ lQ mQ nQ oQ pQ qQ rQ sQ tQ uQ vQ wQ xQ; have oC := yC; have xC := zC; have bC := aD; have pE := bD; have m := cD; have b := dD; have hB := eD; have u := fD; have l := gD; have x := yD; have z := dC; have B := eC; have T := nC; have lH := lD; have aC := zD; have fC := aE; have rC := oE; have L := zE; have sC := bG; have gC := cG; have tC := dG; have hC := eG; have uC := fG; have iC := pH; have vC := qH; have HB := mL; clear yC zC aD bD cD dD eD fD gD yD dC eC nC lD zD aE oE zE bG cG dG eG fG pH qH mL
     have eB : uE.cell? ⟨D, 0, none⟩ = some (.int .i64 sD) ∧ uE.cell? ⟨D, 1, none⟩ = some (.int .i64 tD) ∧ uE.cell? ⟨D, 2, none⟩ = some (.slice fE pD.length gE) ∧ uE.cell? ⟨D, 3, none⟩ = some (.slice nD xB.length oD) ∧ uE.cell? ⟨D, 4, none⟩ = some (.slice hD W.length wC) := pZ
     obtain ⟨yU, eV, gQ⟩ := Kd.Cw pE.out
     (first | subst gQ | (injection gQ with f1_ f2_ f3_; have qE := f1_.symm; have rE := f3_.symm; clear f1_ f2_ f3_; subst qE; subst rE))
     obtain ⟨uG, bH, hQ⟩ := Kd.D6 xC.out
     (first | subst hQ | (injection hQ with f1_ f2_ f3_; have qE := f1_.symm; have rE := f3_.symm; clear f1_ f2_ f3_; subst qE; subst rE))
     obtain ⟨oB, sB, kO⟩ := Kd.Bg oC.out
     (first | subst kO | (injection kO with f1_ f2_ f3_; have qE := f1_.symm; have rE := f3_.symm; clear f1_ f2_ f3_; subst qE; subst rE))
     refine Br (a' := ?_) ?_ ?_
     rotate_left
     ·simp only [EM, Act.put, List.setIfInBounds_toArray, List.set_cons_zero, List.set_cons_succ]
      rfl
     refine DL (i := 11) (N := none) (tf 12 0) rfl rfl (Bo wB.out (by kernel_rfl)) (by decide) (fun K hK => ?_)
     have m1 : uE.cell? ⟨s, 0, none⟩ = some (.int .i64 0) := bc T 0
     have cX := Aa T.out 0
     have qT := fC.out; have rT := L.out; have sT := gC.out; have tT := hC.out; have uT := iC.out; have lS := rC.out; have mS := sC.out; have nS := tC.out; have oS := uC.out; have pS := vC.out
     have n1 : uE.cell? ⟨s, 1, none⟩ = some (.int .i64 0) := bc T 1
     have dX := Aa T.out 1
     have vT := fC.out; have wT := L.out; have xT := gC.out; have yT := hC.out; have zT := iC.out; have qS := rC.out; have rS := sC.out; have sS := tC.out; have tS := uC.out; have uS := vC.out
     have o1 : uE.cell? ⟨s, 2, none⟩ = some (.slice none 0 0) := bc T 2
     have eX := Aa T.out 2
     have aU := fC.out; have bU := L.out; have cU := gC.out; have dU := hC.out; have eU := iC.out; have vS := rC.out; have wS := sC.out; have xS := tC.out; have yS := uC.out; have zS := vC.out
     have p1 : uE.cell? ⟨s, 3, none⟩ = some (.slice none 0 0) := bc T 3
     have fX := Aa T.out 3
     have fU := fC.out; have gU := L.out; have hU := gC.out; have iU := hC.out; have jU := iC.out; have aT := rC.out; have bT := sC.out; have cT := tC.out; have dT := uC.out; have eT := vC.out
     have q1 : uE.cell? ⟨s, 4, none⟩ = some (.slice none 0 0) := bc T 4
     have gX := Aa T.out 4
     have kU := fC.out; have lU := L.out; have mU := gC.out; have nU := hC.out; have oU := iC.out; have fT := rC.out; have gT := sC.out; have hT := tC.out; have iT := uC.out; have jT := vC.out
     refine Fp (w1 := ?_) (by rfl) rfl ?_ ?_
     rotate_left
     ·go_simp
      rfl
     refine hK.out _ _ ⟨((cell_far (p := ⟨s, _, none⟩) L.out _).trans (((cell_far (p := ⟨s, _, none⟩) L.out _).trans (((cell_far (p := ⟨s, _, none⟩) L.out _).trans (((cell_far (p := ⟨s, _, none⟩) L.out _).trans (((cell_far (p := ⟨s, _, none⟩) L.out _).trans (eB.1)))))))))), ((cell_far (p := ⟨s, _, none⟩) L.out _).trans (((cell_far (p := ⟨s, _, none⟩) L.out _).trans (((cell_far (p := ⟨s, _, none⟩) L.out _).trans (((cell_far (p := ⟨s, _, none⟩) L.out _).trans (((cell_far (p := ⟨s, _, none⟩) L.out _).trans (eB.2.1)))))))))), ((cell_far (p := ⟨s, _, none⟩) L.out _).trans (((cell_far (p := ⟨s, _, none⟩) L.out _).trans (((cell_far (p := ⟨s, _, none⟩) L.out _).trans (((cell_far (p := ⟨s, _, none⟩) L.out _).trans (((cell_far (p := ⟨s, _, none⟩) L.out _).trans (eB.2.2.1)))))))))), ((cell_far (p := ⟨s, _, none⟩) L.out _).trans (((cell_far (p := ⟨s, _, none⟩) L.out _).trans (((cell_far (p := ⟨s, _, none⟩) L.out _).trans (((cell_far (p := ⟨s, _, none⟩) L.out _).trans (((cell_far (p := ⟨s, _, none⟩) L.out _).trans (eB.2.2.2.1)))))))))), ((cell_far (p := ⟨s, _, none⟩) L.out _).trans (((cell_far (p := ⟨s, _, none⟩) L.out _).trans (((cell_far (p := ⟨s, _, none⟩) L.out _).trans (((cell_far (p := ⟨s, _, none⟩) L.out _).trans (((cell_far (p := ⟨s, _, none⟩) L.out _).trans (eB.2.2.2.2))))))))))⟩ (fun eB => ?_)
     clear hK K
     refine EG (DW wB.out (by kernel_rfl)) ?_
     try go_wp2
     go_loopg [122] tJ (fun kq v122 w' => ∃ (r : Int) (vD : List (S63)) (u244004 : Value), v122 = .int .i64 r ∧ Aside0 (AQ.l2 kq l3 (l3.length : Int) r a2 l4 t227 t228 t229 t232 vD = some (r1, r2, r3, r4, r5, r6)) ∧ Aside0 (kq ≤ tJ) ∧ Aside0 (Kd.V k30 30 w' w.heap.size (fun a => ((bB a ∨ cB a ∨ cC a) ∨ w.heap.size ≤ a) ∧ some a ≠ ((.slice oB t229.length sB) : Value).ownBlock ∧ some a ≠ (u244004 : Value).ownBlock ∧ a ≠ I ∧ a ≠ D ∧ a ≠ J ∧ a ≠ O ∧ a ≠ G ∧ a ≠ s) (.slice A3 l3.length c3) l3) ∧ Aside0 (Kd.V k30 30 w' w.heap.size (fun a => ((bB a ∨ cB a ∨ cC a) ∨ w.heap.size ≤ a) ∧ some a ≠ ((.slice oB t229.length sB) : Value).ownBlock ∧ some a ≠ (u244004 : Value).ownBlock ∧ a ≠ I ∧ a ≠ D ∧ a ≠ J ∧ a ≠ O ∧ a ≠ G ∧ a ≠ s) (.slice nD xB.length oD) xB) ∧ Aside0 (Kd.V k63 63 w' w.heap.size (fun a => ((bB a ∨ cB a ∨ cC a) ∨ w.heap.size ≤ a) ∧ some a ≠ ((.slice oB t229.length sB) : Value).ownBlock ∧ some a ≠ (u244004 : Value).ownBlock ∧ a ≠ I ∧ a ≠ D ∧ a ≠ J ∧ a ≠ O ∧ a ≠ G ∧ a ≠ s) (.slice hD W.length wC) W) ∧ Aside0 (Kd.R (Kd.int .u8) 73 w' w.heap.size (fun a => (w.heap.size ≤ a)) (.slice oB t229.length sB) t229) ∧ Aside0 (Kd.V k30 30 w' w.heap.size (fun a => ((bB a ∨ cB a ∨ cC a) ∨ w.heap.size ≤ a) ∧ some a ≠ ((.slice oB t229.length sB) : Value).ownBlock ∧ some a ≠ (u244004 : Value).ownBlock ∧ a ≠ I ∧ a ≠ D ∧ a ≠ J ∧ a ≠ O ∧ a ≠ G ∧ a ≠ s) (.slice uG t232.length bH) t232) ∧ Aside0 (Kd.N k63 63 w' w.heap.size (fun a => ((bB a ∨ cB a ∨ cC a) ∨ w.heap.size ≤ a) ∧ some a ≠ ((.slice oB t229.length sB) : Value).ownBlock ∧ a ≠ I ∧ a ≠ D ∧ a ≠ J ∧ a ≠ O ∧ a ≠ G ∧ a ≠ s) u244004 vD) ∧ Aside0 (w'.heap[I]? = some (.cells #[.int .i64 bE, .int .i64 cE, .string dE, (.slice hE wD.length kE), (.slice jE xD.length lE)] 26 (0, 0))) ∧ Aside0 (w'.heap[D]? = some (.cells #[.int .i64 sD, .int .i64 tD, (.slice fE pD.length gE), (.slice nD xB.length oD), (.slice hD W.length wC)] 33 (0, 0))) ∧ Aside0 (w'.heap[J]? = some (.cells #[.int .i64 a2] 3 (0, 0))) ∧ Aside0 (w'.heap[O]? = some (.cells #[(.slice A4 l4.length c4)] 38 (0, 0))) ∧ Aside0 (w'.heap[G]? = some (.cells #[.int .i64 yB, .int .i64 zB, (.slice none 0 0), (.slice none 0 0), (.slice none 0 0)] 33 (0, 0))) ∧ Aside0 (w'.heap[s]? = some (.cells #[.int .i64 t227, .int .i64 t228, (.slice oB t229.length sB), (.slice uG t232.length bH), u244004] 33 (0, 0))) ∧ Aside0 (Below w.heap.size w w'))
     case atStart => exact ⟨(0), (gG), (.slice yU gG.length eV), rfl, H', ⟨Nat.le_refl _⟩, ⟨Bn (Kd.AR (vI (q := s) (Kd.AR hB.out (fun a d => (⟨d, d.2.2.2.2.2.2.2.2⟩ : _ ∧ a ≠ s))) (fun _ d => d.2)) (fun _ d => ⟨d.1.1, ⟨d.1.2.1, ⟨d.1.2.2.1, ⟨d.1.2.2.2.1, ⟨d.1.2.2.2.2.1, ⟨d.1.2.2.2.2.2.1, ⟨d.1.2.2.2.2.2.2.1, ⟨d.1.2.2.2.2.2.2.2.1, d.1.2.2.2.2.2.2.2.2⟩⟩⟩⟩⟩⟩⟩⟩))⟩, ⟨Bn (Kd.AR (vI (q := s) (Kd.AR m.out (fun a d => (⟨d, d.2.2.2.2.2.2.2.2⟩ : _ ∧ a ≠ s))) (fun _ d => d.2)) (fun _ d => ⟨d.1.1, ⟨d.1.2.1, ⟨d.1.2.2.1, ⟨d.1.2.2.2.1, ⟨d.1.2.2.2.2.1, ⟨d.1.2.2.2.2.2.1, ⟨d.1.2.2.2.2.2.2.1, ⟨d.1.2.2.2.2.2.2.2.1, d.1.2.2.2.2.2.2.2.2⟩⟩⟩⟩⟩⟩⟩⟩))⟩, ⟨Bn (Kd.AR (vI (q := s) (Kd.AR b.out (fun a d => (⟨d, d.2.2.2.2.2.2.2.2⟩ : _ ∧ a ≠ s))) (fun _ d => d.2)) (fun _ d => ⟨d.1.1, ⟨d.1.2.1, ⟨d.1.2.2.1, ⟨d.1.2.2.2.1, ⟨d.1.2.2.2.2.1, ⟨d.1.2.2.2.2.2.1, ⟨d.1.2.2.2.2.2.2.1, ⟨d.1.2.2.2.2.2.2.2.1, d.1.2.2.2.2.2.2.2.2⟩⟩⟩⟩⟩⟩⟩⟩))⟩, ⟨CS (Kd.Ai (rI (q := s) (Kd.Ao oC.out T.out (by decide)) (fun _ d => d.2)) (fun _ d => d.1))⟩, ⟨Bn (Kd.AR (vI (q := s) (Kd.AR xC.out (fun a d => (⟨d, d.2.2.2.2.2.2.2.2⟩ : _ ∧ a ≠ s))) (fun _ d => d.2)) (fun _ d => ⟨d.1.1, ⟨d.1.2.1, ⟨d.1.2.2.1, ⟨d.1.2.2.2.1, ⟨d.1.2.2.2.2.1, ⟨d.1.2.2.2.2.2.1, ⟨d.1.2.2.2.2.2.2.1, ⟨d.1.2.2.2.2.2.2.2.1, d.1.2.2.2.2.2.2.2.2⟩⟩⟩⟩⟩⟩⟩⟩))⟩, ⟨DC (Kd.BM (nI (q := s) (Kd.BM pE.out (fun a d => (⟨d, d.2.2.2.2.2.2.2⟩ : _ ∧ a ≠ s))) (fun _ d => d.2)) (fun _ d => ⟨d.1.1, ⟨d.1.2.1, ⟨d.1.2.2.1, ⟨d.1.2.2.2.1, ⟨d.1.2.2.2.2.1, ⟨d.1.2.2.2.2.2.1, ⟨d.1.2.2.2.2.2.2.1, d.1.2.2.2.2.2.2.2⟩⟩⟩⟩⟩⟩⟩))⟩, ⟨bF fC u⟩, ⟨bF L l⟩, ⟨bF gC x⟩, ⟨bF hC z⟩, ⟨bF iC B⟩, ⟨pB T⟩, ⟨be6 HB U X Y Z dB aC⟩⟩
     case round =>
      clear H'
      try clear c1; try clear c3; try clear c4; try clear c9; try clear iK
      obtain ⟨r, vD, u244004, rfl, HA, cV, mD, m, b, mB, uB, gB, u, l, x, z, B, T, HB⟩ := hrel
      cases gk with
      | zero => exact absurd HA.out (by simp [AQ.l2])
      | succ k3 =>
       have H := HA.out; clear HA
       simp only [AQ.l2] at H
       replace H := iD' H; obtain ⟨-, rP, H⟩ | ⟨-, rP, H⟩ := H
       ·simp only [Option.some.injEq, Prod.mk.injEq] at H
        obtain ⟨rfl, rfl, rfl, rfl, rfl, rfl⟩ := H
        have ⟨pX, eY⟩ := no rC fC; have ⟨qX, fY⟩ := no sC L; have ⟨rX, gY⟩ := no tC gC; have ⟨sX, hY⟩ := no uC hC; have ⟨tX, iY⟩ := no vC iC
        have n2 := cells5 T.out
        have ⟨uX, jY⟩ := no pG kG; have ⟨vX, kY⟩ := no qG mG; have ⟨wX, lY⟩ := no rG oG; have ⟨xX, mY⟩ := no lI iI
        have o2 := cells5 B.out
        obtain ⟨hR, wR, xR⟩ := Kd.Cw gB.out
        subst xR
        go_wp2
        refine bodyPost_ret (IJ rfl _ _ G 33 #[.int .i64 t227, .int .i64 t228, .slice oB t229.length sB, .slice uG t232.length bH, .slice hR vD.length wR] (0, 0) _ rfl (pB B) Try.underlying33 rfl (by kernel_rfl)) rfl ?_
        exact ⟨_, _, _, rfl, by exact CS (Kd.Ai (rI (q := G) (Kd.Ao mB.out B.out (by decide)) (fun _ d => d.2)) (fun _ d => d.1)), by exact Bn (Kd.AR (vI (q := G) (Kd.AR uB.out (fun a d => (⟨d, d.2.2.2.2.2.2.2.1⟩ : _ ∧ a ≠ G))) (fun _ d => d.2)) (fun _ d => ⟨d.1.1, ⟨d.1.2.1, d.1.2.2.1⟩⟩)), by exact DC (Kd.BM (nI (q := G) (Kd.BM gB.out (fun a d => (⟨d, d.2.2.2.2.2.2.1⟩ : _ ∧ a ≠ G))) (fun _ d => d.2)) (fun _ d => ⟨d.1.1, d.1.2.1⟩)), be6 HB U X Y Z dB aC⟩
       replace H := iN H; obtain ⟨-, zW, H⟩ := H
       replace H := iN H; obtain ⟨-, aX, H⟩ := H
       replace H := iN H; obtain ⟨-, bX, H⟩ := H
       replace H := Option.bind_eq_some_iff.mp H
       obtain ⟨⟨pL, qL, tF, rL⟩, mN, H⟩ := H
       replace H : (if vD.length < 1954687338268 then (AQ.l2 k3 l3 (l3.length : Int) (wrap64 (r + 1)) a2 l4 t227 t228 t229 t232 (vD ++ [(⟨wrap64 (a2 + (rd l4 r)), (⟨pL, qL, tF, rL⟩ : S30)⟩ : S63)])) else (none)) = some (r1, r2, r3, r4, r5, r6) := H
       have vU := mk0 mN; clear mN
       by_cases c111 : vD.length < 1954687338268
       rotate_left
       ·rw [if_neg c111] at H
        exact absurd H (by simp)
       rw [if_pos c111] at H; have qP := mk0 c111; clear c111
       obtain ⟨jP, kJ⟩ : ∃ y_ : List (S63), y_ = (vD ++ [(⟨wrap64 (a2 + (rd l4 r)), (⟨pL, qL, tF, rL⟩ : S30)⟩ : S63)]) := ⟨_, rfl⟩
       replace H : (AQ.l2 k3 l3 (l3.length : Int) (wrap64 (r + 1)) a2 l4 t227 t228 t229 t232 jP) = some (r1, r2, r3, r4, r5, r6) := by first | (rw [kJ]; with_reducible exact H) | (have vL := (Option.bind_some _ _).symm.trans H; rw [kJ]; with_reducible exact vL) | (have vL := (Option.bind_some _ _).symm.trans H; with_reducible exact vL) | with_reducible exact H | (rw [kJ]; exact H) | exact H
       have sR := mk0 kJ; clear kJ
       have H' := mk0 H
       clear H
       have fN : 0 ≤ (r : Int) := od
       have kN : r < (l3.length : Int) := od
       obtain ⟨tR, jC, lC, kC, mC, iV, zV, aW, yO, zO, eL, vK, fL, wK⟩ := EP (Kd.Ac mD.out).2.2 r fN kN
       cases iV
       obtain ⟨nZ, zP, vP, aK⟩ := Kd.Gj mD.out z30 r fN (by first | exact kN | exact of_decide_eq_true (by assumption) | (have e_ := (Kd.Ac mD.out).1; omega))
       obtain ⟨kW, sW, lW, tW, rfl, rJ, bJ, sJ, cJ⟩ := Hg vP
       have iH := aK 2 _ rfl
       rw [Bq _ _ 2 (by omega)] at iH
       replace iH := Option.some.inj (iH.symm.trans yO)
       injection iH with hva_ hvn_ hvc_
       rw [hva_] at bJ
       rw [hvc_] at rJ
       have jD := mk0 (show Kd.V (Kd.int .u8) 73 _ w.heap.size _ _ ((AB l3 r).f2) from Kd.EA rJ bJ)
       clear hva_ hvn_ hvc_ bJ rJ
       have jH := aK 3 _ rfl
       rw [Bq _ _ 3 (by omega)] at jH
       replace jH := Option.some.inj (jH.symm.trans zO)
       injection jH with hva_ hvn_ hvc_
       rw [hva_] at cJ
       rw [hvc_] at sJ
       have kD := mk0 (show Kd.V k30 30 _ w.heap.size _ _ ((AB l3 r).f3) from Kd.EA sJ cJ)
       clear hva_ hvn_ hvc_ cJ sJ; clear aK zP; have fK := mk0 vK; have uN := mk0 eL; clear vK eL; have gK := mk0 wK; have zU := mk0 fL; clear wK fL; replace fN := eq_true fN; replace kN := eq_true kN
       try go_wp2_with ((with_reducible refine AJ rfl (N := 20) rfl (cs := #[.int .i64 0, .int .i64 0, .slice none 0 0, .slice none 0 0]) (t := 30) ?hr ?_); (case hr => first | (go_simp; done) | (go_simp; rfl)); intro y hg sE uD hb; obtain ⟨mD, m, b, uB, gB, jD, kD⟩ := tg7 hg hb mD m b uB gB jD kD; obtain ⟨mB, fK, gK⟩ := tb3 hb mB fK gK; have qB := mk0 (uD); have cF := bs (be6 HB U X Y Z dB aC) hg; replace HB := kh6 HB U X Y Z dB aC hb; have ⟨wH, hM⟩ := nn u hg; have ⟨aI, iM⟩ := nn l hg; have ⟨eI, jM⟩ := nn x hg; have ⟨kI, kM⟩ := nn z hg; have ⟨oI, lM⟩ := nn B hg; have ⟨sG, pI⟩ := nn T hg; obtain ⟨u, l, x, z, B, T⟩ := tb6 hb u l x z B T; clear hb uD hg; have ⟨jX, yX⟩ := no hM wH; have ⟨kX, zX⟩ := no iM aI; have ⟨lX, aY⟩ := no jM eI; have ⟨mX, bY⟩ := no kM kI; have ⟨nX, cY⟩ := no lM oI; have ⟨oX, dY⟩ := no pI sG; have m2 := Au qB.out)
       have yC : Aside0 (Kd.V k30 30 ((((sE.setCell ⟨y, 0, none⟩ (.int .i64 ((AB l3 r).f0))).setCell ⟨y, 1, none⟩ (.int .i64 ((AB l3 r).f1))).setCell ⟨y, 2, none⟩ (.slice jC ((AB l3 r).f2).length lC)).setCell ⟨y, 3, none⟩ (.slice kC ((AB l3 r).f3).length mC)) w.heap.size (fun a => ((bB a ∨ cB a ∨ cC a) ∨ w.heap.size ≤ a) ∧ some a ≠ (.slice oB t229.length sB : Value).ownBlock ∧ some a ≠ (u244004 : Value).ownBlock ∧ a ≠ I ∧ a ≠ D ∧ a ≠ J ∧ a ≠ O ∧ a ≠ G ∧ a ≠ s ∧ a ≠ y) (.slice (some tR) l3.length c3) l3) := ⟨Bn (Kd.AR (vI (q := y) (Kd.AR mD.out (fun a d => (⟨d, d.2⟩ : _ ∧ a ≠ y))) (fun _ d => d.2)) (fun _ d => ⟨d.1.1.1, ⟨d.1.1.2.1, ⟨d.1.1.2.2.1, ⟨d.1.1.2.2.2.1, ⟨d.1.1.2.2.2.2.1, ⟨d.1.1.2.2.2.2.2.1, ⟨d.1.1.2.2.2.2.2.2.1, ⟨d.1.1.2.2.2.2.2.2.2.1, ⟨d.1.1.2.2.2.2.2.2.2.2, d.1.2⟩⟩⟩⟩⟩⟩⟩⟩⟩))⟩
       have zC : Aside0 (Kd.V k30 30 ((((sE.setCell ⟨y, 0, none⟩ (.int .i64 ((AB l3 r).f0))).setCell ⟨y, 1, none⟩ (.int .i64 ((AB l3 r).f1))).setCell ⟨y, 2, none⟩ (.slice jC ((AB l3 r).f2).length lC)).setCell ⟨y, 3, none⟩ (.slice kC ((AB l3 r).f3).length mC)) w.heap.size (fun a => ((bB a ∨ cB a ∨ cC a) ∨ w.heap.size ≤ a) ∧ some a ≠ (.slice oB t229.length sB : Value).ownBlock ∧ some a ≠ (u244004 : Value).ownBlock ∧ a ≠ I ∧ a ≠ D ∧ a ≠ J ∧ a ≠ O ∧ a ≠ G ∧ a ≠ s ∧ a ≠ y) (.slice nD xB.length oD) xB) := ⟨Bn (Kd.AR (vI (q := y) (Kd.AR m.out (fun a d => (⟨d, d.2⟩ : _ ∧ a ≠ y))) (fun _ d => d.2)) (fun _ d => ⟨d.1.1.1, ⟨d.1.1.2.1, ⟨d.1.1.2.2.1, ⟨d.1.1.2.2.2.1, ⟨d.1.1.2.2.2.2.1, ⟨d.1.1.2.2.2.2.2.1, ⟨d.1.1.2.2.2.2.2.2.1, ⟨d.1.1.2.2.2.2.2.2.2.1, ⟨d.1.1.2.2.2.2.2.2.2.2, d.1.2⟩⟩⟩⟩⟩⟩⟩⟩⟩))⟩
       have aD : Aside0 (Kd.V k63 63 ((((sE.setCell ⟨y, 0, none⟩ (.int .i64 ((AB l3 r).f0))).setCell ⟨y, 1, none⟩ (.int .i64 ((AB l3 r).f1))).setCell ⟨y, 2, none⟩ (.slice jC ((AB l3 r).f2).length lC)).setCell ⟨y, 3, none⟩ (.slice kC ((AB l3 r).f3).length mC)) w.heap.size (fun a => ((bB a ∨ cB a ∨ cC a) ∨ w.heap.size ≤ a) ∧ some a ≠ (.slice oB t229.length sB : Value).ownBlock ∧ some a ≠ (u244004 : Value).ownBlock ∧ a ≠ I ∧ a ≠ D ∧ a ≠ J ∧ a ≠ O ∧ a ≠ G ∧ a ≠ s ∧ a ≠ y) (.slice hD W.length wC) W) := ⟨Bn (Kd.AR (vI (q := y) (Kd.AR b.out (fun a d => (⟨d, d.2⟩ : _ ∧ a ≠ y))) (fun _ d => d.2)) (fun _ d => ⟨d.1.1.1, ⟨d.1.1.2.1, ⟨d.1.1.2.2.1, ⟨d.1.1.2.2.2.1, ⟨d.1.1.2.2.2.2.1, ⟨d.1.1.2.2.2.2.2.1, ⟨d.1.1.2.2.2.2.2.2.1, ⟨d.1.1.2.2.2.2.2.2.2.1, ⟨d.1.1.2.2.2.2.2.2.2.2, d.1.2⟩⟩⟩⟩⟩⟩⟩⟩⟩))⟩
       have bD : Aside0 (Kd.R (Kd.int .u8) 73 ((((sE.setCell ⟨y, 0, none⟩ (.int .i64 ((AB l3 r).f0))).setCell ⟨y, 1, none⟩ (.int .i64 ((AB l3 r).f1))).setCell ⟨y, 2, none⟩ (.slice jC ((AB l3 r).f2).length lC)).setCell ⟨y, 3, none⟩ (.slice kC ((AB l3 r).f3).length mC)) w.heap.size (fun a => (w.heap.size ≤ a)) (.slice oB t229.length sB) t229) := ⟨CS (Kd.Ai (rI (q := y) (Kd.Ao mB.out qB.out (by decide)) (fun _ d => d.2)) (fun _ d => d.1))⟩
       have cD : Aside0 (Kd.V k30 30 ((((sE.setCell ⟨y, 0, none⟩ (.int .i64 ((AB l3 r).f0))).setCell ⟨y, 1, none⟩ (.int .i64 ((AB l3 r).f1))).setCell ⟨y, 2, none⟩ (.slice jC ((AB l3 r).f2).length lC)).setCell ⟨y, 3, none⟩ (.slice kC ((AB l3 r).f3).length mC)) w.heap.size (fun a => ((bB a ∨ cB a ∨ cC a) ∨ w.heap.size ≤ a) ∧ some a ≠ (.slice oB t229.length sB : Value).ownBlock ∧ some a ≠ (u244004 : Value).ownBlock ∧ a ≠ I ∧ a ≠ D ∧ a ≠ J ∧ a ≠ O ∧ a ≠ G ∧ a ≠ s ∧ a ≠ y) (.slice uG t232.length bH) t232) := ⟨Bn (Kd.AR (vI (q := y) (Kd.AR uB.out (fun a d => (⟨d, d.2⟩ : _ ∧ a ≠ y))) (fun _ d => d.2)) (fun _ d => ⟨d.1.1.1, ⟨d.1.1.2.1, ⟨d.1.1.2.2.1, ⟨d.1.1.2.2.2.1, ⟨d.1.1.2.2.2.2.1, ⟨d.1.1.2.2.2.2.2.1, ⟨d.1.1.2.2.2.2.2.2.1, ⟨d.1.1.2.2.2.2.2.2.2.1, ⟨d.1.1.2.2.2.2.2.2.2.2, d.1.2⟩⟩⟩⟩⟩⟩⟩⟩⟩))⟩
       have dD : Aside0 (Kd.N k63 63 ((((sE.setCell ⟨y, 0, none⟩ (.int .i64 ((AB l3 r).f0))).setCell ⟨y, 1, none⟩ (.int .i64 ((AB l3 r).f1))).setCell ⟨y, 2, none⟩ (.slice jC ((AB l3 r).f2).length lC)).setCell ⟨y, 3, none⟩ (.slice kC ((AB l3 r).f3).length mC)) w.heap.size (fun a => ((bB a ∨ cB a ∨ cC a) ∨ w.heap.size ≤ a) ∧ some a ≠ (.slice oB t229.length sB : Value).ownBlock ∧ a ≠ I ∧ a ≠ D ∧ a ≠ J ∧ a ≠ O ∧ a ≠ G ∧ a ≠ s ∧ a ≠ y) u244004 vD) := ⟨DC (Kd.BM (nI (q := y) (Kd.BM gB.out (fun a d => (⟨d, d.2⟩ : _ ∧ a ≠ y))) (fun _ d => d.2)) (fun _ d => ⟨d.1.1.1, ⟨d.1.1.2.1, ⟨d.1.1.2.2.1, ⟨d.1.1.2.2.2.1, ⟨d.1.1.2.2.2.2.1, ⟨d.1.1.2.2.2.2.2.1, ⟨d.1.1.2.2.2.2.2.2.1, ⟨d.1.1.2.2.2.2.2.2.2, d.1.2⟩⟩⟩⟩⟩⟩⟩⟩))⟩
       have eD : Aside0 (Kd.V (Kd.int .u8) 73 ((((sE.setCell ⟨y, 0, none⟩ (.int .i64 ((AB l3 r).f0))).setCell ⟨y, 1, none⟩ (.int .i64 ((AB l3 r).f1))).setCell ⟨y, 2, none⟩ (.slice jC ((AB l3 r).f2).length lC)).setCell ⟨y, 3, none⟩ (.slice kC ((AB l3 r).f3).length mC)) w.heap.size (fun a => ((bB a ∨ cB a ∨ cC a) ∨ w.heap.size ≤ a) ∧ some a ≠ (.slice oB t229.length sB : Value).ownBlock ∧ some a ≠ (u244004 : Value).ownBlock ∧ a ≠ I ∧ a ≠ D ∧ a ≠ J ∧ a ≠ O ∧ a ≠ G ∧ a ≠ s ∧ a ≠ y) (.slice jC ((AB l3 r).f2).length lC) ((AB l3 r).f2)) := ⟨Bn (Kd.AR (vI (q := y) (Kd.AR jD.out (fun a d => (⟨d, d.2⟩ : _ ∧ a ≠ y))) (fun _ d => d.2)) (fun _ d => ⟨d.1.1.1, ⟨d.1.1.2.1, ⟨d.1.1.2.2.1, ⟨d.1.1.2.2.2.1, ⟨d.1.1.2.2.2.2.1, ⟨d.1.1.2.2.2.2.2.1, ⟨d.1.1.2.2.2.2.2.2.1, ⟨d.1.1.2.2.2.2.2.2.2.1, ⟨d.1.1.2.2.2.2.2.2.2.2, d.1.2⟩⟩⟩⟩⟩⟩⟩⟩⟩))⟩
       have fD : Aside0 (Kd.V k30 30 ((((sE.setCell ⟨y, 0, none⟩ (.int .i64 ((AB l3 r).f0))).setCell ⟨y, 1, none⟩ (.int .i64 ((AB l3 r).f1))).setCell ⟨y, 2, none⟩ (.slice jC ((AB l3 r).f2).length lC)).setCell ⟨y, 3, none⟩ (.slice kC ((AB l3 r).f3).length mC)) w.heap.size (fun a => ((bB a ∨ cB a ∨ cC a) ∨ w.heap.size ≤ a) ∧ some a ≠ (.slice oB t229.length sB : Value).ownBlock ∧ some a ≠ (u244004 : Value).ownBlock ∧ a ≠ I ∧ a ≠ D ∧ a ≠ J ∧ a ≠ O ∧ a ≠ G ∧ a ≠ s ∧ a ≠ y) (.slice kC ((AB l3 r).f3).length mC) ((AB l3 r).f3)) := ⟨Bn (Kd.AR (vI (q := y) (Kd.AR kD.out (fun a d => (⟨d, d.2⟩ : _ ∧ a ≠ y))) (fun _ d => d.2)) (fun _ d => ⟨d.1.1.1, ⟨d.1.1.2.1, ⟨d.1.1.2.2.1, ⟨d.1.1.2.2.2.1, ⟨d.1.1.2.2.2.2.1, ⟨d.1.1.2.2.2.2.2.1, ⟨d.1.1.2.2.2.2.2.2.1, ⟨d.1.1.2.2.2.2.2.2.2.1, ⟨d.1.1.2.2.2.2.2.2.2.2, d.1.2⟩⟩⟩⟩⟩⟩⟩⟩⟩))⟩
       have gD : Aside0 (((((sE.setCell ⟨y, 0, none⟩ (.int .i64 ((AB l3 r).f0))).setCell ⟨y, 1, none⟩ (.int .i64 ((AB l3 r).f1))).setCell ⟨y, 2, none⟩ (.slice jC ((AB l3 r).f2).length lC)).setCell ⟨y, 3, none⟩ (.slice kC ((AB l3 r).f3).length mC)).heap[I]? = some (.cells #[.int .i64 bE, .int .i64 cE, .string dE, .slice hE wD.length kE, .slice jE xD.length lE] 26 (0, 0))) := ⟨bF wH u⟩
       have yD : Aside0 (((((sE.setCell ⟨y, 0, none⟩ (.int .i64 ((AB l3 r).f0))).setCell ⟨y, 1, none⟩ (.int .i64 ((AB l3 r).f1))).setCell ⟨y, 2, none⟩ (.slice jC ((AB l3 r).f2).length lC)).setCell ⟨y, 3, none⟩ (.slice kC ((AB l3 r).f3).length mC)).heap[D]? = some (.cells #[.int .i64 sD, .int .i64 tD, .slice fE pD.length gE, .slice nD xB.length oD, .slice hD W.length wC] 33 (0, 0))) := ⟨bF aI l⟩
       have dC : Aside0 (((((sE.setCell ⟨y, 0, none⟩ (.int .i64 ((AB l3 r).f0))).setCell ⟨y, 1, none⟩ (.int .i64 ((AB l3 r).f1))).setCell ⟨y, 2, none⟩ (.slice jC ((AB l3 r).f2).length lC)).setCell ⟨y, 3, none⟩ (.slice kC ((AB l3 r).f3).length mC)).heap[J]? = some (.cells #[.int .i64 a2] 3 (0, 0))) := ⟨bF eI x⟩
       have eC : Aside0 (((((sE.setCell ⟨y, 0, none⟩ (.int .i64 ((AB l3 r).f0))).setCell ⟨y, 1, none⟩ (.int .i64 ((AB l3 r).f1))).setCell ⟨y, 2, none⟩ (.slice jC ((AB l3 r).f2).length lC)).setCell ⟨y, 3, none⟩ (.slice kC ((AB l3 r).f3).length mC)).heap[O]? = some (.cells #[.slice A4 l4.length c4] 38 (0, 0))) := ⟨bF kI z⟩
       have nC : Aside0 (((((sE.setCell ⟨y, 0, none⟩ (.int .i64 ((AB l3 r).f0))).setCell ⟨y, 1, none⟩ (.int .i64 ((AB l3 r).f1))).setCell ⟨y, 2, none⟩ (.slice jC ((AB l3 r).f2).length lC)).setCell ⟨y, 3, none⟩ (.slice kC ((AB l3 r).f3).length mC)).heap[G]? = some (.cells #[.int .i64 yB, .int .i64 zB, .slice none 0 0, .slice none 0 0, .slice none 0 0] 33 (0, 0))) := ⟨bF oI B⟩
       have lD : Aside0 (((((sE.setCell ⟨y, 0, none⟩ (.int .i64 ((AB l3 r).f0))).setCell ⟨y, 1, none⟩ (.int .i64 ((AB l3 r).f1))).setCell ⟨y, 2, none⟩ (.slice jC ((AB l3 r).f2).length lC)).setCell ⟨y, 3, none⟩ (.slice kC ((AB l3 r).f3).length mC)).heap[s]? = some (.cells #[.int .i64 t227, .int .i64 t228, .slice oB t229.length sB, .slice uG t232.length bH, u244004] 33 (0, 0))) := ⟨bF sG T⟩
       have zD : Aside0 (((((sE.setCell ⟨y, 0, none⟩ (.int .i64 ((AB l3 r).f0))).setCell ⟨y, 1, none⟩ (.int .i64 ((AB l3 r).f1))).setCell ⟨y, 2, none⟩ (.slice jC ((AB l3 r).f2).length lC)).setCell ⟨y, 3, none⟩ (.slice kC ((AB l3 r).f3).length mC)).heap[y]? = some (.cells #[.int .i64 ((AB l3 r).f0), .int .i64 ((AB l3 r).f1), .slice jC ((AB l3 r).f2).length lC, .slice kC ((AB l3 r).f3).length mC] 30 (0, 0))) := ⟨pB qB⟩
       have aE : Aside0 (Below w.heap.size w ((((sE.setCell ⟨y, 0, none⟩ (.int .i64 ((AB l3 r).f0))).setCell ⟨y, 1, none⟩ (.int .i64 ((AB l3 r).f1))).setCell ⟨y, 2, none⟩ (.slice jC ((AB l3 r).f2).length lC)).setCell ⟨y, 3, none⟩ (.slice kC ((AB l3 r).f3).length mC))) := ⟨be7 HB U X Y Z dB aC cF⟩
       try clear mD
       try clear m
       try clear b
       try clear mB
       try clear uB
       try clear gB
       try clear jD
       try clear kD
       try clear u
       try clear l
       try clear x
       try clear z
       try clear B
       try clear T
       try clear qB
       try clear HB
       generalize ((((sE.setCell ⟨y, 0, none⟩ (.int .i64 ((AB l3 r).f0))).setCell ⟨y, 1, none⟩ (.int .i64 ((AB l3 r).f1))).setCell ⟨y, 2, none⟩ (.slice jC ((AB l3 r).f2).length lC)).setCell ⟨y, 3, none⟩ (.slice kC ((AB l3 r).f3).length mC)) = vW at yC zC aD bD cD dD eD fD gD yD dC eC nC lD zD aE ⊢
       have mD := yC; have m := zC; have b := aD; have mB := bD; have uB := cD; have gB := dD; have jD := eD; have kD := fD; have u := gD; have l := yD; have x := dC; have z := eC; have B := nC; have T := lD; have qB := zD; have HB := aE; clear yC zC aD bD cD dD eD fD gD yD dC eC nC lD zD aE
       have yC := mk0 (Kd.Bl mD.out)
       have zC := mk0 (Kd.Bl m.out)
       have aD := mk0 (Kd.Bl b.out)
       have bD := mk0 (Kd.Ey mB.out)
       have cD := mk0 (Kd.Bl uB.out)
       have dD := mk0 (Kd.Gq gB.out)
       have eD := mk0 (Kd.Bl jD.out)
       have fD := mk0 (Kd.Bl kD.out)
       have gD := mk0 (AV u.out)
       have yD := mk0 (AV l.out)
       have dC := mk0 (AV x.out)
       have eC := mk0 (AV z.out)
       have nC := mk0 (AV B.out)
       have lD := mk0 (AV T.out)
       have zD := mk0 (AV qB.out)
       have aE := mk0 (AZ HB.out)
       clear mD; clear m; clear b; clear mB; clear uB; clear gB; clear jD; clear kD; clear u; clear l; clear x; clear z; clear B; clear T; clear qB; clear HB; have mD := yC; have m := zC; have b := aD; have mB := bD; have uB := cD; have gB := dD; have jD := eD; have kD := fD; have u := gD; have l := yD; have x := dC; have z := eC; have B := nC; have T := lD; have qB := zD; have HB := aE; clear yC zC aD bD cD dD eD fD gD yD dC eC nC lD zD aE
       have bP : 0 ≤ (r : Int) := od
       have cP : r < (l4.length : Int) := od
       obtain ⟨qI, jV, kH⟩ := Kd.Dr iR.out r bP cP
       have yF := kH; cases jV
       replace kH := AC HB.out kH
       replace bP := eq_true bP; replace cP := eq_true cP
       refine DU (n := 15) (S := fun w' => w'.cell? ⟨s, 0, none⟩ = some (.int .i64 t227) ∧ w'.cell? ⟨s, 1, none⟩ = some (.int .i64 t228) ∧ w'.cell? ⟨s, 2, none⟩ = some (.slice oB t229.length sB) ∧ w'.cell? ⟨s, 3, none⟩ = some (.slice uG t232.length bH) ∧ w'.cell? ⟨s, 4, none⟩ = some (u244004) ∧ w'.cell? ⟨J, 0, none⟩ = some (.int .i64 a2) ∧ w'.cell? ⟨O, 0, none⟩ = some (.slice (some qI) l4.length c4) ∧ w'.cell? ⟨y, 0, none⟩ = some (.int .i64 ((AB l3 r).f0)) ∧ w'.cell? ⟨y, 1, none⟩ = some (.int .i64 ((AB l3 r).f1)) ∧ w'.cell? ⟨y, 2, none⟩ = some (.slice jC ((AB l3 r).f2).length lC) ∧ w'.cell? ⟨y, 3, none⟩ = some (.slice kC ((AB l3 r).f3).length mC) ∧ w'.cell? (qI.add (r).toNat) = some (.int .i64 (rd l4 r))) (ds := [14]) (tf 0 15) (by kernel_rfl) rfl rfl ⟨bc T 0, bc T 1, bc T 2, bc T 3, bc T 4, bc x 0, bc z 0, bc qB 0, bc qB 1, bc qB 2, bc qB 3, (AC HB.out yF)⟩ (fun eB => ?_); refine CQ AQ.Pe AQ.Ow (fun wB aH => ?_)
       generalize vW.drew = p3 at mD m b mB uB gB jD kD u l x z B T qB HB kH eB ⊢
       refine pv 0 127 (tf 1 14) wB ?_
       refine pv 4 131 #[true, false, false, false, true, false, false, false, false, false, false, false, false, false, false] wB ?_
       refine Bj (i := 1) (N := some 128) (v := ?_) (a' := ?_) #[true, true, false, false, true, false, false, false, false, false, false, false, false, false, false] rfl rfl (Av wB.out aH.out (by kernel_rfl)) (fun _ _ _ h => h) (Or.inl ⟨by rfl, ?_⟩) eB ?_ ?_
       rotate_left
       ·rintro w' ⟨s0, s1, s2, s3, s4, s5, s6, s7, s8, s9, nL, oL⟩
        go_simp
        with_reducible rfl
       rotate_left
       ·simp only [ps]
        rfl
       refine Bj (i := 2) (N := some 129) (v := ?_) (a' := ?_) #[true, true, true, false, true, false, false, false, false, false, false, false, false, false, false] rfl rfl (Av wB.out aH.out (by kernel_rfl)) (fun _ _ _ h => h) (Or.inl ⟨by rfl, ?_⟩) eB ?_ ?_
       rotate_left
       ·rintro w' ⟨s0, s1, s2, s3, s4, s5, s6, s7, s8, s9, nL, oL⟩
        go_simp
        with_reducible rfl
       rotate_left
       ·simp only [ps]
        rfl
       refine Bj (i := 3) (N := some 130) (v := ?_) (a' := ?_) (tf 5 10) rfl rfl (Av wB.out aH.out (by kernel_rfl)) (fun _ _ _ h => h) (Or.inl ⟨by rfl, ?_⟩) eB ?_ ?_
       rotate_left
       ·rintro w' ⟨s0, s1, s2, s3, s4, s5, s6, s7, s8, s9, nL, oL⟩
        go_simp
        with_reducible rfl
       rotate_left
       ·simp only [ps]
        rfl
       refine pv 5 132 (tf 6 9) wB ?_
       refine Bj (i := 6) (N := some 133) (v := ?_) (a' := ?_) (tf 7 8) rfl rfl (Av wB.out aH.out (by kernel_rfl)) (fun _ _ _ h => h) (Or.inl ⟨by rfl, ?_⟩) eB ?_ ?_
       rotate_left
       ·rintro w' ⟨s0, s1, s2, s3, s4, s5, s6, s7, s8, s9, nL, oL⟩
        go_simp
        with_reducible rfl
       rotate_left
       ·simp only [ps]
        rfl
       refine pv 7 134 (tf 8 7) wB ?_
       refine Bj (i := 8) (N := some 135) (v := ?_) (a' := ?_) (tf 9 6) rfl rfl (Av wB.out aH.out (by kernel_rfl)) (fun _ _ _ h => h) (Or.inl ⟨by rfl, ?_⟩) eB ?_ ?_
       rotate_left
       ·rintro w' ⟨s0, s1, s2, s3, s4, s5, s6, s7, s8, s9, nL, oL⟩
        go_simp
        with_reducible rfl
       rotate_left
       ·simp only [ps]
        rfl
       refine DL (i := 9) (N := some 136) (tf 10 5) rfl rfl (Bo wB.out (by kernel_rfl)) (by decide) (fun K hK => ?_)
       refine Co Try.func51 (by kernel_rfl) rfl #[.agg #[.int .i64 ((AB l3 r).f0), .int .i64 ((AB l3 r).f1), .slice jC ((AB l3 r).f2).length lC, .slice kC ((AB l3 r).f3).length mC]] (by rfl) rfl rfl (by (try simp only [List.map_toArray, List.map_cons, List.map_nil]); first | done | rfl | (simp only [List.length_drop, List.length_take]; rfl)) ?_
       with_reducible refine (drivers_copied.calls (fun a => (((bB a ∨ cB a ∨ cC a) ∨ w.heap.size ≤ a) ∧ (some a ≠ (.slice oB t229.length sB : Value).ownBlock ∧ (some a ≠ (u244004 : Value).ownBlock ∧ (a ≠ I ∧ (a ≠ D ∧ (a ≠ J ∧ (a ≠ O ∧ (a ≠ G ∧ (a ≠ s ∧ a ≠ y)))))))))) ?side1 ?side2 ?side3 vU.out).mono ?_
       (case side1 => exact ((Kd.Ac (CE jD.out)).2.2))
       (case side2 => exact uN.out)
       (case side3 => exact kD.out)
       rintro e q3 ⟨v250, v253, rfl, qD, gL, hb⟩
       refine ⟨_, rfl, ?_⟩
       have yC := mk0 (Kd.BG (CE mD.out) (Kd.Am qD) hb)
       have zC := mk0 (Kd.BG (CE m.out) (Kd.Am qD) hb)
       have aD := mk0 (Kd.BG (CE b.out) (Kd.Am qD) hb)
       have bD := mk0 (Kd.DT (CP mB.out) (Kd.Am qD) hb)
       have cD := mk0 (Kd.BG (CE uB.out) (Kd.Am qD) hb)
       have dD := mk0 (Kd.Ia (DZ gB.out) (Kd.Am qD) hb)
       have eD := mk0 (Kd.BG (CE jD.out) (Kd.Am qD) hb)
       have fD := mk0 (Kd.BG (CE kD.out) (Kd.Am qD) hb)
       have gD := mk0 (Kd.CF (Kd.DY (Kd.E9 (M := fun a => (w.heap.size ≤ a)) (Kd.Ai (ok' := fun a => True) qD (fun _ pC => trivial)) (AP (be7 HB U X Y Z dB aC cF)) (fun a h_ => h_)) (Kd.Cz (CP mB.out))) (AP (be7 HB U X Y Z dB aC cF)))
       have yD := mk0 (Kd.En (Kd.AR (ok' := fun a => ((bB a ∨ cB a ∨ cC a) ∨ w.heap.size ≤ a) ∧ some a ≠ (v250 : Value).ownBlock ∧ some a ≠ (.slice oB t229.length sB : Value).ownBlock ∧ some a ≠ (u244004 : Value).ownBlock ∧ a ≠ I ∧ a ≠ D ∧ a ≠ J ∧ a ≠ O ∧ a ≠ G ∧ a ≠ s ∧ a ≠ y) gL (fun a pC => ⟨Or.elim pC.1 (fun kB => kB.1) (fun jB => (.inr (Nat.le_trans (AP (be7 HB U X Y Z dB aC cF)) jB))), pC.2, Or.elim pC.1 (fun kB => kB.2.1) (fun jB => (Kd.fresh' (Kd.Cz (CP mB.out)) a jB)), Or.elim pC.1 (fun kB => kB.2.2.1) (fun jB => (Kd.fresh' (Kd.EF (DZ gB.out)) a jB)), Or.elim pC.1 (fun kB => kB.2.2.2.1) (fun jB => (Kd.Aq (g := I) (o := .cells #[.int .i64 bE, .int .i64 cE, .string dE, .slice hE wD.length kE, .slice jE xD.length lE] 26 (0, 0)) (AU u.out) a jB)), Or.elim pC.1 (fun kB => kB.2.2.2.2.1) (fun jB => (Kd.Aq (g := D) (o := .cells #[.int .i64 sD, .int .i64 tD, .slice fE pD.length gE, .slice nD xB.length oD, .slice hD W.length wC] 33 (0, 0)) (AU l.out) a jB)), Or.elim pC.1 (fun kB => kB.2.2.2.2.2.1) (fun jB => (Kd.Aq (g := J) (o := .cells #[.int .i64 a2] 3 (0, 0)) (AU x.out) a jB)), Or.elim pC.1 (fun kB => kB.2.2.2.2.2.2.1) (fun jB => (Kd.Aq (g := O) (o := .cells #[.slice (some qI) l4.length c4] 38 (0, 0)) (AU z.out) a jB)), Or.elim pC.1 (fun kB => kB.2.2.2.2.2.2.2.1) (fun jB => (Kd.Aq (g := G) (o := .cells #[.int .i64 yB, .int .i64 zB, .slice none 0 0, .slice none 0 0, .slice none 0 0] 33 (0, 0)) (AU B.out) a jB)), Or.elim pC.1 (fun kB => kB.2.2.2.2.2.2.2.2.1) (fun jB => (Kd.Aq (g := s) (o := .cells #[.int .i64 t227, .int .i64 t228, .slice oB t229.length sB, .slice uG t232.length bH, u244004] 33 (0, 0)) (AU T.out) a jB)), Or.elim pC.1 (fun kB => kB.2.2.2.2.2.2.2.2.2) (fun jB => (Kd.Aq (g := y) (o := .cells #[.int .i64 ((AB l3 r).f0), .int .i64 ((AB l3 r).f1), .slice jC ((AB l3 r).f2).length lC, .slice kC ((AB l3 r).f3).length mC] 30 (0, 0)) (AU qB.out) a jB))⟩)) (AP (be7 HB U X Y Z dB aC cF)))
       have dC := kb u hb
       have eC := kb l hb
       have nC := kb x hb
       have lD := kb z hb
       have zD := kb B hb
       have aE := kb T hb
       have oE := kb qB hb
       have zE := kh7 HB U X Y Z dB aC cF hb
       clear mD; clear m; clear b; clear mB; clear uB; clear gB; clear jD; clear kD; clear u; clear l; clear x; clear z; clear B; clear T; clear qB; clear HB; have mD := yC; have m := zC; have b := aD; have mB := bD; have uB := cD; have gB := dD; have jD := eD; have kD := fD; have vJ := gD; have mH := yD; have u := dC; have l := eC; have x := nC; have z := lD; have B := zD; have T := aE; have qB := oE; have HB := zE; clear yC zC aD bD cD dD eD fD gD yD dC eC nC lD zD aE oE zE
       try clear hb
       try clear d
       try clear hi
       try clear qD
       try clear gL
       obtain ⟨fR, uR, lO⟩ := Kd.D6 mH.out
       (first | subst lO | (injection lO with f1_ f2_ f3_; have qE := f1_.symm; have rE := f3_.symm; clear f1_ f2_ f3_; subst qE; subst rE))
       obtain ⟨uF, wF, mO⟩ := Kd.Bg vJ.out
       (first | subst mO | (injection mO with f1_ f2_ f3_; have qE := f1_.symm; have rE := f3_.symm; clear f1_ f2_ f3_; subst qE; subst rE))
       refine hK.out _ _ ⟨bc T 0, bc T 1, bc T 2, bc T 3, bc T 4, bc x 0, bc z 0, bc qB 0, bc qB 1, bc qB 2, bc qB 3, (AC HB.out yF)⟩ (fun eB => ?_)
       clear hK K
       refine Br (a' := ?_) ?_ ?_
       rotate_left
       ·show Act.put _ (some 136) _ = _
        simp only [ps]
        rfl
       refine pv 10 137 (tf 11 4) wB ?_
       refine DL (i := 11) (N := some 138) (tf 12 3) rfl rfl (Bo wB.out (by kernel_rfl)) (by decide) (fun K hK => ?_)
       refine CW (w1 := ?_) (v := ?_) (by rfl) rfl ?_ ?_
       rotate_left 2
       ·go_simp
        constructor
        ·rfl
        ·rfl
       refine hK.out _ _ ⟨(Af (AX T.out _) 0).trans rfl, (Af (AX T.out _) 1).trans rfl, (Af (AX T.out _) 2).trans rfl, (Af (AX T.out _) 3).trans rfl, (Af (AX T.out _) 4).trans rfl, (Af (AX x.out _) 0).trans rfl, (Af (AX z.out _) 0).trans rfl, (Af (AX qB.out _) 0).trans rfl, (Af (AX qB.out _) 1).trans rfl, (Af (AX qB.out _) 2).trans rfl, (Af (AX qB.out _) 3).trans rfl, (World.cell?_alloc_lt _ _ _ (World.block_lt_of_cell? _ _ ((AC HB.out yF)))).trans ((AC HB.out yF))⟩ (fun eB => ?_)
       clear hK K
       refine Br (a' := ?_) ?_ ?_
       rotate_left
       ·show Act.put _ (some 138) _ = _
        simp only [ps]
        rfl
       refine DL (i := 12) (N := some 139) (tf 13 2) rfl rfl (Bo wB.out (by kernel_rfl)) (by decide) (fun K hK => ?_)
       refine Kd.Fe k63 (w0 := w) w.heap.size (by rfl) (.tmp 128) (.tmp 138) 31 63 (.agg #[(.int .i64 0), (.int .i64 0), (.int .i64 0), (.slice none 0 0), (.slice none 0 0)]) 72 rfl Try.underlying31 Ff rfl (by decide) (by omega) u244004 vD (⟨wrap64 (a2 + (rd l4 r)), (⟨pL, qL, tF, rL⟩ : S30)⟩ : S63) [.int .i64 (wrap64 (a2 + (rd l4 r))), .int .i64 pL, .int .i64 qL, .slice uF tF.length wF, .slice fR rL.length uR] (fun a => ((bB a ∨ cB a ∨ cC a) ∨ w.heap.size ≤ a) ∧ some a ≠ (.slice oB t229.length sB : Value).ownBlock ∧ a ≠ I ∧ a ≠ D ∧ a ≠ J ∧ a ≠ O ∧ a ≠ G ∧ a ≠ s ∧ a ≠ y) (fun a => ((fun a => ((bB a ∨ cB a ∨ cC a) ∨ w.heap.size ≤ a) ∧ some a ≠ (.slice oB t229.length sB : Value).ownBlock ∧ a ≠ I ∧ a ≠ D ∧ a ≠ J ∧ a ≠ O ∧ a ≠ G ∧ a ≠ s ∧ a ≠ y)) a ∧ some a ≠ (u244004 : Value).ownBlock) rfl rfl ?aP (fun _ d => d) ?aF ?aO ?aB ?aS ?aL ?_
       (case aP => exact (IE _ _ (⟨wrap64 (a2 + (rd l4 r)), (⟨pL, qL, tF, rL⟩ : S30)⟩ : S63) (Kd.CZ (Kd.Ai (ok' := (fun a => ((fun a => ((bB a ∨ cB a ∨ cC a) ∨ w.heap.size ≤ a) ∧ some a ≠ (.slice oB t229.length sB : Value).ownBlock ∧ a ≠ I ∧ a ≠ D ∧ a ≠ J ∧ a ≠ O ∧ a ≠ G ∧ a ≠ s ∧ a ≠ y)) a ∧ some a ≠ (u244004 : Value).ownBlock)) (Kd.Ao (Kd.Ao (Kd.Ao (Kd.Ao (Kd.Ao (Kd.Ao (Kd.Ao (Kd.DR (vJ.out) (Kd.F7 gB.out) (by decide)) u.out (by decide)) l.out (by decide)) x.out (by decide)) z.out (by decide)) B.out (by decide)) T.out (by decide)) qB.out (by decide)) (fun a d => ⟨⟨(.inr (d.1.1.1.1.1.1.1.1.1.1)), ⟨d.1.1.1.1.1.1.1.1.2, ⟨d.1.1.1.1.1.1.2, ⟨d.1.1.1.1.1.2, ⟨d.1.1.1.1.2, ⟨d.1.1.1.2, ⟨d.1.1.2, ⟨d.1.2, d.2⟩⟩⟩⟩⟩⟩⟩⟩, d.1.1.1.1.1.1.1.2⟩))).2.1 (Kd.R_F (Kd.Ai (ok' := (fun a => ((fun a => ((bB a ∨ cB a ∨ cC a) ∨ w.heap.size ≤ a) ∧ some a ≠ (.slice oB t229.length sB : Value).ownBlock ∧ a ≠ I ∧ a ≠ D ∧ a ≠ J ∧ a ≠ O ∧ a ≠ G ∧ a ≠ s ∧ a ≠ y)) a ∧ some a ≠ (u244004 : Value).ownBlock)) (Kd.Ao (Kd.Ao (Kd.Ao (Kd.Ao (Kd.Ao (Kd.Ao (Kd.Ao (Kd.DR (vJ.out) (Kd.F7 gB.out) (by decide)) u.out (by decide)) l.out (by decide)) x.out (by decide)) z.out (by decide)) B.out (by decide)) T.out (by decide)) qB.out (by decide)) (fun a d => ⟨⟨(.inr (d.1.1.1.1.1.1.1.1.1.1)), ⟨d.1.1.1.1.1.1.1.1.2, ⟨d.1.1.1.1.1.1.2, ⟨d.1.1.1.1.1.2, ⟨d.1.1.1.1.2, ⟨d.1.1.1.2, ⟨d.1.1.2, ⟨d.1.2, d.2⟩⟩⟩⟩⟩⟩⟩⟩, d.1.1.1.1.1.1.1.2⟩))) (Kd.Ac (Kd.AR (ok' := (fun a => ((fun a => ((bB a ∨ cB a ∨ cC a) ∨ w.heap.size ≤ a) ∧ some a ≠ (.slice oB t229.length sB : Value).ownBlock ∧ a ≠ I ∧ a ≠ D ∧ a ≠ J ∧ a ≠ O ∧ a ≠ G ∧ a ≠ s ∧ a ≠ y)) a ∧ some a ≠ (u244004 : Value).ownBlock)) (mH.out) (fun a d => ⟨⟨d.1, ⟨d.2.2.1, ⟨d.2.2.2.2.1, ⟨d.2.2.2.2.2.1, ⟨d.2.2.2.2.2.2.1, ⟨d.2.2.2.2.2.2.2.1, ⟨d.2.2.2.2.2.2.2.2.1, ⟨d.2.2.2.2.2.2.2.2.2.1, d.2.2.2.2.2.2.2.2.2.2⟩⟩⟩⟩⟩⟩⟩⟩, d.2.2.2.1⟩))).2.1 (Kd.V_F (Kd.AR (ok' := (fun a => ((fun a => ((bB a ∨ cB a ∨ cC a) ∨ w.heap.size ≤ a) ∧ some a ≠ (.slice oB t229.length sB : Value).ownBlock ∧ a ≠ I ∧ a ≠ D ∧ a ≠ J ∧ a ≠ O ∧ a ≠ G ∧ a ≠ s ∧ a ≠ y)) a ∧ some a ≠ (u244004 : Value).ownBlock)) (mH.out) (fun a d => ⟨⟨d.1, ⟨d.2.2.1, ⟨d.2.2.2.2.1, ⟨d.2.2.2.2.2.1, ⟨d.2.2.2.2.2.2.1, ⟨d.2.2.2.2.2.2.2.1, ⟨d.2.2.2.2.2.2.2.2.1, ⟨d.2.2.2.2.2.2.2.2.2.1, d.2.2.2.2.2.2.2.2.2.2⟩⟩⟩⟩⟩⟩⟩⟩, d.2.2.2.1⟩)))))
       (case aB => exact (be7 HB U X Y Z dB aC cF))
       (case aF => exact (fun a d => ⟨(.inr (Nat.le_trans (AP (be7 HB U X Y Z dB aC cF)) d)), Kd.fresh' (Kd.Cz (CP mB.out)) a d, Kd.Aq (g := I) (o := .cells #[.int .i64 bE, .int .i64 cE, .string dE, .slice hE wD.length kE, .slice jE xD.length lE] 26 (0, 0)) (AU u.out) a d, Kd.Aq (g := D) (o := .cells #[.int .i64 sD, .int .i64 tD, .slice fE pD.length gE, .slice nD xB.length oD, .slice hD W.length wC] 33 (0, 0)) (AU l.out) a d, Kd.Aq (g := J) (o := .cells #[.int .i64 a2] 3 (0, 0)) (AU x.out) a d, Kd.Aq (g := O) (o := .cells #[.slice (some qI) l4.length c4] 38 (0, 0)) (AU z.out) a d, Kd.Aq (g := G) (o := .cells #[.int .i64 yB, .int .i64 zB, .slice none 0 0, .slice none 0 0, .slice none 0 0] 33 (0, 0)) (AU B.out) a d, Kd.Aq (g := s) (o := .cells #[.int .i64 t227, .int .i64 t228, .slice oB t229.length sB, .slice uG t232.length bH, u244004] 33 (0, 0)) (AU T.out) a d, Kd.Aq (g := y) (o := .cells #[.int .i64 ((AB l3 r).f0), .int .i64 ((AB l3 r).f1), .slice jC ((AB l3 r).f2).length lC, .slice kC ((AB l3 r).f3).length mC] 30 (0, 0)) (AU qB.out) a d⟩))
       (case aO => exact (DC (Kd.BM gB.out (fun _ d => ⟨d.1.1, ⟨d.1.2.1, ⟨d.1.2.2.1, ⟨d.1.2.2.2.1, ⟨d.1.2.2.2.2.1, ⟨d.1.2.2.2.2.2.1, ⟨d.1.2.2.2.2.2.2.1, ⟨d.1.2.2.2.2.2.2.2.1, d.1.2.2.2.2.2.2.2.2⟩⟩⟩⟩⟩⟩⟩⟩))))
       (case aS => exact (AP (be7 HB U X Y Z dB aC cF)))
       (case aL => have := qP.out; omega)
       intro v256 wW ho hb hg mK
       rw [← sR.out] at ho
       have yC := mk0 (Kd.CL (ok := (fun a => ((bB a ∨ cB a ∨ cC a) ∨ w.heap.size ≤ a) ∧ some a ≠ (.slice oB t229.length sB : Value).ownBlock ∧ some a ≠ (.slice uF tF.length wF : Value).ownBlock ∧ a ≠ I ∧ a ≠ D ∧ a ≠ J ∧ a ≠ O ∧ a ≠ G ∧ a ≠ s ∧ a ≠ y)) (Bn (Kd.AR mD.out (fun _ d => ⟨⟨d.1.1, ⟨d.1.2.1, ⟨d.2, ⟨d.1.2.2.2.1, ⟨d.1.2.2.2.2.1, ⟨d.1.2.2.2.2.2.1, ⟨d.1.2.2.2.2.2.2.1, ⟨d.1.2.2.2.2.2.2.2.1, ⟨d.1.2.2.2.2.2.2.2.2.1, d.1.2.2.2.2.2.2.2.2.2⟩⟩⟩⟩⟩⟩⟩⟩⟩, d.1.2.2.1⟩))) hg mK)
       have zC := mk0 (Kd.CL (ok := (fun a => ((bB a ∨ cB a ∨ cC a) ∨ w.heap.size ≤ a) ∧ some a ≠ (.slice oB t229.length sB : Value).ownBlock ∧ some a ≠ (.slice uF tF.length wF : Value).ownBlock ∧ a ≠ I ∧ a ≠ D ∧ a ≠ J ∧ a ≠ O ∧ a ≠ G ∧ a ≠ s ∧ a ≠ y)) (Bn (Kd.AR m.out (fun _ d => ⟨⟨d.1.1, ⟨d.1.2.1, ⟨d.2, ⟨d.1.2.2.2.1, ⟨d.1.2.2.2.2.1, ⟨d.1.2.2.2.2.2.1, ⟨d.1.2.2.2.2.2.2.1, ⟨d.1.2.2.2.2.2.2.2.1, ⟨d.1.2.2.2.2.2.2.2.2.1, d.1.2.2.2.2.2.2.2.2.2⟩⟩⟩⟩⟩⟩⟩⟩⟩, d.1.2.2.1⟩))) hg mK)
       have aD := mk0 (Kd.CL (ok := (fun a => ((bB a ∨ cB a ∨ cC a) ∨ w.heap.size ≤ a) ∧ some a ≠ (.slice oB t229.length sB : Value).ownBlock ∧ some a ≠ (.slice uF tF.length wF : Value).ownBlock ∧ a ≠ I ∧ a ≠ D ∧ a ≠ J ∧ a ≠ O ∧ a ≠ G ∧ a ≠ s ∧ a ≠ y)) (Bn (Kd.AR b.out (fun _ d => ⟨⟨d.1.1, ⟨d.1.2.1, ⟨d.2, ⟨d.1.2.2.2.1, ⟨d.1.2.2.2.2.1, ⟨d.1.2.2.2.2.2.1, ⟨d.1.2.2.2.2.2.2.1, ⟨d.1.2.2.2.2.2.2.2.1, ⟨d.1.2.2.2.2.2.2.2.2.1, d.1.2.2.2.2.2.2.2.2.2⟩⟩⟩⟩⟩⟩⟩⟩⟩, d.1.2.2.1⟩))) hg mK)
       have bD := mk0 (Kd.GY (CP mB.out) (Kd.F7 (DZ gB.out)) (by decide) hg)
       have cD := mk0 (Kd.CL (ok := (fun a => ((bB a ∨ cB a ∨ cC a) ∨ w.heap.size ≤ a) ∧ some a ≠ (.slice oB t229.length sB : Value).ownBlock ∧ some a ≠ (.slice uF tF.length wF : Value).ownBlock ∧ a ≠ I ∧ a ≠ D ∧ a ≠ J ∧ a ≠ O ∧ a ≠ G ∧ a ≠ s ∧ a ≠ y)) (Bn (Kd.AR uB.out (fun _ d => ⟨⟨d.1.1, ⟨d.1.2.1, ⟨d.2, ⟨d.1.2.2.2.1, ⟨d.1.2.2.2.2.1, ⟨d.1.2.2.2.2.2.1, ⟨d.1.2.2.2.2.2.2.1, ⟨d.1.2.2.2.2.2.2.2.1, ⟨d.1.2.2.2.2.2.2.2.2.1, d.1.2.2.2.2.2.2.2.2.2⟩⟩⟩⟩⟩⟩⟩⟩⟩, d.1.2.2.1⟩))) hg mK)
       have dD := mk0 (Bc (g := I) (o := .cells #[.int .i64 bE, .int .i64 cE, .string dE, .slice hE wD.length kE, .slice jE xD.length lE] 26 (0, 0)) (AU u.out) hg (Kd.Gp gB.out u.out (by decide)))
       have eD := mk0 (Bc (g := D) (o := .cells #[.int .i64 sD, .int .i64 tD, .slice fE pD.length gE, .slice nD xB.length oD, .slice hD W.length wC] 33 (0, 0)) (AU l.out) hg (Kd.Gp gB.out l.out (by decide)))
       have fD := mk0 (Bc (g := J) (o := .cells #[.int .i64 a2] 3 (0, 0)) (AU x.out) hg (Kd.Gp gB.out x.out (by decide)))
       have gD := mk0 (Bc (g := O) (o := .cells #[.slice (some qI) l4.length c4] 38 (0, 0)) (AU z.out) hg (Kd.Gp gB.out z.out (by decide)))
       have yD := mk0 (Bc (g := G) (o := .cells #[.int .i64 yB, .int .i64 zB, .slice none 0 0, .slice none 0 0, .slice none 0 0] 33 (0, 0)) (AU B.out) hg (Kd.Gp gB.out B.out (by decide)))
       have dC := mk0 (Bc (g := s) (o := .cells #[.int .i64 t227, .int .i64 t228, .slice oB t229.length sB, .slice uG t232.length bH, u244004] 33 (0, 0)) (AU T.out) hg (Kd.Gp gB.out T.out (by decide)))
       have eC := mk0 (Kd.CL (ok := (fun a => ((bB a ∨ cB a ∨ cC a) ∨ w.heap.size ≤ a) ∧ some a ≠ (.slice oB t229.length sB : Value).ownBlock ∧ some a ≠ (.slice uF tF.length wF : Value).ownBlock ∧ a ≠ I ∧ a ≠ D ∧ a ≠ J ∧ a ≠ O ∧ a ≠ G ∧ a ≠ s ∧ a ≠ y)) (Bn (Kd.AR jD.out (fun _ d => ⟨⟨d.1.1, ⟨d.1.2.1, ⟨d.2, ⟨d.1.2.2.2.1, ⟨d.1.2.2.2.2.1, ⟨d.1.2.2.2.2.2.1, ⟨d.1.2.2.2.2.2.2.1, ⟨d.1.2.2.2.2.2.2.2.1, ⟨d.1.2.2.2.2.2.2.2.2.1, d.1.2.2.2.2.2.2.2.2.2⟩⟩⟩⟩⟩⟩⟩⟩⟩, d.1.2.2.1⟩))) hg mK)
       have nC := mk0 (Kd.CL (ok := (fun a => ((bB a ∨ cB a ∨ cC a) ∨ w.heap.size ≤ a) ∧ some a ≠ (.slice oB t229.length sB : Value).ownBlock ∧ some a ≠ (.slice uF tF.length wF : Value).ownBlock ∧ a ≠ I ∧ a ≠ D ∧ a ≠ J ∧ a ≠ O ∧ a ≠ G ∧ a ≠ s ∧ a ≠ y)) (Bn (Kd.AR kD.out (fun _ d => ⟨⟨d.1.1, ⟨d.1.2.1, ⟨d.2, ⟨d.1.2.2.2.1, ⟨d.1.2.2.2.2.1, ⟨d.1.2.2.2.2.2.1, ⟨d.1.2.2.2.2.2.2.1, ⟨d.1.2.2.2.2.2.2.2.1, ⟨d.1.2.2.2.2.2.2.2.2.1, d.1.2.2.2.2.2.2.2.2.2⟩⟩⟩⟩⟩⟩⟩⟩⟩, d.1.2.2.1⟩))) hg mK)
       have lD := mk0 (Bc (g := y) (o := .cells #[.int .i64 ((AB l3 r).f0), .int .i64 ((AB l3 r).f1), .slice jC ((AB l3 r).f2).length lC, .slice kC ((AB l3 r).f3).length mC] 30 (0, 0)) (AU qB.out) hg (Kd.Gp gB.out qB.out (by decide)))
       have zD := mk0 (Kd.CL (ok := (fun a => ((bB a ∨ cB a ∨ cC a) ∨ w.heap.size ≤ a) ∧ some a ≠ (.slice oB t229.length sB : Value).ownBlock ∧ some a ≠ (.slice uF tF.length wF : Value).ownBlock ∧ a ≠ I ∧ a ≠ D ∧ a ≠ J ∧ a ≠ O ∧ a ≠ G ∧ a ≠ s ∧ a ≠ y)) (Bn (Kd.AR mH.out (fun _ d => ⟨⟨d.1, ⟨d.2.2.1, ⟨d.2.1, ⟨d.2.2.2.2.1, ⟨d.2.2.2.2.2.1, ⟨d.2.2.2.2.2.2.1, ⟨d.2.2.2.2.2.2.2.1, ⟨d.2.2.2.2.2.2.2.2.1, ⟨d.2.2.2.2.2.2.2.2.2.1, d.2.2.2.2.2.2.2.2.2.2⟩⟩⟩⟩⟩⟩⟩⟩⟩, d.2.2.2.1⟩))) hg mK)
       have aE := mk0 (hb)
       have oE := mk0 (ho)
       clear mD; clear m; clear b; clear mB; clear uB; clear u; clear l; clear x; clear z; clear B; clear T; clear jD; clear kD; clear qB; clear mH; clear HB; clear gB; clear vJ; have mD := yC; have m := zC; have b := aD; have mB := bD; have uB := cD; have u := dD; have l := eD; have x := fD; have z := gD; have B := yD; have T := dC; have jD := eC; have kD := nC; have qB := lD; have mH := zD; have HB := aE; have wN := oE; clear yC zC aD bD cD dD eD fD gD yD dC eC nC lD zD aE oE; clear ho hb hg mK
       obtain ⟨gR, vR, nO⟩ := Kd.Cw wN.out
       (first | subst nO | (injection nO with f1_ f2_ f3_; have qE := f1_.symm; have rE := f3_.symm; clear f1_ f2_ f3_; subst qE; subst rE))
       refine hK.out _ _ ⟨bc T 0, bc T 1, bc T 2, bc T 3, bc T 4, bc x 0, bc z 0, bc qB 0, bc qB 1, bc qB 2, bc qB 3, (AC HB.out yF)⟩ (fun eB => ?_)
       clear hK K
       refine Br (a' := ?_) ?_ ?_
       rotate_left
       ·show Act.put _ (some 139) _ = _
        simp only [ps]
        rfl
       refine pv 13 140 (tf 14 1) wB ?_
       refine K8 (i := 14) (N := none) (tf 15 0) rfl rfl (Bo wB.out (by kernel_rfl)) (by decide) (fun K hK => ?_)
       have y1 : wW.cell? ⟨s, 4, none⟩ = some (u244004) := bc T 4
       have hX := Aa T.out 4
       have pU := fC.out; have qU := L.out; have rU := gC.out; have sU := hC.out; have tU := iC.out; have uU := pI.out; have kT := rC.out; have lT := sC.out; have mT := tC.out; have nT := uC.out; have oT := vC.out; have pT := sG.out
       refine Fp (w1 := ?_) (by rfl) rfl ?_ ?_
       rotate_left
       ·go_simp
        rfl
       refine hK.out _ _ ?_
       clear hK K
       refine EG (DW wB.out (by kernel_rfl)) ?_
       try go_wp2
       go_roundg k3
       case measure => have := zL.out; have := dQ.out; have := cV.out; omega
       case rel => exact ⟨(wrap64 (r + 1)), (jP), (.slice gR jP.length vR), rfl, H', ⟨by have := zL.out; have := dQ.out; have := cV.out; omega⟩, ⟨Bn (Kd.AR (vI (q := s) (Kd.AR mD.out (fun a d => (⟨d, d.1.2.2.2.2.2.2.2.2.1⟩ : _ ∧ a ≠ s))) (fun _ d => d.2)) (fun _ d => ⟨d.1.1.1, ⟨d.1.1.2.1, ⟨d.1.2, ⟨d.1.1.2.2.2.1, ⟨d.1.1.2.2.2.2.1, ⟨d.1.1.2.2.2.2.2.1, ⟨d.1.1.2.2.2.2.2.2.1, ⟨d.1.1.2.2.2.2.2.2.2.1, d.1.1.2.2.2.2.2.2.2.2.1⟩⟩⟩⟩⟩⟩⟩⟩))⟩, ⟨Bn (Kd.AR (vI (q := s) (Kd.AR m.out (fun a d => (⟨d, d.1.2.2.2.2.2.2.2.2.1⟩ : _ ∧ a ≠ s))) (fun _ d => d.2)) (fun _ d => ⟨d.1.1.1, ⟨d.1.1.2.1, ⟨d.1.2, ⟨d.1.1.2.2.2.1, ⟨d.1.1.2.2.2.2.1, ⟨d.1.1.2.2.2.2.2.1, ⟨d.1.1.2.2.2.2.2.2.1, ⟨d.1.1.2.2.2.2.2.2.2.1, d.1.1.2.2.2.2.2.2.2.2.1⟩⟩⟩⟩⟩⟩⟩⟩))⟩, ⟨Bn (Kd.AR (vI (q := s) (Kd.AR b.out (fun a d => (⟨d, d.1.2.2.2.2.2.2.2.2.1⟩ : _ ∧ a ≠ s))) (fun _ d => d.2)) (fun _ d => ⟨d.1.1.1, ⟨d.1.1.2.1, ⟨d.1.2, ⟨d.1.1.2.2.2.1, ⟨d.1.1.2.2.2.2.1, ⟨d.1.1.2.2.2.2.2.1, ⟨d.1.1.2.2.2.2.2.2.1, ⟨d.1.1.2.2.2.2.2.2.2.1, d.1.1.2.2.2.2.2.2.2.2.1⟩⟩⟩⟩⟩⟩⟩⟩))⟩, ⟨CS (Kd.Ai (rI (q := s) (Kd.Ao mB.out T.out (by decide)) (fun _ d => d.2)) (fun _ d => d.1.1))⟩, ⟨Bn (Kd.AR (vI (q := s) (Kd.AR uB.out (fun a d => (⟨d, d.1.2.2.2.2.2.2.2.2.1⟩ : _ ∧ a ≠ s))) (fun _ d => d.2)) (fun _ d => ⟨d.1.1.1, ⟨d.1.1.2.1, ⟨d.1.2, ⟨d.1.1.2.2.2.1, ⟨d.1.1.2.2.2.2.1, ⟨d.1.1.2.2.2.2.2.1, ⟨d.1.1.2.2.2.2.2.2.1, ⟨d.1.1.2.2.2.2.2.2.2.1, d.1.1.2.2.2.2.2.2.2.2.1⟩⟩⟩⟩⟩⟩⟩⟩))⟩, ⟨DC (Kd.BM (nI (q := s) (Kd.BM wN.out (fun a d => (⟨d, d.2.2.2.2.2.2.2.1⟩ : _ ∧ a ≠ s))) (fun _ d => d.2)) (fun _ d => ⟨d.1.1, ⟨d.1.2.1, ⟨d.1.2.2.1, ⟨d.1.2.2.2.1, ⟨d.1.2.2.2.2.1, ⟨d.1.2.2.2.2.2.1, ⟨d.1.2.2.2.2.2.2.1, d.1.2.2.2.2.2.2.2.1⟩⟩⟩⟩⟩⟩⟩))⟩, ⟨bF fC u⟩, ⟨bF L l⟩, ⟨bF gC x⟩, ⟨bF hC z⟩, ⟨bF iC B⟩, ⟨pB T⟩, ⟨be7 HB U X Y Z dB aC cF⟩⟩
end Go.Proofs.Ytojankgmedccdaa.PAw
