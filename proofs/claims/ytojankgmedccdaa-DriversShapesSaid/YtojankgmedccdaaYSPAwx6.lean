/- Part of the proof of LawDriversShapes: every definition and lemma is one that it names. -/
import Derived.Test.YtojankgmedccdaaYSHandE
import Derived.Test.YtojankgmedccdaaYSPAwx7
import Derived.Test.YtojankgmedccdaaYSPAwx1
import Derived.Test.YtojankgmedccdaaYSPAwx4
import Derived.Test.YtojankgmedccdaaYSPAwx5
namespace Go.Proofs.Ytojankgmedccdaa.PAw
open Go.RowKit Own PTy Hand PIs YtojankgmedccdaaW.PrintWords YtojankgmedccdaaW.PrintLast YtojankgmedccdaaW.PrintMore
attribute [local go_sem] BR BS Bj Bl BH BI BU BX
set_option linter.unusedVariables false
set_option linter.unusedSimpArgs false
mutual
def AR.l0 : Nat → Int → List (S30) → List Int → Bool → List (S30) → Int → Int → Int → Int → ByteArray → List ByteArray → List (S26) → Int → Int → List Int → List (S30) → List (S63) → Int → List Int → Option (Int × Int × List Int × (List (S30)) × (List (S63)) × Int)
 | 0, _, _, _, _, _, _, _, _, _, _, _, _, _, _, _, _, _, _, _ => none
 | k + 1, x2, x3, x4, x5, D, O, z, i, j, l, m, n, d, e, g, h, a, b, c => if z < O then (if 0 ≤ z then (if z < (D.length : Int) then ((Bo.f k i j l m n ((AB D z).f0) ((AB D z).f1) ((AB D z).f2) ((AB D z).f3)).bind fun I => (if I = true then (AR.l0 k x2 x3 x4 x5 D O (wrap64 (z + 1)) i j l m n d e g h a b c) else (none))) else (none)) else (none)) else ((drivers_behind.f d e g h a b).bind fun t222 => (if t222 = true then (none) else ((Fy.f a x2 x4).bind fun J => (if J < 0 then (if x5 = true then (AR.j2 k x3 (a.length : Int) 0 d e g h a b c) else (AR.l1 k x3 (a.length : Int) (a.length : Int) i j l m n d e g h a b c)) else (none)))))
def AR.j2 : Nat → List (S30) → Int → Int → Int → Int → List Int → List (S30) → List (S63) → Int → List Int → Option (Int × Int × List Int × (List (S30)) × (List (S63)) × Int)
 | 0, _, _, _, _, _, _, _, _, _, _ => none
 | k + 1, x3, B, p, d, e, g, h, a, b, c => if (wrap64 ((wrap64 (B - p)) + (x3.length : Int))) > 64 then (none) else ((drivers_copied.f d e g h).bind fun s => (if 0 ≤ p then (if p ≤ B then (if B ≤ (a.length : Int) then ((Bg.f k ((a.take (B : Int).toNat).drop (p : Int).toNat)).bind fun L => (AR.l2 k x3 (x3.length : Int) 0 b c s.1 s.2.1 s.2.2.1 s.2.2.2 L)) else (none)) else (none)) else (none)))
def AR.l2 : Nat → List (S30) → Int → Int → Int → List Int → Int → Int → List Int → List (S30) → List (S63) → Option (Int × Int × List Int × (List (S30)) × (List (S63)) × Int)
 | 0, _, _, _, _, _, _, _, _, _, _ => none
 | k + 1, r, G, o, b, c, v, w, x, y, q => if o < G then (if 0 ≤ o then (if o < (r.length : Int) then (if o < (c.length : Int) then ((drivers_copied.f ((AB r o).f0) ((AB r o).f1) ((AB r o).f2) ((AB r o).f3)).bind fun u => (if q.length < 1954687338268 then (AR.l2 k r G (wrap64 (o + 1)) b c v w x y (q ++ [(⟨wrap64 (b + (rd c o)), (⟨u.1, u.2.1, u.2.2.1, u.2.2.2⟩ : S30)⟩ : S63)])) else (none))) else (none)) else (none)) else (none)) else (some (v, w, x, y, q, 0))
def AR.l1 : Nat → List (S30) → Int → Int → Int → Int → ByteArray → List ByteArray → List (S26) → Int → Int → List Int → List (S30) → List (S63) → Int → List Int → Option (Int × Int × List Int × (List (S30)) × (List (S63)) × Int)
 | 0, _, _, _, _, _, _, _, _, _, _, _, _, _, _, _ => none
 | k + 1, x3, B, p, i, j, l, m, n, d, e, g, h, a, b, c => if p > 0 then (if 0 ≤ (wrap64 (p - 1)) then (if (wrap64 (p - 1)) < (a.length : Int) then (if 0 < (x3.length : Int) then ((CP.f k i j l m n ((AA a (wrap64 (p - 1))).f1.f0) ((AA a (wrap64 (p - 1))).f1.f1) ((AA a (wrap64 (p - 1))).f1.f2) ((AA a (wrap64 (p - 1))).f1.f3) ((AB x3 0).f0) ((AB x3 0).f1) ((AB x3 0).f2) ((AB x3 0).f3)).bind fun t226 => (if t226 = true then (none) else (AR.j2 k x3 B p d e g h a b c))) else (none)) else (none)) else (none)) else (AR.j2 k x3 B p d e g h a b c)
end
def AR.f (k : Nat) (a : Int) (b : Int) (c : ByteArray) (g : List ByteArray) (h : List (S26)) (d : Int) (e : Int) (i : List Int) (j : List (S30)) (l : List (S63)) (o : Int) (m : List (S30)) (p : List Int) (a5 : Bool) : Option (Int × Int × List Int × (List (S30)) × (List (S63)) × Int) := (BO.f k a b c g h d e i j l).bind fun n => (if n = true then (if o < 0 then (none) else (if o > 1000000 then (none) else (if (m.length : Int) < 1 then (none) else (if (m.length : Int) > 64 then (none) else (if (p.length : Int) = (m.length : Int) then ((Ci.f k p).bind fun t218 => (if t218 = true then (AR.l0 k o m p a5 m (m.length : Int) 0 a b c g h d e i j l o p) else (none))) else (none)))))) else (none))
def AR.T17 : Bool × List (List Nat × List Nat) := (true, [([], []), ([0], [0]), ([1], [1]), ([2], [2]), ([2], [2]), ([4, 2], [2, 4]), ([2], [2]), ([6, 2], [2, 6]), ([5, 7, 2], [2, 5, 7]), ([8, 2], [2, 8]), ([9, 2], [2, 9]), ([2], [2]), ([11, 2], [2, 11]), ([12, 2], [2, 12]), ([3, 10, 13, 2, 2], [2, 3, 10, 13]), ([2, 14], [2, 14])])
def AR.B17 : List Nat := [0, 1, 3, 7, 7, 23, 7, 71, 247, 503, 1015, 7, 2055, 6151, 16383, 32767]
theorem AR.Og : C9 .any (opsOf Try.f38 17) = AR.T17 := by kernel_rfl
theorem AR.NP : Cm AR.T17.2 AR.B17 = true := by kernel_rfl
def AR.T21 : Bool × List (List Nat × List Nat) := (true, [([], []), ([0], [0]), ([1], [1]), ([], []), ([3], [3]), ([], []), ([], []), ([4, 5, 6], [4, 5, 6]), ([7, 2], [7]), ([2, 8], [2, 8]), ([], []), ([10, 9, 8, 0, 1, 2, 3, 4, 5, 6, 7, 8, 9, 10], [9, 10])])
def AR.B21 : List Nat := [0, 1, 3, 0, 8, 0, 0, 120, 255, 511, 0, 2047]
theorem AR.Pi : C9 .any (opsOf Try.f38 21) = AR.T21 := by kernel_rfl
theorem AR.O1 : Cm AR.T21.2 AR.B21 = true := by kernel_rfl
def AR.T25 : Bool × List (List Nat × List Nat) := (true, [([], []), ([0], [0]), ([], []), ([], []), ([], []), ([3, 4], [3, 4]), ([5], [5]), ([2, 6], [2, 6]), ([], []), ([8], [8]), ([7, 9], [7, 9]), ([10], [10]), ([1, 11, 9], [1, 11]), ([0, 1, 2, 3, 4, 5, 6, 7, 8, 9, 10, 11, 12], []), ([13, 12, 12, 0, 1, 2, 3, 4, 5, 6, 7, 8, 9, 10, 11, 12], [12, 13])])
def AR.B25 : List Nat := [0, 1, 0, 0, 0, 24, 56, 124, 0, 256, 1020, 2044, 4095, 8191, 16383]
theorem AR.Pj : C9 .any (opsOf Try.f38 25) = AR.T25 := by kernel_rfl
theorem AR.O3 : Cm AR.T25.2 AR.B25 = true := by kernel_rfl
set_option maxHeartbeats 8000000 in
set_option maxRecDepth 100000 in
theorem AR.calls (k : Nat) (bE : Int) (cE : Int) (dE : ByteArray) (hE : Option Addr) (kE : Nat) (wD : List ByteArray) (jE : Option Addr) (lE : Nat) (xD : List (S26)) (pD : Int) (qD : Int) (fE : Option Addr) (gE : Nat) (xC : List Int) (bB : Nat → Prop) (oD : Option Addr) (rD : Nat) (oB : List (S30)) (cB : Nat → Prop) (jD : Option Addr) (wC : Nat) (W : List (S63)) (a2 : Int) (cC : Nat → Prop) (A3 : Option Addr) (c3 : Nat) (l3 : List (S30)) (A4 : Option Addr) (c4 : Nat) (l4 : List Int) (a5 : Bool) (r1 : Int) (r2 : Int) (r3 : List Int) (r4 : List (S30)) (r5 : List (S63)) (r6 : Int) (w : World) (hG : D9 w) (sO : Kd.C Kd.string w hE wD.length wD) (oO : wD.length ≤ kE) (tO : Kd.C k26 w jE xD.length xD) (pO : xD.length ≤ lE) (uO : Kd.C (Kd.int .u8) w fE xC.length xC) (qO : xC.length ≤ gE) (yR : Kd.V k30 30 w w.heap.size (fun a => bB a) (.slice oD oB.length rD) oB) (zR : Kd.V k63 63 w w.heap.size (fun a => cB a) (.slice jD W.length wC) W) (z1 : Kd.V k30 30 w w.heap.size (fun a => cC a) (.slice A3 l3.length c3) l3) (wV : Kd.C (Kd.int .i64) w A4 l4.length l4) (vV : l4.length ≤ c4) (h : AR.f k bE cE dE wD xD pD qD xC oB W a2 l3 l4 a5 = some (r1, r2, r3, r4, r5, r6)) :
  Calls Try.prog 38 #[.agg #[.int .i64 bE, .int .i64 cE, .string dE, .slice hE wD.length kE, .slice jE xD.length lE], .agg #[.int .i64 pD, .int .i64 qD, .slice fE xC.length gE, .slice oD oB.length rD, .slice jD W.length wC], .int .i64 a2, .slice A3 l3.length c3, .slice A4 l4.length c4, .bool a5] w fun e w' => ∃ bQ uW kS : Value, e = .returned (.tuple #[.agg #[.int .i64 r1, .int .i64 r2, bQ, uW, kS], .int .i64 r6]) ∧ Kd.R (Kd.int .u8) 73 w' w.heap.size (fun a => (w.heap.size ≤ a)) bQ r3 ∧ Kd.V k30 30 w' w.heap.size (fun a => ((bB a ∨ cB a ∨ cC a) ∨ w.heap.size ≤ a) ∧ some a ≠ (bQ : Value).ownBlock ∧ some a ≠ (kS : Value).ownBlock) uW r4 ∧ Kd.N k63 63 w' w.heap.size (fun a => ((bB a ∨ cB a ∨ cC a) ∨ w.heap.size ≤ a) ∧ some a ≠ (bQ : Value).ownBlock) kS r5 ∧ Below w.heap.size w w' := by
 have HG := mk0 hG; clear hG
 have b3 := Try.underlying26
 have e3 := Try.underlying33
 have d3 := Try.underlying30
 have g3 := Try.underlying63
 have aM := mk0 sO; have xL := mk0 oO; clear sO oO; have bM := mk0 tO; have yL := mk0 pO; clear tO pO; have zJ := mk0 uO; have xJ := mk0 qO; clear uO qO
 have mE := mk0 (show Kd.V k30 30 w w.heap.size (fun a => ((bB a ∨ cB a ∨ cC a) ∨ w.heap.size ≤ a)) (.slice oD oB.length rD) oB from Kd.AJ yR (fun a d => .inl (.inl d)))
 have nE := mk0 (show Kd.V k63 63 w w.heap.size (fun a => ((bB a ∨ cB a ∨ cC a) ∨ w.heap.size ≤ a)) (.slice jD W.length wC) W from Kd.AJ zR (fun a d => .inl (.inr (.inl d))))
 have zG := mk0 (show Kd.V k30 30 w w.heap.size (fun a => ((bB a ∨ cB a ∨ cC a) ∨ w.heap.size ≤ a)) (.slice A3 l3.length c3) l3 from Kd.AJ z1 (fun a d => .inl (.inr (.inr d))))
 have iR := mk0 wV; have aV := mk0 vV; clear wV vV
 have HB := mk0 (Below.refl w.heap.size w)
 have H := h; unfold AR.f at H
 clear h
 replace H := bS H; obtain ⟨n3, A7, H⟩ := H
 replace H := iB' H; obtain ⟨rfl, H⟩ | ⟨rfl, H⟩ := H
 ·exact absurd H (by simp)
 by_cases c9 : a2 < 0
 ·rw [if_pos c9] at H
  exact absurd H (by simp)
 rw [if_neg c9] at H; have eQ : decide (a2 < 0) = false := decide_eq_false c9; clear c9
 by_cases c10 : a2 > 1000000
 ·rw [if_pos c10] at H
  exact absurd H (by simp)
 rw [if_neg c10] at H; have yN : decide (1000000 < a2) = false := decide_eq_false c10; clear c10
 by_cases c11 : (l3.length : Int) < 1
 ·rw [if_pos c11] at H
  exact absurd H (by simp)
 rw [if_neg c11] at H; have zN : decide ((l3.length : Int) < 1) = false := decide_eq_false c11
 have bO : decide (l3.length < 1) = false := decide_eq_false (by omega)
 clear c11
 by_cases c12 : (l3.length : Int) > 64
 ·rw [if_pos c12] at H
  exact absurd H (by simp)
 rw [if_neg c12] at H; have cO : decide (64 < (l3.length : Int)) = false := decide_eq_false c12
 have dO : decide (64 < l3.length) = false := decide_eq_false (by omega)
 clear c12
 by_cases c13 : (l4.length : Int) = (l3.length : Int)
 rotate_left
 ·rw [if_neg c13] at H
  exact absurd H (by simp)
 rw [if_pos c13] at H
 have eO : ((l4.length : Int) == (l3.length : Int)) = true := beq_iff_eq.mpr c13
 have fO : ((l4.length : Int) != (l3.length : Int)) = false := bne_eq_false_iff_eq.mpr c13
 have gO : (l4.length == l3.length) = true := by first | simpa using c13 | (simp at c13 ⊢; omega)
 clear c13
 replace H := bS H; obtain ⟨t218, oY, H⟩ := H
 replace H := iB' H; obtain ⟨rfl, H⟩ | ⟨rfl, H⟩ := H
 ·exact absurd H (by simp)
 have H' := mk0 H
 clear H
 go_enter Try.func38, Try.ntmps38
 go_wp2_with (first | ((with_reducible refine AC rfl (N := 6) rfl (cs := #[.int .i64 bE, .int .i64 cE, .string dE, .slice hE wD.length kE, .slice jE xD.length lE]) (t := 26) ?hr ?_); (case hr => first | (go_simp; done) | (go_simp; rfl)); intro I hg q4 uD hb; obtain ⟨mE, nE, zG⟩ := tg3 hg hb mE nE zG; have u := mk0 (uD); have U := bs (be HB) hg; replace HB := kh HB hb; clear hb uD hg) | ((with_reducible refine AC rfl (N := 7) rfl (cs := #[.int .i64 pD, .int .i64 qD, .slice fE xC.length gE, .slice oD oB.length rD, .slice jD W.length wC]) (t := 33) ?hr ?_); (case hr => first | (go_simp; done) | (go_simp; rfl)); intro D hg y4 uD hb; obtain ⟨mE, nE, zG⟩ := tg3 hg hb mE nE zG; have l := mk0 (uD); have X := bs (be1 HB U) hg; replace HB := kh1 HB U hb; have ⟨iG, lG⟩ := nn u hg; replace u := kb u hb; clear hb uD hg) | ((with_reducible refine AC rfl (N := 8) rfl (cs := #[.int .i64 a2]) (t := 3) ?hr ?_); (case hr => first | (go_simp; done) | (go_simp; rfl)); intro J hg b5 uD hb; obtain ⟨mE, nE, zG⟩ := tg3 hg hb mE nE zG; have x := mk0 (uD); have Y := bs (be2 HB U X) hg; replace HB := kh2 HB U X hb; have ⟨jG, nG⟩ := nn u hg; have ⟨yH, cI⟩ := nn l hg; obtain ⟨u, l⟩ := tb2 hb u l; clear hb uD hg) | ((with_reducible refine AC rfl (N := 10) rfl (cs := #[.slice A4 l4.length c4]) (t := 38) ?hr ?_); (case hr => first | (go_simp; done) | (go_simp; rfl)); intro O hg d5 uD hb; obtain ⟨mE, nE, zG⟩ := tg3 hg hb mE nE zG; have z := mk0 (uD); have Z := bs (be3 HB U X Y) hg; replace HB := kh3 HB U X Y hb; have ⟨vH, gI⟩ := nn u hg; have ⟨zH, hI⟩ := nn l hg; have ⟨dI, iI⟩ := nn x hg; obtain ⟨u, l, x⟩ := tb3 hb u l x; clear hb uD hg) | ((with_reducible refine AC rfl (N := 12) rfl (cs := #[.int .i64 0, .int .i64 0, .slice none 0 0, .slice none 0 0, .slice none 0 0]) (t := 33) ?hr ?_); (case hr => first | (go_simp; done) | (go_simp; rfl)); intro G hg e5 uD hb; obtain ⟨mE, nE, zG⟩ := tg3 hg hb mE nE zG; have B := mk0 (uD); have dB := bs (be4 HB U X Y Z) hg; replace HB := kh4 HB U X Y Z hb; have ⟨kG, pG⟩ := nn u hg; have ⟨mG, qG⟩ := nn l hg; have ⟨oG, rG⟩ := nn x hg; have ⟨jI, mI⟩ := nn z hg; obtain ⟨u, l, x, z⟩ := tb4 hb u l x z; clear hb uD hg; have ⟨qZ, qA⟩ := no iG lG; have ⟨rZ, rA⟩ := no jG nG; have ⟨sZ, sA⟩ := no vH gI; have ⟨tZ, tA⟩ := no kG pG; have y3 := cells5 u.out; have ⟨uZ, uA⟩ := no yH cI; have ⟨vZ, vA⟩ := no zH hI; have ⟨wZ, wA⟩ := no mG qG; have b4 := cells5 l.out) | ((with_reducible refine AO (f := 19) rfl ?_); refine CU Try.func19 (BO.calls k bE cE dE _ _ wD _ _ xD pD qD _ _ xC _ _ oB _ _ W true _ (Aj HG.out (be5 HB U X Y Z dB)) (cu aM HB) xL.out (cu bM HB) yL.out (cu zJ HB) xJ.out (DY (Kd.AP mE.out).2.2) ((Kd.AP mE.out).2.1) (DY (Kd.AP nE.out).2.2) ((Kd.AP nE.out).2.1) A7.out) ?_; intro xW hb; replace mE := vb mE hb; replace nE := vb nE hb; replace zG := vb zG hb; obtain ⟨u, l, x, z, B⟩ := tb5 hb u l x z B; replace HB := kh5 HB U X Y Z dB hb; have ⟨xZ, xA⟩ := no dI iI; have ⟨yZ, yA⟩ := no oG rG; have eJ : xW.cell? ⟨J, 0, none⟩ = some (.int .i64 a2) := bc x 0; have gJ := Am x.out 0; have ⟨zZ, zA⟩ := no jI mI; have fJ : xW.cell? ⟨O, 0, none⟩ = some (.slice A4 l4.length c4) := bc z 0; have hJ := Am z.out 0) | (go_at_call 59; refine (Ci.calls (cu iR HB) aV.out oY.out).mono ?_; rintro e w' ⟨rfl, ⟨nd, rfl⟩⟩))
 go_loopg [58] k (fun kq v58 w' => ∃ (eE : Int) (yB : Int) (zB : Int), v58 = .int .i64 eE ∧ Aside0 (AR.l0 kq a2 l3 l4 a5 l3 (l3.length : Int) eE bE cE dE wD xD pD qD xC oB W a2 l4 = some (r1, r2, r3, r4, r5, r6)) ∧ Aside0 (kq ≤ k) ∧ Aside0 (Kd.V k30 30 w' w.heap.size (fun a => ((bB a ∨ cB a ∨ cC a) ∨ w.heap.size ≤ a) ∧ a ≠ I ∧ a ≠ D ∧ a ≠ J ∧ a ≠ O ∧ a ≠ G) (.slice A3 l3.length c3) l3) ∧ Aside0 (Kd.V k30 30 w' w.heap.size (fun a => ((bB a ∨ cB a ∨ cC a) ∨ w.heap.size ≤ a) ∧ a ≠ I ∧ a ≠ D ∧ a ≠ J ∧ a ≠ O ∧ a ≠ G) (.slice A3 l3.length c3) l3) ∧ Aside0 (Kd.V k30 30 w' w.heap.size (fun a => ((bB a ∨ cB a ∨ cC a) ∨ w.heap.size ≤ a) ∧ a ≠ I ∧ a ≠ D ∧ a ≠ J ∧ a ≠ O ∧ a ≠ G) (.slice oD oB.length rD) oB) ∧ Aside0 (Kd.V k63 63 w' w.heap.size (fun a => ((bB a ∨ cB a ∨ cC a) ∨ w.heap.size ≤ a) ∧ a ≠ I ∧ a ≠ D ∧ a ≠ J ∧ a ≠ O ∧ a ≠ G) (.slice jD W.length wC) W) ∧ Aside0 (w'.heap[I]? = some (.cells #[.int .i64 bE, .int .i64 cE, .string dE, (.slice hE wD.length kE), (.slice jE xD.length lE)] 26 (0, 0))) ∧ Aside0 (w'.heap[D]? = some (.cells #[.int .i64 pD, .int .i64 qD, (.slice fE xC.length gE), (.slice oD oB.length rD), (.slice jD W.length wC)] 33 (0, 0))) ∧ Aside0 (w'.heap[J]? = some (.cells #[.int .i64 a2] 3 (0, 0))) ∧ Aside0 (w'.heap[O]? = some (.cells #[(.slice A4 l4.length c4)] 38 (0, 0))) ∧ Aside0 (w'.heap[G]? = some (.cells #[.int .i64 yB, .int .i64 zB, (.slice none 0 0), (.slice none 0 0), (.slice none 0 0)] 33 (0, 0))) ∧ Aside0 (Below w.heap.size w w'))
 case atStart => exact ⟨(0), (0), (0), rfl, H', ⟨Nat.le_refl _⟩, ⟨Ay (Kd.AJ zG.out (fun _ d => ⟨d.1.1.1.1.1, ⟨d.1.1.1.1.2, ⟨d.1.1.1.2, ⟨d.1.1.2, ⟨d.1.2, d.2⟩⟩⟩⟩⟩))⟩, ⟨Ay (Kd.AJ zG.out (fun _ d => ⟨d.1.1.1.1.1, ⟨d.1.1.1.1.2, ⟨d.1.1.1.2, ⟨d.1.1.2, ⟨d.1.2, d.2⟩⟩⟩⟩⟩))⟩, ⟨Ay (Kd.AJ mE.out (fun _ d => ⟨d.1.1.1.1.1, ⟨d.1.1.1.1.2, ⟨d.1.1.1.2, ⟨d.1.1.2, ⟨d.1.2, d.2⟩⟩⟩⟩⟩))⟩, ⟨Ay (Kd.AJ nE.out (fun _ d => ⟨d.1.1.1.1.1, ⟨d.1.1.1.1.2, ⟨d.1.1.1.2, ⟨d.1.1.2, ⟨d.1.2, d.2⟩⟩⟩⟩⟩))⟩, ⟨bu u⟩, ⟨bu l⟩, ⟨bu x⟩, ⟨bu z⟩, ⟨bu B⟩, ⟨be5 HB U X Y Z dB⟩⟩
 case round =>
  clear H'
  try clear c3; try clear c4; try clear c9; try clear eQ; try clear c10; try clear yN; try clear c11; try clear zN; try clear bO; try clear c12; try clear cO; try clear dO; try clear c13; try clear eO; try clear fO; try clear gO; try clear eJ; try clear gJ; try clear fJ; try clear hJ
  obtain ⟨eE, yB, zB, rfl, HA, zL, hB, uE, m, b, u, l, x, z, B, HB⟩ := hrel
  cases gk with
  | zero => exact absurd HA.out (by simp [AR.l0])
  | succ k1 =>
   have H := HA.out; clear HA
   simp only [AR.l0] at H
   replace H := iD H; obtain ⟨-, hO, H⟩ | ⟨-, hO, H⟩ := H
   ·replace H := iN H; obtain ⟨-, wY, H⟩ := H
    replace H := iN H; obtain ⟨-, xY, H⟩ := H
    replace H := bS H; obtain ⟨o3, pY, H⟩ := H
    replace H := iB' H; obtain ⟨rfl, H⟩ | ⟨rfl, H⟩ := H
    ·exact absurd H (by simp)
    have H' := mk0 H
    clear H
    have cN : 0 ≤ (eE : Int) := od
    have gN : eE < (l3.length : Int) := od
    obtain ⟨vY, nM, tM, oM, uM, fV, xV, yV, wO, xO, bL, sK, cL, tK⟩ := Dv (Kd.AP uE.out).2.2 eE cN gN
    cases fV
    obtain ⟨kZ, wP, sP, aK⟩ := Kd.FM uE.out z30 eE cN (by first | exact gN | exact of_decide_eq_true (by assumption) | (have e_ := (Kd.AP uE.out).1; omega))
    obtain ⟨eW, mW, fW, nW, rfl, mJ, wI, nJ, xI⟩ := Ew sP
    have cH := aK 2 _ rfl
    rw [Ba _ _ 2 (by omega)] at cH
    replace cH := Option.some.inj (cH.symm.trans wO)
    injection cH with hva_ hvn_ hvc_
    rw [hva_] at wI
    rw [hvc_] at mJ
    have gF := mk0 (show Kd.V (Kd.int .u8) 73 _ w.heap.size _ _ ((AB l3 eE).f2) from Kd.DN mJ wI)
    clear hva_ hvn_ hvc_ wI mJ
    have dH := aK 3 _ rfl
    rw [Ba _ _ 3 (by omega)] at dH
    replace dH := Option.some.inj (dH.symm.trans xO)
    injection dH with hva_ hvn_ hvc_
    rw [hva_] at xI
    rw [hvc_] at nJ
    have hF := mk0 (show Kd.V k30 30 _ w.heap.size _ _ ((AB l3 eE).f3) from Kd.DN nJ xI)
    clear hva_ hvn_ hvc_ xI nJ; clear aK wP; have tH := mk0 sK; have oN := mk0 bL; clear sK bL; have uH := mk0 tK; have pN := mk0 cL; clear tK cL; replace cN := eq_true cN; replace gN := eq_true gN
    go_wp2_with (first | ((with_reducible refine AC rfl (N := 15) rfl (cs := #[.int .i64 0, .int .i64 0, .slice none 0 0, .slice none 0 0]) (t := 30) ?hr ?_); (case hr => first | (go_simp; done) | (go_simp; rfl)); intro wE hg f5 uD hb; obtain ⟨hB, uE, m, b, gF, hF⟩ := tg6 hg hb hB uE m b gF hF; obtain ⟨tH, uH⟩ := tb2 hb tH uH; have uL := mk0 (uD); have sH := bs (be5 HB U X Y Z dB) hg; replace HB := kh5 HB U X Y Z dB hb; have ⟨wH, cM⟩ := nn u hg; have ⟨aI, dM⟩ := nn l hg; have ⟨eI, eM⟩ := nn x hg; have ⟨kI, fM⟩ := nn z hg; have ⟨oI, gM⟩ := nn B hg; obtain ⟨u, l, x, z, B⟩ := tb5 hb u l x z B; clear hb uD hg; have ⟨aA, b0⟩ := no cM wH; have ⟨bA, d0⟩ := no dM aI; have ⟨cA, e0⟩ := no eM eI; have ⟨dA, g0⟩ := no fM kI; have ⟨eA, m0⟩ := no gM oI; have d4 := AZ uL.out; have ⟨fA, n0⟩ := no iG lG; have ⟨gA, o0⟩ := no jG nG; have ⟨hA, p0⟩ := no vH gI; have ⟨iA, q0⟩ := no kG pG; have e4 := cells5 u.out) | ((with_reducible refine AO (f := 45) rfl ?_); refine GR Try.func45 #[.agg #[.int .i64 bE, .int .i64 cE, .string dE, .slice hE wD.length kE, .slice jE xD.length lE], .agg #[.int .i64 ((AB l3 eE).f0), .int .i64 ((AB l3 eE).f1), .slice nM ((AB l3 eE).f2).length tM, .slice oM ((AB l3 eE).f3).length uM]] ?_; (with_reducible refine (Bo.calls ?side9 ?side1 ?side2 ?side3 ?side4 ?side5 ?side6 ?side7 ?side8 pY.out).mono ?_); (case side1 => exact Kd.BA aM.out (be6 HB U X Y Z dB sH)); (case side2 => exact xL.out); (case side3 => exact Kd.BA bM.out (be6 HB U X Y Z dB sH)); (case side4 => exact yL.out); (case side5 => exact ((Kd.AP (by exact Ay ((vF (q := wE) gF (fun _ d => d.2))))).2.2)); (case side6 => exact oN.out); (case side7 => exact ((Kd.AP (by exact Ay ((vF (q := wE) hF (fun _ d => d.2))))).2.2)); (case side8 => exact pN.out); (case side9 => exact Aj HG.out (be6 HB U X Y Z dB sH)); rintro e g5 ⟨rfl, hb⟩; refine ⟨_, rfl, ?_⟩; replace hB := mk0 (Kd.BL (Ay ((vF (q := wE) hB (fun _ d => d.2)))) hb); replace uE := mk0 (Kd.BL (Ay ((vF (q := wE) uE (fun _ d => d.2)))) hb); replace m := mk0 (Kd.BL (Ay ((vF (q := wE) m (fun _ d => d.2)))) hb); replace b := mk0 (Kd.BL (Ay ((vF (q := wE) b (fun _ d => d.2)))) hb); replace u := kF wH u hb; replace l := kF aI l hb; replace x := kF eI x hb; replace z := kF kI z hb; replace B := kF oI B hb; replace tH := mk0 (Kd.BA ((Kd.AP (by exact Ay ((vF (q := wE) gF (fun _ d => d.2))))).2.2) hb); replace gF := mk0 (Kd.BL (Ay ((vF (q := wE) gF (fun _ d => d.2)))) hb); replace uH := mk0 (Kd.BA ((Kd.AP (by exact Ay ((vF (q := wE) hF (fun _ d => d.2))))).2.2) hb); replace hF := mk0 (Kd.BL (Ay ((vF (q := wE) hF (fun _ d => d.2)))) hb); replace uL := mk0 (AU (g := wE) (o := .cells #[.int .i64 ((AB l3 eE).f0), .int .i64 ((AB l3 eE).f1), .slice nM ((AB l3 eE).f2).length tM, .slice oM ((AB l3 eE).f3).length uM] 30 (0, 0)) (pB uL) hb); replace HB := kh6 HB U X Y Z dB sH hb))
    go_roundg k1
    case measure => have := zL.out; omega
    case rel => exact ⟨(wrap64 (eE + 1)), (yB), (zB), rfl, H', ⟨by have := zL.out; omega⟩, ⟨Ay (Kd.AJ hB.out (fun _ d => ⟨d.1.1, ⟨d.1.2.1, ⟨d.1.2.2.1, ⟨d.1.2.2.2.1, ⟨d.1.2.2.2.2.1, d.1.2.2.2.2.2⟩⟩⟩⟩⟩))⟩, ⟨Ay (Kd.AJ uE.out (fun _ d => ⟨d.1.1, ⟨d.1.2.1, ⟨d.1.2.2.1, ⟨d.1.2.2.2.1, ⟨d.1.2.2.2.2.1, d.1.2.2.2.2.2⟩⟩⟩⟩⟩))⟩, ⟨Ay (Kd.AJ m.out (fun _ d => ⟨d.1.1, ⟨d.1.2.1, ⟨d.1.2.2.1, ⟨d.1.2.2.2.1, ⟨d.1.2.2.2.2.1, d.1.2.2.2.2.2⟩⟩⟩⟩⟩))⟩, ⟨Ay (Kd.AJ b.out (fun _ d => ⟨d.1.1, ⟨d.1.2.1, ⟨d.1.2.2.1, ⟨d.1.2.2.2.1, ⟨d.1.2.2.2.2.1, d.1.2.2.2.2.2⟩⟩⟩⟩⟩))⟩, ⟨bu u⟩, ⟨bu l⟩, ⟨bu x⟩, ⟨bu z⟩, ⟨bu B⟩, ⟨be6 HB U X Y Z dB sH⟩⟩
   replace H := bS H; obtain ⟨t222, qY, H⟩ := H
   replace H := iB H; obtain ⟨rfl, H⟩ | ⟨rfl, H⟩ := H
   ·exact absurd H (by simp)
   replace H := bS H; obtain ⟨dW, rY, H⟩ := H
   replace H := iN H; obtain ⟨-, iO, H⟩ := H
   have vN := mk0 H; clear H; have ⟨jA, r0⟩ := no lG iG; have ⟨kA, y0⟩ := no yH cI; have ⟨lA, a1⟩ := no zH hI; have ⟨mA, b1⟩ := no mG qG
   have g4 := cells5 l.out
   have ⟨nA, d1⟩ := no nG jG; have ⟨oA, e1⟩ := no dI iI; have ⟨pA, i1⟩ := no oG rG
   have qK : wr.cell? ⟨J, 0, none⟩ = some (.int .i64 a2) := bc x 0
   have rK := Am x.out 0
   go_upto_if 82 with (first | ((with_reducible refine AO (f := 50) rfl ?_); refine CU Try.func50 (drivers_behind.calls pD qD _ _ xC _ _ oB _ _ W a2 false _ (cu zJ HB) xJ.out (DY (Kd.AP m.out).2.2) ((Kd.AP m.out).2.1) (DY (Kd.AP b.out).2.2) ((Kd.AP b.out).2.1) qY.out) ?_; intro i5 hb; replace hB := vb hB hb; replace uE := vb uE hb; replace m := vb m hb; replace b := vb b hb; obtain ⟨u, l, x, z, B⟩ := tb5 hb u l x z B; replace HB := kh5 HB U X Y Z dB hb; have j4 := cells5 l.out) | ((with_reducible refine AO (f := 60) rfl ?_); refine CU Try.func60 (Fy.calls _ _ W a2 _ _ l4 dW J O _ (DY (Kd.AP b.out).2.2) ((Kd.AP b.out).2.1) (cu iR HB) aV.out (bu x) (bu z) rY.out) ?_; intro j5 hb; replace hB := vb hB hb; replace uE := vb uE hb; replace m := vb m hb; replace b := vb b hb; obtain ⟨u, l, x, z, B⟩ := tb5 hb u l x z B; replace HB := kh5 HB U X Y Z dB hb; have m4 := cells5 l.out))
   (try simp only [Act.put, List.setIfInBounds_toArray, List.set_cons_zero, List.set_cons_succ])
   go_cut [17] (fun v17 wc => ∃ (kq : Nat) (qC : Int), v17 = .int .i64 qC ∧ Aside0 (AR.j2 kq l3 (W.length : Int) qC pD qD xC oB W a2 l4 = some (r1, r2, r3, r4, r5, r6)) ∧ Aside0 (kq ≤ k1) ∧ Aside0 (Kd.V k30 30 wc w.heap.size (fun a => ((bB a ∨ cB a ∨ cC a) ∨ w.heap.size ≤ a) ∧ a ≠ I ∧ a ≠ D ∧ a ≠ J ∧ a ≠ O ∧ a ≠ G) (.slice A3 l3.length c3) l3) ∧ Aside0 (Kd.V k30 30 wc w.heap.size (fun a => ((bB a ∨ cB a ∨ cC a) ∨ w.heap.size ≤ a) ∧ a ≠ I ∧ a ≠ D ∧ a ≠ J ∧ a ≠ O ∧ a ≠ G) (.slice oD oB.length rD) oB) ∧ Aside0 (Kd.V k63 63 wc w.heap.size (fun a => ((bB a ∨ cB a ∨ cC a) ∨ w.heap.size ≤ a) ∧ a ≠ I ∧ a ≠ D ∧ a ≠ J ∧ a ≠ O ∧ a ≠ G) (.slice jD W.length wC) W) ∧ Aside0 (wc.heap[I]? = some (.cells #[.int .i64 bE, .int .i64 cE, .string dE, (.slice hE wD.length kE), (.slice jE xD.length lE)] 26 (0, 0))) ∧ Aside0 (wc.heap[D]? = some (.cells #[.int .i64 pD, .int .i64 qD, (.slice fE xC.length gE), (.slice oD oB.length rD), (.slice jD W.length wC)] 33 (0, 0))) ∧ Aside0 (wc.heap[J]? = some (.cells #[.int .i64 a2] 3 (0, 0))) ∧ Aside0 (wc.heap[O]? = some (.cells #[(.slice A4 l4.length c4)] 38 (0, 0))) ∧ Aside0 (wc.heap[G]? = some (.cells #[.int .i64 yB, .int .i64 zB, (.slice none 0 0), (.slice none 0 0), (.slice none 0 0)] 33 (0, 0))) ∧ Aside0 (Below w.heap.size w wc))
   case first =>
    have H := vN.out; clear vN
    replace H := iB H; obtain ⟨rfl, H⟩ | ⟨rfl, H⟩ := H
    ·have H' := mk0 H
     clear H
     go_wp2
     go_meet
     case rel => exact ⟨_, (0), rfl, H', ⟨by have := zL.out; omega⟩, ⟨CK hB.out⟩, ⟨CK m.out⟩, ⟨CK b.out⟩, ⟨bu u⟩, ⟨bu l⟩, ⟨bu x⟩, ⟨bu z⟩, ⟨bu B⟩, ⟨be5 HB U X Y Z dB⟩⟩
    have H' := mk0 H
    clear H
    go_wp2
    go_loopg [17] k1 (fun kq v17 w' => ∃ (xE : Int), v17 = .int .i64 xE ∧ Aside0 (AR.l1 kq l3 (W.length : Int) xE bE cE dE wD xD pD qD xC oB W a2 l4 = some (r1, r2, r3, r4, r5, r6)) ∧ Aside0 (kq ≤ k1) ∧ Aside0 (Kd.V k30 30 w' w.heap.size (fun a => ((bB a ∨ cB a ∨ cC a) ∨ w.heap.size ≤ a) ∧ a ≠ I ∧ a ≠ D ∧ a ≠ J ∧ a ≠ O ∧ a ≠ G) (.slice A3 l3.length c3) l3) ∧ Aside0 (Kd.V k30 30 w' w.heap.size (fun a => ((bB a ∨ cB a ∨ cC a) ∨ w.heap.size ≤ a) ∧ a ≠ I ∧ a ≠ D ∧ a ≠ J ∧ a ≠ O ∧ a ≠ G) (.slice oD oB.length rD) oB) ∧ Aside0 (Kd.V k63 63 w' w.heap.size (fun a => ((bB a ∨ cB a ∨ cC a) ∨ w.heap.size ≤ a) ∧ a ≠ I ∧ a ≠ D ∧ a ≠ J ∧ a ≠ O ∧ a ≠ G) (.slice jD W.length wC) W) ∧ Aside0 (w'.heap[I]? = some (.cells #[.int .i64 bE, .int .i64 cE, .string dE, (.slice hE wD.length kE), (.slice jE xD.length lE)] 26 (0, 0))) ∧ Aside0 (w'.heap[D]? = some (.cells #[.int .i64 pD, .int .i64 qD, (.slice fE xC.length gE), (.slice oD oB.length rD), (.slice jD W.length wC)] 33 (0, 0))) ∧ Aside0 (w'.heap[J]? = some (.cells #[.int .i64 a2] 3 (0, 0))) ∧ Aside0 (w'.heap[O]? = some (.cells #[(.slice A4 l4.length c4)] 38 (0, 0))) ∧ Aside0 (w'.heap[G]? = some (.cells #[.int .i64 yB, .int .i64 zB, (.slice none 0 0), (.slice none 0 0), (.slice none 0 0)] 33 (0, 0))) ∧ Aside0 (Below w.heap.size w w'))
    case atStart => exact ⟨((W.length : Int)), rfl, H', ⟨Nat.le_refl _⟩, ⟨CK hB.out⟩, ⟨CK m.out⟩, ⟨CK b.out⟩, ⟨bu u⟩, ⟨bu l⟩, ⟨bu x⟩, ⟨bu z⟩, ⟨bu B⟩, ⟨be5 HB U X Y Z dB⟩⟩
    case round =>
     clear H'
     try clear c3; try clear c4; try clear c9; try clear eQ; try clear c10; try clear yN; try clear c11; try clear zN; try clear bO; try clear c12; try clear cO; try clear dO; try clear c13; try clear eO; try clear fO; try clear gO; try clear hO; try clear iO; try clear eJ; try clear gJ; try clear fJ; try clear hJ; try clear qK; try clear rK
     obtain ⟨xE, rfl, HA, bV, hB, m, b, u, l, x, z, B, HB⟩ := hrel
     cases gk with
     | zero => exact absurd HA.out (by simp [AR.l1])
     | succ k2 =>
      have H := HA.out; clear HA
      simp only [AR.l1] at H
      by_cases c73 : xE > 0
      rotate_left
      ·rw [if_neg c73] at H
       have uI : decide (0 < xE) = false := decide_eq_false c73; clear c73
       (first | rw [uI] | (simp only [CF, DV]; rw [uI]) | skip)
       have H' := mk0 H
       clear H
       try go_wp2
       have zC := mk0 (Kd.Bn hB.out)
       have aD := mk0 (Kd.Bn m.out)
       have bD := mk0 (Kd.Bn b.out)
       have cD := mk0 (AY u.out)
       have dD := mk0 (AY l.out)
       have eD := mk0 (AY x.out)
       have fD := mk0 (AY z.out)
       have gD := mk0 (AY B.out)
       have hD := mk0 (Aa HB.out)
       clear hB; clear m; clear b; clear u; clear l; clear x; clear z; clear B; clear HB; have hB := zC; have m := aD; have b := bD; have u := cD; have l := dD; have x := eD; have z := fD; have B := gD; have HB := hD; clear zC aD bD cD dD eD fD gD hD
       refine DL (n := 16) (S := fun w' => True) (ds := []) (tf 0 16) (by kernel_rfl) rfl rfl trivial (fun eB => ?_); refine CW AR.Og AR.NP (fun xB aH => ?_)
       generalize wr.drew = n5 at hB m b u l x z B HB eB ⊢
       refine pv 0 84 (tf 1 15) xB ?_
       refine pv 1 85 (tf 2 14) xB ?_
       refine pv 2 86 (tf 3 13) xB ?_
       refine pw 3 87 (tf 4 12) xB ?_
       refine pw 4 88 (tf 5 11) xB ?_
       refine pw 5 89 (tf 6 10) xB ?_
       refine pw 6 90 (tf 7 9) xB ?_
       refine pw 7 91 (tf 8 8) xB ?_
       refine pw 8 92 (tf 9 7) xB ?_
       refine pw 9 93 (tf 10 6) xB ?_
       refine pw 10 94 (tf 11 5) xB ?_
       refine pw 11 95 (tf 12 4) xB ?_
       refine pw 12 96 (tf 13 3) xB ?_
       refine pw 13 97 (tf 14 2) xB ?_
       refine pw 14 98 (tf 15 1) xB ?_
       refine pv 15 99 (tf 16 0) xB ?_
       refine EQ (De xB.out (by kernel_rfl)) ?_
       try go_wp2
       go_meet
       case rel => exact ⟨_, (xE), rfl, H', ⟨by have := zL.out; have := bV.out; first | omega | exact Nat.le_refl _⟩, ⟨CK hB.out⟩, ⟨CK m.out⟩, ⟨CK b.out⟩, ⟨bu u⟩, ⟨bu l⟩, ⟨bu x⟩, ⟨bu z⟩, ⟨bu B⟩, ⟨be5 HB U X Y Z dB⟩⟩
      rw [if_pos c73] at H; have uI : decide (0 < xE) = true := decide_eq_true c73; clear c73
      (first | rw [uI] | (simp only [CF, DV]; rw [uI]) | skip)
      obtain ⟨tD, eK⟩ : ∃ j_ : Int, (wrap64 (xE - 1)) = j_ := ⟨_, rfl⟩
      replace H : (if 0 ≤ (tD) then (if (tD) < (W.length : Int) then (if 0 < (l3.length : Int) then ((CP.f k2 bE cE dE wD xD ((AA W (tD)).f1.f0) ((AA W (tD)).f1.f1) ((AA W (tD)).f1.f2) ((AA W (tD)).f1.f3) ((AB l3 0).f0) ((AB l3 0).f1) ((AB l3 0).f2) ((AB l3 0).f3)).bind fun t226 => (if t226 = true then (none) else (AR.j2 k2 l3 (W.length : Int) xE pD qD xC oB W a2 l4))) else (none)) else (none)) else (none)) = some (r1, r2, r3, r4, r5, r6) := by first | (rw [eK] at H; exact H) | (simp only [eK] at H ⊢; exact H)
      have iX : (IntKind.i64.wrap (xE - 1)) = tD := (CF _).trans eK
      replace H := iN H; obtain ⟨-, yY, H⟩ := H
      replace H := iN H; obtain ⟨-, zY, H⟩ := H
      replace H := iN H; obtain ⟨aZ, bZ, H⟩ := H
      have cZ : decide (0 < l3.length) = true := decide_eq_true (by omega)
      clear aZ
      replace H := bS H; obtain ⟨t226, sY, H⟩ := H
      replace H := iB H; obtain ⟨rfl, H⟩ | ⟨rfl, H⟩ := H
      ·exact absurd H (by simp)
      have H' := mk0 H
      clear H
      try go_wp2
      have zC := mk0 (Kd.Bn hB.out)
      have aD := mk0 (Kd.Bn m.out)
      have bD := mk0 (Kd.Bn b.out)
      have cD := mk0 (AY u.out)
      have dD := mk0 (AY l.out)
      have eD := mk0 (AY x.out)
      have fD := mk0 (AY z.out)
      have gD := mk0 (AY B.out)
      have hD := mk0 (Aa HB.out)
      clear hB; clear m; clear b; clear u; clear l; clear x; clear z; clear B; clear HB; have hB := zC; have m := aD; have b := bD; have u := cD; have l := dD; have x := eD; have z := fD; have B := gD; have HB := hD; clear zC aD bD cD dD eD fD gD hD
      have dN : 0 ≤ ((tD) : Int) := od
      have hN : (tD) < (W.length : Int) := od
      obtain ⟨eF, pM, vM, qM, wM, gV, lL, mL, nL, iJ, jJ, dL, uK, eL, vK⟩ := Cg (Kd.AP b.out).2.2 (tD) dN hN
      cases gV
      obtain ⟨lZ, xP, tP, bK⟩ := Kd.FM b.out z63 (tD) dN (by first | exact hN | exact of_decide_eq_true (by assumption) | (have e_ := (Kd.AP b.out).1; omega))
      obtain ⟨gW, oW, hW, pW, rfl, oJ, yI, pJ, zI⟩ := Dy tP
      have eH := bK 3 _ rfl
      rw [Ba _ _ 3 (by omega)] at eH
      replace eH := Option.some.inj (eH.symm.trans iJ)
      injection eH with hva_ hvn_ hvc_
      rw [hva_] at yI
      rw [hvc_] at oJ
      have vG := mk0 (show Kd.V (Kd.int .u8) 73 _ w.heap.size _ _ ((AA W (tD)).f1.f2) from Kd.DN oJ yI)
      clear hva_ hvn_ hvc_ yI oJ
      have fH := bK 4 _ rfl
      rw [Ba _ _ 4 (by omega)] at fH
      replace fH := Option.some.inj (fH.symm.trans jJ)
      injection fH with hva_ hvn_ hvc_
      rw [hva_] at zI
      rw [hvc_] at pJ
      have wG := mk0 (show Kd.V k30 30 _ w.heap.size _ _ ((AA W (tD)).f1.f3) from Kd.DN pJ zI)
      clear hva_ hvn_ hvc_ zI pJ; clear bK xP; have jF := mk0 uK; have qN := mk0 dL; clear uK dL; have lF := mk0 vK; have rN := mk0 eL; clear vK eL; replace dN := eq_true dN; replace hN := eq_true hN
      have eN : 0 ≤ (0 : Int) := (by omega)
      have jN : 0 < (l3.length : Int) := od
      obtain ⟨tG, rM, xM, sM, yM, hV, aG, bG, qF, sF, fL, wK, gL, xK⟩ := Dv (Kd.AP hB.out).2.2 0 eN jN
      cases hV
      obtain ⟨mZ, yP, uP, cK⟩ := Kd.FM hB.out z30 0 eN (by first | exact jN | exact of_decide_eq_true (by assumption) | (have e_ := (Kd.AP hB.out).1; omega))
      obtain ⟨iW, qW, jW, rW, rfl, qJ, aJ, rJ, bJ⟩ := Ew uP
      have gH := cK 2 _ rfl
      rw [Ba _ _ 2 (by omega)] at gH
      replace gH := Option.some.inj (gH.symm.trans qF)
      injection gH with hva_ hvn_ hvc_
      rw [hva_] at aJ
      rw [hvc_] at qJ
      have xG := mk0 (show Kd.V (Kd.int .u8) 73 _ w.heap.size _ _ ((AB l3 0).f2) from Kd.DN qJ aJ)
      clear hva_ hvn_ hvc_ aJ qJ
      have hH := cK 3 _ rfl
      rw [Ba _ _ 3 (by omega)] at hH
      replace hH := Option.some.inj (hH.symm.trans sF)
      injection hH with hva_ hvn_ hvc_
      rw [hva_] at bJ
      rw [hvc_] at rJ
      have yG := mk0 (show Kd.V k30 30 _ w.heap.size _ _ ((AB l3 0).f3) from Kd.DN rJ bJ)
      clear hva_ hvn_ hvc_ bJ rJ; clear cK yP
      have d2 : (0 < l3.length) = True := eq_true (by omega)
      (try rw [show ((0 : Int)).toNat = 0 from rfl] at aG)
      (try rw [show 0 * 4 = 0 from rfl] at aG)
      (try rw [Addr.add_zero'] at aG)
      (try rw [show ((0 : Int)).toNat = 0 from rfl] at bG)
      (try rw [show 0 * 4 = 0 from rfl] at bG)
      (try rw [Addr.add_zero'] at bG)
      (try rw [show ((0 : Int)).toNat = 0 from rfl] at qF)
      (try rw [show 0 * 4 = 0 from rfl] at qF)
      (try rw [Addr.add_zero'] at qF)
      (try rw [show ((0 : Int)).toNat = 0 from rfl] at sF)
      (try rw [show 0 * 4 = 0 from rfl] at sF)
      (try rw [Addr.add_zero'] at sF)
      have mF := mk0 wK; have sN := mk0 fL; clear wK fL; have oF := mk0 xK; have tN := mk0 gL; clear xK gL; replace eN := eq_true eN; replace jN := eq_true jN
      refine DL (n := 16) (S := fun w' => w'.cell? ⟨I, 0, none⟩ = some (.int .i64 bE) ∧ w'.cell? ⟨I, 1, none⟩ = some (.int .i64 cE) ∧ w'.cell? ⟨I, 2, none⟩ = some (.string dE) ∧ w'.cell? ⟨I, 3, none⟩ = some (.slice hE wD.length kE) ∧ w'.cell? ⟨I, 4, none⟩ = some (.slice jE xD.length lE) ∧ w'.cell? ⟨D, 0, none⟩ = some (.int .i64 pD) ∧ w'.cell? ⟨D, 1, none⟩ = some (.int .i64 qD) ∧ w'.cell? ⟨D, 2, none⟩ = some (.slice fE xC.length gE) ∧ w'.cell? ⟨D, 3, none⟩ = some (.slice oD oB.length rD) ∧ w'.cell? ⟨D, 4, none⟩ = some (.slice (some eF) W.length wC) ∧ w'.cell? (eF.add (((tD)).toNat * 5)) = some (.int .i64 ((AA W (tD)).f0)) ∧ w'.cell? ⟨(eF.add (((tD)).toNat * 5)).block, (eF.add (((tD)).toNat * 5)).off + 1, none⟩ = some (.int .i64 ((AA W (tD)).f1.f0)) ∧ w'.cell? ⟨(eF.add (((tD)).toNat * 5)).block, (eF.add (((tD)).toNat * 5)).off + 2, none⟩ = some (.int .i64 ((AA W (tD)).f1.f1)) ∧ w'.cell? ⟨(eF.add (((tD)).toNat * 5)).block, (eF.add (((tD)).toNat * 5)).off + 3, none⟩ = some (.slice pM ((AA W (tD)).f1.f2).length vM) ∧ w'.cell? ⟨(eF.add (((tD)).toNat * 5)).block, (eF.add (((tD)).toNat * 5)).off + 4, none⟩ = some (.slice qM ((AA W (tD)).f1.f3).length wM) ∧ w'.cell? tG = some (.int .i64 ((AB l3 0).f0)) ∧ w'.cell? ⟨tG.block, tG.off + 1, none⟩ = some (.int .i64 ((AB l3 0).f1)) ∧ w'.cell? ⟨tG.block, tG.off + 2, none⟩ = some (.slice rM ((AB l3 0).f2).length xM) ∧ w'.cell? ⟨tG.block, tG.off + 3, none⟩ = some (.slice sM ((AB l3 0).f3).length yM)) (ds := []) (tf 0 16) (by kernel_rfl) rfl rfl ⟨bc u 0, bc u 1, bc u 2, bc u 3, bc u 4, bc l 0, bc l 1, bc l 2, bc l 3, bc l 4, lL, mL, nL, iJ, jJ, aG, bG, qF, sF⟩ (fun eB => ?_); refine CW AR.Og AR.NP (fun xB aH => ?_)
      generalize wr.drew = l5 at hB m b u l x z B HB vG wG xG yG jF lF mF oF lL mL nL iJ jJ aG bG qF sF eB ⊢
      refine pv 0 84 (tf 1 15) xB ?_
      refine pv 1 85 (tf 2 14) xB ?_
      refine pv 2 86 (tf 3 13) xB ?_
      refine pv 4 88 #[true, true, true, false, true, false, false, false, false, false, false, false, false, false, false, false] xB ?_
      refine pv 6 90 #[true, true, true, false, true, false, true, false, false, false, false, false, false, false, false, false] xB ?_
      refine pv 7 91 #[true, true, true, false, true, false, true, true, false, false, false, false, false, false, false, false] xB ?_
      refine pv 11 95 #[true, true, true, false, true, false, true, true, false, false, false, true, false, false, false, false] xB ?_
      refine pv 12 96 #[true, true, true, false, true, false, true, true, false, false, false, true, true, false, false, false] xB ?_
      refine Br (i := 3) (N := some 87) (v := ?_) (a' := ?_) #[true, true, true, true, true, false, true, true, false, false, false, true, true, false, false, false] rfl rfl (BB xB.out aH.out (by kernel_rfl)) (fun _ _ _ h => h) (Or.inl ⟨by rfl, ?_⟩) eB ?_ ?_
      rotate_left
      ·rintro w' ⟨s0, s1, s2, s3, s4, s5, s6, s7, s8, s9, qL, rL, dS, eS, fS, gS, hS, iS, jS⟩
       go_simp
       with_reducible rfl
      rotate_left
      ·simp only [ps]
       rfl
      refine Br (i := 5) (N := some 89) (v := ?_) (a' := ?_) #[true, true, true, true, true, true, true, true, false, false, false, true, true, false, false, false] rfl rfl (BB xB.out aH.out (by kernel_rfl)) (fun _ _ _ h => h) (Or.inl ⟨by rfl, ?_⟩) eB ?_ ?_
      rotate_left
      ·rintro w' ⟨s0, s1, s2, s3, s4, s5, s6, s7, s8, s9, qL, rL, dS, eS, fS, gS, hS, iS, jS⟩
       go_simp
       with_reducible rfl
      rotate_left
      ·simp only [ps]
       rfl
      refine pv 8 92 #[true, true, true, true, true, true, true, true, true, false, false, true, true, false, false, false] xB ?_
      refine pv 9 93 #[true, true, true, true, true, true, true, true, true, true, false, true, true, false, false, false] xB ?_
      refine Br (i := 10) (N := some 94) (v := ?_) (a' := ?_) (tf 13 3) rfl rfl (BB xB.out aH.out (by kernel_rfl)) (fun _ _ _ h => h) (Or.inl ⟨by rfl, ?_⟩) eB ?_ ?_
      rotate_left
      ·rintro w' ⟨s0, s1, s2, s3, s4, s5, s6, s7, s8, s9, qL, rL, dS, eS, fS, gS, hS, iS, jS⟩
       go_simp
       with_reducible rfl
      rotate_left
      ·simp only [ps]
       rfl
      refine Br (i := 13) (N := some 97) (v := ?_) (a' := ?_) (tf 14 2) rfl rfl (BB xB.out aH.out (by kernel_rfl)) (fun _ _ _ h => h) (Or.inl ⟨by rfl, ?_⟩) eB ?_ ?_
      rotate_left
      ·rintro w' ⟨s0, s1, s2, s3, s4, s5, s6, s7, s8, s9, qL, rL, dS, eS, fS, gS, hS, iS, jS⟩
       go_simp
       with_reducible rfl
      rotate_left
      ·simp only [ps]
       rfl
      refine Dh (i := 14) (N := some 98) (tf 15 1) rfl rfl (CO xB.out (by kernel_rfl)) (by decide) (fun K hK => ?_)
      refine DC Try.func56 (by kernel_rfl) rfl #[.agg #[.int .i64 bE, .int .i64 cE, .string dE, .slice hE wD.length kE, .slice jE xD.length lE], .agg #[.int .i64 ((AA W (tD)).f1.f0), .int .i64 ((AA W (tD)).f1.f1), .slice pM ((AA W (tD)).f1.f2).length vM, .slice qM ((AA W (tD)).f1.f3).length wM], .agg #[.int .i64 ((AB l3 0).f0), .int .i64 ((AB l3 0).f1), .slice rM ((AB l3 0).f2).length xM, .slice sM ((AB l3 0).f3).length yM]] (by rfl) rfl rfl (by (try simp only [List.map_toArray, List.map_cons, List.map_nil]); first | done | (simp only [eK]; rfl) | rfl | (simp only [List.length_drop, List.length_take]; rfl)) ?_
      with_reducible refine (CP.calls ?side13 ?side1 ?side2 ?side3 ?side4 ?side5 ?side6 ?side7 ?side8 ?side9 ?side10 ?side11 ?side12 sY.out).mono ?_
      (case side1 => exact cu aM HB)
      (case side2 => exact xL.out)
      (case side3 => exact cu bM HB)
      (case side4 => exact yL.out)
      (case side5 => repeat (first | exact (by repeat (first | (with_reducible exact jF.out) | (with_reducible refine Kd.Cn ?_ _) | (with_reducible refine Kd.Co ?_ _) | (with_reducible refine Kd.Cv ?_) | exact jF.out)) | (with_reducible refine Kd.Cn ?_ _) | (with_reducible refine Kd.Co ?_ _) | (with_reducible refine Kd.Cv ?_)))
      (case side6 => exact qN.out)
      (case side7 => repeat (first | exact (by repeat (first | (with_reducible exact lF.out) | (with_reducible refine Kd.Cn ?_ _) | (with_reducible refine Kd.Co ?_ _) | (with_reducible refine Kd.Cv ?_) | exact lF.out)) | (with_reducible refine Kd.Cn ?_ _) | (with_reducible refine Kd.Co ?_ _) | (with_reducible refine Kd.Cv ?_)))
      (case side8 => exact rN.out)
      (case side9 => repeat (first | exact (by repeat (first | (with_reducible exact mF.out) | (with_reducible refine Kd.Cn ?_ _) | (with_reducible refine Kd.Co ?_ _) | (with_reducible refine Kd.Cv ?_) | exact mF.out)) | (with_reducible refine Kd.Cn ?_ _) | (with_reducible refine Kd.Co ?_ _) | (with_reducible refine Kd.Cv ?_)))
      (case side10 => exact sN.out)
      (case side11 => repeat (first | exact (by repeat (first | (with_reducible exact oF.out) | (with_reducible refine Kd.Cn ?_ _) | (with_reducible refine Kd.Co ?_ _) | (with_reducible refine Kd.Cv ?_) | exact oF.out)) | (with_reducible refine Kd.Cn ?_ _) | (with_reducible refine Kd.Co ?_ _) | (with_reducible refine Kd.Cv ?_)))
      (case side12 => exact tN.out)
      (case side13 => exact Aj HG.out (be5 HB U X Y Z dB))
      rintro e m5 ⟨rfl, hb⟩
      have jR := (hb.cell (World.block_lt_of_cell? _ _ (eB.2.2.2.2.2.2.2.2.2.2.1))).trans (eB.2.2.2.2.2.2.2.2.2.2.1)
      have kR := (hb.cell (World.block_lt_of_cell? _ _ (eB.2.2.2.2.2.2.2.2.2.2.2.1))).trans (eB.2.2.2.2.2.2.2.2.2.2.2.1)
      have lR := (hb.cell (World.block_lt_of_cell? _ _ (eB.2.2.2.2.2.2.2.2.2.2.2.2.1))).trans (eB.2.2.2.2.2.2.2.2.2.2.2.2.1)
      have mR := (hb.cell (World.block_lt_of_cell? _ _ (eB.2.2.2.2.2.2.2.2.2.2.2.2.2.1))).trans (eB.2.2.2.2.2.2.2.2.2.2.2.2.2.1)
      have nR := (hb.cell (World.block_lt_of_cell? _ _ (eB.2.2.2.2.2.2.2.2.2.2.2.2.2.2.1))).trans (eB.2.2.2.2.2.2.2.2.2.2.2.2.2.2.1)
      have oR := (hb.cell (World.block_lt_of_cell? _ _ (eB.2.2.2.2.2.2.2.2.2.2.2.2.2.2.2.1))).trans (eB.2.2.2.2.2.2.2.2.2.2.2.2.2.2.2.1)
      have pR := (hb.cell (World.block_lt_of_cell? _ _ (eB.2.2.2.2.2.2.2.2.2.2.2.2.2.2.2.2.1))).trans (eB.2.2.2.2.2.2.2.2.2.2.2.2.2.2.2.2.1)
      have qR := (hb.cell (World.block_lt_of_cell? _ _ (eB.2.2.2.2.2.2.2.2.2.2.2.2.2.2.2.2.2.1))).trans (eB.2.2.2.2.2.2.2.2.2.2.2.2.2.2.2.2.2.1)
      have rR := (hb.cell (World.block_lt_of_cell? _ _ (eB.2.2.2.2.2.2.2.2.2.2.2.2.2.2.2.2.2.2))).trans (eB.2.2.2.2.2.2.2.2.2.2.2.2.2.2.2.2.2.2)
      refine ⟨_, rfl, ?_⟩
      have zC := vb hB hb
      have aD := vb m hb
      have bD := vb b hb
      have cD := vb vG hb
      have dD := vb wG hb
      have eD := vb xG hb
      have fD := vb yG hb
      have gD := kb u hb
      have hD := kb l hb
      have yD := kb x hb
      have dC := kb z hb
      have eC := kb B hb
      have nC := cb jF hb
      have mD := cb lF hb
      have zD := cb mF hb
      have aE := cb oF hb
      have oE := kh5 HB U X Y Z dB hb
      clear hB; clear m; clear b; clear vG; clear wG; clear xG; clear yG; clear u; clear l; clear x; clear z; clear B; clear jF; clear lF; clear mF; clear oF; clear HB; have hB := zC; have m := aD; have b := bD; have vG := cD; have wG := dD; have xG := eD; have yG := fD; have u := gD; have l := hD; have x := yD; have z := dC; have B := eC; have jF := nC; have lF := mD; have mF := zD; have oF := aE; have HB := oE; clear zC aD bD cD dD eD fD gD hD yD dC eC nC mD zD aE oE
      try clear hb
      try clear d
      refine hK.out _ _ ⟨bc u 0, bc u 1, bc u 2, bc u 3, bc u 4, bc l 0, bc l 1, bc l 2, bc l 3, bc l 4, jR, kR, lR, mR, nR, oR, pR, qR, rR⟩ (fun eB => ?_)
      clear hK K
      refine CQ (a' := ?_) ?_ ?_
      rotate_left
      ·show Act.put _ (some 98) _ = _
       simp only [ps]
       rfl
      refine pv 15 99 (tf 16 0) xB ?_
      refine EQ (De xB.out (by kernel_rfl)) ?_
      try go_wp2
      go_meet
      case rel => exact ⟨_, (xE), rfl, H', ⟨by have := zL.out; have := bV.out; first | omega | exact Nat.le_refl _⟩, ⟨CK hB.out⟩, ⟨CK m.out⟩, ⟨CK b.out⟩, ⟨bu u⟩, ⟨bu l⟩, ⟨bu x⟩, ⟨bu z⟩, ⟨bu B⟩, ⟨be5 HB U X Y Z dB⟩⟩
   case rest =>
    clear vN; try clear c4; try clear iO; try clear eJ; try clear gJ; try clear fJ; try clear hJ; try clear qK; try clear rK
    obtain ⟨kq, qC, rfl, HA, dQ, hB, m, b, u, l, x, z, B, HB⟩ := hcut
    cases kq with
    | zero => exact absurd HA.out (by simp [AR.j2])
    | succ lH =>
     have H := HA.out; clear HA
     simp only [AR.j2] at H
     by_cases c83 : (wrap64 ((wrap64 ((W.length : Int) - qC)) + (l3.length : Int))) > 64
     ·rw [if_pos c83] at H
      exact absurd H (by simp)
     rw [if_neg c83] at H; have dZ : decide (64 < (wrap64 ((wrap64 ((W.length : Int) - qC)) + (l3.length : Int)))) = false := decide_eq_false c83; clear c83
     replace H := Option.bind_eq_some_iff.mp H
     obtain ⟨⟨t227, t228, t229, t232⟩, cQ, H⟩ := H
     replace H : (if 0 ≤ qC then (if qC ≤ (W.length : Int) then (if (W.length : Int) ≤ (W.length : Int) then ((Bg.f lH ((W.take ((W.length : Int) : Int).toNat).drop (qC : Int).toNat)).bind fun cF => (AR.l2 lH l3 (l3.length : Int) 0 a2 l4 t227 t228 t229 t232 cF)) else (none)) else (none)) else (none)) = some (r1, r2, r3, r4, r5, r6) := H
     have wU := mk0 cQ; clear cQ
     by_cases c85 : 0 ≤ qC
     rotate_left
     ·rw [if_neg c85] at H
      exact absurd H (by simp)
     rw [if_pos c85] at H; have eZ := eq_true c85; have fZ : decide (0 ≤ qC) = true := decide_eq_true c85; clear c85
     by_cases c86 : qC ≤ (W.length : Int)
     rotate_left
     ·rw [if_neg c86] at H
      exact absurd H (by simp)
     rw [if_pos c86] at H; have gZ := eq_true c86; have hZ : decide (qC ≤ (W.length : Int)) = true := decide_eq_true c86; clear c86
     by_cases c87 : (W.length : Int) ≤ (W.length : Int)
     rotate_left
     ·rw [if_neg c87] at H
      exact absurd H (by simp)
     rw [if_pos c87] at H; have iZ := eq_true c87; have jZ : decide ((W.length : Int) ≤ (W.length : Int)) = true := decide_eq_true c87; clear c87
     obtain ⟨sE, kJ⟩ : ∃ y_ : List (S63), y_ = ((W.take ((W.length : Int) : Int).toNat).drop (qC : Int).toNat) := ⟨_, rfl⟩
     replace H : ((Bg.f lH sE).bind fun cF => (AR.l2 lH l3 (l3.length : Int) 0 a2 l4 t227 t228 t229 t232 cF)) = some (r1, r2, r3, r4, r5, r6) := by first | (rw [kJ]; with_reducible exact H) | (have vL := (Option.bind_some _ _).symm.trans H; rw [kJ]; with_reducible exact vL) | (have vL := (Option.bind_some _ _).symm.trans H; with_reducible exact vL) | with_reducible exact H | (rw [kJ]; exact H) | exact H
     have xN := mk0 kJ; clear kJ
     replace H := bS H; obtain ⟨cF, eR, H⟩ := H
     have H' := mk0 H
     clear H
     try go_wp2
     have zC := mk0 (Kd.Bn hB.out)
     have aD := mk0 (Kd.Bn m.out)
     have bD := mk0 (Kd.Bn b.out)
     have cD := mk0 (AY u.out)
     have dD := mk0 (AY l.out)
     have eD := mk0 (AY x.out)
     have fD := mk0 (AY z.out)
     have gD := mk0 (AY B.out)
     have hD := mk0 (Aa HB.out)
     clear hB; clear m; clear b; clear u; clear l; clear x; clear z; clear B; clear HB; have hB := zC; have m := aD; have b := bD; have u := cD; have l := dD; have x := eD; have z := fD; have B := gD; have HB := hD; clear zC aD bD cD dD eD fD gD hD
     have cS : ((W.length : Int) : Int) ≤ ((W.length : Int) : Int) := od
     obtain ⟨j3, rO, _, vO, _⟩ := info_parts GA
     have yF : W.length ≤ wC := (Kd.AP b.out).2.1
     have yQ : Kd.F k63 _ _ jD W.length W := (Kd.Mq (base := w.heap.size) b.out).2.2
     have cW : (qC : Int) ≤ ((W.length : Int) : Int) := od
     have bW : (0 : Int) ≤ (qC : Int) := od
     have aQ := Nu (P := Try.prog) 31 63 .i64 .i64 Try.underlying31 rO 5 vO jD W.length wC qC (W.length : Int) bW cW cS yF
     have kL := Kd.PV (lo := (qC : Int).toNat) (hi := ((W.length : Int) : Int).toNat) (c := wC) yQ (by omega) (by omega) yF
     obtain ⟨tL, aN⟩ : ∃ A1, A1 = (if wC = (qC : Int).toNat then jD else (jD : Option Addr).map (·.add ((qC : Int).toNat * 5))) := ⟨_, rfl⟩
     obtain ⟨lK, bN⟩ : ∃ c1, c1 = wC - (qC : Int).toNat := ⟨_, rfl⟩
     have oL : sE.length = ((W.length : Int) : Int).toNat - (qC : Int).toNat := (by rw [xN.out, List.length_drop, List.length_take] <;> omega)
     rw [show ((W).take ((W.length : Int) : Int).toNat).drop (qC : Int).toNat = sE from xN.out.symm] at kL
     replace kL : Kd.F k63 _ _ tL sE.length sE := (by rw [aN]; exact kL)
     rw [← oL, ← aN, ← bN] at aQ
     have bC := mk0 (show Kd.V k63 63 _ w.heap.size _ (.slice tL sE.length lK) sE from Kd.DN (by rw [oL, bN]; exact Nat.sub_le_sub_right (Nat.le_trans (by omega) yF) _) kL)
     have tY := mk0 (show sE.length ≤ lK from by rw [oL, bN]; exact Nat.sub_le_sub_right (Nat.le_trans (by omega) yF) _)
     clear kL yQ yF rO vO bN; have q2 := mk0 oL; have p2 := mk0 aN; clear oL aN; replace cS := eq_true cS
     refine DL (n := 12) (S := fun w' => w'.cell? ⟨D, 0, none⟩ = some (.int .i64 pD) ∧ w'.cell? ⟨D, 1, none⟩ = some (.int .i64 qD) ∧ w'.cell? ⟨D, 2, none⟩ = some (.slice fE xC.length gE) ∧ w'.cell? ⟨D, 3, none⟩ = some (.slice oD oB.length rD) ∧ w'.cell? ⟨D, 4, none⟩ = some (.slice jD W.length wC)) (ds := []) (tf 0 12) (by kernel_rfl) rfl rfl ⟨bc l 0, bc l 1, bc l 2, bc l 3, bc l 4⟩ (fun eB => ?_); refine CW AR.Pi AR.O1 (fun xB aH => ?_)
     generalize wc.drew = o5 at hB m b u l x z B HB bC eB ⊢
     refine pv 0 110 (tf 1 11) xB ?_
     refine pv 3 113 #[true, false, false, true, false, false, false, false, false, false, false, false] xB ?_
     refine pv 5 115 #[true, false, false, true, false, true, false, false, false, false, false, false] xB ?_
     refine pv 6 116 #[true, false, false, true, false, true, true, false, false, false, false, false] xB ?_
     refine Br (i := 1) (N := some 111) (v := ?_) (a' := ?_) #[true, true, false, true, false, true, true, false, false, false, false, false] rfl rfl (BB xB.out aH.out (by kernel_rfl)) (fun _ _ _ h => h) (Or.inl ⟨by rfl, ?_⟩) eB ?_ ?_
     rotate_left
     ·rintro w' ⟨s0, s1, s2, s3, s4⟩
      go_simp
      with_reducible rfl
     rotate_left
     ·simp only [ps]
      rfl
     refine Br (i := 4) (N := some 114) (v := ?_) (a' := ?_) #[true, true, false, true, true, true, true, false, false, false, false, false] rfl rfl (BB xB.out aH.out (by kernel_rfl)) (fun _ _ _ h => h) (Or.inl ⟨by rfl, ?_⟩) eB ?_ ?_
     rotate_left
     ·rintro w' ⟨s0, s1, s2, s3, s4⟩
      go_simp
      with_reducible rfl
     rotate_left
     ·simp only [ps]
      rfl
     refine pv 7 117 #[true, true, false, true, true, true, true, true, false, false, false, false] xB ?_
     refine Oa (σ := Value × Value × Value × Nat) 1 #[true, true, true, true, true, true, true, true, true, true, true, false] (fun s_ => [(112, .agg #[.int .i64 t227, .int .i64 t228, s_.1, s_.2.1]), (118, s_.2.2.1), (18, .pointer (some ⟨s_.2.2.2, 0, none⟩)), (119, .agg #[.int .i64 t227, .int .i64 t228, s_.1, s_.2.1, s_.2.2.1])]) (fun s_ w' => (w'.cell? ⟨D, 0, none⟩ = some (.int .i64 pD) ∧ w'.cell? ⟨D, 1, none⟩ = some (.int .i64 qD) ∧ w'.cell? ⟨D, 2, none⟩ = some (.slice fE xC.length gE) ∧ w'.cell? ⟨D, 3, none⟩ = some (.slice oD oB.length rD) ∧ w'.cell? ⟨D, 4, none⟩ = some (.slice jD W.length wC)) ∧ (Kd.R (Kd.int .u8) 73 w' w.heap.size (fun a => (w.heap.size ≤ a)) s_.1 t229) ∧ (Kd.V k30 30 w' w.heap.size (fun a => ((bB a ∨ cB a ∨ cC a) ∨ w.heap.size ≤ a) ∧ some a ≠ (s_.1 : Value).ownBlock ∧ some a ≠ (s_.2.2.1 : Value).ownBlock ∧ a ≠ I ∧ a ≠ D ∧ a ≠ J ∧ a ≠ O ∧ a ≠ G ∧ a ≠ s_.2.2.2) s_.2.1 t232) ∧ (Kd.V k63 63 w' w.heap.size (fun a => ((bB a ∨ cB a ∨ cC a) ∨ w.heap.size ≤ a) ∧ some a ≠ (s_.1 : Value).ownBlock ∧ some a ≠ (s_.2.2.1 : Value).ownBlock ∧ a ≠ I ∧ a ≠ D ∧ a ≠ J ∧ a ≠ O ∧ a ≠ G ∧ a ≠ s_.2.2.2) (.slice tL sE.length lK) sE) ∧ (Kd.N k63 63 w' w.heap.size (fun a => ((bB a ∨ cB a ∨ cC a) ∨ w.heap.size ≤ a) ∧ some a ≠ (s_.1 : Value).ownBlock ∧ a ≠ I ∧ a ≠ D ∧ a ≠ J ∧ a ≠ O ∧ a ≠ G ∧ a ≠ s_.2.2.2) s_.2.2.1 cF) ∧ (Kd.V k30 30 w' w.heap.size (fun a => ((bB a ∨ cB a ∨ cC a) ∨ w.heap.size ≤ a) ∧ some a ≠ (s_.1 : Value).ownBlock ∧ some a ≠ (s_.2.2.1 : Value).ownBlock ∧ a ≠ I ∧ a ≠ D ∧ a ≠ J ∧ a ≠ O ∧ a ≠ G ∧ a ≠ s_.2.2.2) (.slice oD oB.length rD) oB) ∧ (Kd.V k63 63 w' w.heap.size (fun a => ((bB a ∨ cB a ∨ cC a) ∨ w.heap.size ≤ a) ∧ some a ≠ (s_.1 : Value).ownBlock ∧ some a ≠ (s_.2.2.1 : Value).ownBlock ∧ a ≠ I ∧ a ≠ D ∧ a ≠ J ∧ a ≠ O ∧ a ≠ G ∧ a ≠ s_.2.2.2) (.slice jD W.length wC) W) ∧ (Kd.V k30 30 w' w.heap.size (fun a => ((bB a ∨ cB a ∨ cC a) ∨ w.heap.size ≤ a) ∧ some a ≠ (s_.1 : Value).ownBlock ∧ some a ≠ (s_.2.2.1 : Value).ownBlock ∧ a ≠ I ∧ a ≠ D ∧ a ≠ J ∧ a ≠ O ∧ a ≠ G ∧ a ≠ s_.2.2.2) (.slice A3 l3.length c3) l3) ∧ (w'.heap[I]? = some (.cells #[.int .i64 bE, .int .i64 cE, .string dE, .slice hE wD.length kE, .slice jE xD.length lE] 26 (0, 0))) ∧ (w'.heap[D]? = some (.cells #[.int .i64 pD, .int .i64 qD, .slice fE xC.length gE, .slice oD oB.length rD, .slice jD W.length wC] 33 (0, 0))) ∧ (w'.heap[J]? = some (.cells #[.int .i64 a2] 3 (0, 0))) ∧ (w'.heap[O]? = some (.cells #[.slice A4 l4.length c4] 38 (0, 0))) ∧ (w'.heap[G]? = some (.cells #[.int .i64 yB, .int .i64 zB, .slice none 0 0, .slice none 0 0, .slice none 0 0] 33 (0, 0))) ∧ (w'.heap[s_.2.2.2]? = some (.cells #[.int .i64 0, .int .i64 0, .slice none 0 0, .slice none 0 0, .slice none 0 0] 33 (0, 0))) ∧ (w.heap.size ≤ s_.2.2.2) ∧ (w.heap.size ≤ s_.2.2.2) ∧ (I ≠ s_.2.2.2) ∧ (s_.2.2.2 ≠ I) ∧ (D ≠ s_.2.2.2) ∧ (s_.2.2.2 ≠ D) ∧ (J ≠ s_.2.2.2) ∧ (s_.2.2.2 ≠ J) ∧ (O ≠ s_.2.2.2) ∧ (s_.2.2.2 ≠ O) ∧ (G ≠ s_.2.2.2) ∧ (s_.2.2.2 ≠ G) ∧ (Below w.heap.size w w')) ?_ ?_
     rotate_left
     ·intro mM
      refine Nw (i := 2) (j := 10) (Ni := some 112) (Nj := some 18) #[true, true, true, true, true, true, true, true, false, false, false, false] #[true, true, false, true, true, true, true, true, false, false, true, false] rfl rfl rfl rfl (Jj xB.out (by kernel_rfl)) (by decide) (by decide) (fun K hK => ?_) (fun K hK => ?_)
      ·skip
       refine DC Try.func51 (by kernel_rfl) rfl #[.agg #[.int .i64 pD, .int .i64 qD, .slice fE xC.length gE, .slice oD oB.length rD]] (by rfl) rfl rfl (by (try simp only [List.map_toArray, List.map_cons, List.map_nil]); first | done | rfl | (simp only [List.length_drop, List.length_take]; rfl)) ?_
       with_reducible refine (drivers_copied.calls pD qD _ _ xC (fun a => (((bB a ∨ cB a ∨ cC a) ∨ w.heap.size ≤ a) ∧ (a ≠ I ∧ (a ≠ D ∧ (a ≠ J ∧ (a ≠ O ∧ a ≠ G)))))) _ _ oB t227 t228 t229 t232 _ ?side1 ?side2 ?side3 wU.out).mono ?_
       (case side1 => exact cu zJ HB)
       (case side2 => exact xJ.out)
       (case side3 => exact m.out)
       rintro e e2 ⟨v230, v233, rfl, sD, jL, hb⟩
       refine ⟨_, rfl, ?_⟩
       have zC := mk0 (Kd.BN (CK hB.out) (Kd.Bf sD) hb)
       have aD := mk0 (Kd.BN (CK m.out) (Kd.Bf sD) hb)
       have bD := mk0 (Kd.BN (CK b.out) (Kd.Bf sD) hb)
       have cD := mk0 (Kd.BN (CK bC.out) (Kd.Bf sD) hb)
       have dD := mk0 (Kd.Cj (Kd.Ea (M := fun a => (w.heap.size ≤ a)) (Kd.BJ (ok' := fun a => True) sD (fun _ pC => trivial)) (AV (be5 HB U X Y Z dB)) (fun a h_ => h_)) (AV (be5 HB U X Y Z dB)))
       have eD := mk0 (Kd.Gg (Kd.AJ (ok' := fun a => ((bB a ∨ cB a ∨ cC a) ∨ w.heap.size ≤ a) ∧ some a ≠ (v230 : Value).ownBlock ∧ a ≠ I ∧ a ≠ D ∧ a ≠ J ∧ a ≠ O ∧ a ≠ G) jL (fun a pC => ⟨Or.elim pC.1 (fun kB => kB.1) (fun jB => (.inr (Nat.le_trans (AV (be5 HB U X Y Z dB)) jB))), pC.2, Or.elim pC.1 (fun kB => kB.2.1) (fun jB => (Kd.BM (g := I) (o := .cells #[.int .i64 bE, .int .i64 cE, .string dE, .slice hE wD.length kE, .slice jE xD.length lE] 26 (0, 0)) (Ac u.out) a jB)), Or.elim pC.1 (fun kB => kB.2.2.1) (fun jB => (Kd.BM (g := D) (o := .cells #[.int .i64 pD, .int .i64 qD, .slice fE xC.length gE, .slice oD oB.length rD, .slice jD W.length wC] 33 (0, 0)) (Ac l.out) a jB)), Or.elim pC.1 (fun kB => kB.2.2.2.1) (fun jB => (Kd.BM (g := J) (o := .cells #[.int .i64 a2] 3 (0, 0)) (Ac x.out) a jB)), Or.elim pC.1 (fun kB => kB.2.2.2.2.1) (fun jB => (Kd.BM (g := O) (o := .cells #[.slice A4 l4.length c4] 38 (0, 0)) (Ac z.out) a jB)), Or.elim pC.1 (fun kB => kB.2.2.2.2.2) (fun jB => (Kd.BM (g := G) (o := .cells #[.int .i64 yB, .int .i64 zB, .slice none 0 0, .slice none 0 0, .slice none 0 0] 33 (0, 0)) (Ac B.out) a jB))⟩)) (AV (be5 HB U X Y Z dB)))
       have fD := kb u hb
       have gD := kb l hb
       have hD := kb x hb
       have yD := kb z hb
       have dC := kb B hb
       have eC := kh5 HB U X Y Z dB hb
       clear hB; clear m; clear b; clear bC; clear u; clear l; clear x; clear z; clear B; clear HB; have hB := zC; have m := aD; have b := bD; have bC := cD; have oC := dD; have yC := eD; have u := fD; have l := gD; have x := hD; have z := yD; have B := dC; have HB := eC; clear zC aD bD cD dD eD fD gD hD yD dC eC
       try clear hb
       try clear d
       try clear hi
       try clear sD
       try clear jL
       refine hK.out _ _ ⟨bc l 0, bc l 1, bc l 2, bc l 3, bc l 4⟩ (fun eB => ?_)
       clear hK K
       refine CQ (a' := ?_) ?_ ?_
       rotate_left
       ·show Act.put _ (some 112) _ = _
        simp only [ps]
        rfl
       refine Nw (i := 8) (j := 10) (Ni := some 118) (Nj := some 18) #[true, true, true, true, true, true, true, true, true, false, false, false] #[true, true, true, true, true, true, true, true, false, false, true, false] rfl rfl rfl rfl (Jj xB.out (by kernel_rfl)) (by decide) (by decide) (fun K hK => ?_) (fun K hK => ?_)
       ·skip
        refine DC Try.func52 (by kernel_rfl) rfl #[.slice tL sE.length lK] (by rfl) rfl rfl (by (try simp only [List.map_toArray, List.map_cons, List.map_nil]); first | done | rfl | (simp only [List.length_drop, List.length_take]; rfl)) ?_
        with_reducible refine (Bg.calls lH (fun a => ((((bB a ∨ cB a ∨ cC a) ∨ w.heap.size ≤ a) ∧ (a ≠ I ∧ (a ≠ D ∧ (a ≠ J ∧ (a ≠ O ∧ a ≠ G))))) ∧ some a ≠ (v230 : Value).ownBlock)) _ _ sE cF _ ?side1 eR.out).mono ?_
        (case side1 => exact bC.out)
        rintro e yW ⟨v241, rfl, sD, hb⟩
        refine ⟨_, rfl, ?_⟩
        have zC := mk0 (Kd.BN (CK hB.out) (Kd.Ck sD) hb)
        have aD := mk0 (Kd.BN (CK m.out) (Kd.Ck sD) hb)
        have bD := mk0 (Kd.BN (CK b.out) (Kd.Ck sD) hb)
        have cD := mk0 (Kd.BN (CK bC.out) (Kd.Ck sD) hb)
        have dD := rb oC hb
        have eD := mk0 (Kd.BN (CK yC.out) (Kd.Ck sD) hb)
        have fD := mk0 (Kd.Es (Kd.Ca (ok' := fun a => ((bB a ∨ cB a ∨ cC a) ∨ w.heap.size ≤ a) ∧ some a ≠ (v230 : Value).ownBlock ∧ a ≠ I ∧ a ≠ D ∧ a ≠ J ∧ a ≠ O ∧ a ≠ G) sD (fun a pC => ⟨Or.elim pC (fun kB => kB.1.1) (fun jB => (.inr (Nat.le_trans (AV (be5 HB U X Y Z dB)) jB))), Or.elim pC (fun kB => kB.2) (fun jB => (Kd.fresh' (Kd.Fj (DZ oC.out)) a jB)), Or.elim pC (fun kB => kB.1.2.1) (fun jB => (Kd.BM (g := I) (o := .cells #[.int .i64 bE, .int .i64 cE, .string dE, .slice hE wD.length kE, .slice jE xD.length lE] 26 (0, 0)) (Ac u.out) a jB)), Or.elim pC (fun kB => kB.1.2.2.1) (fun jB => (Kd.BM (g := D) (o := .cells #[.int .i64 pD, .int .i64 qD, .slice fE xC.length gE, .slice oD oB.length rD, .slice jD W.length wC] 33 (0, 0)) (Ac l.out) a jB)), Or.elim pC (fun kB => kB.1.2.2.2.1) (fun jB => (Kd.BM (g := J) (o := .cells #[.int .i64 a2] 3 (0, 0)) (Ac x.out) a jB)), Or.elim pC (fun kB => kB.1.2.2.2.2.1) (fun jB => (Kd.BM (g := O) (o := .cells #[.slice A4 l4.length c4] 38 (0, 0)) (Ac z.out) a jB)), Or.elim pC (fun kB => kB.1.2.2.2.2.2) (fun jB => (Kd.BM (g := G) (o := .cells #[.int .i64 yB, .int .i64 zB, .slice none 0 0, .slice none 0 0, .slice none 0 0] 33 (0, 0)) (Ac B.out) a jB))⟩)) (AV (be5 HB U X Y Z dB)))
        have gD := kb u hb
        have hD := kb l hb
        have yD := kb x hb
        have dC := kb z hb
        have eC := kb B hb
        have nC := kh5 HB U X Y Z dB hb
        clear hB; clear m; clear b; clear bC; clear oC; clear yC; clear u; clear l; clear x; clear z; clear B; clear HB; have hB := zC; have m := aD; have b := bD; have bC := cD; have oC := dD; have yC := eD; have pE := fD; have u := gD; have l := hD; have x := yD; have z := dC; have B := eC; have HB := nC; clear zC aD bD cD dD eD fD gD hD yD dC eC nC
        try clear hb
        try clear d
        try clear hi
        try clear sD
        obtain ⟨xU, dV, fQ⟩ := Kd.Dk pE.out
        (first | subst fQ | (injection fQ with f1_ f2_ f3_; have qE := f1_.symm; have rE := f3_.symm; clear f1_ f2_ f3_; subst qE; subst rE))
        obtain ⟨gK, mK, oH⟩ := Kd.DR yC.out
        (first | subst oH | (injection oH with f1_ f2_ f3_; have qE := f1_.symm; have rE := f3_.symm; clear f1_ f2_ f3_; subst qE; subst rE))
        obtain ⟨iK, nK, pH⟩ := Kd.CJ oC.out
        (first | subst pH | (injection pH with f1_ f2_ f3_; have qE := f1_.symm; have rE := f3_.symm; clear f1_ f2_ f3_; subst qE; subst rE))
        refine hK.out _ _ ⟨bc l 0, bc l 1, bc l 2, bc l 3, bc l 4⟩ (fun eB => ?_)
        clear hK K
        refine CQ (a' := ?_) ?_ ?_
        rotate_left
        ·show Act.put _ (some 118) _ = _
         simp only [ps]
         rfl
        refine pv 9 119 (tf 10 2) xB ?_
        refine Dh (i := 10) (N := some 18) (tf 11 1) rfl rfl (CO xB.out (by kernel_rfl)) (by decide) (fun K hK => ?_)
        refine Fp ?hg (N := 18) ?hd (cs := #[.int .i64 0, .int .i64 0, .slice none 0 0, .slice none 0 0, .slice none 0 0]) (t := 33) ?hr ?_; (case hd => rfl); (case hg => rfl); (case hr => first | (go_simp; done) | (go_simp; rfl))
        intro s hg p5 uD hb
        have zC := vB hB hg hb
        have aD := vB m hg hb
        have bD := vB b hg hb
        have cD := vB bC hg hb
        have dD := rb oC hb
        have eD := vB yC hg hb
        have fD := nB pE hg hb
        have gD := kb u hb
        have hD := kb l hb
        have yD := kb x hb
        have dC := kb z hb
        have eC := kb B hb
        have nC := kh5 HB U X Y Z dB hb
        have mD := mk0 (uD)
        have zD := bs (be5 HB U X Y Z dB) hg
        have aE := bs (be5 HB U X Y Z dB) hg
        have oE := nb1 (bu u) hg
        have zE := nb2 (bu u) hg
        have cG := nb1 (bu l) hg
        have dG := nb2 (bu l) hg
        have eG := nb1 (bu x) hg
        have fG := nb2 (bu x) hg
        have gG := nb1 (bu z) hg
        have qH := nb2 (bu z) hg
        have rH := nb1 (bu B) hg
        have pL := nb2 (bu B) hg
        clear hB; clear m; clear b; clear bC; clear oC; clear yC; clear pE; clear u; clear l; clear x; clear z; clear B; clear HB; have hB := zC; have m := aD; have b := bD; have bC := cD; have oC := dD; have yC := eD; have pE := fD; have u := gD; have l := hD; have x := yD; have z := dC; have B := eC; have HB := nC; have T := mD; have mH := zD; have aC := aE; have fC := oE; have rC := zE; have L := cG; have sC := dG; have gC := eG; have tC := fG; have hC := gG; have uC := qH; have iC := rH; have vC := pL; clear zC aD bD cD dD eD fD gD hD yD dC eC nC mD zD aE oE zE cG dG eG fG gG qH rH pL; clear hb uD hg
        refine hK.out _ _ ⟨bc l 0, bc l 1, bc l 2, bc l 3, bc l 4⟩ (fun eB => ?_)
        clear hK K
        refine CQ (a' := ?_) ?_ ?_
        rotate_left
        ·show Act.put _ (some 18) _ = _
         simp only [ps]
         rfl
        exact CQ (by simp only [E9, Act.put, List.setIfInBounds_toArray, List.set_cons_zero, List.set_cons_succ]) (mM (.slice iK t229.length nK, .slice gK t232.length mK, .slice xU cF.length dV, s) _ ⟨eB, (Df (Kd.BJ oC.out (fun _ d => d.1))), (Ay (Kd.AJ yC.out (fun _ d => ⟨d.1.1.1, ⟨d.1.1.2.1, ⟨d.1.2, ⟨d.1.1.2.2.1, ⟨d.1.1.2.2.2.1, ⟨d.1.1.2.2.2.2.1, ⟨d.1.1.2.2.2.2.2.1, ⟨d.1.1.2.2.2.2.2.2, d.2⟩⟩⟩⟩⟩⟩⟩⟩))), (Ay (Kd.AJ bC.out (fun _ d => ⟨d.1.1.1.1, ⟨d.1.1.2, ⟨d.1.2, ⟨d.1.1.1.2.1, ⟨d.1.1.1.2.2.1, ⟨d.1.1.1.2.2.2.1, ⟨d.1.1.1.2.2.2.2.1, ⟨d.1.1.1.2.2.2.2.2, d.2⟩⟩⟩⟩⟩⟩⟩⟩))), (F9 (Kd.Ca pE.out (fun _ d => ⟨d.1.1, ⟨d.1.2.1, ⟨d.1.2.2.1, ⟨d.1.2.2.2.1, ⟨d.1.2.2.2.2.1, ⟨d.1.2.2.2.2.2.1, ⟨d.1.2.2.2.2.2.2, d.2⟩⟩⟩⟩⟩⟩⟩))), (Ay (Kd.AJ m.out (fun _ d => ⟨d.1.1.1.1, ⟨d.1.1.2, ⟨d.1.2, ⟨d.1.1.1.2.1, ⟨d.1.1.1.2.2.1, ⟨d.1.1.1.2.2.2.1, ⟨d.1.1.1.2.2.2.2.1, ⟨d.1.1.1.2.2.2.2.2, d.2⟩⟩⟩⟩⟩⟩⟩⟩))), (Ay (Kd.AJ b.out (fun _ d => ⟨d.1.1.1.1, ⟨d.1.1.2, ⟨d.1.2, ⟨d.1.1.1.2.1, ⟨d.1.1.1.2.2.1, ⟨d.1.1.1.2.2.2.1, ⟨d.1.1.1.2.2.2.2.1, ⟨d.1.1.1.2.2.2.2.2, d.2⟩⟩⟩⟩⟩⟩⟩⟩))), (Ay (Kd.AJ hB.out (fun _ d => ⟨d.1.1.1.1, ⟨d.1.1.2, ⟨d.1.2, ⟨d.1.1.1.2.1, ⟨d.1.1.1.2.2.1, ⟨d.1.1.1.2.2.2.1, ⟨d.1.1.1.2.2.2.2.1, ⟨d.1.1.1.2.2.2.2.2, d.2⟩⟩⟩⟩⟩⟩⟩⟩))), (Ac u.out), (Ac l.out), (Ac x.out), (Ac z.out), (Ac B.out), (Ac T.out), mH.out, aC.out, fC.out, rC.out, L.out, sC.out, gC.out, tC.out, hC.out, uC.out, iC.out, vC.out, (be6 HB U X Y Z dB aC)⟩)
       ·skip
        refine Fp ?hg (N := 18) ?hd (cs := #[.int .i64 0, .int .i64 0, .slice none 0 0, .slice none 0 0, .slice none 0 0]) (t := 33) ?hr ?_; (case hd => rfl); (case hg => rfl); (case hr => first | (go_simp; done) | (go_simp; rfl))
        intro s hg yW uD hb
        have zC := vB hB hg hb
        have aD := vB m hg hb
        have bD := vB b hg hb
        have cD := vB bC hg hb
        have dD := rb oC hb
        have eD := vB yC hg hb
        have fD := kb u hb
        have gD := kb l hb
        have hD := kb x hb
        have yD := kb z hb
        have dC := kb B hb
        have eC := kh5 HB U X Y Z dB hb
        have nC := mk0 (uD)
        have mD := bs (be5 HB U X Y Z dB) hg
        have zD := bs (be5 HB U X Y Z dB) hg
        have aE := nb1 (bu u) hg
        have oE := nb2 (bu u) hg
        have zE := nb1 (bu l) hg
        have cG := nb2 (bu l) hg
        have dG := nb1 (bu x) hg
        have eG := nb2 (bu x) hg
        have fG := nb1 (bu z) hg
        have gG := nb2 (bu z) hg
        have qH := nb1 (bu B) hg
        have rH := nb2 (bu B) hg
        clear hB; clear m; clear b; clear bC; clear oC; clear yC; clear u; clear l; clear x; clear z; clear B; clear HB; have hB := zC; have m := aD; have b := bD; have bC := cD; have oC := dD; have yC := eD; have u := fD; have l := gD; have x := hD; have z := yD; have B := dC; have HB := eC; have T := nC; have mH := mD; have aC := zD; have fC := aE; have rC := oE; have L := zE; have sC := cG; have gC := dG; have tC := eG; have hC := fG; have uC := gG; have iC := qH; have vC := rH; clear zC aD bD cD dD eD fD gD hD yD dC eC nC mD zD aE oE zE cG dG eG fG gG qH rH; clear hb uD hg
        refine hK.out _ _ ⟨bc l 0, bc l 1, bc l 2, bc l 3, bc l 4⟩ (fun eB => ?_)
        clear hK K
        refine CQ (a' := ?_) ?_ ?_
        rotate_left
        ·show Act.put _ (some 18) _ = _
         simp only [ps]
         rfl
        refine Dh (i := 8) (N := some 118) #[true, true, true, true, true, true, true, true, true, false, true, false] rfl rfl (CO xB.out (by kernel_rfl)) (by decide) (fun K hK => ?_)
        refine DC Try.func52 (by kernel_rfl) rfl #[.slice tL sE.length lK] (by rfl) rfl rfl (by (try simp only [List.map_toArray, List.map_cons, List.map_nil]); first | done | rfl | (simp only [List.length_drop, List.length_take]; rfl)) ?_
        with_reducible refine (Bg.calls lH (fun a => (((((bB a ∨ cB a ∨ cC a) ∨ w.heap.size ≤ a) ∧ (a ≠ I ∧ (a ≠ D ∧ (a ≠ J ∧ (a ≠ O ∧ a ≠ G))))) ∧ some a ≠ (v230 : Value).ownBlock) ∧ a ≠ s)) _ _ sE cF _ ?side1 eR.out).mono ?_
        (case side1 => exact bC.out)
        rintro e g2 ⟨v241, rfl, sD, hb⟩
        refine ⟨_, rfl, ?_⟩
        have zC := mk0 (Kd.BN (CK hB.out) (Kd.Ck sD) hb)
        have aD := mk0 (Kd.BN (CK m.out) (Kd.Ck sD) hb)
        have bD := mk0 (Kd.BN (CK b.out) (Kd.Ck sD) hb)
        have cD := mk0 (Kd.BN (CK bC.out) (Kd.Ck sD) hb)
        have dD := rb oC hb
        have eD := mk0 (Kd.BN (CK yC.out) (Kd.Ck sD) hb)
        have fD := mk0 (Kd.Es (Kd.Ca (ok' := fun a => ((bB a ∨ cB a ∨ cC a) ∨ w.heap.size ≤ a) ∧ some a ≠ (v230 : Value).ownBlock ∧ a ≠ I ∧ a ≠ D ∧ a ≠ J ∧ a ≠ O ∧ a ≠ G ∧ a ≠ s) sD (fun a pC => ⟨Or.elim pC (fun kB => kB.1.1.1) (fun jB => (.inr (Nat.le_trans (AV (be6 HB U X Y Z dB aC)) jB))), Or.elim pC (fun kB => kB.1.2) (fun jB => (Kd.fresh' (Kd.Fj (DZ oC.out)) a jB)), Or.elim pC (fun kB => kB.1.1.2.1) (fun jB => (Kd.BM (g := I) (o := .cells #[.int .i64 bE, .int .i64 cE, .string dE, .slice hE wD.length kE, .slice jE xD.length lE] 26 (0, 0)) (Ac u.out) a jB)), Or.elim pC (fun kB => kB.1.1.2.2.1) (fun jB => (Kd.BM (g := D) (o := .cells #[.int .i64 pD, .int .i64 qD, .slice fE xC.length gE, .slice oD oB.length rD, .slice jD W.length wC] 33 (0, 0)) (Ac l.out) a jB)), Or.elim pC (fun kB => kB.1.1.2.2.2.1) (fun jB => (Kd.BM (g := J) (o := .cells #[.int .i64 a2] 3 (0, 0)) (Ac x.out) a jB)), Or.elim pC (fun kB => kB.1.1.2.2.2.2.1) (fun jB => (Kd.BM (g := O) (o := .cells #[.slice A4 l4.length c4] 38 (0, 0)) (Ac z.out) a jB)), Or.elim pC (fun kB => kB.1.1.2.2.2.2.2) (fun jB => (Kd.BM (g := G) (o := .cells #[.int .i64 yB, .int .i64 zB, .slice none 0 0, .slice none 0 0, .slice none 0 0] 33 (0, 0)) (Ac B.out) a jB)), Or.elim pC (fun kB => kB.2) (fun jB => (Kd.BM (g := s) (o := .cells #[.int .i64 0, .int .i64 0, .slice none 0 0, .slice none 0 0, .slice none 0 0] 33 (0, 0)) (Ac T.out) a jB))⟩)) (AV (be6 HB U X Y Z dB aC)))
        have gD := kb u hb
        have hD := kb l hb
        have yD := kb x hb
        have dC := kb z hb
        have eC := kb B hb
        have nC := kb T hb
        have mD := kh6 HB U X Y Z dB aC hb
        clear hB; clear m; clear b; clear bC; clear oC; clear yC; clear u; clear l; clear x; clear z; clear B; clear T; clear HB; have hB := zC; have m := aD; have b := bD; have bC := cD; have oC := dD; have yC := eD; have pE := fD; have u := gD; have l := hD; have x := yD; have z := dC; have B := eC; have T := nC; have HB := mD; clear zC aD bD cD dD eD fD gD hD yD dC eC nC mD
        try clear hb
        try clear d
        try clear hi
        try clear sD
        obtain ⟨gK, mK, oH⟩ := Kd.Dk pE.out
        (first | subst oH | (injection oH with f1_ f2_ f3_; have qE := f1_.symm; have rE := f3_.symm; clear f1_ f2_ f3_; subst qE; subst rE))
        obtain ⟨iK, nK, pH⟩ := Kd.DR yC.out
        (first | subst pH | (injection pH with f1_ f2_ f3_; have qE := f1_.symm; have rE := f3_.symm; clear f1_ f2_ f3_; subst qE; subst rE))
        obtain ⟨nN, jO, oK⟩ := Kd.CJ oC.out
        (first | subst oK | (injection oK with f1_ f2_ f3_; have qE := f1_.symm; have rE := f3_.symm; clear f1_ f2_ f3_; subst qE; subst rE))
        refine hK.out _ _ ⟨bc l 0, bc l 1, bc l 2, bc l 3, bc l 4⟩ (fun eB => ?_)
        clear hK K
        refine CQ (a' := ?_) ?_ ?_
        rotate_left
        ·show Act.put _ (some 118) _ = _
         simp only [ps]
         rfl
        refine pv 9 119 (tf 11 1) xB ?_
        exact CQ (by simp only [E9, Act.put, List.setIfInBounds_toArray, List.set_cons_zero, List.set_cons_succ]) (mM (.slice nN t229.length jO, .slice iK t232.length nK, .slice gK cF.length mK, s) _ ⟨eB, (Df (Kd.BJ oC.out (fun _ d => d.1))), (Ay (Kd.AJ yC.out (fun _ d => ⟨d.1.1.1, ⟨d.1.1.2.1, ⟨d.2, ⟨d.1.1.2.2.1, ⟨d.1.1.2.2.2.1, ⟨d.1.1.2.2.2.2.1, ⟨d.1.1.2.2.2.2.2.1, ⟨d.1.1.2.2.2.2.2.2, d.1.2⟩⟩⟩⟩⟩⟩⟩⟩))), (Ay (Kd.AJ bC.out (fun _ d => ⟨d.1.1.1.1, ⟨d.1.1.2, ⟨d.2, ⟨d.1.1.1.2.1, ⟨d.1.1.1.2.2.1, ⟨d.1.1.1.2.2.2.1, ⟨d.1.1.1.2.2.2.2.1, ⟨d.1.1.1.2.2.2.2.2, d.1.2⟩⟩⟩⟩⟩⟩⟩⟩))), (FR pE.out), (Ay (Kd.AJ m.out (fun _ d => ⟨d.1.1.1.1, ⟨d.1.1.2, ⟨d.2, ⟨d.1.1.1.2.1, ⟨d.1.1.1.2.2.1, ⟨d.1.1.1.2.2.2.1, ⟨d.1.1.1.2.2.2.2.1, ⟨d.1.1.1.2.2.2.2.2, d.1.2⟩⟩⟩⟩⟩⟩⟩⟩))), (Ay (Kd.AJ b.out (fun _ d => ⟨d.1.1.1.1, ⟨d.1.1.2, ⟨d.2, ⟨d.1.1.1.2.1, ⟨d.1.1.1.2.2.1, ⟨d.1.1.1.2.2.2.1, ⟨d.1.1.1.2.2.2.2.1, ⟨d.1.1.1.2.2.2.2.2, d.1.2⟩⟩⟩⟩⟩⟩⟩⟩))), (Ay (Kd.AJ hB.out (fun _ d => ⟨d.1.1.1.1, ⟨d.1.1.2, ⟨d.2, ⟨d.1.1.1.2.1, ⟨d.1.1.1.2.2.1, ⟨d.1.1.1.2.2.2.1, ⟨d.1.1.1.2.2.2.2.1, ⟨d.1.1.1.2.2.2.2.2, d.1.2⟩⟩⟩⟩⟩⟩⟩⟩))), (Ac u.out), (Ac l.out), (Ac x.out), (Ac z.out), (Ac B.out), (Ac T.out), mH.out, aC.out, fC.out, rC.out, L.out, sC.out, gC.out, tC.out, hC.out, uC.out, iC.out, vC.out, (be6 HB U X Y Z dB aC)⟩)
      ·skip
       refine Fp ?hg (N := 18) ?hd (cs := #[.int .i64 0, .int .i64 0, .slice none 0 0, .slice none 0 0, .slice none 0 0]) (t := 33) ?hr ?_; (case hd => rfl); (case hg => rfl); (case hr => first | (go_simp; done) | (go_simp; rfl))
       intro s hg e2 uD hb
       have zC := vB hB hg hb
       have aD := vB m hg hb
       have bD := vB b hg hb
       have cD := vB bC hg hb
       have dD := kb u hb
       have eD := kb l hb
       have fD := kb x hb
       have gD := kb z hb
       have hD := kb B hb
       have yD := kh5 HB U X Y Z dB hb
       have dC := mk0 (uD)
       have eC := bs (be5 HB U X Y Z dB) hg
       have nC := bs (be5 HB U X Y Z dB) hg
       have mD := nb1 (bu u) hg
       have zD := nb2 (bu u) hg
       have aE := nb1 (bu l) hg
       have oE := nb2 (bu l) hg
       have zE := nb1 (bu x) hg
       have cG := nb2 (bu x) hg
       have dG := nb1 (bu z) hg
       have eG := nb2 (bu z) hg
       have fG := nb1 (bu B) hg
       have gG := nb2 (bu B) hg
       clear hB; clear m; clear b; clear bC; clear u; clear l; clear x; clear z; clear B; clear HB; have hB := zC; have m := aD; have b := bD; have bC := cD; have u := dD; have l := eD; have x := fD; have z := gD; have B := hD; have HB := yD; have T := dC; have mH := eC; have aC := nC; have fC := mD; have rC := zD; have L := aE; have sC := oE; have gC := zE; have tC := cG; have hC := dG; have uC := eG; have iC := fG; have vC := gG; clear zC aD bD cD dD eD fD gD hD yD dC eC nC mD zD aE oE zE cG dG eG fG gG; clear hb uD hg
       refine hK.out _ _ ⟨bc l 0, bc l 1, bc l 2, bc l 3, bc l 4⟩ (fun eB => ?_)
       clear hK K
       refine CQ (a' := ?_) ?_ ?_
       rotate_left
       ·show Act.put _ (some 18) _ = _
        simp only [ps]
        rfl
       refine Dh (i := 2) (N := some 112) #[true, true, true, true, true, true, true, true, false, false, true, false] rfl rfl (CO xB.out (by kernel_rfl)) (by decide) (fun K hK => ?_)
       refine DC Try.func51 (by kernel_rfl) rfl #[.agg #[.int .i64 pD, .int .i64 qD, .slice fE xC.length gE, .slice oD oB.length rD]] (by rfl) rfl rfl (by (try simp only [List.map_toArray, List.map_cons, List.map_nil]); first | done | rfl | (simp only [List.length_drop, List.length_take]; rfl)) ?_
       with_reducible refine (drivers_copied.calls pD qD _ _ xC (fun a => ((((bB a ∨ cB a ∨ cC a) ∨ w.heap.size ≤ a) ∧ (a ≠ I ∧ (a ≠ D ∧ (a ≠ J ∧ (a ≠ O ∧ a ≠ G))))) ∧ a ≠ s)) _ _ oB t227 t228 t229 t232 _ ?side1 ?side2 ?side3 wU.out).mono ?_
       (case side1 => exact cu zJ HB)
       (case side2 => exact xJ.out)
       (case side3 => exact m.out)
       rintro e yW ⟨v230, v233, rfl, sD, jL, hb⟩
       refine ⟨_, rfl, ?_⟩
       have zC := mk0 (Kd.BN (CK hB.out) (Kd.Bf sD) hb)
       have aD := mk0 (Kd.BN (CK m.out) (Kd.Bf sD) hb)
       have bD := mk0 (Kd.BN (CK b.out) (Kd.Bf sD) hb)
       have cD := mk0 (Kd.BN (CK bC.out) (Kd.Bf sD) hb)
       have dD := mk0 (Kd.Cj (Kd.Ea (M := fun a => (w.heap.size ≤ a)) (Kd.BJ (ok' := fun a => True) sD (fun _ pC => trivial)) (AV (be6 HB U X Y Z dB aC)) (fun a h_ => h_)) (AV (be6 HB U X Y Z dB aC)))
       have eD := mk0 (Kd.Gg (Kd.AJ (ok' := fun a => ((bB a ∨ cB a ∨ cC a) ∨ w.heap.size ≤ a) ∧ some a ≠ (v230 : Value).ownBlock ∧ a ≠ I ∧ a ≠ D ∧ a ≠ J ∧ a ≠ O ∧ a ≠ G ∧ a ≠ s) jL (fun a pC => ⟨Or.elim pC.1 (fun kB => kB.1.1) (fun jB => (.inr (Nat.le_trans (AV (be6 HB U X Y Z dB aC)) jB))), pC.2, Or.elim pC.1 (fun kB => kB.1.2.1) (fun jB => (Kd.BM (g := I) (o := .cells #[.int .i64 bE, .int .i64 cE, .string dE, .slice hE wD.length kE, .slice jE xD.length lE] 26 (0, 0)) (Ac u.out) a jB)), Or.elim pC.1 (fun kB => kB.1.2.2.1) (fun jB => (Kd.BM (g := D) (o := .cells #[.int .i64 pD, .int .i64 qD, .slice fE xC.length gE, .slice oD oB.length rD, .slice jD W.length wC] 33 (0, 0)) (Ac l.out) a jB)), Or.elim pC.1 (fun kB => kB.1.2.2.2.1) (fun jB => (Kd.BM (g := J) (o := .cells #[.int .i64 a2] 3 (0, 0)) (Ac x.out) a jB)), Or.elim pC.1 (fun kB => kB.1.2.2.2.2.1) (fun jB => (Kd.BM (g := O) (o := .cells #[.slice A4 l4.length c4] 38 (0, 0)) (Ac z.out) a jB)), Or.elim pC.1 (fun kB => kB.1.2.2.2.2.2) (fun jB => (Kd.BM (g := G) (o := .cells #[.int .i64 yB, .int .i64 zB, .slice none 0 0, .slice none 0 0, .slice none 0 0] 33 (0, 0)) (Ac B.out) a jB)), Or.elim pC.1 (fun kB => kB.2) (fun jB => (Kd.BM (g := s) (o := .cells #[.int .i64 0, .int .i64 0, .slice none 0 0, .slice none 0 0, .slice none 0 0] 33 (0, 0)) (Ac T.out) a jB))⟩)) (AV (be6 HB U X Y Z dB aC)))
       have fD := kb u hb
       have gD := kb l hb
       have hD := kb x hb
       have yD := kb z hb
       have dC := kb B hb
       have eC := kb T hb
       have nC := kh6 HB U X Y Z dB aC hb
       clear hB; clear m; clear b; clear bC; clear u; clear l; clear x; clear z; clear B; clear T; clear HB; have hB := zC; have m := aD; have b := bD; have bC := cD; have oC := dD; have yC := eD; have u := fD; have l := gD; have x := hD; have z := yD; have B := dC; have T := eC; have HB := nC; clear zC aD bD cD dD eD fD gD hD yD dC eC nC
       try clear hb
       try clear d
       try clear hi
       try clear sD
       try clear jL
       refine hK.out _ _ ⟨bc l 0, bc l 1, bc l 2, bc l 3, bc l 4⟩ (fun eB => ?_)
       clear hK K
       refine CQ (a' := ?_) ?_ ?_
       rotate_left
       ·show Act.put _ (some 112) _ = _
        simp only [ps]
        rfl
       refine Dh (i := 8) (N := some 118) #[true, true, true, true, true, true, true, true, true, false, true, false] rfl rfl (CO xB.out (by kernel_rfl)) (by decide) (fun K hK => ?_)
       refine DC Try.func52 (by kernel_rfl) rfl #[.slice tL sE.length lK] (by rfl) rfl rfl (by (try simp only [List.map_toArray, List.map_cons, List.map_nil]); first | done | rfl | (simp only [List.length_drop, List.length_take]; rfl)) ?_
       with_reducible refine (Bg.calls lH (fun a => (((((bB a ∨ cB a ∨ cC a) ∨ w.heap.size ≤ a) ∧ (a ≠ I ∧ (a ≠ D ∧ (a ≠ J ∧ (a ≠ O ∧ a ≠ G))))) ∧ a ≠ s) ∧ some a ≠ (v230 : Value).ownBlock)) _ _ sE cF _ ?side1 eR.out).mono ?_
       (case side1 => exact bC.out)
       rintro e g2 ⟨v241, rfl, sD, hb⟩
       refine ⟨_, rfl, ?_⟩
       have zC := mk0 (Kd.BN (CK hB.out) (Kd.Ck sD) hb)
       have aD := mk0 (Kd.BN (CK m.out) (Kd.Ck sD) hb)
       have bD := mk0 (Kd.BN (CK b.out) (Kd.Ck sD) hb)
       have cD := mk0 (Kd.BN (CK bC.out) (Kd.Ck sD) hb)
       have dD := rb oC hb
       have eD := mk0 (Kd.BN (CK yC.out) (Kd.Ck sD) hb)
       have fD := mk0 (Kd.Es (Kd.Ca (ok' := fun a => ((bB a ∨ cB a ∨ cC a) ∨ w.heap.size ≤ a) ∧ some a ≠ (v230 : Value).ownBlock ∧ a ≠ I ∧ a ≠ D ∧ a ≠ J ∧ a ≠ O ∧ a ≠ G ∧ a ≠ s) sD (fun a pC => ⟨Or.elim pC (fun kB => kB.1.1.1) (fun jB => (.inr (Nat.le_trans (AV (be6 HB U X Y Z dB aC)) jB))), Or.elim pC (fun kB => kB.2) (fun jB => (Kd.fresh' (Kd.Fj (DZ oC.out)) a jB)), Or.elim pC (fun kB => kB.1.1.2.1) (fun jB => (Kd.BM (g := I) (o := .cells #[.int .i64 bE, .int .i64 cE, .string dE, .slice hE wD.length kE, .slice jE xD.length lE] 26 (0, 0)) (Ac u.out) a jB)), Or.elim pC (fun kB => kB.1.1.2.2.1) (fun jB => (Kd.BM (g := D) (o := .cells #[.int .i64 pD, .int .i64 qD, .slice fE xC.length gE, .slice oD oB.length rD, .slice jD W.length wC] 33 (0, 0)) (Ac l.out) a jB)), Or.elim pC (fun kB => kB.1.1.2.2.2.1) (fun jB => (Kd.BM (g := J) (o := .cells #[.int .i64 a2] 3 (0, 0)) (Ac x.out) a jB)), Or.elim pC (fun kB => kB.1.1.2.2.2.2.1) (fun jB => (Kd.BM (g := O) (o := .cells #[.slice A4 l4.length c4] 38 (0, 0)) (Ac z.out) a jB)), Or.elim pC (fun kB => kB.1.1.2.2.2.2.2) (fun jB => (Kd.BM (g := G) (o := .cells #[.int .i64 yB, .int .i64 zB, .slice none 0 0, .slice none 0 0, .slice none 0 0] 33 (0, 0)) (Ac B.out) a jB)), Or.elim pC (fun kB => kB.1.2) (fun jB => (Kd.BM (g := s) (o := .cells #[.int .i64 0, .int .i64 0, .slice none 0 0, .slice none 0 0, .slice none 0 0] 33 (0, 0)) (Ac T.out) a jB))⟩)) (AV (be6 HB U X Y Z dB aC)))
       have gD := kb u hb
       have hD := kb l hb
       have yD := kb x hb
       have dC := kb z hb
       have eC := kb B hb
       have nC := kb T hb
       have mD := kh6 HB U X Y Z dB aC hb
       clear hB; clear m; clear b; clear bC; clear oC; clear yC; clear u; clear l; clear x; clear z; clear B; clear T; clear HB; have hB := zC; have m := aD; have b := bD; have bC := cD; have oC := dD; have yC := eD; have pE := fD; have u := gD; have l := hD; have x := yD; have z := dC; have B := eC; have T := nC; have HB := mD; clear zC aD bD cD dD eD fD gD hD yD dC eC nC mD
       try clear hb
       try clear d
       try clear hi
       try clear sD
       obtain ⟨gK, mK, oH⟩ := Kd.Dk pE.out
       (first | subst oH | (injection oH with f1_ f2_ f3_; have qE := f1_.symm; have rE := f3_.symm; clear f1_ f2_ f3_; subst qE; subst rE))
       obtain ⟨iK, nK, pH⟩ := Kd.DR yC.out
       (first | subst pH | (injection pH with f1_ f2_ f3_; have qE := f1_.symm; have rE := f3_.symm; clear f1_ f2_ f3_; subst qE; subst rE))
       obtain ⟨nN, jO, oK⟩ := Kd.CJ oC.out
       (first | subst oK | (injection oK with f1_ f2_ f3_; have qE := f1_.symm; have rE := f3_.symm; clear f1_ f2_ f3_; subst qE; subst rE))
       refine hK.out _ _ ⟨bc l 0, bc l 1, bc l 2, bc l 3, bc l 4⟩ (fun eB => ?_)
       clear hK K
       refine CQ (a' := ?_) ?_ ?_
       rotate_left
       ·show Act.put _ (some 118) _ = _
        simp only [ps]
        rfl
       refine pv 9 119 (tf 11 1) xB ?_
       exact CQ (by simp only [E9, Act.put, List.setIfInBounds_toArray, List.set_cons_zero, List.set_cons_succ]) (mM (.slice nN t229.length jO, .slice iK t232.length nK, .slice gK cF.length mK, s) _ ⟨eB, (Df (Kd.BJ oC.out (fun _ d => d.1))), (Ay (Kd.AJ yC.out (fun _ d => ⟨d.1.1, ⟨d.1.2.1, ⟨d.2, ⟨d.1.2.2.1, ⟨d.1.2.2.2.1, ⟨d.1.2.2.2.2.1, ⟨d.1.2.2.2.2.2.1, ⟨d.1.2.2.2.2.2.2.1, d.1.2.2.2.2.2.2.2⟩⟩⟩⟩⟩⟩⟩⟩))), (Ay (Kd.AJ bC.out (fun _ d => ⟨d.1.1.1.1, ⟨d.1.2, ⟨d.2, ⟨d.1.1.1.2.1, ⟨d.1.1.1.2.2.1, ⟨d.1.1.1.2.2.2.1, ⟨d.1.1.1.2.2.2.2.1, ⟨d.1.1.1.2.2.2.2.2, d.1.1.2⟩⟩⟩⟩⟩⟩⟩⟩))), (FR pE.out), (Ay (Kd.AJ m.out (fun _ d => ⟨d.1.1.1.1, ⟨d.1.2, ⟨d.2, ⟨d.1.1.1.2.1, ⟨d.1.1.1.2.2.1, ⟨d.1.1.1.2.2.2.1, ⟨d.1.1.1.2.2.2.2.1, ⟨d.1.1.1.2.2.2.2.2, d.1.1.2⟩⟩⟩⟩⟩⟩⟩⟩))), (Ay (Kd.AJ b.out (fun _ d => ⟨d.1.1.1.1, ⟨d.1.2, ⟨d.2, ⟨d.1.1.1.2.1, ⟨d.1.1.1.2.2.1, ⟨d.1.1.1.2.2.2.1, ⟨d.1.1.1.2.2.2.2.1, ⟨d.1.1.1.2.2.2.2.2, d.1.1.2⟩⟩⟩⟩⟩⟩⟩⟩))), (Ay (Kd.AJ hB.out (fun _ d => ⟨d.1.1.1.1, ⟨d.1.2, ⟨d.2, ⟨d.1.1.1.2.1, ⟨d.1.1.1.2.2.1, ⟨d.1.1.1.2.2.2.1, ⟨d.1.1.1.2.2.2.2.1, ⟨d.1.1.1.2.2.2.2.2, d.1.1.2⟩⟩⟩⟩⟩⟩⟩⟩))), (Ac u.out), (Ac l.out), (Ac x.out), (Ac z.out), (Ac B.out), (Ac T.out), mH.out, aC.out, fC.out, rC.out, L.out, sC.out, gC.out, tC.out, hC.out, uC.out, iC.out, vC.out, (be6 HB U X Y Z dB aC)⟩)
     rintro ⟨v230, v233, v241, s⟩ vE ⟨pZ, kV, lV, mV, nV, oV, pV, qV, rV, sV, tV, iQ, jQ, kQ, lQ, mQ, nQ, oQ, pQ, qQ, rQ, sQ, tQ, uQ, vQ, wQ, xQ⟩
     have zC : Aside0 (Kd.R (Kd.int .u8) 73 vE w.heap.size (fun a => (w.heap.size ≤ a)) v230 t229) := ⟨kV⟩
     have aD : Aside0 (Kd.V k30 30 vE w.heap.size (fun a => ((bB a ∨ cB a ∨ cC a) ∨ w.heap.size ≤ a) ∧ some a ≠ (v230 : Value).ownBlock ∧ some a ≠ (v241 : Value).ownBlock ∧ a ≠ I ∧ a ≠ D ∧ a ≠ J ∧ a ≠ O ∧ a ≠ G ∧ a ≠ s) v233 t232) := ⟨lV⟩
     have bD : Aside0 (Kd.V k63 63 vE w.heap.size (fun a => ((bB a ∨ cB a ∨ cC a) ∨ w.heap.size ≤ a) ∧ some a ≠ (v230 : Value).ownBlock ∧ some a ≠ (v241 : Value).ownBlock ∧ a ≠ I ∧ a ≠ D ∧ a ≠ J ∧ a ≠ O ∧ a ≠ G ∧ a ≠ s) (.slice tL sE.length lK) sE) := ⟨mV⟩
     have cD : Aside0 (Kd.N k63 63 vE w.heap.size (fun a => ((bB a ∨ cB a ∨ cC a) ∨ w.heap.size ≤ a) ∧ some a ≠ (v230 : Value).ownBlock ∧ a ≠ I ∧ a ≠ D ∧ a ≠ J ∧ a ≠ O ∧ a ≠ G ∧ a ≠ s) v241 cF) := ⟨nV⟩
     have dD : Aside0 (Kd.V k30 30 vE w.heap.size (fun a => ((bB a ∨ cB a ∨ cC a) ∨ w.heap.size ≤ a) ∧ some a ≠ (v230 : Value).ownBlock ∧ some a ≠ (v241 : Value).ownBlock ∧ a ≠ I ∧ a ≠ D ∧ a ≠ J ∧ a ≠ O ∧ a ≠ G ∧ a ≠ s) (.slice oD oB.length rD) oB) := ⟨oV⟩
     have eD : Aside0 (Kd.V k63 63 vE w.heap.size (fun a => ((bB a ∨ cB a ∨ cC a) ∨ w.heap.size ≤ a) ∧ some a ≠ (v230 : Value).ownBlock ∧ some a ≠ (v241 : Value).ownBlock ∧ a ≠ I ∧ a ≠ D ∧ a ≠ J ∧ a ≠ O ∧ a ≠ G ∧ a ≠ s) (.slice jD W.length wC) W) := ⟨pV⟩
     have fD : Aside0 (Kd.V k30 30 vE w.heap.size (fun a => ((bB a ∨ cB a ∨ cC a) ∨ w.heap.size ≤ a) ∧ some a ≠ (v230 : Value).ownBlock ∧ some a ≠ (v241 : Value).ownBlock ∧ a ≠ I ∧ a ≠ D ∧ a ≠ J ∧ a ≠ O ∧ a ≠ G ∧ a ≠ s) (.slice A3 l3.length c3) l3) := ⟨qV⟩
     have gD : Aside0 (vE.heap[I]? = some (.cells #[.int .i64 bE, .int .i64 cE, .string dE, .slice hE wD.length kE, .slice jE xD.length lE] 26 (0, 0))) := ⟨rV⟩
     have hD : Aside0 (vE.heap[D]? = some (.cells #[.int .i64 pD, .int .i64 qD, .slice fE xC.length gE, .slice oD oB.length rD, .slice jD W.length wC] 33 (0, 0))) := ⟨sV⟩
     have yD : Aside0 (vE.heap[J]? = some (.cells #[.int .i64 a2] 3 (0, 0))) := ⟨tV⟩
     have dC : Aside0 (vE.heap[O]? = some (.cells #[.slice A4 l4.length c4] 38 (0, 0))) := ⟨iQ⟩
     have eC : Aside0 (vE.heap[G]? = some (.cells #[.int .i64 yB, .int .i64 zB, .slice none 0 0, .slice none 0 0, .slice none 0 0] 33 (0, 0))) := ⟨jQ⟩
     have nC : Aside0 (vE.heap[s]? = some (.cells #[.int .i64 0, .int .i64 0, .slice none 0 0, .slice none 0 0, .slice none 0 0] 33 (0, 0))) := ⟨kQ⟩
     have mD : Aside0 (w.heap.size ≤ s) := ⟨lQ⟩
     have zD : Aside0 (w.heap.size ≤ s) := ⟨mQ⟩
     have aE : Aside0 (I ≠ s) := ⟨nQ⟩
     have oE : Aside0 (s ≠ I) := ⟨oQ⟩
     have zE : Aside0 (D ≠ s) := ⟨pQ⟩
     have cG : Aside0 (s ≠ D) := ⟨qQ⟩
     have dG : Aside0 (J ≠ s) := ⟨rQ⟩
     have eG : Aside0 (s ≠ J) := ⟨sQ⟩
     have fG : Aside0 (O ≠ s) := ⟨tQ⟩
     have gG : Aside0 (s ≠ O) := ⟨uQ⟩
     have qH : Aside0 (G ≠ s) := ⟨vQ⟩
     have rH : Aside0 (s ≠ G) := ⟨wQ⟩
     have pL : Aside0 (Below w.heap.size w vE) := ⟨xQ⟩
     clear hB; clear m; clear b; clear u; clear l; clear x; clear z; clear B; clear HB; clear kV lV mV nV oV pV qV rV sV tV iQ jQ kQ lQ mQ nQ oQ pQ qQ rQ sQ tQ uQ vQ wQ xQ; have oC := zC; have yC := aD; have bC := bD; have pE := cD; have m := dD; have b := eD; have hB := fD; have u := gD; have l := hD; have x := yD; have z := dC; have B := eC; have T := nC; have mH := mD; have aC := zD; have fC := aE; have rC := oE; have L := zE; have sC := cG; have gC := dG; have tC := eG; have hC := fG; have uC := gG; have iC := qH; have vC := rH; have HB := pL; clear zC aD bD cD dD eD fD gD hD yD dC eC nC mD zD aE oE zE cG dG eG fG gG qH rH pL
     have eB : vE.cell? ⟨D, 0, none⟩ = some (.int .i64 pD) ∧ vE.cell? ⟨D, 1, none⟩ = some (.int .i64 qD) ∧ vE.cell? ⟨D, 2, none⟩ = some (.slice fE xC.length gE) ∧ vE.cell? ⟨D, 3, none⟩ = some (.slice oD oB.length rD) ∧ vE.cell? ⟨D, 4, none⟩ = some (.slice jD W.length wC) := pZ
     obtain ⟨yU, eV, gQ⟩ := Kd.Dk pE.out
     (first | subst gQ | (injection gQ with f1_ f2_ f3_; have qE := f1_.symm; have rE := f3_.symm; clear f1_ f2_ f3_; subst qE; subst rE))
     obtain ⟨uG, bH, hQ⟩ := Kd.DR yC.out
     (first | subst hQ | (injection hQ with f1_ f2_ f3_; have qE := f1_.symm; have rE := f3_.symm; clear f1_ f2_ f3_; subst qE; subst rE))
     obtain ⟨qB, tB, kO⟩ := Kd.CJ oC.out
     (first | subst kO | (injection kO with f1_ f2_ f3_; have qE := f1_.symm; have rE := f3_.symm; clear f1_ f2_ f3_; subst qE; subst rE))
     refine CQ (a' := ?_) ?_ ?_
     rotate_left
     ·simp only [E9, Act.put, List.setIfInBounds_toArray, List.set_cons_zero, List.set_cons_succ]
      rfl
     refine Dh (i := 11) (N := none) (tf 12 0) rfl rfl (CO xB.out (by kernel_rfl)) (by decide) (fun K hK => ?_)
     have m1 : vE.cell? ⟨s, 0, none⟩ = some (.int .i64 0) := bc T 0
     have cX := Am T.out 0
     have qT := fC.out; have rT := L.out; have sT := gC.out; have tT := hC.out; have uT := iC.out; have lS := rC.out; have mS := sC.out; have nS := tC.out; have oS := uC.out; have pS := vC.out
     have n1 : vE.cell? ⟨s, 1, none⟩ = some (.int .i64 0) := bc T 1
     have dX := Am T.out 1
     have vT := fC.out; have wT := L.out; have xT := gC.out; have yT := hC.out; have zT := iC.out; have qS := rC.out; have rS := sC.out; have sS := tC.out; have tS := uC.out; have uS := vC.out
     have o1 : vE.cell? ⟨s, 2, none⟩ = some (.slice none 0 0) := bc T 2
     have eX := Am T.out 2
     have aU := fC.out; have bU := L.out; have cU := gC.out; have dU := hC.out; have eU := iC.out; have vS := rC.out; have wS := sC.out; have xS := tC.out; have yS := uC.out; have zS := vC.out
     have p1 : vE.cell? ⟨s, 3, none⟩ = some (.slice none 0 0) := bc T 3
     have fX := Am T.out 3
     have fU := fC.out; have gU := L.out; have hU := gC.out; have iU := hC.out; have jU := iC.out; have aT := rC.out; have bT := sC.out; have cT := tC.out; have dT := uC.out; have eT := vC.out
     have q1 : vE.cell? ⟨s, 4, none⟩ = some (.slice none 0 0) := bc T 4
     have gX := Am T.out 4
     have kU := fC.out; have lU := L.out; have mU := gC.out; have nU := hC.out; have oU := iC.out; have fT := rC.out; have gT := sC.out; have hT := tC.out; have iT := uC.out; have jT := vC.out
     refine Gp (w1 := ?_) (by rfl) rfl ?_ ?_
     rotate_left
     ·go_simp
      rfl
     refine hK.out _ _ ⟨((cell_far (p := ⟨s, _, none⟩) L.out _).trans (((cell_far (p := ⟨s, _, none⟩) L.out _).trans (((cell_far (p := ⟨s, _, none⟩) L.out _).trans (((cell_far (p := ⟨s, _, none⟩) L.out _).trans (((cell_far (p := ⟨s, _, none⟩) L.out _).trans (eB.1)))))))))), ((cell_far (p := ⟨s, _, none⟩) L.out _).trans (((cell_far (p := ⟨s, _, none⟩) L.out _).trans (((cell_far (p := ⟨s, _, none⟩) L.out _).trans (((cell_far (p := ⟨s, _, none⟩) L.out _).trans (((cell_far (p := ⟨s, _, none⟩) L.out _).trans (eB.2.1)))))))))), ((cell_far (p := ⟨s, _, none⟩) L.out _).trans (((cell_far (p := ⟨s, _, none⟩) L.out _).trans (((cell_far (p := ⟨s, _, none⟩) L.out _).trans (((cell_far (p := ⟨s, _, none⟩) L.out _).trans (((cell_far (p := ⟨s, _, none⟩) L.out _).trans (eB.2.2.1)))))))))), ((cell_far (p := ⟨s, _, none⟩) L.out _).trans (((cell_far (p := ⟨s, _, none⟩) L.out _).trans (((cell_far (p := ⟨s, _, none⟩) L.out _).trans (((cell_far (p := ⟨s, _, none⟩) L.out _).trans (((cell_far (p := ⟨s, _, none⟩) L.out _).trans (eB.2.2.2.1)))))))))), ((cell_far (p := ⟨s, _, none⟩) L.out _).trans (((cell_far (p := ⟨s, _, none⟩) L.out _).trans (((cell_far (p := ⟨s, _, none⟩) L.out _).trans (((cell_far (p := ⟨s, _, none⟩) L.out _).trans (((cell_far (p := ⟨s, _, none⟩) L.out _).trans (eB.2.2.2.2))))))))))⟩ (fun eB => ?_)
     clear hK K
     refine EQ (De xB.out (by kernel_rfl)) ?_
     try go_wp2
     go_loopg [122] lH (fun kq v122 w' => ∃ (r : Int) (vD : List (S63)) (u244004 : Value), v122 = .int .i64 r ∧ Aside0 (AR.l2 kq l3 (l3.length : Int) r a2 l4 t227 t228 t229 t232 vD = some (r1, r2, r3, r4, r5, r6)) ∧ Aside0 (kq ≤ lH) ∧ Aside0 (Kd.V k30 30 w' w.heap.size (fun a => ((bB a ∨ cB a ∨ cC a) ∨ w.heap.size ≤ a) ∧ some a ≠ ((.slice qB t229.length tB) : Value).ownBlock ∧ some a ≠ (u244004 : Value).ownBlock ∧ a ≠ I ∧ a ≠ D ∧ a ≠ J ∧ a ≠ O ∧ a ≠ G ∧ a ≠ s) (.slice A3 l3.length c3) l3) ∧ Aside0 (Kd.V k30 30 w' w.heap.size (fun a => ((bB a ∨ cB a ∨ cC a) ∨ w.heap.size ≤ a) ∧ some a ≠ ((.slice qB t229.length tB) : Value).ownBlock ∧ some a ≠ (u244004 : Value).ownBlock ∧ a ≠ I ∧ a ≠ D ∧ a ≠ J ∧ a ≠ O ∧ a ≠ G ∧ a ≠ s) (.slice oD oB.length rD) oB) ∧ Aside0 (Kd.V k63 63 w' w.heap.size (fun a => ((bB a ∨ cB a ∨ cC a) ∨ w.heap.size ≤ a) ∧ some a ≠ ((.slice qB t229.length tB) : Value).ownBlock ∧ some a ≠ (u244004 : Value).ownBlock ∧ a ≠ I ∧ a ≠ D ∧ a ≠ J ∧ a ≠ O ∧ a ≠ G ∧ a ≠ s) (.slice jD W.length wC) W) ∧ Aside0 (Kd.R (Kd.int .u8) 73 w' w.heap.size (fun a => (w.heap.size ≤ a)) (.slice qB t229.length tB) t229) ∧ Aside0 (Kd.V k30 30 w' w.heap.size (fun a => ((bB a ∨ cB a ∨ cC a) ∨ w.heap.size ≤ a) ∧ some a ≠ ((.slice qB t229.length tB) : Value).ownBlock ∧ some a ≠ (u244004 : Value).ownBlock ∧ a ≠ I ∧ a ≠ D ∧ a ≠ J ∧ a ≠ O ∧ a ≠ G ∧ a ≠ s) (.slice uG t232.length bH) t232) ∧ Aside0 (Kd.N k63 63 w' w.heap.size (fun a => ((bB a ∨ cB a ∨ cC a) ∨ w.heap.size ≤ a) ∧ some a ≠ ((.slice qB t229.length tB) : Value).ownBlock ∧ a ≠ I ∧ a ≠ D ∧ a ≠ J ∧ a ≠ O ∧ a ≠ G ∧ a ≠ s) u244004 vD) ∧ Aside0 (w'.heap[I]? = some (.cells #[.int .i64 bE, .int .i64 cE, .string dE, (.slice hE wD.length kE), (.slice jE xD.length lE)] 26 (0, 0))) ∧ Aside0 (w'.heap[D]? = some (.cells #[.int .i64 pD, .int .i64 qD, (.slice fE xC.length gE), (.slice oD oB.length rD), (.slice jD W.length wC)] 33 (0, 0))) ∧ Aside0 (w'.heap[J]? = some (.cells #[.int .i64 a2] 3 (0, 0))) ∧ Aside0 (w'.heap[O]? = some (.cells #[(.slice A4 l4.length c4)] 38 (0, 0))) ∧ Aside0 (w'.heap[G]? = some (.cells #[.int .i64 yB, .int .i64 zB, (.slice none 0 0), (.slice none 0 0), (.slice none 0 0)] 33 (0, 0))) ∧ Aside0 (w'.heap[s]? = some (.cells #[.int .i64 t227, .int .i64 t228, (.slice qB t229.length tB), (.slice uG t232.length bH), u244004] 33 (0, 0))) ∧ Aside0 (Below w.heap.size w w'))
     case atStart => exact ⟨(0), (cF), (.slice yU cF.length eV), rfl, H', ⟨Nat.le_refl _⟩, ⟨Ay (Kd.AJ (vI (q := s) (Kd.AJ hB.out (fun a d => (⟨d, d.2.2.2.2.2.2.2.2⟩ : _ ∧ a ≠ s))) (fun _ d => d.2)) (fun _ d => ⟨d.1.1, ⟨d.1.2.1, ⟨d.1.2.2.1, ⟨d.1.2.2.2.1, ⟨d.1.2.2.2.2.1, ⟨d.1.2.2.2.2.2.1, ⟨d.1.2.2.2.2.2.2.1, ⟨d.1.2.2.2.2.2.2.2.1, d.1.2.2.2.2.2.2.2.2⟩⟩⟩⟩⟩⟩⟩⟩))⟩, ⟨Ay (Kd.AJ (vI (q := s) (Kd.AJ m.out (fun a d => (⟨d, d.2.2.2.2.2.2.2.2⟩ : _ ∧ a ≠ s))) (fun _ d => d.2)) (fun _ d => ⟨d.1.1, ⟨d.1.2.1, ⟨d.1.2.2.1, ⟨d.1.2.2.2.1, ⟨d.1.2.2.2.2.1, ⟨d.1.2.2.2.2.2.1, ⟨d.1.2.2.2.2.2.2.1, ⟨d.1.2.2.2.2.2.2.2.1, d.1.2.2.2.2.2.2.2.2⟩⟩⟩⟩⟩⟩⟩⟩))⟩, ⟨Ay (Kd.AJ (vI (q := s) (Kd.AJ b.out (fun a d => (⟨d, d.2.2.2.2.2.2.2.2⟩ : _ ∧ a ≠ s))) (fun _ d => d.2)) (fun _ d => ⟨d.1.1, ⟨d.1.2.1, ⟨d.1.2.2.1, ⟨d.1.2.2.2.1, ⟨d.1.2.2.2.2.1, ⟨d.1.2.2.2.2.2.1, ⟨d.1.2.2.2.2.2.2.1, ⟨d.1.2.2.2.2.2.2.2.1, d.1.2.2.2.2.2.2.2.2⟩⟩⟩⟩⟩⟩⟩⟩))⟩, ⟨Df (Kd.BJ (rI (q := s) (Kd.BF oC.out T.out (by decide)) (fun _ d => d.2)) (fun _ d => d.1))⟩, ⟨Ay (Kd.AJ (vI (q := s) (Kd.AJ yC.out (fun a d => (⟨d, d.2.2.2.2.2.2.2.2⟩ : _ ∧ a ≠ s))) (fun _ d => d.2)) (fun _ d => ⟨d.1.1, ⟨d.1.2.1, ⟨d.1.2.2.1, ⟨d.1.2.2.2.1, ⟨d.1.2.2.2.2.1, ⟨d.1.2.2.2.2.2.1, ⟨d.1.2.2.2.2.2.2.1, ⟨d.1.2.2.2.2.2.2.2.1, d.1.2.2.2.2.2.2.2.2⟩⟩⟩⟩⟩⟩⟩⟩))⟩, ⟨F9 (Kd.Ca (nI (q := s) (Kd.Ca pE.out (fun a d => (⟨d, d.2.2.2.2.2.2.2⟩ : _ ∧ a ≠ s))) (fun _ d => d.2)) (fun _ d => ⟨d.1.1, ⟨d.1.2.1, ⟨d.1.2.2.1, ⟨d.1.2.2.2.1, ⟨d.1.2.2.2.2.1, ⟨d.1.2.2.2.2.2.1, ⟨d.1.2.2.2.2.2.2.1, d.1.2.2.2.2.2.2.2⟩⟩⟩⟩⟩⟩⟩))⟩, ⟨bF fC u⟩, ⟨bF L l⟩, ⟨bF gC x⟩, ⟨bF hC z⟩, ⟨bF iC B⟩, ⟨pB T⟩, ⟨be6 HB U X Y Z dB aC⟩⟩
     case round =>
      clear H'
      try clear c1; try clear c3; try clear c4; try clear c9; try clear lK
      obtain ⟨r, vD, u244004, rfl, HA, cV, nD, m, b, mB, wB, gB, u, l, x, z, B, T, HB⟩ := hrel
      cases gk with
      | zero => exact absurd HA.out (by simp [AR.l2])
      | succ k3 =>
       have H := HA.out; clear HA
       simp only [AR.l2] at H
       replace H := iD' H; obtain ⟨-, rP, H⟩ | ⟨-, rP, H⟩ := H
       ·simp only [Option.some.injEq, Prod.mk.injEq] at H
        obtain ⟨rfl, rfl, rfl, rfl, rfl, rfl⟩ := H
        have ⟨pX, eY⟩ := no rC fC; have ⟨qX, fY⟩ := no sC L; have ⟨rX, gY⟩ := no tC gC; have ⟨sX, hY⟩ := no uC hC; have ⟨tX, iY⟩ := no vC iC
        have n2 := cells5 T.out
        have ⟨uX, jY⟩ := no pG kG; have ⟨vX, kY⟩ := no qG mG; have ⟨wX, lY⟩ := no rG oG; have ⟨xX, mY⟩ := no mI jI
        have o2 := cells5 B.out
        obtain ⟨hR, wR, xR⟩ := Kd.Dk gB.out
        subst xR
        go_wp2
        refine bodyPost_ret (EW rfl _ _ G 33 #[.int .i64 t227, .int .i64 t228, .slice qB t229.length tB, .slice uG t232.length bH, .slice hR vD.length wR] (0, 0) _ rfl (pB B) Try.underlying33 rfl (by kernel_rfl)) rfl ?_
        exact ⟨_, _, _, rfl, by exact Df (Kd.BJ (rI (q := G) (Kd.BF mB.out B.out (by decide)) (fun _ d => d.2)) (fun _ d => d.1)), by exact Ay (Kd.AJ (vI (q := G) (Kd.AJ wB.out (fun a d => (⟨d, d.2.2.2.2.2.2.2.1⟩ : _ ∧ a ≠ G))) (fun _ d => d.2)) (fun _ d => ⟨d.1.1, ⟨d.1.2.1, d.1.2.2.1⟩⟩)), by exact F9 (Kd.Ca (nI (q := G) (Kd.Ca gB.out (fun a d => (⟨d, d.2.2.2.2.2.2.1⟩ : _ ∧ a ≠ G))) (fun _ d => d.2)) (fun _ d => ⟨d.1.1, d.1.2.1⟩)), be6 HB U X Y Z dB aC⟩
       replace H := iN H; obtain ⟨-, zW, H⟩ := H
       replace H := iN H; obtain ⟨-, aX, H⟩ := H
       replace H := iN H; obtain ⟨-, bX, H⟩ := H
       replace H := Option.bind_eq_some_iff.mp H
       obtain ⟨⟨uJ, vJ, uF, wJ⟩, mN, H⟩ := H
       replace H : (if vD.length < 1954687338268 then (AR.l2 k3 l3 (l3.length : Int) (wrap64 (r + 1)) a2 l4 t227 t228 t229 t232 (vD ++ [(⟨wrap64 (a2 + (rd l4 r)), (⟨uJ, vJ, uF, wJ⟩ : S30)⟩ : S63)])) else (none)) = some (r1, r2, r3, r4, r5, r6) := H
       have vU := mk0 mN; clear mN
       by_cases c111 : vD.length < 1954687338268
       rotate_left
       ·rw [if_neg c111] at H
        exact absurd H (by simp)
       rw [if_pos c111] at H; have qP := mk0 c111; clear c111
       obtain ⟨jP, lJ⟩ : ∃ y_ : List (S63), y_ = (vD ++ [(⟨wrap64 (a2 + (rd l4 r)), (⟨uJ, vJ, uF, wJ⟩ : S30)⟩ : S63)]) := ⟨_, rfl⟩
       replace H : (AR.l2 k3 l3 (l3.length : Int) (wrap64 (r + 1)) a2 l4 t227 t228 t229 t232 jP) = some (r1, r2, r3, r4, r5, r6) := by first | (rw [lJ]; with_reducible exact H) | (have vL := (Option.bind_some _ _).symm.trans H; rw [lJ]; with_reducible exact vL) | (have vL := (Option.bind_some _ _).symm.trans H; with_reducible exact vL) | with_reducible exact H | (rw [lJ]; exact H) | exact H
       have sR := mk0 lJ; clear lJ
       have H' := mk0 H
       clear H
       have fN : 0 ≤ (r : Int) := od
       have kN : r < (l3.length : Int) := od
       obtain ⟨tR, jC, lC, kC, mC, iV, zV, aW, yO, zO, hL, yK, iL, zK⟩ := Dv (Kd.AP nD.out).2.2 r fN kN
       cases iV
       obtain ⟨nZ, zP, vP, dK⟩ := Kd.FM nD.out z30 r fN (by first | exact kN | exact of_decide_eq_true (by assumption) | (have e_ := (Kd.AP nD.out).1; omega))
       obtain ⟨kW, sW, lW, tW, rfl, sJ, cJ, tJ, dJ⟩ := Ew vP
       have iH := dK 2 _ rfl
       rw [Ba _ _ 2 (by omega)] at iH
       replace iH := Option.some.inj (iH.symm.trans yO)
       injection iH with hva_ hvn_ hvc_
       rw [hva_] at cJ
       rw [hvc_] at sJ
       have kD := mk0 (show Kd.V (Kd.int .u8) 73 _ w.heap.size _ _ ((AB l3 r).f2) from Kd.DN sJ cJ)
       clear hva_ hvn_ hvc_ cJ sJ
       have jH := dK 3 _ rfl
       rw [Ba _ _ 3 (by omega)] at jH
       replace jH := Option.some.inj (jH.symm.trans zO)
       injection jH with hva_ hvn_ hvc_
       rw [hva_] at dJ
       rw [hvc_] at tJ
       have lD := mk0 (show Kd.V k30 30 _ w.heap.size _ _ ((AB l3 r).f3) from Kd.DN tJ dJ)
       clear hva_ hvn_ hvc_ dJ tJ; clear dK zP; have jK := mk0 yK; have uN := mk0 hL; clear yK hL; have kK := mk0 zK; have zU := mk0 iL; clear zK iL; replace fN := eq_true fN; replace kN := eq_true kN
       try go_wp2_with ((with_reducible refine AC rfl (N := 20) rfl (cs := #[.int .i64 0, .int .i64 0, .slice none 0 0, .slice none 0 0]) (t := 30) ?hr ?_); (case hr => first | (go_simp; done) | (go_simp; rfl)); intro y hg tE uD hb; obtain ⟨nD, m, b, wB, gB, kD, lD⟩ := tg7 hg hb nD m b wB gB kD lD; obtain ⟨mB, jK, kK⟩ := tb3 hb mB jK kK; have sB := mk0 (uD); have dF := bs (be6 HB U X Y Z dB aC) hg; replace HB := kh6 HB U X Y Z dB aC hb; have ⟨xH, hM⟩ := nn u hg; have ⟨bI, iM⟩ := nn l hg; have ⟨fI, jM⟩ := nn x hg; have ⟨lI, kM⟩ := nn z hg; have ⟨pI, lM⟩ := nn B hg; have ⟨sG, qI⟩ := nn T hg; obtain ⟨u, l, x, z, B, T⟩ := tb6 hb u l x z B T; clear hb uD hg; have ⟨jX, yX⟩ := no hM xH; have ⟨kX, zX⟩ := no iM bI; have ⟨lX, aY⟩ := no jM fI; have ⟨mX, bY⟩ := no kM lI; have ⟨nX, cY⟩ := no lM pI; have ⟨oX, dY⟩ := no qI sG; have m2 := AZ sB.out)
       have zC : Aside0 (Kd.V k30 30 ((((tE.setCell ⟨y, 0, none⟩ (.int .i64 ((AB l3 r).f0))).setCell ⟨y, 1, none⟩ (.int .i64 ((AB l3 r).f1))).setCell ⟨y, 2, none⟩ (.slice jC ((AB l3 r).f2).length lC)).setCell ⟨y, 3, none⟩ (.slice kC ((AB l3 r).f3).length mC)) w.heap.size (fun a => ((bB a ∨ cB a ∨ cC a) ∨ w.heap.size ≤ a) ∧ some a ≠ (.slice qB t229.length tB : Value).ownBlock ∧ some a ≠ (u244004 : Value).ownBlock ∧ a ≠ I ∧ a ≠ D ∧ a ≠ J ∧ a ≠ O ∧ a ≠ G ∧ a ≠ s ∧ a ≠ y) (.slice (some tR) l3.length c3) l3) := ⟨Ay (Kd.AJ (vI (q := y) (Kd.AJ nD.out (fun a d => (⟨d, d.2⟩ : _ ∧ a ≠ y))) (fun _ d => d.2)) (fun _ d => ⟨d.1.1.1, ⟨d.1.1.2.1, ⟨d.1.1.2.2.1, ⟨d.1.1.2.2.2.1, ⟨d.1.1.2.2.2.2.1, ⟨d.1.1.2.2.2.2.2.1, ⟨d.1.1.2.2.2.2.2.2.1, ⟨d.1.1.2.2.2.2.2.2.2.1, ⟨d.1.1.2.2.2.2.2.2.2.2, d.1.2⟩⟩⟩⟩⟩⟩⟩⟩⟩))⟩
       have aD : Aside0 (Kd.V k30 30 ((((tE.setCell ⟨y, 0, none⟩ (.int .i64 ((AB l3 r).f0))).setCell ⟨y, 1, none⟩ (.int .i64 ((AB l3 r).f1))).setCell ⟨y, 2, none⟩ (.slice jC ((AB l3 r).f2).length lC)).setCell ⟨y, 3, none⟩ (.slice kC ((AB l3 r).f3).length mC)) w.heap.size (fun a => ((bB a ∨ cB a ∨ cC a) ∨ w.heap.size ≤ a) ∧ some a ≠ (.slice qB t229.length tB : Value).ownBlock ∧ some a ≠ (u244004 : Value).ownBlock ∧ a ≠ I ∧ a ≠ D ∧ a ≠ J ∧ a ≠ O ∧ a ≠ G ∧ a ≠ s ∧ a ≠ y) (.slice oD oB.length rD) oB) := ⟨Ay (Kd.AJ (vI (q := y) (Kd.AJ m.out (fun a d => (⟨d, d.2⟩ : _ ∧ a ≠ y))) (fun _ d => d.2)) (fun _ d => ⟨d.1.1.1, ⟨d.1.1.2.1, ⟨d.1.1.2.2.1, ⟨d.1.1.2.2.2.1, ⟨d.1.1.2.2.2.2.1, ⟨d.1.1.2.2.2.2.2.1, ⟨d.1.1.2.2.2.2.2.2.1, ⟨d.1.1.2.2.2.2.2.2.2.1, ⟨d.1.1.2.2.2.2.2.2.2.2, d.1.2⟩⟩⟩⟩⟩⟩⟩⟩⟩))⟩
       have bD : Aside0 (Kd.V k63 63 ((((tE.setCell ⟨y, 0, none⟩ (.int .i64 ((AB l3 r).f0))).setCell ⟨y, 1, none⟩ (.int .i64 ((AB l3 r).f1))).setCell ⟨y, 2, none⟩ (.slice jC ((AB l3 r).f2).length lC)).setCell ⟨y, 3, none⟩ (.slice kC ((AB l3 r).f3).length mC)) w.heap.size (fun a => ((bB a ∨ cB a ∨ cC a) ∨ w.heap.size ≤ a) ∧ some a ≠ (.slice qB t229.length tB : Value).ownBlock ∧ some a ≠ (u244004 : Value).ownBlock ∧ a ≠ I ∧ a ≠ D ∧ a ≠ J ∧ a ≠ O ∧ a ≠ G ∧ a ≠ s ∧ a ≠ y) (.slice jD W.length wC) W) := ⟨Ay (Kd.AJ (vI (q := y) (Kd.AJ b.out (fun a d => (⟨d, d.2⟩ : _ ∧ a ≠ y))) (fun _ d => d.2)) (fun _ d => ⟨d.1.1.1, ⟨d.1.1.2.1, ⟨d.1.1.2.2.1, ⟨d.1.1.2.2.2.1, ⟨d.1.1.2.2.2.2.1, ⟨d.1.1.2.2.2.2.2.1, ⟨d.1.1.2.2.2.2.2.2.1, ⟨d.1.1.2.2.2.2.2.2.2.1, ⟨d.1.1.2.2.2.2.2.2.2.2, d.1.2⟩⟩⟩⟩⟩⟩⟩⟩⟩))⟩
       have cD : Aside0 (Kd.R (Kd.int .u8) 73 ((((tE.setCell ⟨y, 0, none⟩ (.int .i64 ((AB l3 r).f0))).setCell ⟨y, 1, none⟩ (.int .i64 ((AB l3 r).f1))).setCell ⟨y, 2, none⟩ (.slice jC ((AB l3 r).f2).length lC)).setCell ⟨y, 3, none⟩ (.slice kC ((AB l3 r).f3).length mC)) w.heap.size (fun a => (w.heap.size ≤ a)) (.slice qB t229.length tB) t229) := ⟨Df (Kd.BJ (rI (q := y) (Kd.BF mB.out sB.out (by decide)) (fun _ d => d.2)) (fun _ d => d.1))⟩
       have dD : Aside0 (Kd.V k30 30 ((((tE.setCell ⟨y, 0, none⟩ (.int .i64 ((AB l3 r).f0))).setCell ⟨y, 1, none⟩ (.int .i64 ((AB l3 r).f1))).setCell ⟨y, 2, none⟩ (.slice jC ((AB l3 r).f2).length lC)).setCell ⟨y, 3, none⟩ (.slice kC ((AB l3 r).f3).length mC)) w.heap.size (fun a => ((bB a ∨ cB a ∨ cC a) ∨ w.heap.size ≤ a) ∧ some a ≠ (.slice qB t229.length tB : Value).ownBlock ∧ some a ≠ (u244004 : Value).ownBlock ∧ a ≠ I ∧ a ≠ D ∧ a ≠ J ∧ a ≠ O ∧ a ≠ G ∧ a ≠ s ∧ a ≠ y) (.slice uG t232.length bH) t232) := ⟨Ay (Kd.AJ (vI (q := y) (Kd.AJ wB.out (fun a d => (⟨d, d.2⟩ : _ ∧ a ≠ y))) (fun _ d => d.2)) (fun _ d => ⟨d.1.1.1, ⟨d.1.1.2.1, ⟨d.1.1.2.2.1, ⟨d.1.1.2.2.2.1, ⟨d.1.1.2.2.2.2.1, ⟨d.1.1.2.2.2.2.2.1, ⟨d.1.1.2.2.2.2.2.2.1, ⟨d.1.1.2.2.2.2.2.2.2.1, ⟨d.1.1.2.2.2.2.2.2.2.2, d.1.2⟩⟩⟩⟩⟩⟩⟩⟩⟩))⟩
       have eD : Aside0 (Kd.N k63 63 ((((tE.setCell ⟨y, 0, none⟩ (.int .i64 ((AB l3 r).f0))).setCell ⟨y, 1, none⟩ (.int .i64 ((AB l3 r).f1))).setCell ⟨y, 2, none⟩ (.slice jC ((AB l3 r).f2).length lC)).setCell ⟨y, 3, none⟩ (.slice kC ((AB l3 r).f3).length mC)) w.heap.size (fun a => ((bB a ∨ cB a ∨ cC a) ∨ w.heap.size ≤ a) ∧ some a ≠ (.slice qB t229.length tB : Value).ownBlock ∧ a ≠ I ∧ a ≠ D ∧ a ≠ J ∧ a ≠ O ∧ a ≠ G ∧ a ≠ s ∧ a ≠ y) u244004 vD) := ⟨F9 (Kd.Ca (nI (q := y) (Kd.Ca gB.out (fun a d => (⟨d, d.2⟩ : _ ∧ a ≠ y))) (fun _ d => d.2)) (fun _ d => ⟨d.1.1.1, ⟨d.1.1.2.1, ⟨d.1.1.2.2.1, ⟨d.1.1.2.2.2.1, ⟨d.1.1.2.2.2.2.1, ⟨d.1.1.2.2.2.2.2.1, ⟨d.1.1.2.2.2.2.2.2.1, ⟨d.1.1.2.2.2.2.2.2.2, d.1.2⟩⟩⟩⟩⟩⟩⟩⟩))⟩
       have fD : Aside0 (Kd.V (Kd.int .u8) 73 ((((tE.setCell ⟨y, 0, none⟩ (.int .i64 ((AB l3 r).f0))).setCell ⟨y, 1, none⟩ (.int .i64 ((AB l3 r).f1))).setCell ⟨y, 2, none⟩ (.slice jC ((AB l3 r).f2).length lC)).setCell ⟨y, 3, none⟩ (.slice kC ((AB l3 r).f3).length mC)) w.heap.size (fun a => ((bB a ∨ cB a ∨ cC a) ∨ w.heap.size ≤ a) ∧ some a ≠ (.slice qB t229.length tB : Value).ownBlock ∧ some a ≠ (u244004 : Value).ownBlock ∧ a ≠ I ∧ a ≠ D ∧ a ≠ J ∧ a ≠ O ∧ a ≠ G ∧ a ≠ s ∧ a ≠ y) (.slice jC ((AB l3 r).f2).length lC) ((AB l3 r).f2)) := ⟨Ay (Kd.AJ (vI (q := y) (Kd.AJ kD.out (fun a d => (⟨d, d.2⟩ : _ ∧ a ≠ y))) (fun _ d => d.2)) (fun _ d => ⟨d.1.1.1, ⟨d.1.1.2.1, ⟨d.1.1.2.2.1, ⟨d.1.1.2.2.2.1, ⟨d.1.1.2.2.2.2.1, ⟨d.1.1.2.2.2.2.2.1, ⟨d.1.1.2.2.2.2.2.2.1, ⟨d.1.1.2.2.2.2.2.2.2.1, ⟨d.1.1.2.2.2.2.2.2.2.2, d.1.2⟩⟩⟩⟩⟩⟩⟩⟩⟩))⟩
       have gD : Aside0 (Kd.V k30 30 ((((tE.setCell ⟨y, 0, none⟩ (.int .i64 ((AB l3 r).f0))).setCell ⟨y, 1, none⟩ (.int .i64 ((AB l3 r).f1))).setCell ⟨y, 2, none⟩ (.slice jC ((AB l3 r).f2).length lC)).setCell ⟨y, 3, none⟩ (.slice kC ((AB l3 r).f3).length mC)) w.heap.size (fun a => ((bB a ∨ cB a ∨ cC a) ∨ w.heap.size ≤ a) ∧ some a ≠ (.slice qB t229.length tB : Value).ownBlock ∧ some a ≠ (u244004 : Value).ownBlock ∧ a ≠ I ∧ a ≠ D ∧ a ≠ J ∧ a ≠ O ∧ a ≠ G ∧ a ≠ s ∧ a ≠ y) (.slice kC ((AB l3 r).f3).length mC) ((AB l3 r).f3)) := ⟨Ay (Kd.AJ (vI (q := y) (Kd.AJ lD.out (fun a d => (⟨d, d.2⟩ : _ ∧ a ≠ y))) (fun _ d => d.2)) (fun _ d => ⟨d.1.1.1, ⟨d.1.1.2.1, ⟨d.1.1.2.2.1, ⟨d.1.1.2.2.2.1, ⟨d.1.1.2.2.2.2.1, ⟨d.1.1.2.2.2.2.2.1, ⟨d.1.1.2.2.2.2.2.2.1, ⟨d.1.1.2.2.2.2.2.2.2.1, ⟨d.1.1.2.2.2.2.2.2.2.2, d.1.2⟩⟩⟩⟩⟩⟩⟩⟩⟩))⟩
       have hD : Aside0 (((((tE.setCell ⟨y, 0, none⟩ (.int .i64 ((AB l3 r).f0))).setCell ⟨y, 1, none⟩ (.int .i64 ((AB l3 r).f1))).setCell ⟨y, 2, none⟩ (.slice jC ((AB l3 r).f2).length lC)).setCell ⟨y, 3, none⟩ (.slice kC ((AB l3 r).f3).length mC)).heap[I]? = some (.cells #[.int .i64 bE, .int .i64 cE, .string dE, .slice hE wD.length kE, .slice jE xD.length lE] 26 (0, 0))) := ⟨bF xH u⟩
       have yD : Aside0 (((((tE.setCell ⟨y, 0, none⟩ (.int .i64 ((AB l3 r).f0))).setCell ⟨y, 1, none⟩ (.int .i64 ((AB l3 r).f1))).setCell ⟨y, 2, none⟩ (.slice jC ((AB l3 r).f2).length lC)).setCell ⟨y, 3, none⟩ (.slice kC ((AB l3 r).f3).length mC)).heap[D]? = some (.cells #[.int .i64 pD, .int .i64 qD, .slice fE xC.length gE, .slice oD oB.length rD, .slice jD W.length wC] 33 (0, 0))) := ⟨bF bI l⟩
       have dC : Aside0 (((((tE.setCell ⟨y, 0, none⟩ (.int .i64 ((AB l3 r).f0))).setCell ⟨y, 1, none⟩ (.int .i64 ((AB l3 r).f1))).setCell ⟨y, 2, none⟩ (.slice jC ((AB l3 r).f2).length lC)).setCell ⟨y, 3, none⟩ (.slice kC ((AB l3 r).f3).length mC)).heap[J]? = some (.cells #[.int .i64 a2] 3 (0, 0))) := ⟨bF fI x⟩
       have eC : Aside0 (((((tE.setCell ⟨y, 0, none⟩ (.int .i64 ((AB l3 r).f0))).setCell ⟨y, 1, none⟩ (.int .i64 ((AB l3 r).f1))).setCell ⟨y, 2, none⟩ (.slice jC ((AB l3 r).f2).length lC)).setCell ⟨y, 3, none⟩ (.slice kC ((AB l3 r).f3).length mC)).heap[O]? = some (.cells #[.slice A4 l4.length c4] 38 (0, 0))) := ⟨bF lI z⟩
       have nC : Aside0 (((((tE.setCell ⟨y, 0, none⟩ (.int .i64 ((AB l3 r).f0))).setCell ⟨y, 1, none⟩ (.int .i64 ((AB l3 r).f1))).setCell ⟨y, 2, none⟩ (.slice jC ((AB l3 r).f2).length lC)).setCell ⟨y, 3, none⟩ (.slice kC ((AB l3 r).f3).length mC)).heap[G]? = some (.cells #[.int .i64 yB, .int .i64 zB, .slice none 0 0, .slice none 0 0, .slice none 0 0] 33 (0, 0))) := ⟨bF pI B⟩
       have mD : Aside0 (((((tE.setCell ⟨y, 0, none⟩ (.int .i64 ((AB l3 r).f0))).setCell ⟨y, 1, none⟩ (.int .i64 ((AB l3 r).f1))).setCell ⟨y, 2, none⟩ (.slice jC ((AB l3 r).f2).length lC)).setCell ⟨y, 3, none⟩ (.slice kC ((AB l3 r).f3).length mC)).heap[s]? = some (.cells #[.int .i64 t227, .int .i64 t228, .slice qB t229.length tB, .slice uG t232.length bH, u244004] 33 (0, 0))) := ⟨bF sG T⟩
       have zD : Aside0 (((((tE.setCell ⟨y, 0, none⟩ (.int .i64 ((AB l3 r).f0))).setCell ⟨y, 1, none⟩ (.int .i64 ((AB l3 r).f1))).setCell ⟨y, 2, none⟩ (.slice jC ((AB l3 r).f2).length lC)).setCell ⟨y, 3, none⟩ (.slice kC ((AB l3 r).f3).length mC)).heap[y]? = some (.cells #[.int .i64 ((AB l3 r).f0), .int .i64 ((AB l3 r).f1), .slice jC ((AB l3 r).f2).length lC, .slice kC ((AB l3 r).f3).length mC] 30 (0, 0))) := ⟨pB sB⟩
       have aE : Aside0 (Below w.heap.size w ((((tE.setCell ⟨y, 0, none⟩ (.int .i64 ((AB l3 r).f0))).setCell ⟨y, 1, none⟩ (.int .i64 ((AB l3 r).f1))).setCell ⟨y, 2, none⟩ (.slice jC ((AB l3 r).f2).length lC)).setCell ⟨y, 3, none⟩ (.slice kC ((AB l3 r).f3).length mC))) := ⟨be7 HB U X Y Z dB aC dF⟩
       try clear nD
       try clear m
       try clear b
       try clear mB
       try clear wB
       try clear gB
       try clear kD
       try clear lD
       try clear u
       try clear l
       try clear x
       try clear z
       try clear B
       try clear T
       try clear sB
       try clear HB
       generalize ((((tE.setCell ⟨y, 0, none⟩ (.int .i64 ((AB l3 r).f0))).setCell ⟨y, 1, none⟩ (.int .i64 ((AB l3 r).f1))).setCell ⟨y, 2, none⟩ (.slice jC ((AB l3 r).f2).length lC)).setCell ⟨y, 3, none⟩ (.slice kC ((AB l3 r).f3).length mC)) = vW at zC aD bD cD dD eD fD gD hD yD dC eC nC mD zD aE ⊢
       have nD := zC; have m := aD; have b := bD; have mB := cD; have wB := dD; have gB := eD; have kD := fD; have lD := gD; have u := hD; have l := yD; have x := dC; have z := eC; have B := nC; have T := mD; have sB := zD; have HB := aE; clear zC aD bD cD dD eD fD gD hD yD dC eC nC mD zD aE
       have zC := mk0 (Kd.Bn nD.out)
       have aD := mk0 (Kd.Bn m.out)
       have bD := mk0 (Kd.Bn b.out)
       have cD := mk0 (Kd.F5 mB.out)
       have dD := mk0 (Kd.Bn wB.out)
       have eD := mk0 (Kd.Il gB.out)
       have fD := mk0 (Kd.Bn kD.out)
       have gD := mk0 (Kd.Bn lD.out)
       have hD := mk0 (AY u.out)
       have yD := mk0 (AY l.out)
       have dC := mk0 (AY x.out)
       have eC := mk0 (AY z.out)
       have nC := mk0 (AY B.out)
       have mD := mk0 (AY T.out)
       have zD := mk0 (AY sB.out)
       have aE := mk0 (Aa HB.out)
       clear nD; clear m; clear b; clear mB; clear wB; clear gB; clear kD; clear lD; clear u; clear l; clear x; clear z; clear B; clear T; clear sB; clear HB; have nD := zC; have m := aD; have b := bD; have mB := cD; have wB := dD; have gB := eD; have kD := fD; have lD := gD; have u := hD; have l := yD; have x := dC; have z := eC; have B := nC; have T := mD; have sB := zD; have HB := aE; clear zC aD bD cD dD eD fD gD hD yD dC eC nC mD zD aE
       have bP : 0 ≤ (r : Int) := od
       have cP : r < (l4.length : Int) := od
       obtain ⟨tI, jV, kH⟩ := Kd.DF iR.out r bP cP
       have zF := kH; cases jV
       replace kH := AL HB.out kH
       replace bP := eq_true bP; replace cP := eq_true cP
       refine DL (n := 15) (S := fun w' => w'.cell? ⟨s, 0, none⟩ = some (.int .i64 t227) ∧ w'.cell? ⟨s, 1, none⟩ = some (.int .i64 t228) ∧ w'.cell? ⟨s, 2, none⟩ = some (.slice qB t229.length tB) ∧ w'.cell? ⟨s, 3, none⟩ = some (.slice uG t232.length bH) ∧ w'.cell? ⟨s, 4, none⟩ = some (u244004) ∧ w'.cell? ⟨J, 0, none⟩ = some (.int .i64 a2) ∧ w'.cell? ⟨O, 0, none⟩ = some (.slice (some tI) l4.length c4) ∧ w'.cell? ⟨y, 0, none⟩ = some (.int .i64 ((AB l3 r).f0)) ∧ w'.cell? ⟨y, 1, none⟩ = some (.int .i64 ((AB l3 r).f1)) ∧ w'.cell? ⟨y, 2, none⟩ = some (.slice jC ((AB l3 r).f2).length lC) ∧ w'.cell? ⟨y, 3, none⟩ = some (.slice kC ((AB l3 r).f3).length mC) ∧ w'.cell? (tI.add (r).toNat) = some (.int .i64 (rd l4 r))) (ds := [14]) (tf 0 15) (by kernel_rfl) rfl rfl ⟨bc T 0, bc T 1, bc T 2, bc T 3, bc T 4, bc x 0, bc z 0, bc sB 0, bc sB 1, bc sB 2, bc sB 3, (AL HB.out zF)⟩ (fun eB => ?_); refine CW AR.Pj AR.O3 (fun xB aH => ?_)
       generalize vW.drew = p3 at nD m b mB wB gB kD lD u l x z B T sB HB kH eB ⊢
       refine pv 0 127 (tf 1 14) xB ?_
       refine pv 4 131 #[true, false, false, false, true, false, false, false, false, false, false, false, false, false, false] xB ?_
       refine Br (i := 1) (N := some 128) (v := ?_) (a' := ?_) #[true, true, false, false, true, false, false, false, false, false, false, false, false, false, false] rfl rfl (BB xB.out aH.out (by kernel_rfl)) (fun _ _ _ h => h) (Or.inl ⟨by rfl, ?_⟩) eB ?_ ?_
       rotate_left
       ·rintro w' ⟨s0, s1, s2, s3, s4, s5, s6, s7, s8, s9, qL, rL⟩
        go_simp
        with_reducible rfl
       rotate_left
       ·simp only [ps]
        rfl
       refine Br (i := 2) (N := some 129) (v := ?_) (a' := ?_) #[true, true, true, false, true, false, false, false, false, false, false, false, false, false, false] rfl rfl (BB xB.out aH.out (by kernel_rfl)) (fun _ _ _ h => h) (Or.inl ⟨by rfl, ?_⟩) eB ?_ ?_
       rotate_left
       ·rintro w' ⟨s0, s1, s2, s3, s4, s5, s6, s7, s8, s9, qL, rL⟩
        go_simp
        with_reducible rfl
       rotate_left
       ·simp only [ps]
        rfl
       refine Br (i := 3) (N := some 130) (v := ?_) (a' := ?_) (tf 5 10) rfl rfl (BB xB.out aH.out (by kernel_rfl)) (fun _ _ _ h => h) (Or.inl ⟨by rfl, ?_⟩) eB ?_ ?_
       rotate_left
       ·rintro w' ⟨s0, s1, s2, s3, s4, s5, s6, s7, s8, s9, qL, rL⟩
        go_simp
        with_reducible rfl
       rotate_left
       ·simp only [ps]
        rfl
       refine pv 5 132 (tf 6 9) xB ?_
       refine Br (i := 6) (N := some 133) (v := ?_) (a' := ?_) (tf 7 8) rfl rfl (BB xB.out aH.out (by kernel_rfl)) (fun _ _ _ h => h) (Or.inl ⟨by rfl, ?_⟩) eB ?_ ?_
       rotate_left
       ·rintro w' ⟨s0, s1, s2, s3, s4, s5, s6, s7, s8, s9, qL, rL⟩
        go_simp
        with_reducible rfl
       rotate_left
       ·simp only [ps]
        rfl
       refine pv 7 134 (tf 8 7) xB ?_
       refine Br (i := 8) (N := some 135) (v := ?_) (a' := ?_) (tf 9 6) rfl rfl (BB xB.out aH.out (by kernel_rfl)) (fun _ _ _ h => h) (Or.inl ⟨by rfl, ?_⟩) eB ?_ ?_
       rotate_left
       ·rintro w' ⟨s0, s1, s2, s3, s4, s5, s6, s7, s8, s9, qL, rL⟩
        go_simp
        with_reducible rfl
       rotate_left
       ·simp only [ps]
        rfl
       refine Dh (i := 9) (N := some 136) (tf 10 5) rfl rfl (CO xB.out (by kernel_rfl)) (by decide) (fun K hK => ?_)
       refine DC Try.func51 (by kernel_rfl) rfl #[.agg #[.int .i64 ((AB l3 r).f0), .int .i64 ((AB l3 r).f1), .slice jC ((AB l3 r).f2).length lC, .slice kC ((AB l3 r).f3).length mC]] (by rfl) rfl rfl (by (try simp only [List.map_toArray, List.map_cons, List.map_nil]); first | done | rfl | (simp only [List.length_drop, List.length_take]; rfl)) ?_
       with_reducible refine (drivers_copied.calls ((AB l3 r).f0) ((AB l3 r).f1) _ _ ((AB l3 r).f2) (fun a => (((bB a ∨ cB a ∨ cC a) ∨ w.heap.size ≤ a) ∧ (some a ≠ (.slice qB t229.length tB : Value).ownBlock ∧ (some a ≠ (u244004 : Value).ownBlock ∧ (a ≠ I ∧ (a ≠ D ∧ (a ≠ J ∧ (a ≠ O ∧ (a ≠ G ∧ (a ≠ s ∧ a ≠ y)))))))))) _ _ ((AB l3 r).f3) uJ vJ uF wJ _ ?side1 ?side2 ?side3 vU.out).mono ?_
       (case side1 => exact ((Kd.AP (CK kD.out)).2.2))
       (case side2 => exact uN.out)
       (case side3 => exact lD.out)
       rintro e q3 ⟨v250, v253, rfl, sD, jL, hb⟩
       refine ⟨_, rfl, ?_⟩
       have zC := mk0 (Kd.BN (CK nD.out) (Kd.Bf sD) hb)
       have aD := mk0 (Kd.BN (CK m.out) (Kd.Bf sD) hb)
       have bD := mk0 (Kd.BN (CK b.out) (Kd.Bf sD) hb)
       have cD := mk0 (Kd.GL (DZ mB.out) (Kd.Bf sD) hb)
       have dD := mk0 (Kd.BN (CK wB.out) (Kd.Bf sD) hb)
       have eD := mk0 (Kd.Ei (FR gB.out) (Kd.Bf sD) hb)
       have fD := mk0 (Kd.BN (CK kD.out) (Kd.Bf sD) hb)
       have gD := mk0 (Kd.BN (CK lD.out) (Kd.Bf sD) hb)
       have hD := mk0 (Kd.Cj (Kd.F6 (Kd.Ea (M := fun a => (w.heap.size ≤ a)) (Kd.BJ (ok' := fun a => True) sD (fun _ pC => trivial)) (AV (be7 HB U X Y Z dB aC dF)) (fun a h_ => h_)) (Kd.Fj (DZ mB.out))) (AV (be7 HB U X Y Z dB aC dF)))
       have yD := mk0 (Kd.Gg (Kd.AJ (ok' := fun a => ((bB a ∨ cB a ∨ cC a) ∨ w.heap.size ≤ a) ∧ some a ≠ (v250 : Value).ownBlock ∧ some a ≠ (.slice qB t229.length tB : Value).ownBlock ∧ some a ≠ (u244004 : Value).ownBlock ∧ a ≠ I ∧ a ≠ D ∧ a ≠ J ∧ a ≠ O ∧ a ≠ G ∧ a ≠ s ∧ a ≠ y) jL (fun a pC => ⟨Or.elim pC.1 (fun kB => kB.1) (fun jB => (.inr (Nat.le_trans (AV (be7 HB U X Y Z dB aC dF)) jB))), pC.2, Or.elim pC.1 (fun kB => kB.2.1) (fun jB => (Kd.fresh' (Kd.Fj (DZ mB.out)) a jB)), Or.elim pC.1 (fun kB => kB.2.2.1) (fun jB => (Kd.fresh' (Kd.Kg (FR gB.out)) a jB)), Or.elim pC.1 (fun kB => kB.2.2.2.1) (fun jB => (Kd.BM (g := I) (o := .cells #[.int .i64 bE, .int .i64 cE, .string dE, .slice hE wD.length kE, .slice jE xD.length lE] 26 (0, 0)) (Ac u.out) a jB)), Or.elim pC.1 (fun kB => kB.2.2.2.2.1) (fun jB => (Kd.BM (g := D) (o := .cells #[.int .i64 pD, .int .i64 qD, .slice fE xC.length gE, .slice oD oB.length rD, .slice jD W.length wC] 33 (0, 0)) (Ac l.out) a jB)), Or.elim pC.1 (fun kB => kB.2.2.2.2.2.1) (fun jB => (Kd.BM (g := J) (o := .cells #[.int .i64 a2] 3 (0, 0)) (Ac x.out) a jB)), Or.elim pC.1 (fun kB => kB.2.2.2.2.2.2.1) (fun jB => (Kd.BM (g := O) (o := .cells #[.slice (some tI) l4.length c4] 38 (0, 0)) (Ac z.out) a jB)), Or.elim pC.1 (fun kB => kB.2.2.2.2.2.2.2.1) (fun jB => (Kd.BM (g := G) (o := .cells #[.int .i64 yB, .int .i64 zB, .slice none 0 0, .slice none 0 0, .slice none 0 0] 33 (0, 0)) (Ac B.out) a jB)), Or.elim pC.1 (fun kB => kB.2.2.2.2.2.2.2.2.1) (fun jB => (Kd.BM (g := s) (o := .cells #[.int .i64 t227, .int .i64 t228, .slice qB t229.length tB, .slice uG t232.length bH, u244004] 33 (0, 0)) (Ac T.out) a jB)), Or.elim pC.1 (fun kB => kB.2.2.2.2.2.2.2.2.2) (fun jB => (Kd.BM (g := y) (o := .cells #[.int .i64 ((AB l3 r).f0), .int .i64 ((AB l3 r).f1), .slice jC ((AB l3 r).f2).length lC, .slice kC ((AB l3 r).f3).length mC] 30 (0, 0)) (Ac sB.out) a jB))⟩)) (AV (be7 HB U X Y Z dB aC dF)))
       have dC := kb u hb
       have eC := kb l hb
       have nC := kb x hb
       have mD := kb z hb
       have zD := kb B hb
       have aE := kb T hb
       have oE := kb sB hb
       have zE := kh7 HB U X Y Z dB aC dF hb
       clear nD; clear m; clear b; clear mB; clear wB; clear gB; clear kD; clear lD; clear u; clear l; clear x; clear z; clear B; clear T; clear sB; clear HB; have nD := zC; have m := aD; have b := bD; have mB := cD; have wB := dD; have gB := eD; have kD := fD; have lD := gD; have yJ := hD; have nH := yD; have u := dC; have l := eC; have x := nC; have z := mD; have B := zD; have T := aE; have sB := oE; have HB := zE; clear zC aD bD cD dD eD fD gD hD yD dC eC nC mD zD aE oE zE
       try clear hb
       try clear d
       try clear hi
       try clear sD
       try clear jL
       obtain ⟨fR, uR, lO⟩ := Kd.DR nH.out
       (first | subst lO | (injection lO with f1_ f2_ f3_; have qE := f1_.symm; have rE := f3_.symm; clear f1_ f2_ f3_; subst qE; subst rE))
       obtain ⟨wF, xF, mO⟩ := Kd.CJ yJ.out
       (first | subst mO | (injection mO with f1_ f2_ f3_; have qE := f1_.symm; have rE := f3_.symm; clear f1_ f2_ f3_; subst qE; subst rE))
       refine hK.out _ _ ⟨bc T 0, bc T 1, bc T 2, bc T 3, bc T 4, bc x 0, bc z 0, bc sB 0, bc sB 1, bc sB 2, bc sB 3, (AL HB.out zF)⟩ (fun eB => ?_)
       clear hK K
       refine CQ (a' := ?_) ?_ ?_
       rotate_left
       ·show Act.put _ (some 136) _ = _
        simp only [ps]
        rfl
       refine pv 10 137 (tf 11 4) xB ?_
       refine Dh (i := 11) (N := some 138) (tf 12 3) rfl rfl (CO xB.out (by kernel_rfl)) (by decide) (fun K hK => ?_)
       refine CE (w1 := ?_) (v := ?_) (by rfl) rfl ?_ ?_
       rotate_left 2
       ·go_simp
        constructor
        ·rfl
        ·rfl
       refine hK.out _ _ ⟨(Ak (AX T.out _) 0).trans rfl, (Ak (AX T.out _) 1).trans rfl, (Ak (AX T.out _) 2).trans rfl, (Ak (AX T.out _) 3).trans rfl, (Ak (AX T.out _) 4).trans rfl, (Ak (AX x.out _) 0).trans rfl, (Ak (AX z.out _) 0).trans rfl, (Ak (AX sB.out _) 0).trans rfl, (Ak (AX sB.out _) 1).trans rfl, (Ak (AX sB.out _) 2).trans rfl, (Ak (AX sB.out _) 3).trans rfl, (World.cell?_alloc_lt _ _ _ (World.block_lt_of_cell? _ _ ((AL HB.out zF)))).trans ((AL HB.out zF))⟩ (fun eB => ?_)
       clear hK K
       refine CQ (a' := ?_) ?_ ?_
       rotate_left
       ·show Act.put _ (some 138) _ = _
        simp only [ps]
        rfl
       refine Dh (i := 12) (N := some 139) (tf 13 2) rfl rfl (CO xB.out (by kernel_rfl)) (by decide) (fun K hK => ?_)
       refine Kd.Fb k63 (w0 := w) w.heap.size (by rfl) (.tmp 128) (.tmp 138) 31 63 (.agg #[(.int .i64 0), (.int .i64 0), (.int .i64 0), (.slice none 0 0), (.slice none 0 0)]) 72 rfl Try.underlying31 GA rfl (by decide) (by omega) u244004 vD (⟨wrap64 (a2 + (rd l4 r)), (⟨uJ, vJ, uF, wJ⟩ : S30)⟩ : S63) [.int .i64 (wrap64 (a2 + (rd l4 r))), .int .i64 uJ, .int .i64 vJ, .slice wF uF.length xF, .slice fR wJ.length uR] (fun a => ((bB a ∨ cB a ∨ cC a) ∨ w.heap.size ≤ a) ∧ some a ≠ (.slice qB t229.length tB : Value).ownBlock ∧ a ≠ I ∧ a ≠ D ∧ a ≠ J ∧ a ≠ O ∧ a ≠ G ∧ a ≠ s ∧ a ≠ y) (fun a => ((fun a => ((bB a ∨ cB a ∨ cC a) ∨ w.heap.size ≤ a) ∧ some a ≠ (.slice qB t229.length tB : Value).ownBlock ∧ a ≠ I ∧ a ≠ D ∧ a ≠ J ∧ a ≠ O ∧ a ≠ G ∧ a ≠ s ∧ a ≠ y)) a ∧ some a ≠ (u244004 : Value).ownBlock) rfl rfl ?aP (fun _ d => d) ?aF ?aO ?aB ?aS ?aL ?_
       (case aP => exact (IQ _ _ (⟨wrap64 (a2 + (rd l4 r)), (⟨uJ, vJ, uF, wJ⟩ : S30)⟩ : S63) (Kd.Db (Kd.BJ (ok' := (fun a => ((fun a => ((bB a ∨ cB a ∨ cC a) ∨ w.heap.size ≤ a) ∧ some a ≠ (.slice qB t229.length tB : Value).ownBlock ∧ a ≠ I ∧ a ≠ D ∧ a ≠ J ∧ a ≠ O ∧ a ≠ G ∧ a ≠ s ∧ a ≠ y)) a ∧ some a ≠ (u244004 : Value).ownBlock)) (Kd.BF (Kd.BF (Kd.BF (Kd.BF (Kd.BF (Kd.BF (Kd.BF (Kd.Cr (yJ.out) (Kd.Dj gB.out) (by decide)) u.out (by decide)) l.out (by decide)) x.out (by decide)) z.out (by decide)) B.out (by decide)) T.out (by decide)) sB.out (by decide)) (fun a d => ⟨⟨(.inr (d.1.1.1.1.1.1.1.1.1.1)), ⟨d.1.1.1.1.1.1.1.1.2, ⟨d.1.1.1.1.1.1.2, ⟨d.1.1.1.1.1.2, ⟨d.1.1.1.1.2, ⟨d.1.1.1.2, ⟨d.1.1.2, ⟨d.1.2, d.2⟩⟩⟩⟩⟩⟩⟩⟩, d.1.1.1.1.1.1.1.2⟩))).2.1 (Kd.R_F (Kd.BJ (ok' := (fun a => ((fun a => ((bB a ∨ cB a ∨ cC a) ∨ w.heap.size ≤ a) ∧ some a ≠ (.slice qB t229.length tB : Value).ownBlock ∧ a ≠ I ∧ a ≠ D ∧ a ≠ J ∧ a ≠ O ∧ a ≠ G ∧ a ≠ s ∧ a ≠ y)) a ∧ some a ≠ (u244004 : Value).ownBlock)) (Kd.BF (Kd.BF (Kd.BF (Kd.BF (Kd.BF (Kd.BF (Kd.BF (Kd.Cr (yJ.out) (Kd.Dj gB.out) (by decide)) u.out (by decide)) l.out (by decide)) x.out (by decide)) z.out (by decide)) B.out (by decide)) T.out (by decide)) sB.out (by decide)) (fun a d => ⟨⟨(.inr (d.1.1.1.1.1.1.1.1.1.1)), ⟨d.1.1.1.1.1.1.1.1.2, ⟨d.1.1.1.1.1.1.2, ⟨d.1.1.1.1.1.2, ⟨d.1.1.1.1.2, ⟨d.1.1.1.2, ⟨d.1.1.2, ⟨d.1.2, d.2⟩⟩⟩⟩⟩⟩⟩⟩, d.1.1.1.1.1.1.1.2⟩))) (Kd.AP (Kd.AJ (ok' := (fun a => ((fun a => ((bB a ∨ cB a ∨ cC a) ∨ w.heap.size ≤ a) ∧ some a ≠ (.slice qB t229.length tB : Value).ownBlock ∧ a ≠ I ∧ a ≠ D ∧ a ≠ J ∧ a ≠ O ∧ a ≠ G ∧ a ≠ s ∧ a ≠ y)) a ∧ some a ≠ (u244004 : Value).ownBlock)) (nH.out) (fun a d => ⟨⟨d.1, ⟨d.2.2.1, ⟨d.2.2.2.2.1, ⟨d.2.2.2.2.2.1, ⟨d.2.2.2.2.2.2.1, ⟨d.2.2.2.2.2.2.2.1, ⟨d.2.2.2.2.2.2.2.2.1, ⟨d.2.2.2.2.2.2.2.2.2.1, d.2.2.2.2.2.2.2.2.2.2⟩⟩⟩⟩⟩⟩⟩⟩, d.2.2.2.1⟩))).2.1 (Kd.V_F (Kd.AJ (ok' := (fun a => ((fun a => ((bB a ∨ cB a ∨ cC a) ∨ w.heap.size ≤ a) ∧ some a ≠ (.slice qB t229.length tB : Value).ownBlock ∧ a ≠ I ∧ a ≠ D ∧ a ≠ J ∧ a ≠ O ∧ a ≠ G ∧ a ≠ s ∧ a ≠ y)) a ∧ some a ≠ (u244004 : Value).ownBlock)) (nH.out) (fun a d => ⟨⟨d.1, ⟨d.2.2.1, ⟨d.2.2.2.2.1, ⟨d.2.2.2.2.2.1, ⟨d.2.2.2.2.2.2.1, ⟨d.2.2.2.2.2.2.2.1, ⟨d.2.2.2.2.2.2.2.2.1, ⟨d.2.2.2.2.2.2.2.2.2.1, d.2.2.2.2.2.2.2.2.2.2⟩⟩⟩⟩⟩⟩⟩⟩, d.2.2.2.1⟩)))))
       (case aB => exact (be7 HB U X Y Z dB aC dF))
       (case aF => exact (fun a d => ⟨(.inr (Nat.le_trans (AV (be7 HB U X Y Z dB aC dF)) d)), Kd.fresh' (Kd.Fj (DZ mB.out)) a d, Kd.BM (g := I) (o := .cells #[.int .i64 bE, .int .i64 cE, .string dE, .slice hE wD.length kE, .slice jE xD.length lE] 26 (0, 0)) (Ac u.out) a d, Kd.BM (g := D) (o := .cells #[.int .i64 pD, .int .i64 qD, .slice fE xC.length gE, .slice oD oB.length rD, .slice jD W.length wC] 33 (0, 0)) (Ac l.out) a d, Kd.BM (g := J) (o := .cells #[.int .i64 a2] 3 (0, 0)) (Ac x.out) a d, Kd.BM (g := O) (o := .cells #[.slice (some tI) l4.length c4] 38 (0, 0)) (Ac z.out) a d, Kd.BM (g := G) (o := .cells #[.int .i64 yB, .int .i64 zB, .slice none 0 0, .slice none 0 0, .slice none 0 0] 33 (0, 0)) (Ac B.out) a d, Kd.BM (g := s) (o := .cells #[.int .i64 t227, .int .i64 t228, .slice qB t229.length tB, .slice uG t232.length bH, u244004] 33 (0, 0)) (Ac T.out) a d, Kd.BM (g := y) (o := .cells #[.int .i64 ((AB l3 r).f0), .int .i64 ((AB l3 r).f1), .slice jC ((AB l3 r).f2).length lC, .slice kC ((AB l3 r).f3).length mC] 30 (0, 0)) (Ac sB.out) a d⟩))
       (case aO => exact (F9 (Kd.Ca gB.out (fun _ d => ⟨d.1.1, ⟨d.1.2.1, ⟨d.1.2.2.1, ⟨d.1.2.2.2.1, ⟨d.1.2.2.2.2.1, ⟨d.1.2.2.2.2.2.1, ⟨d.1.2.2.2.2.2.2.1, ⟨d.1.2.2.2.2.2.2.2.1, d.1.2.2.2.2.2.2.2.2⟩⟩⟩⟩⟩⟩⟩⟩))))
       (case aS => exact (AV (be7 HB U X Y Z dB aC dF)))
       (case aL => have := qP.out; omega)
       intro v256 wW ho hb hg pK
       rw [← sR.out] at ho
       have zC := mk0 (Kd.Bh (ok := (fun a => ((bB a ∨ cB a ∨ cC a) ∨ w.heap.size ≤ a) ∧ some a ≠ (.slice qB t229.length tB : Value).ownBlock ∧ some a ≠ (.slice wF uF.length xF : Value).ownBlock ∧ a ≠ I ∧ a ≠ D ∧ a ≠ J ∧ a ≠ O ∧ a ≠ G ∧ a ≠ s ∧ a ≠ y)) (Ay (Kd.AJ nD.out (fun _ d => ⟨⟨d.1.1, ⟨d.1.2.1, ⟨d.2, ⟨d.1.2.2.2.1, ⟨d.1.2.2.2.2.1, ⟨d.1.2.2.2.2.2.1, ⟨d.1.2.2.2.2.2.2.1, ⟨d.1.2.2.2.2.2.2.2.1, ⟨d.1.2.2.2.2.2.2.2.2.1, d.1.2.2.2.2.2.2.2.2.2⟩⟩⟩⟩⟩⟩⟩⟩⟩, d.1.2.2.1⟩))) hg pK)
       have aD := mk0 (Kd.Bh (ok := (fun a => ((bB a ∨ cB a ∨ cC a) ∨ w.heap.size ≤ a) ∧ some a ≠ (.slice qB t229.length tB : Value).ownBlock ∧ some a ≠ (.slice wF uF.length xF : Value).ownBlock ∧ a ≠ I ∧ a ≠ D ∧ a ≠ J ∧ a ≠ O ∧ a ≠ G ∧ a ≠ s ∧ a ≠ y)) (Ay (Kd.AJ m.out (fun _ d => ⟨⟨d.1.1, ⟨d.1.2.1, ⟨d.2, ⟨d.1.2.2.2.1, ⟨d.1.2.2.2.2.1, ⟨d.1.2.2.2.2.2.1, ⟨d.1.2.2.2.2.2.2.1, ⟨d.1.2.2.2.2.2.2.2.1, ⟨d.1.2.2.2.2.2.2.2.2.1, d.1.2.2.2.2.2.2.2.2.2⟩⟩⟩⟩⟩⟩⟩⟩⟩, d.1.2.2.1⟩))) hg pK)
       have bD := mk0 (Kd.Bh (ok := (fun a => ((bB a ∨ cB a ∨ cC a) ∨ w.heap.size ≤ a) ∧ some a ≠ (.slice qB t229.length tB : Value).ownBlock ∧ some a ≠ (.slice wF uF.length xF : Value).ownBlock ∧ a ≠ I ∧ a ≠ D ∧ a ≠ J ∧ a ≠ O ∧ a ≠ G ∧ a ≠ s ∧ a ≠ y)) (Ay (Kd.AJ b.out (fun _ d => ⟨⟨d.1.1, ⟨d.1.2.1, ⟨d.2, ⟨d.1.2.2.2.1, ⟨d.1.2.2.2.2.1, ⟨d.1.2.2.2.2.2.1, ⟨d.1.2.2.2.2.2.2.1, ⟨d.1.2.2.2.2.2.2.2.1, ⟨d.1.2.2.2.2.2.2.2.2.1, d.1.2.2.2.2.2.2.2.2.2⟩⟩⟩⟩⟩⟩⟩⟩⟩, d.1.2.2.1⟩))) hg pK)
       have cD := mk0 (Kd.IK (DZ mB.out) (Kd.Dj (FR gB.out)) (by decide) hg)
       have dD := mk0 (Kd.Bh (ok := (fun a => ((bB a ∨ cB a ∨ cC a) ∨ w.heap.size ≤ a) ∧ some a ≠ (.slice qB t229.length tB : Value).ownBlock ∧ some a ≠ (.slice wF uF.length xF : Value).ownBlock ∧ a ≠ I ∧ a ≠ D ∧ a ≠ J ∧ a ≠ O ∧ a ≠ G ∧ a ≠ s ∧ a ≠ y)) (Ay (Kd.AJ wB.out (fun _ d => ⟨⟨d.1.1, ⟨d.1.2.1, ⟨d.2, ⟨d.1.2.2.2.1, ⟨d.1.2.2.2.2.1, ⟨d.1.2.2.2.2.2.1, ⟨d.1.2.2.2.2.2.2.1, ⟨d.1.2.2.2.2.2.2.2.1, ⟨d.1.2.2.2.2.2.2.2.2.1, d.1.2.2.2.2.2.2.2.2.2⟩⟩⟩⟩⟩⟩⟩⟩⟩, d.1.2.2.1⟩))) hg pK)
       have eD := mk0 (Bd (g := I) (o := .cells #[.int .i64 bE, .int .i64 cE, .string dE, .slice hE wD.length kE, .slice jE xD.length lE] 26 (0, 0)) (Ac u.out) hg (Kd.Gu gB.out u.out (by decide)))
       have fD := mk0 (Bd (g := D) (o := .cells #[.int .i64 pD, .int .i64 qD, .slice fE xC.length gE, .slice oD oB.length rD, .slice jD W.length wC] 33 (0, 0)) (Ac l.out) hg (Kd.Gu gB.out l.out (by decide)))
       have gD := mk0 (Bd (g := J) (o := .cells #[.int .i64 a2] 3 (0, 0)) (Ac x.out) hg (Kd.Gu gB.out x.out (by decide)))
       have hD := mk0 (Bd (g := O) (o := .cells #[.slice (some tI) l4.length c4] 38 (0, 0)) (Ac z.out) hg (Kd.Gu gB.out z.out (by decide)))
       have yD := mk0 (Bd (g := G) (o := .cells #[.int .i64 yB, .int .i64 zB, .slice none 0 0, .slice none 0 0, .slice none 0 0] 33 (0, 0)) (Ac B.out) hg (Kd.Gu gB.out B.out (by decide)))
       have dC := mk0 (Bd (g := s) (o := .cells #[.int .i64 t227, .int .i64 t228, .slice qB t229.length tB, .slice uG t232.length bH, u244004] 33 (0, 0)) (Ac T.out) hg (Kd.Gu gB.out T.out (by decide)))
       have eC := mk0 (Kd.Bh (ok := (fun a => ((bB a ∨ cB a ∨ cC a) ∨ w.heap.size ≤ a) ∧ some a ≠ (.slice qB t229.length tB : Value).ownBlock ∧ some a ≠ (.slice wF uF.length xF : Value).ownBlock ∧ a ≠ I ∧ a ≠ D ∧ a ≠ J ∧ a ≠ O ∧ a ≠ G ∧ a ≠ s ∧ a ≠ y)) (Ay (Kd.AJ kD.out (fun _ d => ⟨⟨d.1.1, ⟨d.1.2.1, ⟨d.2, ⟨d.1.2.2.2.1, ⟨d.1.2.2.2.2.1, ⟨d.1.2.2.2.2.2.1, ⟨d.1.2.2.2.2.2.2.1, ⟨d.1.2.2.2.2.2.2.2.1, ⟨d.1.2.2.2.2.2.2.2.2.1, d.1.2.2.2.2.2.2.2.2.2⟩⟩⟩⟩⟩⟩⟩⟩⟩, d.1.2.2.1⟩))) hg pK)
       have nC := mk0 (Kd.Bh (ok := (fun a => ((bB a ∨ cB a ∨ cC a) ∨ w.heap.size ≤ a) ∧ some a ≠ (.slice qB t229.length tB : Value).ownBlock ∧ some a ≠ (.slice wF uF.length xF : Value).ownBlock ∧ a ≠ I ∧ a ≠ D ∧ a ≠ J ∧ a ≠ O ∧ a ≠ G ∧ a ≠ s ∧ a ≠ y)) (Ay (Kd.AJ lD.out (fun _ d => ⟨⟨d.1.1, ⟨d.1.2.1, ⟨d.2, ⟨d.1.2.2.2.1, ⟨d.1.2.2.2.2.1, ⟨d.1.2.2.2.2.2.1, ⟨d.1.2.2.2.2.2.2.1, ⟨d.1.2.2.2.2.2.2.2.1, ⟨d.1.2.2.2.2.2.2.2.2.1, d.1.2.2.2.2.2.2.2.2.2⟩⟩⟩⟩⟩⟩⟩⟩⟩, d.1.2.2.1⟩))) hg pK)
       have mD := mk0 (Bd (g := y) (o := .cells #[.int .i64 ((AB l3 r).f0), .int .i64 ((AB l3 r).f1), .slice jC ((AB l3 r).f2).length lC, .slice kC ((AB l3 r).f3).length mC] 30 (0, 0)) (Ac sB.out) hg (Kd.Gu gB.out sB.out (by decide)))
       have zD := mk0 (Kd.Bh (ok := (fun a => ((bB a ∨ cB a ∨ cC a) ∨ w.heap.size ≤ a) ∧ some a ≠ (.slice qB t229.length tB : Value).ownBlock ∧ some a ≠ (.slice wF uF.length xF : Value).ownBlock ∧ a ≠ I ∧ a ≠ D ∧ a ≠ J ∧ a ≠ O ∧ a ≠ G ∧ a ≠ s ∧ a ≠ y)) (Ay (Kd.AJ nH.out (fun _ d => ⟨⟨d.1, ⟨d.2.2.1, ⟨d.2.1, ⟨d.2.2.2.2.1, ⟨d.2.2.2.2.2.1, ⟨d.2.2.2.2.2.2.1, ⟨d.2.2.2.2.2.2.2.1, ⟨d.2.2.2.2.2.2.2.2.1, ⟨d.2.2.2.2.2.2.2.2.2.1, d.2.2.2.2.2.2.2.2.2.2⟩⟩⟩⟩⟩⟩⟩⟩⟩, d.2.2.2.1⟩))) hg pK)
       have aE := mk0 (hb)
       have oE := mk0 (ho)
       clear nD; clear m; clear b; clear mB; clear wB; clear u; clear l; clear x; clear z; clear B; clear T; clear kD; clear lD; clear sB; clear nH; clear HB; clear gB; clear yJ; have nD := zC; have m := aD; have b := bD; have mB := cD; have wB := dD; have u := eD; have l := fD; have x := gD; have z := hD; have B := yD; have T := dC; have kD := eC; have lD := nC; have sB := mD; have nH := zD; have HB := aE; have wN := oE; clear zC aD bD cD dD eD fD gD hD yD dC eC nC mD zD aE oE; clear ho hb hg pK
       obtain ⟨gR, vR, nO⟩ := Kd.Dk wN.out
       (first | subst nO | (injection nO with f1_ f2_ f3_; have qE := f1_.symm; have rE := f3_.symm; clear f1_ f2_ f3_; subst qE; subst rE))
       refine hK.out _ _ ⟨bc T 0, bc T 1, bc T 2, bc T 3, bc T 4, bc x 0, bc z 0, bc sB 0, bc sB 1, bc sB 2, bc sB 3, (AL HB.out zF)⟩ (fun eB => ?_)
       clear hK K
       refine CQ (a' := ?_) ?_ ?_
       rotate_left
       ·show Act.put _ (some 139) _ = _
        simp only [ps]
        rfl
       refine pv 13 140 (tf 14 1) xB ?_
       refine Mg (i := 14) (N := none) (tf 15 0) rfl rfl (CO xB.out (by kernel_rfl)) (by decide) (fun K hK => ?_)
       have y1 : wW.cell? ⟨s, 4, none⟩ = some (u244004) := bc T 4
       have hX := Am T.out 4
       have pU := fC.out; have qU := L.out; have rU := gC.out; have sU := hC.out; have tU := iC.out; have uU := qI.out; have kT := rC.out; have lT := sC.out; have mT := tC.out; have nT := uC.out; have oT := vC.out; have pT := sG.out
       refine Gp (w1 := ?_) (by rfl) rfl ?_ ?_
       rotate_left
       ·go_simp
        rfl
       refine hK.out _ _ ?_
       clear hK K
       refine EQ (De xB.out (by kernel_rfl)) ?_
       try go_wp2
       go_roundg k3
       case measure => have := zL.out; have := dQ.out; have := cV.out; omega
       case rel => exact ⟨(wrap64 (r + 1)), (jP), (.slice gR jP.length vR), rfl, H', ⟨by have := zL.out; have := dQ.out; have := cV.out; omega⟩, ⟨Ay (Kd.AJ (vI (q := s) (Kd.AJ nD.out (fun a d => (⟨d, d.1.2.2.2.2.2.2.2.2.1⟩ : _ ∧ a ≠ s))) (fun _ d => d.2)) (fun _ d => ⟨d.1.1.1, ⟨d.1.1.2.1, ⟨d.1.2, ⟨d.1.1.2.2.2.1, ⟨d.1.1.2.2.2.2.1, ⟨d.1.1.2.2.2.2.2.1, ⟨d.1.1.2.2.2.2.2.2.1, ⟨d.1.1.2.2.2.2.2.2.2.1, d.1.1.2.2.2.2.2.2.2.2.1⟩⟩⟩⟩⟩⟩⟩⟩))⟩, ⟨Ay (Kd.AJ (vI (q := s) (Kd.AJ m.out (fun a d => (⟨d, d.1.2.2.2.2.2.2.2.2.1⟩ : _ ∧ a ≠ s))) (fun _ d => d.2)) (fun _ d => ⟨d.1.1.1, ⟨d.1.1.2.1, ⟨d.1.2, ⟨d.1.1.2.2.2.1, ⟨d.1.1.2.2.2.2.1, ⟨d.1.1.2.2.2.2.2.1, ⟨d.1.1.2.2.2.2.2.2.1, ⟨d.1.1.2.2.2.2.2.2.2.1, d.1.1.2.2.2.2.2.2.2.2.1⟩⟩⟩⟩⟩⟩⟩⟩))⟩, ⟨Ay (Kd.AJ (vI (q := s) (Kd.AJ b.out (fun a d => (⟨d, d.1.2.2.2.2.2.2.2.2.1⟩ : _ ∧ a ≠ s))) (fun _ d => d.2)) (fun _ d => ⟨d.1.1.1, ⟨d.1.1.2.1, ⟨d.1.2, ⟨d.1.1.2.2.2.1, ⟨d.1.1.2.2.2.2.1, ⟨d.1.1.2.2.2.2.2.1, ⟨d.1.1.2.2.2.2.2.2.1, ⟨d.1.1.2.2.2.2.2.2.2.1, d.1.1.2.2.2.2.2.2.2.2.1⟩⟩⟩⟩⟩⟩⟩⟩))⟩, ⟨Df (Kd.BJ (rI (q := s) (Kd.BF mB.out T.out (by decide)) (fun _ d => d.2)) (fun _ d => d.1.1))⟩, ⟨Ay (Kd.AJ (vI (q := s) (Kd.AJ wB.out (fun a d => (⟨d, d.1.2.2.2.2.2.2.2.2.1⟩ : _ ∧ a ≠ s))) (fun _ d => d.2)) (fun _ d => ⟨d.1.1.1, ⟨d.1.1.2.1, ⟨d.1.2, ⟨d.1.1.2.2.2.1, ⟨d.1.1.2.2.2.2.1, ⟨d.1.1.2.2.2.2.2.1, ⟨d.1.1.2.2.2.2.2.2.1, ⟨d.1.1.2.2.2.2.2.2.2.1, d.1.1.2.2.2.2.2.2.2.2.1⟩⟩⟩⟩⟩⟩⟩⟩))⟩, ⟨F9 (Kd.Ca (nI (q := s) (Kd.Ca wN.out (fun a d => (⟨d, d.2.2.2.2.2.2.2.1⟩ : _ ∧ a ≠ s))) (fun _ d => d.2)) (fun _ d => ⟨d.1.1, ⟨d.1.2.1, ⟨d.1.2.2.1, ⟨d.1.2.2.2.1, ⟨d.1.2.2.2.2.1, ⟨d.1.2.2.2.2.2.1, ⟨d.1.2.2.2.2.2.2.1, d.1.2.2.2.2.2.2.2.1⟩⟩⟩⟩⟩⟩⟩))⟩, ⟨bF fC u⟩, ⟨bF L l⟩, ⟨bF gC x⟩, ⟨bF hC z⟩, ⟨bF iC B⟩, ⟨pB T⟩, ⟨be7 HB U X Y Z dB aC dF⟩⟩
end Go.Proofs.Ytojankgmedccdaa.PAw
