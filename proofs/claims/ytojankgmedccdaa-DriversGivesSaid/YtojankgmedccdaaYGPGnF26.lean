/- Lemmas for LawDriversGives. -/
import Derived.Test.YtojankgmedccdaaYGPGnF39
namespace Go.Proofs.Ytojankgmedccdaa.PGn
open Go.RowKit Own PTy Hand PIs PAw YtojankgmedccdaaW.PrintWords YtojankgmedccdaaW.PrintLast YtojankgmedccdaaW.PrintMore
attribute [local go_sem] BI BJ Be Bf Ar Au BK BL
set_option linter.unusedVariables false
set_option linter.unusedSimpArgs false
def Cv.l0 : Nat → List (S63) → Int → Int → Int → Int → List Int → List (S30) → List (S63) → Option (Int × Int × List Int × (List (S30)) × (List (S63)))
 | 0, _, _, _, _, _, _, _, _ => none
 | k + 1, i, j, c, d, e, g, h, a => if c < j then (if 0 ≤ c then (if c < (i.length : Int) then ((Bo.f k ((AA i c).f1.f0) ((AA i c).f1.f1) ((AA i c).f1.f2) ((AA i c).f1.f3)).bind fun b => (if a.length < 1954687338268 then (Cv.l0 k i j (wrap64 (c + 1)) d e g h (a ++ [(⟨(AA i c).f0, (⟨b.1, b.2.1, b.2.2.1, b.2.2.2⟩ : S30)⟩ : S63)])) else (none))) else (none)) else (none)) else (some (d, e, g, h, a))
def Cv.f (k : Nat) (c : Int) (d : Int) (e : List Int) (g : List (S30)) (b : List (S63)) : Option (Int × Int × List Int × (List (S30)) × (List (S63))) := (Bo.f k c d e g).bind fun a => (Cv.l0 k b (b.length : Int) 0 a.1 a.2.1 a.2.2.1 a.2.2.2 ([] : List (S63)))
def Cv.T5 : Bool × List (List Nat × List Nat) := (true, [([], []), ([0], [0]), ([], []), ([2], [2]), ([], []), ([4], [4]), ([5], [5]), ([3, 6], [3, 6]), ([7], [7]), ([1, 8, 6], [1, 8]), ([0, 1, 2, 3, 4, 5, 6, 7, 8, 9], []), ([10, 9, 9, 0, 1, 2, 3, 4, 5, 6, 7, 8, 9], [9, 10])])
def Cv.B5 : List Nat := [0, 1, 0, 4, 0, 16, 48, 124, 252, 511, 1023, 2047]
theorem Cv.ND : Ct .any (opsOf Try.f26 5) = Cv.T5 := by kernel_rfl
theorem Cv.J2 : CW Cv.T5.2 Cv.B5 = true := by kernel_rfl
set_option maxHeartbeats 8000000 in
set_option maxRecDepth 100000 in
theorem Cv.calls {k : Nat} {oB qB : Int} {bC : Option Addr} {jC : Nat} {X : List Int} {cC : Option Addr} {kC : Nat} {Y : List (S30)} {lD : Option Addr} {nC : Nat} {b : List (S63)} {r1 r2 : Int} {r3 : List Int} {r4 : List (S30)} {r5 : List (S63)} {w : World} (yD : Kd.C (Kd.int .u8) w bC X.length X) (vD : X.length ≤ jC) (zD : Kd.C k30 w cC Y.length Y) (wD : Y.length ≤ kC) (aE : Kd.C k63 w lD b.length b) (xD : b.length ≤ nC) (h : Cv.f k oB qB X Y b = some (r1, r2, r3, r4, r5)) :
  Calls Try.prog 26 #[.agg #[.int .i64 oB, .int .i64 qB, .slice bC X.length jC, .slice cC Y.length kC, .slice lD b.length nC]] w fun e w' => ∃ eE uE aG : Value, e = .returned (.agg #[.int .i64 r1, .int .i64 r2, eE, uE, aG]) ∧ Kd.R (Kd.int .u8) 73 w' w.heap.size (fun _ => True) eE r3 ∧ Kd.R k30 30 w' w.heap.size (fun Z => some Z ≠ (eE : Value).ownBlock) uE r4 ∧ Kd.R k63 63 w' w.heap.size (fun Z => some Z ≠ (eE : Value).ownBlock ∧ some Z ≠ (uE : Value).ownBlock) aG r5 ∧ Below w.heap.size w w' := by
 have jH := Try.underlying33
 have iH := Try.underlying30
 have kH := Try.underlying63
 have nE := mk0 yD; have lE := mk0 vD; clear yD vD; have oE := mk0 zD; have mE := mk0 wD; clear zD wD; have pE := mk0 aE; have fG := mk0 xD; clear aE xD
 have U := mk0 (Below.refl w.heap.size w)
 have H := h; unfold Cv.f at H
 clear h
 replace H := Option.bind_eq_some_iff.mp H
 obtain ⟨⟨cB, t167, t168, t171⟩, cF, H⟩ := H
 replace H : (Cv.l0 k b (b.length : Int) 0 cB t167 t168 t171 ([] : List (S63))) = some (r1, r2, r3, r4, r5) := H
 have A2 := mk0 cF; clear cF
 have H' := mk0 H
 clear H
 go_enter Try.func26, Try.ntmps26
 go_wp2_with (first | ((with_reducible refine AP rfl (N := 1) rfl (cs := #[.int .i64 oB, .int .i64 qB, .slice bC X.length jC, .slice cC Y.length kC, .slice lD b.length nC]) (t := 33) ?hr ?_); (case hr => first | (go_simp; done) | (go_simp; rfl)); intro jD hg w3 W hb; have r := mk0 (W); have x := bs (be U) hg; replace U := kh U hb; clear hb W hg) | ((with_reducible refine AP rfl (N := 2) rfl (cs := #[.int .i64 0, .int .i64 0, .slice none 0 0, .slice none 0 0, .slice none 0 0]) (t := 33) ?hr ?_); (case hr => first | (go_simp; done) | (go_simp; rfl)); intro hB hg w4 W hb; have s := mk0 (W); have I := bs (be1 U x) hg; replace U := kh1 U x hb; have ⟨eC, gC⟩ := nn r hg; replace r := kb r hb; clear hb W hg; have ⟨fH, gH⟩ := no eC gC; have gI := cells5 r.out) | ((with_reducible refine AR (f := 39) rfl ?_); refine Gd Try.func39 #[.agg #[.int .i64 oB, .int .i64 qB, .slice bC X.length jC, .slice cC Y.length kC]] ?_; (with_reducible refine (Bo.calls k oB qB _ _ X _ _ Y cB t167 t168 t171 _ ?side1 ?side2 ?side3 ?side4 A2.out).mono ?_); (case side1 => exact cu nE U); (case side2 => exact lE.out); (case side3 => exact cu oE U); (case side4 => exact mE.out); rintro e w7 ⟨v169, v172, rfl, yC, kD, hb⟩; refine ⟨_, rfl, ?_⟩; have rC := mk0 (Kd.CS yC (AQ (be2 U x I))); have sC := mk0 (Kd.CS kD (AQ (be2 U x I))); obtain ⟨r, s⟩ := tb2 hb r s; replace U := kh2 U x I hb; (try clear yC); (try clear kD); obtain ⟨dC, lC, iG⟩ := Kd.Bn sC.out; subst iG; obtain ⟨kB, mB, jG⟩ := Kd.Bn rC.out; subst jG) | ((with_reducible refine AP rfl (N := 3) rfl (cs := #[.int .i64 0, .int .i64 0, .slice none 0 0, .slice none 0 0, .slice none 0 0]) (t := 33) ?hr ?_); (case hr => first | (go_simp; done) | (go_simp; rfl)); intro J hg cI W hb; obtain ⟨rC, sC⟩ := tb2 hb rC sC; have d := mk0 (W); have L := bs (be2 U x I) hg; replace U := kh2 U x I hb; have ⟨O, eB⟩ := nn r hg; have ⟨T, fB⟩ := nn s hg; obtain ⟨r, s⟩ := tb2 hb r s; clear hb W hg; have ⟨nG, vG⟩ := no eB O; have ⟨oG, wG⟩ := no fB T; have wH := cells5 d.out; have xH := cells5 r.out))
 go_loopg [13] k (fun kq v13 w' => ∃ (a : Int) (u : List (S63)) (u175004 : Value), v13 = .int .i64 a ∧ Aside0 (Cv.l0 kq b (b.length : Int) a cB t167 t168 t171 u = some (r1, r2, r3, r4, r5)) ∧ Aside0 (kq ≤ k) ∧ Aside0 (Kd.R (Kd.int .u8) 73 w' w.heap.size (fun _ => True) (.slice kB t168.length mB) t168) ∧ Aside0 (Kd.R k30 30 w' w.heap.size (fun Z => some Z ≠ ((.slice kB t168.length mB) : Value).ownBlock) (.slice dC t171.length lC) t171) ∧ Aside0 (Kd.R k63 63 w' w.heap.size (fun Z => some Z ≠ ((.slice kB t168.length mB) : Value).ownBlock ∧ some Z ≠ ((.slice dC t171.length lC) : Value).ownBlock) u175004 u) ∧ Aside0 (w'.heap[jD]? = some (.cells #[.int .i64 oB, .int .i64 qB, (.slice bC X.length jC), (.slice cC Y.length kC), (.slice lD b.length nC)] 33 (0, 0))) ∧ Aside0 (w'.heap[hB]? = some (.cells #[.int .i64 0, .int .i64 0, (.slice none 0 0), (.slice none 0 0), (.slice none 0 0)] 33 (0, 0))) ∧ Aside0 (w'.heap[J]? = some (.cells #[.int .i64 cB, .int .i64 t167, (.slice kB t168.length mB), (.slice dC t171.length lC), u175004] 33 (0, 0))) ∧ Aside0 (Below w.heap.size w w'))
 case atStart => exact ⟨(0), (([] : List (S63))), (.slice none 0 0), rfl, H', ⟨Nat.le_refl _⟩, ⟨DZ (Kd.BC (rI (q := J) (Kd.Ao rC.out d.out (by decide)) (fun _ G => G.2)) (fun _ G => trivial))⟩, ⟨DZ (Kd.BC (rI (q := J) (Kd.Ao sC.out d.out (by decide)) (fun _ G => G.2)) (fun _ G => G.1))⟩, ⟨by first | exact Kd.Di _ _ _ _ _ | exact Kd.Dx _ _ _ _ _ | exact Kd.DT _ _ _ _ _ | exact Kd.Du _ _ _ _ _ | exact Kd.Dw _ _ _ _ _⟩, ⟨bF O r⟩, ⟨bF T s⟩, ⟨pB d⟩, ⟨be3 U x I L⟩⟩
 case round =>
  clear H'
  obtain ⟨a, u, u175004, rfl, HA, hF, l, m, j, r, s, d, U⟩ := hrel
  cases gk with
  | zero => exact absurd HA.out (by simp [Cv.l0])
  | succ k1 =>
   have H := HA.out; clear HA
   simp only [Cv.l0] at H
   replace H := iD' H; obtain ⟨-, tE, H⟩ | ⟨-, tE, H⟩ := H
   ·simp only [Option.some.injEq, Prod.mk.injEq] at H
    obtain ⟨rfl, rfl, rfl, rfl, rfl⟩ := H
    have ⟨sG, aH⟩ := no eB O; have ⟨tG, bH⟩ := no fB T
    have zH := cells5 d.out
    have ⟨uG, cH⟩ := no gC eC
    have aI := cells5 s.out
    obtain ⟨gF, oF, qF⟩ := Kd.Bn j.out
    subst qF
    go_wp2
    refine bodyPost_ret (results_cell_row rfl _ _ hB 33 #[.int .i64 cB, .int .i64 t167, .slice kB t168.length mB, .slice dC t171.length lC, .slice gF u.length oF] (0, 0) _ rfl (pB s) Try.underlying33 rfl (by kernel_rfl)) rfl ?_
    exact ⟨_, _, _, rfl, by exact DZ (Kd.BC (rI (q := hB) (Kd.Ao l.out s.out (by decide)) (fun _ G => G.2)) (fun _ G => trivial)), by exact DZ (Kd.BC (rI (q := hB) (Kd.Ao m.out s.out (by decide)) (fun _ G => G.2)) (fun _ G => G.1)), by exact DZ (Kd.BC (rI (q := hB) (Kd.Ao j.out s.out (by decide)) (fun _ G => G.2)) (fun _ G => ⟨G.1.1, G.1.2⟩)), be3 U x I L⟩
   replace H := iN H; obtain ⟨-, gG, H⟩ := H
   replace H := iN H; obtain ⟨-, hG, H⟩ := H
   replace H := Option.bind_eq_some_iff.mp H
   obtain ⟨⟨oC, pC, qC, t182⟩, fE, H⟩ := H
   replace H : (if u.length < 1954687338268 then (Cv.l0 k1 b (b.length : Int) (wrap64 (a + 1)) cB t167 t168 t171 (u ++ [(⟨(AA b a).f0, (⟨oC, pC, qC, t182⟩ : S30)⟩ : S63)])) else (none)) = some (r1, r2, r3, r4, r5) := H
   have dG := mk0 fE; clear fE
   by_cases c19 : u.length < 1954687338268
   rotate_left
   ·rw [if_neg c19] at H
    exact absurd H (by simp)
   rw [if_pos c19] at H; have rE := mk0 c19; clear c19
   obtain ⟨dE, mC⟩ : ∃ y_ : List (S63), y_ = (u ++ [(⟨(AA b a).f0, (⟨oC, pC, qC, t182⟩ : S30)⟩ : S63)]) := ⟨_, rfl⟩
   replace H : (Cv.l0 k1 b (b.length : Int) (wrap64 (a + 1)) cB t167 t168 t171 dE) = some (r1, r2, r3, r4, r5) := by first | (rw [mC]; with_reducible exact H) | (have kE := (Option.bind_some _ _).symm.trans H; rw [mC]; with_reducible exact kE) | (have kE := (Option.bind_some _ _).symm.trans H; with_reducible exact kE) | with_reducible exact H | (rw [mC]; exact H) | exact H
   have sE := mk0 mC; clear mC
   have H' := mk0 H
   clear H
   have bE : 0 ≤ (a : Int) := od
   have cE : a < (b.length : Int) := od
   obtain ⟨rD, y, B, z, D, pF, zC, aD, bD, cD, dD, wC, uC, xC, vC⟩ := DV pE.out a bE cE
   cases pF
   replace zC := Ae U.out zC
   replace aD := Ae U.out aD
   replace bD := Ae U.out bD
   replace cD := Ae U.out cD
   replace dD := Ae U.out dD
   have pD := mk0 uC; have mD := mk0 wC; clear uC wC; have qD := mk0 vC; have nD := mk0 xC; clear vC xC; replace bE := eq_true bE; replace cE := eq_true cE
   try go_wp2_with ((with_reducible refine AP rfl (N := 5) rfl (cs := #[.int .i64 0, .int .i64 0, .int .i64 0, .slice none 0 0, .slice none 0 0]) (t := 63) ?hr ?_); (case hr => first | (go_simp; done) | (go_simp; rfl)); intro c hg tC W hb; replace j := rB j hg hb; obtain ⟨l, m⟩ := tb2 hb l m; have p := mk0 (W); have dB := bs (be3 U x I L) hg; replace U := kh3 U x I L hb; have ⟨fC, gD⟩ := nn r hg; have ⟨hC, hD⟩ := nn s hg; have ⟨gB, iC⟩ := nn d hg; obtain ⟨r, s, d⟩ := tb3 hb r s d; clear hb W hg; have ⟨pG, xG⟩ := no gD fC; have ⟨qG, yG⟩ := no hD hC; have ⟨rG, zG⟩ := no iC gB; have yH := cells5 p.out)
   have sB : Aside0 (Kd.R (Kd.int .u8) 73 (((((tC.setCell ⟨c, 0, none⟩ (.int .i64 ((AA b a).f0))).setCell ⟨c, 1, none⟩ (.int .i64 ((AA b a).f1.f0))).setCell ⟨c, 2, none⟩ (.int .i64 ((AA b a).f1.f1))).setCell ⟨c, 3, none⟩ (.slice y ((AA b a).f1.f2).length B)).setCell ⟨c, 4, none⟩ (.slice z ((AA b a).f1.f3).length D)) w.heap.size (fun _ => True) (.slice kB t168.length mB) t168) := ⟨DZ (Kd.BC (rI (q := c) (Kd.Ao l.out p.out (by decide)) (fun _ G => G.2)) (fun _ G => trivial))⟩
   have tB : Aside0 (Kd.R k30 30 (((((tC.setCell ⟨c, 0, none⟩ (.int .i64 ((AA b a).f0))).setCell ⟨c, 1, none⟩ (.int .i64 ((AA b a).f1.f0))).setCell ⟨c, 2, none⟩ (.int .i64 ((AA b a).f1.f1))).setCell ⟨c, 3, none⟩ (.slice y ((AA b a).f1.f2).length B)).setCell ⟨c, 4, none⟩ (.slice z ((AA b a).f1.f3).length D)) w.heap.size (fun Z => some Z ≠ (.slice kB t168.length mB : Value).ownBlock) (.slice dC t171.length lC) t171) := ⟨DZ (Kd.BC (rI (q := c) (Kd.Ao m.out p.out (by decide)) (fun _ G => G.2)) (fun _ G => G.1))⟩
   have uB : Aside0 (Kd.R k63 63 (((((tC.setCell ⟨c, 0, none⟩ (.int .i64 ((AA b a).f0))).setCell ⟨c, 1, none⟩ (.int .i64 ((AA b a).f1.f0))).setCell ⟨c, 2, none⟩ (.int .i64 ((AA b a).f1.f1))).setCell ⟨c, 3, none⟩ (.slice y ((AA b a).f1.f2).length B)).setCell ⟨c, 4, none⟩ (.slice z ((AA b a).f1.f3).length D)) w.heap.size (fun Z => some Z ≠ (.slice kB t168.length mB : Value).ownBlock ∧ some Z ≠ (.slice dC t171.length lC : Value).ownBlock ∧ Z ≠ c) u175004 u) := ⟨DZ (Kd.BC (rI (q := c) (Kd.BC j.out (fun Z G => (⟨G, G.2⟩ : _ ∧ Z ≠ c))) (fun _ G => G.2)) (fun _ G => ⟨G.1.1.1, ⟨G.1.1.2, G.1.2⟩⟩))⟩
   have wB : Aside0 ((((((tC.setCell ⟨c, 0, none⟩ (.int .i64 ((AA b a).f0))).setCell ⟨c, 1, none⟩ (.int .i64 ((AA b a).f1.f0))).setCell ⟨c, 2, none⟩ (.int .i64 ((AA b a).f1.f1))).setCell ⟨c, 3, none⟩ (.slice y ((AA b a).f1.f2).length B)).setCell ⟨c, 4, none⟩ (.slice z ((AA b a).f1.f3).length D)).heap[jD]? = some (.cells #[.int .i64 oB, .int .i64 qB, .slice bC X.length jC, .slice cC Y.length kC, .slice (some rD) b.length nC] 33 (0, 0))) := ⟨bF fC r⟩
   have xB : Aside0 ((((((tC.setCell ⟨c, 0, none⟩ (.int .i64 ((AA b a).f0))).setCell ⟨c, 1, none⟩ (.int .i64 ((AA b a).f1.f0))).setCell ⟨c, 2, none⟩ (.int .i64 ((AA b a).f1.f1))).setCell ⟨c, 3, none⟩ (.slice y ((AA b a).f1.f2).length B)).setCell ⟨c, 4, none⟩ (.slice z ((AA b a).f1.f3).length D)).heap[hB]? = some (.cells #[.int .i64 0, .int .i64 0, .slice none 0 0, .slice none 0 0, .slice none 0 0] 33 (0, 0))) := ⟨bF hC s⟩
   have yB : Aside0 ((((((tC.setCell ⟨c, 0, none⟩ (.int .i64 ((AA b a).f0))).setCell ⟨c, 1, none⟩ (.int .i64 ((AA b a).f1.f0))).setCell ⟨c, 2, none⟩ (.int .i64 ((AA b a).f1.f1))).setCell ⟨c, 3, none⟩ (.slice y ((AA b a).f1.f2).length B)).setCell ⟨c, 4, none⟩ (.slice z ((AA b a).f1.f3).length D)).heap[J]? = some (.cells #[.int .i64 cB, .int .i64 t167, .slice kB t168.length mB, .slice dC t171.length lC, u175004] 33 (0, 0))) := ⟨bF gB d⟩
   have zB : Aside0 ((((((tC.setCell ⟨c, 0, none⟩ (.int .i64 ((AA b a).f0))).setCell ⟨c, 1, none⟩ (.int .i64 ((AA b a).f1.f0))).setCell ⟨c, 2, none⟩ (.int .i64 ((AA b a).f1.f1))).setCell ⟨c, 3, none⟩ (.slice y ((AA b a).f1.f2).length B)).setCell ⟨c, 4, none⟩ (.slice z ((AA b a).f1.f3).length D)).heap[c]? = some (.cells #[.int .i64 ((AA b a).f0), .int .i64 ((AA b a).f1.f0), .int .i64 ((AA b a).f1.f1), .slice y ((AA b a).f1.f2).length B, .slice z ((AA b a).f1.f3).length D] 63 (0, 0))) := ⟨pB p⟩
   have aC : Aside0 (Below w.heap.size w (((((tC.setCell ⟨c, 0, none⟩ (.int .i64 ((AA b a).f0))).setCell ⟨c, 1, none⟩ (.int .i64 ((AA b a).f1.f0))).setCell ⟨c, 2, none⟩ (.int .i64 ((AA b a).f1.f1))).setCell ⟨c, 3, none⟩ (.slice y ((AA b a).f1.f2).length B)).setCell ⟨c, 4, none⟩ (.slice z ((AA b a).f1.f3).length D))) := ⟨be4 U x I L dB⟩
   try clear l
   try clear m
   try clear j
   try clear r
   try clear s
   try clear d
   try clear p
   try clear U
   generalize (((((tC.setCell ⟨c, 0, none⟩ (.int .i64 ((AA b a).f0))).setCell ⟨c, 1, none⟩ (.int .i64 ((AA b a).f1.f0))).setCell ⟨c, 2, none⟩ (.int .i64 ((AA b a).f1.f1))).setCell ⟨c, 3, none⟩ (.slice y ((AA b a).f1.f2).length B)).setCell ⟨c, 4, none⟩ (.slice z ((AA b a).f1.f3).length D)) = dH at sB tB uB wB xB yB zB aC ⊢
   have l := sB; have m := tB; have j := uB; have r := wB; have s := xB; have d := yB; have p := zB; have U := aC; clear sB tB uB wB xB yB zB aC
   have sB := mk0 (Kd.ED l.out)
   have tB := mk0 (Kd.ED m.out)
   have uB := mk0 (Kd.ED j.out)
   have wB := mk0 (AX r.out)
   have xB := mk0 (AX s.out)
   have yB := mk0 (AX d.out)
   have zB := mk0 (AX p.out)
   have aC := mk0 (Ad U.out)
   clear l; clear m; clear j; clear r; clear s; clear d; clear p; clear U; have l := sB; have m := tB; have j := uB; have r := wB; have s := xB; have d := yB; have p := zB; have U := aC; clear sB tB uB wB xB yB zB aC
   refine Cz (n := 12) (S := fun w' => w'.cell? ⟨J, 0, none⟩ = some (.int .i64 cB) ∧ w'.cell? ⟨J, 1, none⟩ = some (.int .i64 t167) ∧ w'.cell? ⟨J, 2, none⟩ = some (.slice kB t168.length mB) ∧ w'.cell? ⟨J, 3, none⟩ = some (.slice dC t171.length lC) ∧ w'.cell? ⟨J, 4, none⟩ = some (u175004) ∧ w'.cell? ⟨c, 0, none⟩ = some (.int .i64 ((AA b a).f0)) ∧ w'.cell? ⟨c, 1, none⟩ = some (.int .i64 ((AA b a).f1.f0)) ∧ w'.cell? ⟨c, 2, none⟩ = some (.int .i64 ((AA b a).f1.f1)) ∧ w'.cell? ⟨c, 3, none⟩ = some (.slice y ((AA b a).f1.f2).length B) ∧ w'.cell? ⟨c, 4, none⟩ = some (.slice z ((AA b a).f1.f3).length D)) (ds := [11]) (tf 0 12) (by kernel_rfl) rfl rfl ⟨bc d 0, bc d 1, bc d 2, bc d 3, bc d 4, bc p 0, bc p 1, bc p 2, bc p 3, bc p 4⟩ (fun jB => ?_); refine Bz Cv.ND Cv.J2 (fun lB qE => ?_)
   generalize dH.drew = dI at l m j r s d p U jB ⊢
   refine pv 0 17 (tf 1 11) lB ?_
   refine pv 2 19 #[true, false, true, false, false, false, false, false, false, false, false, false] lB ?_
   refine pv 4 21 #[true, false, true, false, true, false, false, false, false, false, false, false] lB ?_
   refine Bl (i := 1) (N := some 18) (v := ?_) (a' := ?_) #[true, true, true, false, true, false, false, false, false, false, false, false] rfl rfl (Aj lB.out qE.out (by kernel_rfl)) (fun _ _ _ h => h) (Or.inl ⟨by rfl, ?_⟩) jB ?_ ?_
   rotate_left
   ·rintro w' ⟨s0, s1, s2, s3, s4, s5, s6, s7, s8, s9⟩
    go_simp
    with_reducible rfl
   rotate_left
   ·simp only [ps]
    rfl
   refine Bl (i := 3) (N := some 20) (v := ?_) (a' := ?_) (tf 5 7) rfl rfl (Aj lB.out qE.out (by kernel_rfl)) (fun _ _ _ h => h) (Or.inl ⟨by rfl, ?_⟩) jB ?_ ?_
   rotate_left
   ·rintro w' ⟨s0, s1, s2, s3, s4, s5, s6, s7, s8, s9⟩
    go_simp
    with_reducible rfl
   rotate_left
   ·simp only [ps]
    rfl
   refine Bl (i := 5) (N := some 22) (v := ?_) (a' := ?_) (tf 6 6) rfl rfl (Aj lB.out qE.out (by kernel_rfl)) (fun _ _ _ h => h) (Or.inl ⟨by rfl, ?_⟩) jB ?_ ?_
   rotate_left
   ·rintro w' ⟨s0, s1, s2, s3, s4, s5, s6, s7, s8, s9⟩
    go_simp
    with_reducible rfl
   rotate_left
   ·simp only [ps]
    rfl
   refine DN (i := 6) (N := some 23) (tf 7 5) rfl rfl (Bv lB.out (by kernel_rfl)) (by decide) (fun K hK => ?_)
   refine Cx Try.func39 (by kernel_rfl) rfl #[.agg #[.int .i64 ((AA b a).f1.f0), .int .i64 ((AA b a).f1.f1), .slice y ((AA b a).f1.f2).length B, .slice z ((AA b a).f1.f3).length D]] (by rfl) rfl rfl (by (try simp only [List.map_toArray, List.map_cons, List.map_nil]); first | done | rfl | (simp only [List.length_drop, List.length_take]; rfl)) ?_
   with_reducible refine (Bo.calls k1 ((AA b a).f1.f0) ((AA b a).f1.f1) _ _ ((AA b a).f1.f2) _ _ ((AA b a).f1.f3) oC pC qC t182 _ ?side1 ?side2 ?side3 ?side4 dG.out).mono ?_
   (case side1 => exact cu pD U)
   (case side2 => exact mD.out)
   (case side3 => exact cu qD U)
   (case side4 => exact nD.out)
   rintro e eI ⟨v180, v183, rfl, yC, kD, hb⟩
   refine ⟨_, rfl, ?_⟩
   have sB := mk0 (Kd.Fy (DC l.out) (Kd.BG yC) hb)
   have tB := mk0 (Kd.BC (Kd.Gz (Kd.Gz (Kd.Ml (DC m.out) hb) (Kd.BG yC)) (Kd.BG kD)) (fun _ h_ => h_.1))
   have uB := mk0 (Kd.BC (Kd.Gz (Kd.Gz (Kd.Ml (DC j.out) hb) (Kd.BG yC)) (Kd.BG kD)) (fun _ h_ => h_.1))
   have wB := mk0 (Kd.CS (Kd.Ff yC (Kd.En (DC l.out))) (AQ (be4 U x I L dB)))
   have xB := mk0 (Kd.CS (Kd.Ff (Kd.Ff kD (Kd.En (DC l.out))) (Kd.En (DC m.out))) (AQ (be4 U x I L dB)))
   have yB := kb r hb
   have zB := kb s hb
   have aC := kb d hb
   have yF := kb p hb
   have zF := kh4 U x I L dB hb
   clear l; clear m; clear j; clear r; clear s; clear d; clear p; clear U; have l := sB; have m := tB; have j := uB; have eD := wB; have fD := xB; have r := yB; have s := zB; have d := aC; have p := yF; have U := zF; clear sB tB uB wB xB yB zB aC yF zF
   try clear hb
   try clear G
   try clear yC
   try clear kD
   obtain ⟨dF, jF, gE⟩ := Kd.Bn fD.out
   (first | subst gE | (injection gE with f1_ f2_ f3_; have sD := f1_.symm; have tD := f3_.symm; clear f1_ f2_ f3_; subst sD; subst tD))
   obtain ⟨eF, lF, hE⟩ := Kd.Bn eD.out
   (first | subst hE | (injection hE with f1_ f2_ f3_; have sD := f1_.symm; have tD := f3_.symm; clear f1_ f2_ f3_; subst sD; subst tD))
   refine hK.out _ _ ⟨bc d 0, bc d 1, bc d 2, bc d 3, bc d 4, bc p 0, bc p 1, bc p 2, bc p 3, bc p 4⟩ (fun jB => ?_)
   clear hK K
   refine CJ (a' := ?_) ?_ ?_
   rotate_left
   ·show Act.put _ (some 23) _ = _
    simp only [ps]
    rfl
   refine pv 7 24 (tf 8 4) lB ?_
   refine DN (i := 8) (N := some 25) (tf 9 3) rfl rfl (Bv lB.out (by kernel_rfl)) (by decide) (fun K hK => ?_)
   refine CU (w1 := ?_) (v := ?_) (by rfl) rfl ?_ ?_
   rotate_left 2
   ·go_simp
    constructor
    ·rfl
    ·rfl
   refine hK.out _ _ ⟨(Ai (Ac d.out _) 0).trans rfl, (Ai (Ac d.out _) 1).trans rfl, (Ai (Ac d.out _) 2).trans rfl, (Ai (Ac d.out _) 3).trans rfl, (Ai (Ac d.out _) 4).trans rfl, (Ai (Ac p.out _) 0).trans rfl, (Ai (Ac p.out _) 1).trans rfl, (Ai (Ac p.out _) 2).trans rfl, (Ai (Ac p.out _) 3).trans rfl, (Ai (Ac p.out _) 4).trans rfl⟩ (fun jB => ?_)
   clear hK K
   refine CJ (a' := ?_) ?_ ?_
   rotate_left
   ·show Act.put _ (some 25) _ = _
    simp only [ps]
    rfl
   refine DN (i := 9) (N := some 26) (tf 10 2) rfl rfl (Bv lB.out (by kernel_rfl)) (by decide) (fun K hK => ?_)
   refine Kd.Ey k63 (w0 := w) w.heap.size (by rfl) (.tmp 18) (.tmp 25) 31 63 (.agg #[(.int .i64 0), (.int .i64 0), (.int .i64 0), (.slice none 0 0), (.slice none 0 0)]) 72 rfl Try.underlying31 E9 rfl (by decide) (by omega) u175004 u (⟨(AA b a).f0, (⟨oC, pC, qC, t182⟩ : S30)⟩ : S63) [.int .i64 ((AA b a).f0), .int .i64 oC, .int .i64 pC, .slice eF qC.length lF, .slice dF t182.length jF] (fun Z => some Z ≠ (.slice kB t168.length mB : Value).ownBlock ∧ some Z ≠ (.slice dC t171.length lC : Value).ownBlock ∧ Z ≠ c) (fun Z => ((fun Z => some Z ≠ (.slice kB t168.length mB : Value).ownBlock ∧ some Z ≠ (.slice dC t171.length lC : Value).ownBlock ∧ Z ≠ c)) Z ∧ some Z ≠ (u175004 : Value).ownBlock) rfl rfl ?aP (fun _ G => G) ?aF ?aO ?aB ?aS ?aL ?_
   (case aP => exact N9 _ _ _ (⟨(AA b a).f0, (⟨oC, pC, qC, t182⟩ : S30)⟩ : S63) (Kd.BC (Kd.Ao (Kd.Ca (Kd.Ca (eD.out) (Kd.Ee m.out) (by decide)) (Kd.Ee j.out) (by decide)) p.out (by decide)) (fun Z G => ⟨⟨G.1.1.1.2, ⟨G.1.1.2, G.2⟩⟩, G.1.2⟩)) (Kd.BC (Kd.Ao (Kd.Ca (fD.out) (Kd.Ee j.out) (by decide)) p.out (by decide)) (fun Z G => ⟨⟨G.1.1.1.2, ⟨G.1.1.2, G.2⟩⟩, G.1.2⟩)))
   (case aB => exact (be4 U x I L dB))
   (case aF => exact (fun Z G => ⟨Kd.fresh' (Kd.En (DC l.out)) Z G, Kd.fresh' (Kd.En (DC m.out)) Z G, Kd.Al (g := c) (o := .cells #[.int .i64 ((AA b a).f0), .int .i64 ((AA b a).f1.f0), .int .i64 ((AA b a).f1.f1), .slice y ((AA b a).f1.f2).length B, .slice z ((AA b a).f1.f3).length D] 63 (0, 0)) (AY p.out) Z G⟩))
   (case aO => exact (DZ (Kd.BC j.out (fun _ G => ⟨G.1.1.1, ⟨G.1.1.2.1, G.1.1.2.2⟩⟩))))
   (case aS => exact (AQ (be4 U x I L dB)))
   (case aL => have := rE.out; omega)
   intro v186 eH ho hb hg lG
   rw [← sE.out] at ho
   have sB := mk0 (Kd.Ht (DC l.out) (Kd.Ee (DC j.out)) (by decide) hg)
   have tB := mk0 (Kd.Ht (DC m.out) (Kd.Ee (DC j.out)) (by decide) hg)
   have uB := mk0 (Bg (g := jD) (o := .cells #[.int .i64 oB, .int .i64 qB, .slice bC X.length jC, .slice cC Y.length kC, .slice (some rD) b.length nC] 33 (0, 0)) (AY r.out) hg (Kd.GZ j.out r.out (by decide)))
   have wB := mk0 (Bg (g := hB) (o := .cells #[.int .i64 0, .int .i64 0, .slice none 0 0, .slice none 0 0, .slice none 0 0] 33 (0, 0)) (AY s.out) hg (Kd.GZ j.out s.out (by decide)))
   have xB := mk0 (Bg (g := J) (o := .cells #[.int .i64 cB, .int .i64 t167, .slice kB t168.length mB, .slice dC t171.length lC, u175004] 33 (0, 0)) (AY d.out) hg (Kd.GZ j.out d.out (by decide)))
   have yB := mk0 (Bg (g := c) (o := .cells #[.int .i64 ((AA b a).f0), .int .i64 ((AA b a).f1.f0), .int .i64 ((AA b a).f1.f1), .slice y ((AA b a).f1.f2).length B, .slice z ((AA b a).f1.f3).length D] 63 (0, 0)) (AY p.out) hg (Kd.IA j.out (fun _ G => G.1.1.2.2)))
   have zB := mk0 (hb)
   have aC := mk0 (ho)
   clear l; clear m; clear r; clear s; clear d; clear p; clear U; clear j; clear eD; clear fD; have l := sB; have m := tB; have r := uB; have s := wB; have d := xB; have p := yB; have U := zB; have oD := aC; clear sB tB uB wB xB yB zB aC; clear ho hb hg lG
   obtain ⟨fF, mF, jE⟩ := Kd.Bn oD.out
   (first | subst jE | (injection jE with f1_ f2_ f3_; have sD := f1_.symm; have tD := f3_.symm; clear f1_ f2_ f3_; subst sD; subst tD))
   refine hK.out _ _ ⟨bc d 0, bc d 1, bc d 2, bc d 3, bc d 4, bc p 0, bc p 1, bc p 2, bc p 3, bc p 4⟩ (fun jB => ?_)
   clear hK K
   refine CJ (a' := ?_) ?_ ?_
   rotate_left
   ·show Act.put _ (some 26) _ = _
    simp only [ps]
    rfl
   refine pv 10 27 (tf 11 1) lB ?_
   refine Me (i := 11) (N := none) (tf 12 0) rfl rfl (Bv lB.out (by kernel_rfl)) (by decide) (fun K hK => ?_)
   have hH : eH.cell? ⟨J, 4, none⟩ = some (u175004) := bc d 4
   have mG := AB d.out 4
   have uF := O.out; have wF := T.out; have xF := iC.out; have rF := eB.out; have sF := fB.out; have tF := gB.out
   refine Fu (w1 := ?_) (by rfl) rfl ?_ ?_
   rotate_left
   ·go_simp
    rfl
   refine hK.out _ _ ?_
   clear hK K
   refine Dv (Cu lB.out (by kernel_rfl)) ?_
   try go_wp2
   go_roundg k1
   case measure => have := hF.out; omega
   case rel => exact ⟨(wrap64 (a + 1)), (dE), (.slice fF dE.length mF), rfl, H', ⟨by have := hF.out; omega⟩, ⟨DZ (Kd.BC (rI (q := J) (Kd.Ao l.out d.out (by decide)) (fun _ G => G.2)) (fun _ G => trivial))⟩, ⟨DZ (Kd.BC (rI (q := J) (Kd.Ao m.out d.out (by decide)) (fun _ G => G.2)) (fun _ G => G.1.1.1))⟩, ⟨DZ (Kd.BC (rI (q := J) (Kd.Ao oD.out d.out (by decide)) (fun _ G => G.2)) (fun _ G => ⟨G.1.1, G.1.2.1⟩))⟩, ⟨bF O r⟩, ⟨bF T s⟩, ⟨pB d⟩, ⟨be4 U x I L dB⟩⟩
end Go.Proofs.Ytojankgmedccdaa.PGn
