/- Lemmas for LawDriversGives. -/
import Derived.Test.YtojankgmedccdaaYGPGnx0
namespace Go.Proofs.Ytojankgmedccdaa.PGn
open Go.RowKit Own PTy Hand PIs PAw YtojankgmedccdaaW.PrintWords YtojankgmedccdaaW.PrintLast YtojankgmedccdaaW.PrintMore
attribute [local go_sem] BI BJ Be Bf Ar Au BK BL
set_option linter.unusedVariables false
set_option linter.unusedSimpArgs false
mutual
def Bo.l0 : Nat → List (S30) → Int → Int → Int → Int → List Int → List (S30) → Option (Int × Int × List Int × (List (S30)))
 | 0, _, _, _, _, _, _, _ => none
 | k + 1, h, o, g, c, d, e, a => if g < o then (if 0 ≤ g then (if g < (h.length : Int) then ((Bo.f k ((AC h g).f0) ((AC h g).f1) ((AC h g).f2) ((AC h g).f3)).bind fun b => (if a.length < 2199023255552 then (Bo.l0 k h o (wrap64 (g + 1)) c d e (a ++ [(⟨b.1, b.2.1, b.2.2.1, b.2.2.2⟩ : S30)])) else (none))) else (none)) else (none)) else (some (c, d, e, a))
def Bo.f : Nat → Int → Int → List Int → List (S30) → Option (Int × Int × List Int × (List (S30)))
 | 0, _, _, _, _ => none
 | k + 1, m, n, i, j => (some (([] : List Int) : List Int)).bind fun l => (if l.length + i.length < 140737488355328 then (Bo.l0 k j (j.length : Int) 0 m n (l ++ i) ([] : List (S30))) else (none))
end
def Bo.T1 : Bool × List (List Nat × List Nat) := (true, [([], []), ([0], [0]), ([], []), ([2], [2]), ([], []), ([], []), ([5], [5]), ([4, 6], [4, 6]), ([1, 3, 7], [1, 3, 7]), ([], []), ([9, 8, 7, 0, 1, 2, 3, 4, 5, 6, 7, 8, 9], [8, 9])])
def Bo.B1 : List Nat := [0, 1, 0, 4, 0, 0, 32, 112, 255, 0, 1023]
theorem Bo.PE : Ct .any (opsOf Try.f39 1) = Bo.T1 := by kernel_rfl
theorem Bo.NQ : CW Bo.T1.2 Bo.B1 = true := by kernel_rfl
def Bo.T5 : Bool × List (List Nat × List Nat) := (true, [([], []), ([0], [0]), ([], []), ([2], [2]), ([3], [3]), ([1, 4, 3], [1, 4]), ([0, 1, 2, 3, 4, 5], []), ([6, 5, 5, 0, 1, 2, 3, 4, 5], [5, 6])])
def Bo.B5 : List Nat := [0, 1, 0, 4, 12, 31, 63, 127]
theorem Bo.ND : Ct .any (opsOf Try.f39 5) = Bo.T5 := by kernel_rfl
theorem Bo.J2 : CW Bo.T5.2 Bo.B5 = true := by kernel_rfl
set_option maxHeartbeats 8000000 in
set_option maxRecDepth 100000 in
theorem Bo.calls (k : Nat) : ∀ (T : Int) (U : Int) (uB : Option Addr) (wB : Nat) (cB : List Int) (bC : Option Addr) (xB : Nat) (d : List (S30)) (r1 : Int) (r2 : Int) (r3 : List Int) (r4 : List (S30)) (w : World) (bE : Kd.C (Kd.int .u8) w uB cB.length cB) (yD : cB.length ≤ wB) (cE : Kd.C k30 w bC d.length d) (zD : d.length ≤ xB) (h : Bo.f k T U cB d = some (r1, r2, r3, r4)),
  Calls Try.prog 39 #[.agg #[.int .i64 T, .int .i64 U, .slice uB cB.length wB, .slice bC d.length xB]] w fun e w' => ∃ qF jH : Value, e = .returned (.agg #[.int .i64 r1, .int .i64 r2, qF, jH]) ∧ Kd.R (Kd.int .u8) 73 w' w.heap.size (fun _ => True) qF r3 ∧ Kd.R k30 30 w' w.heap.size (fun k_ => some k_ ≠ (qF : Value).ownBlock) jH r4 ∧ Below w.heap.size w w' := by
 induction k using Nat.strongRecOn with
 | _ k ih =>
 intro T U uB wB cB bC xB d r1 r2 r3 r4 w bE yD cE zD h
 cases k with
 | zero => exact absurd h (by simp [Bo.f])
 | succ k =>
 simp only [Bo.f] at h
 have gJ := Try.underlying30
 have sD := mk0 bE; have uH := mk0 yD; clear bE yD; have hF := mk0 cE; have vH := mk0 zD; clear cE zD
 have HB := mk0 (Below.refl w.heap.size w)
 have H := h; unfold Bo.f at H
 clear h
 obtain ⟨zC, vC⟩ : ∃ y_ : List Int, y_ = (([] : List Int)) := ⟨_, rfl⟩
 replace H : (if zC.length + cB.length < 140737488355328 then (Bo.l0 k d (d.length : Int) 0 T U (zC ++ cB) ([] : List (S30))) else (none)) = some (r1, r2, r3, r4) := by first | (rw [vC]; with_reducible exact H) | (have pC := (Option.bind_some _ _).symm.trans H; rw [vC]; with_reducible exact pC) | (have pC := (Option.bind_some _ _).symm.trans H; with_reducible exact pC) | with_reducible exact H | (rw [vC]; exact H) | exact H
 have dD := mk0 vC; clear vC
 by_cases c2 : zC.length + cB.length < 140737488355328
 rotate_left
 ·rw [if_neg c2] at H
  exact absurd H (by simp)
 rw [if_pos c2] at H; have mE := mk0 c2; clear c2
 obtain ⟨mB, wC⟩ : ∃ y_ : List Int, y_ = (zC ++ cB) := ⟨_, rfl⟩
 replace H : (Bo.l0 k d (d.length : Int) 0 T U mB ([] : List (S30))) = some (r1, r2, r3, r4) := by first | (rw [wC]; with_reducible exact H) | (have pC := (Option.bind_some _ _).symm.trans H; rw [wC]; with_reducible exact pC) | (have pC := (Option.bind_some _ _).symm.trans H; with_reducible exact pC) | with_reducible exact H | (rw [wC]; exact H) | exact H
 have vD := mk0 wC; clear wC
 have H' := mk0 H
 clear H
 go_enter Try.func39, Try.ntmps39
 try go_wp2_with (first | ((with_reducible refine AP rfl (N := 1) rfl (cs := #[.int .i64 T, .int .i64 U, .slice uB cB.length wB, .slice bC d.length xB]) (t := 30) ?hr ?_); (case hr => first | (go_simp; done) | (go_simp; rfl)); intro D hg w3 yB hb; have a := mk0 (yB); have y := bs (be HB) hg; replace HB := kh HB hb; clear hb yB hg) | ((with_reducible refine AP rfl (N := 2) rfl (cs := #[.int .i64 0, .int .i64 0, .slice none 0 0, .slice none 0 0]) (t := 30) ?hr ?_); (case hr => first | (go_simp; done) | (go_simp; rfl)); intro W hg w4 yB hb; have l := mk0 (yB); have B := bs (be1 HB y) hg; replace HB := kh1 HB y hb; have ⟨qC, sC⟩ := nn a hg; replace a := kb a hb; clear hb yB hg))
 have Y := mk0 (AX a.out)
 have Z := mk0 (AX l.out)
 have bB := mk0 (Ad HB.out)
 clear a; clear l; clear HB; have a := Y; have l := Z; have HB := bB; clear Y Z bB
 refine Cz (n := 11) (S := fun w' => w'.cell? ⟨D, 0, none⟩ = some (.int .i64 T) ∧ w'.cell? ⟨D, 1, none⟩ = some (.int .i64 U) ∧ w'.cell? ⟨D, 2, none⟩ = some (.slice uB cB.length wB) ∧ w'.cell? ⟨D, 3, none⟩ = some (.slice bC d.length xB)) (ds := []) (tf 0 11) (by kernel_rfl) rfl rfl ⟨bc a 0, bc a 1, bc a 2, bc a 3⟩ (fun I => ?_); refine Bz Bo.PE Bo.NQ (fun tB dE => ?_)
 generalize w4.drew = w5 at a l HB I ⊢
 refine pv 0 6 (tf 1 10) tB ?_
 refine pv 2 8 #[true, false, true, false, false, false, false, false, false, false, false] tB ?_
 refine pv 5 11 #[true, false, true, false, false, true, false, false, false, false, false] tB ?_
 refine Bl (i := 1) (N := some 7) (v := ?_) (a' := ?_) #[true, true, true, false, false, true, false, false, false, false, false] rfl rfl (Aj tB.out dE.out (by kernel_rfl)) (fun _ _ _ h => h) (Or.inl ⟨by rfl, ?_⟩) I ?_ ?_
 rotate_left
 ·rintro w' ⟨s0, s1, s2, s3⟩
  go_simp
  with_reducible rfl
 rotate_left
 ·simp only [ps]
  rfl
 refine Bl (i := 3) (N := some 9) (v := ?_) (a' := ?_) #[true, true, true, true, false, true, false, false, false, false, false] rfl rfl (Aj tB.out dE.out (by kernel_rfl)) (fun _ _ _ h => h) (Or.inl ⟨by rfl, ?_⟩) I ?_ ?_
 rotate_left
 ·rintro w' ⟨s0, s1, s2, s3⟩
  go_simp
  with_reducible rfl
 rotate_left
 ·simp only [ps]
  rfl
 refine Bl (i := 6) (N := some 12) (v := ?_) (a' := ?_) #[true, true, true, true, false, true, true, false, false, false, false] rfl rfl (Aj tB.out dE.out (by kernel_rfl)) (fun _ _ _ h => h) (Or.inl ⟨by rfl, ?_⟩) I ?_ ?_
 rotate_left
 ·rintro w' ⟨s0, s1, s2, s3⟩
  go_simp
  with_reducible rfl
 rotate_left
 ·simp only [ps]
  rfl
 refine OU (σ := Value × Value × Nat) 1 #[true, true, true, true, true, true, true, true, true, true, false] (fun s_ => [(10, s_.1), (13, s_.2.1), (3, .pointer (some ⟨s_.2.2, 0, none⟩)), (14, .agg #[.int .i64 T, .int .i64 U, s_.2.1, .slice none 0 0])]) (fun s_ w' => (w'.cell? ⟨D, 0, none⟩ = some (.int .i64 T) ∧ w'.cell? ⟨D, 1, none⟩ = some (.int .i64 U) ∧ w'.cell? ⟨D, 2, none⟩ = some (.slice uB cB.length wB) ∧ w'.cell? ⟨D, 3, none⟩ = some (.slice bC d.length xB)) ∧ (Kd.R (Kd.int .u8) 73 w' w.heap.size (fun _ => True) s_.2.1 mB) ∧ (w'.heap[D]? = some (.cells #[.int .i64 T, .int .i64 U, .slice uB cB.length wB, .slice bC d.length xB] 30 (0, 0))) ∧ (w'.heap[W]? = some (.cells #[.int .i64 0, .int .i64 0, .slice none 0 0, .slice none 0 0] 30 (0, 0))) ∧ (w'.heap[s_.2.2]? = some (.cells #[.int .i64 0, .int .i64 0, .slice none 0 0, .slice none 0 0] 30 (0, 0))) ∧ (w.heap.size ≤ s_.2.2) ∧ (w.heap.size ≤ s_.2.2) ∧ (D ≠ s_.2.2) ∧ (s_.2.2 ≠ D) ∧ (W ≠ s_.2.2) ∧ (s_.2.2 ≠ W) ∧ (Below w.heap.size w w')) ?_ ?_
 rotate_left
 ·intro wD
  refine Np (i := 4) (j := 9) (Ni := some 10) (Nj := some 3) #[true, true, true, true, true, true, true, false, false, false, false] #[true, true, true, true, false, true, true, false, false, true, false] rfl rfl rfl rfl (JN tB.out (by kernel_rfl)) (by decide) (by decide) (fun K hK => ?_) (fun K hK => ?_)
  ·skip
   refine Kd.IC (Kd.int .u8) _ 73 ?hg (N := 10) ?hd (xs := ([] : List Int)) (inner := []) (ok := fun _ => True) (okp := fun _ => True) ?hr ?hp (fun _ hk => hk) trivial (Below.refl _ _) (Nat.le_refl _) (by simp) ?_; (case hd => rfl); (case hg => rfl); (case hr => first | (go_simp; done) | (go_simp; rfl)); (case hp => exact (DK.none _ _))
   intro v145 w6 oE hb oF aE
   clear oF aE
   (first | rw [← dD.out] at oE | (simp only [Int.reduceToNat] at oE; rw [← dD.out] at oE))
   have Y := mk0 (Kd.CS oE (AQ (be2 HB y B)))
   have Z := kb a hb
   have bB := kb l hb
   have fB := kh2 HB y B hb
   clear a; clear l; clear HB; have gB := Y; have a := Z; have l := bB; have HB := fB; clear Y Z bB fB; clear hb oE
   refine hK.out _ _ ⟨bc a 0, bc a 1, bc a 2, bc a 3⟩ (fun I => ?_)
   clear hK K
   refine CJ (a' := ?_) ?_ ?_
   rotate_left
   ·show Act.put _ (some 10) _ = _
    simp only [ps]
    rfl
   refine Np (i := 7) (j := 9) (Ni := some 13) (Nj := some 3) #[true, true, true, true, true, true, true, true, false, false, false] #[true, true, true, true, true, true, true, false, false, true, false] rfl rfl rfl rfl (JN tB.out (by kernel_rfl)) (by decide) (by decide) (fun K hK => ?_) (fun K hK => ?_)
   ·skip
    refine Kd.EE (Kd.int .u8) (w0 := w) w.heap.size (by rfl) (.tmp 10) (.tmp 12) 27 73 (.int .u8 0) 1 rfl Try.underlying27 FC rfl (by decide) (by omega) v145 zC cB _ _ _ (fun _ => True) (fun _ => False) rfl rfl ?aO ?aR (fun _ _ h => h) (fun _ h => h.elim) ?aF ?aB ?aS ?aL ?_
    (case aR => exact cu sD HB)
    (case aB => exact (be2 HB y B))
    (case aF => exact (fun _ _ => trivial))
    (case aO => exact (DC gB.out))
    (case aS => exact (AQ (be2 HB y B)))
    (case aL => have := mE.out; omega)
    intro v148 w8 ho hb hg xD
    rw [← vD.out] at ho
    have Y := mk0 (Bg (g := D) (o := .cells #[.int .i64 T, .int .i64 U, .slice uB cB.length wB, .slice bC d.length xB] 30 (0, 0)) (AY a.out) hg (Kd.GZ gB.out a.out (by decide)))
    have Z := mk0 (Bg (g := W) (o := .cells #[.int .i64 0, .int .i64 0, .slice none 0 0, .slice none 0 0] 30 (0, 0)) (AY l.out) hg (Kd.GZ gB.out l.out (by decide)))
    have bB := mk0 (hb)
    have fB := mk0 (ho)
    clear a; clear l; clear HB; clear gB; have a := Y; have l := Z; have HB := bB; have sB := fB; clear Y Z bB fB; clear ho hb hg xD
    obtain ⟨sH, yH, cG⟩ := Kd.Bn sB.out
    (first | subst cG | (injection cG with f1_ f2_ f3_; have lC := f1_.symm; have mC := f3_.symm; clear f1_ f2_ f3_; subst lC; subst mC))
    refine hK.out _ _ ⟨bc a 0, bc a 1, bc a 2, bc a 3⟩ (fun I => ?_)
    clear hK K
    refine CJ (a' := ?_) ?_ ?_
    rotate_left
    ·show Act.put _ (some 13) _ = _
     simp only [ps]
     rfl
    refine pv 8 14 (tf 9 2) tB ?_
    refine DN (i := 9) (N := some 3) (tf 10 1) rfl rfl (Bv tB.out (by kernel_rfl)) (by decide) (fun K hK => ?_)
    refine FL ?hg (N := 3) ?hd (cs := #[.int .i64 0, .int .i64 0, .slice none 0 0, .slice none 0 0]) (t := 30) ?hr ?_; (case hd => rfl); (case hg => rfl); (case hr => first | (go_simp; done) | (go_simp; rfl))
    intro r hg rJ yB hb
    have Y := rb sB hb
    have Z := kb a hb
    have bB := kb l hb
    have fB := kh2 HB y B hb
    have oB := mk0 (yB)
    have zB := bs (be2 HB y B) hg
    have aC := bs (be2 HB y B) hg
    have iC := nb1 (bu a) hg
    have jC := nb2 (bu a) hg
    have yC := nb1 (bu l) hg
    have oC := nb2 (bu l) hg
    clear sB; clear a; clear l; clear HB; have sB := Y; have a := Z; have l := bB; have HB := fB; have c := oB; have kC := zB; have L := aC; have m := iC; have J := jC; have G := yC; have O := oC; clear Y Z bB fB oB zB aC iC jC yC oC; clear hb yB hg
    refine hK.out _ _ ⟨bc a 0, bc a 1, bc a 2, bc a 3⟩ (fun I => ?_)
    clear hK K
    refine CJ (a' := ?_) ?_ ?_
    rotate_left
    ·show Act.put _ (some 3) _ = _
     simp only [ps]
     rfl
    exact CJ (by simp only [Eh, Act.put, List.setIfInBounds_toArray, List.set_cons_zero, List.set_cons_succ]) (wD (v145, .slice sH mB.length yH, r) _ ⟨I, (DC sB.out), (AY a.out), (AY l.out), (AY c.out), kC.out, L.out, m.out, J.out, G.out, O.out, (be3 HB y B L)⟩)
   ·skip
    refine FL ?hg (N := 3) ?hd (cs := #[.int .i64 0, .int .i64 0, .slice none 0 0, .slice none 0 0]) (t := 30) ?hr ?_; (case hd => rfl); (case hg => rfl); (case hr => first | (go_simp; done) | (go_simp; rfl))
    intro r hg w8 yB hb
    have Y := rb gB hb
    have Z := kb a hb
    have bB := kb l hb
    have fB := kh2 HB y B hb
    have oB := mk0 (yB)
    have zB := bs (be2 HB y B) hg
    have aC := bs (be2 HB y B) hg
    have iC := nb1 (bu a) hg
    have jC := nb2 (bu a) hg
    have yC := nb1 (bu l) hg
    have oC := nb2 (bu l) hg
    clear gB; clear a; clear l; clear HB; have gB := Y; have a := Z; have l := bB; have HB := fB; have c := oB; have kC := zB; have L := aC; have m := iC; have J := jC; have G := yC; have O := oC; clear Y Z bB fB oB zB aC iC jC yC oC; clear hb yB hg
    refine hK.out _ _ ⟨bc a 0, bc a 1, bc a 2, bc a 3⟩ (fun I => ?_)
    clear hK K
    refine CJ (a' := ?_) ?_ ?_
    rotate_left
    ·show Act.put _ (some 3) _ = _
     simp only [ps]
     rfl
    refine DN (i := 7) (N := some 13) #[true, true, true, true, true, true, true, true, false, true, false] rfl rfl (Bv tB.out (by kernel_rfl)) (by decide) (fun K hK => ?_)
    refine Kd.EE (Kd.int .u8) (w0 := w) w.heap.size (by rfl) (.tmp 10) (.tmp 12) 27 73 (.int .u8 0) 1 rfl Try.underlying27 FC rfl (by decide) (by omega) v145 zC cB _ _ _ (fun _ => True) (fun _ => False) rfl rfl ?aO ?aR (fun _ _ h => h) (fun _ h => h.elim) ?aF ?aB ?aS ?aL ?_
    (case aR => exact cu sD HB)
    (case aB => exact (be3 HB y B L))
    (case aF => exact (fun _ _ => trivial))
    (case aO => exact (DC gB.out))
    (case aS => exact (AQ (be3 HB y B L)))
    (case aL => have := mE.out; omega)
    intro v148 w9 ho hb hg xD
    rw [← vD.out] at ho
    have Y := mk0 (Bg (g := D) (o := .cells #[.int .i64 T, .int .i64 U, .slice uB cB.length wB, .slice bC d.length xB] 30 (0, 0)) (AY a.out) hg (Kd.GZ gB.out a.out (by decide)))
    have Z := mk0 (Bg (g := W) (o := .cells #[.int .i64 0, .int .i64 0, .slice none 0 0, .slice none 0 0] 30 (0, 0)) (AY l.out) hg (Kd.GZ gB.out l.out (by decide)))
    have bB := mk0 (Bg (g := r) (o := .cells #[.int .i64 0, .int .i64 0, .slice none 0 0, .slice none 0 0] 30 (0, 0)) (AY c.out) hg (Kd.GZ gB.out c.out (by decide)))
    have fB := mk0 (hb)
    have oB := mk0 (ho)
    clear a; clear l; clear c; clear HB; clear gB; have a := Y; have l := Z; have c := bB; have HB := fB; have sB := oB; clear Y Z bB fB oB; clear ho hb hg xD
    obtain ⟨fE, nE, fD⟩ := Kd.Bn sB.out
    (first | subst fD | (injection fD with f1_ f2_ f3_; have lC := f1_.symm; have mC := f3_.symm; clear f1_ f2_ f3_; subst lC; subst mC))
    refine hK.out _ _ ⟨bc a 0, bc a 1, bc a 2, bc a 3⟩ (fun I => ?_)
    clear hK K
    refine CJ (a' := ?_) ?_ ?_
    rotate_left
    ·show Act.put _ (some 13) _ = _
     simp only [ps]
     rfl
    refine pv 8 14 (tf 10 1) tB ?_
    exact CJ (by simp only [Eh, Act.put, List.setIfInBounds_toArray, List.set_cons_zero, List.set_cons_succ]) (wD (v145, .slice fE mB.length nE, r) _ ⟨I, (DC sB.out), (AY a.out), (AY l.out), (AY c.out), kC.out, L.out, m.out, J.out, G.out, O.out, (be3 HB y B L)⟩)
  ·skip
   refine FL ?hg (N := 3) ?hd (cs := #[.int .i64 0, .int .i64 0, .slice none 0 0, .slice none 0 0]) (t := 30) ?hr ?_; (case hd => rfl); (case hg => rfl); (case hr => first | (go_simp; done) | (go_simp; rfl))
   intro r hg w6 yB hb
   have Y := kb a hb
   have Z := kb l hb
   have bB := kh2 HB y B hb
   have fB := mk0 (yB)
   have oB := bs (be2 HB y B) hg
   have zB := bs (be2 HB y B) hg
   have aC := nb1 (bu a) hg
   have iC := nb2 (bu a) hg
   have jC := nb1 (bu l) hg
   have yC := nb2 (bu l) hg
   clear a; clear l; clear HB; have a := Y; have l := Z; have HB := bB; have c := fB; have kC := oB; have L := zB; have m := aC; have J := iC; have G := jC; have O := yC; clear Y Z bB fB oB zB aC iC jC yC; clear hb yB hg
   refine hK.out _ _ ⟨bc a 0, bc a 1, bc a 2, bc a 3⟩ (fun I => ?_)
   clear hK K
   refine CJ (a' := ?_) ?_ ?_
   rotate_left
   ·show Act.put _ (some 3) _ = _
    simp only [ps]
    rfl
   refine DN (i := 4) (N := some 10) #[true, true, true, true, true, true, true, false, false, true, false] rfl rfl (Bv tB.out (by kernel_rfl)) (by decide) (fun K hK => ?_)
   refine Kd.IC (Kd.int .u8) _ 73 ?hg (N := 10) ?hd (xs := ([] : List Int)) (inner := []) (ok := fun _ => True) (okp := fun _ => True) ?hr ?hp (fun _ hk => hk) trivial (Below.refl _ _) (Nat.le_refl _) (by simp) ?_; (case hd => rfl); (case hg => rfl); (case hr => first | (go_simp; done) | (go_simp; rfl)); (case hp => exact (DK.none _ _))
   intro v145 w7 pE hb oF aE
   clear oF aE
   (first | rw [← dD.out] at pE | (simp only [Int.reduceToNat] at pE; rw [← dD.out] at pE))
   have Y := mk0 (Kd.CS pE (AQ (be3 HB y B L)))
   have Z := kb a hb
   have bB := kb l hb
   have fB := kb c hb
   have oB := kh3 HB y B L hb
   clear a; clear l; clear c; clear HB; have gB := Y; have a := Z; have l := bB; have c := fB; have HB := oB; clear Y Z bB fB oB; clear hb pE
   refine hK.out _ _ ⟨bc a 0, bc a 1, bc a 2, bc a 3⟩ (fun I => ?_)
   clear hK K
   refine CJ (a' := ?_) ?_ ?_
   rotate_left
   ·show Act.put _ (some 10) _ = _
    simp only [ps]
    rfl
   refine DN (i := 7) (N := some 13) #[true, true, true, true, true, true, true, true, false, true, false] rfl rfl (Bv tB.out (by kernel_rfl)) (by decide) (fun K hK => ?_)
   refine Kd.EE (Kd.int .u8) (w0 := w) w.heap.size (by rfl) (.tmp 10) (.tmp 12) 27 73 (.int .u8 0) 1 rfl Try.underlying27 FC rfl (by decide) (by omega) v145 zC cB _ _ _ (fun _ => True) (fun _ => False) rfl rfl ?aO ?aR (fun _ _ h => h) (fun _ h => h.elim) ?aF ?aB ?aS ?aL ?_
   (case aR => exact cu sD HB)
   (case aB => exact (be3 HB y B L))
   (case aF => exact (fun _ _ => trivial))
   (case aO => exact (DC gB.out))
   (case aS => exact (AQ (be3 HB y B L)))
   (case aL => have := mE.out; omega)
   intro v148 w9 ho hb hg xD
   rw [← vD.out] at ho
   have Y := mk0 (Bg (g := D) (o := .cells #[.int .i64 T, .int .i64 U, .slice uB cB.length wB, .slice bC d.length xB] 30 (0, 0)) (AY a.out) hg (Kd.GZ gB.out a.out (by decide)))
   have Z := mk0 (Bg (g := W) (o := .cells #[.int .i64 0, .int .i64 0, .slice none 0 0, .slice none 0 0] 30 (0, 0)) (AY l.out) hg (Kd.GZ gB.out l.out (by decide)))
   have bB := mk0 (Bg (g := r) (o := .cells #[.int .i64 0, .int .i64 0, .slice none 0 0, .slice none 0 0] 30 (0, 0)) (AY c.out) hg (Kd.GZ gB.out c.out (by decide)))
   have fB := mk0 (hb)
   have oB := mk0 (ho)
   clear a; clear l; clear c; clear HB; clear gB; have a := Y; have l := Z; have c := bB; have HB := fB; have sB := oB; clear Y Z bB fB oB; clear ho hb hg xD
   obtain ⟨fE, nE, fD⟩ := Kd.Bn sB.out
   (first | subst fD | (injection fD with f1_ f2_ f3_; have lC := f1_.symm; have mC := f3_.symm; clear f1_ f2_ f3_; subst lC; subst mC))
   refine hK.out _ _ ⟨bc a 0, bc a 1, bc a 2, bc a 3⟩ (fun I => ?_)
   clear hK K
   refine CJ (a' := ?_) ?_ ?_
   rotate_left
   ·show Act.put _ (some 13) _ = _
    simp only [ps]
    rfl
   refine pv 8 14 (tf 10 1) tB ?_
   exact CJ (by simp only [Eh, Act.put, List.setIfInBounds_toArray, List.set_cons_zero, List.set_cons_succ]) (wD (v145, .slice fE mB.length nE, r) _ ⟨I, (DC sB.out), (AY a.out), (AY l.out), (AY c.out), kC.out, L.out, m.out, J.out, G.out, O.out, (be3 HB y B L)⟩)
 rintro ⟨v145, v148, r⟩ nC ⟨zH, dG, eG, fG, gG, hG, iG, jG, kG, lG, mG, zE⟩
 have Y : Aside0 (Kd.R (Kd.int .u8) 73 nC w.heap.size (fun _ => True) v148 mB) := ⟨dG⟩
 have Z : Aside0 (nC.heap[D]? = some (.cells #[.int .i64 T, .int .i64 U, .slice uB cB.length wB, .slice bC d.length xB] 30 (0, 0))) := ⟨eG⟩
 have bB : Aside0 (nC.heap[W]? = some (.cells #[.int .i64 0, .int .i64 0, .slice none 0 0, .slice none 0 0] 30 (0, 0))) := ⟨fG⟩
 have fB : Aside0 (nC.heap[r]? = some (.cells #[.int .i64 0, .int .i64 0, .slice none 0 0, .slice none 0 0] 30 (0, 0))) := ⟨gG⟩
 have oB : Aside0 (w.heap.size ≤ r) := ⟨hG⟩
 have zB : Aside0 (w.heap.size ≤ r) := ⟨iG⟩
 have aC : Aside0 (D ≠ r) := ⟨jG⟩
 have iC : Aside0 (r ≠ D) := ⟨kG⟩
 have jC : Aside0 (W ≠ r) := ⟨lG⟩
 have yC : Aside0 (r ≠ W) := ⟨mG⟩
 have oC : Aside0 (Below w.heap.size w nC) := ⟨zE⟩
 clear a; clear l; clear HB; clear dG eG fG gG hG iG jG kG lG mG zE; have sB := Y; have a := Z; have l := bB; have c := fB; have kC := oB; have L := zB; have m := aC; have J := iC; have G := jC; have O := yC; have HB := oC; clear Y Z bB fB oB zB aC iC jC yC oC
 have I : nC.cell? ⟨D, 0, none⟩ = some (.int .i64 T) ∧ nC.cell? ⟨D, 1, none⟩ = some (.int .i64 U) ∧ nC.cell? ⟨D, 2, none⟩ = some (.slice uB cB.length wB) ∧ nC.cell? ⟨D, 3, none⟩ = some (.slice bC d.length xB) := zH
 obtain ⟨cC, dC, vE⟩ := Kd.Bn sB.out
 (first | subst vE | (injection vE with f1_ f2_ f3_; have lC := f1_.symm; have mC := f3_.symm; clear f1_ f2_ f3_; subst lC; subst mC))
 refine CJ (a' := ?_) ?_ ?_
 rotate_left
 ·simp only [Eh, Act.put, List.setIfInBounds_toArray, List.set_cons_zero, List.set_cons_succ]
  rfl
 refine DN (i := 10) (N := none) (tf 11 0) rfl rfl (Bv tB.out (by kernel_rfl)) (by decide) (fun K hK => ?_)
 have bJ : nC.cell? ⟨r, 0, none⟩ = some (.int .i64 0) := bc c 0
 have aI := AB c.out 0
 have yG := m.out; have zG := G.out; have nG := J.out; have oG := O.out
 have cJ : nC.cell? ⟨r, 1, none⟩ = some (.int .i64 0) := bc c 1
 have bI := AB c.out 1
 have aH := m.out; have bH := G.out; have pG := J.out; have qG := O.out
 have dJ : nC.cell? ⟨r, 2, none⟩ = some (.slice none 0 0) := bc c 2
 have cI := AB c.out 2
 have cH := m.out; have dH := G.out; have rG := J.out; have sG := O.out
 have eJ : nC.cell? ⟨r, 3, none⟩ = some (.slice none 0 0) := bc c 3
 have dI := AB c.out 3
 have eH := m.out; have fH := G.out; have tG := J.out; have uG := O.out
 refine Fu (w1 := ?_) (by rfl) rfl ?_ ?_
 rotate_left
 ·go_simp
  rfl
 refine hK.out _ _ ⟨((cell_far (p := ⟨r, _, none⟩) m.out _).trans (((cell_far (p := ⟨r, _, none⟩) m.out _).trans (((cell_far (p := ⟨r, _, none⟩) m.out _).trans (((cell_far (p := ⟨r, _, none⟩) m.out _).trans (I.1)))))))), ((cell_far (p := ⟨r, _, none⟩) m.out _).trans (((cell_far (p := ⟨r, _, none⟩) m.out _).trans (((cell_far (p := ⟨r, _, none⟩) m.out _).trans (((cell_far (p := ⟨r, _, none⟩) m.out _).trans (I.2.1)))))))), ((cell_far (p := ⟨r, _, none⟩) m.out _).trans (((cell_far (p := ⟨r, _, none⟩) m.out _).trans (((cell_far (p := ⟨r, _, none⟩) m.out _).trans (((cell_far (p := ⟨r, _, none⟩) m.out _).trans (I.2.2.1)))))))), ((cell_far (p := ⟨r, _, none⟩) m.out _).trans (((cell_far (p := ⟨r, _, none⟩) m.out _).trans (((cell_far (p := ⟨r, _, none⟩) m.out _).trans (((cell_far (p := ⟨r, _, none⟩) m.out _).trans (I.2.2.2))))))))⟩ (fun I => ?_)
 clear hK K
 refine Dv (Cu tB.out (by kernel_rfl)) ?_
 have ⟨fI, oI⟩ := no qC sC; have ⟨gI, pI⟩ := no m J
 have iJ := BN a.out
 try go_wp2
 go_loopg [18] k (fun kq v18 w' => ∃ (b : Int) (X : List (S30)) (u151003 : Value), v18 = .int .i64 b ∧ Aside0 (Bo.l0 kq d (d.length : Int) b T U mB X = some (r1, r2, r3, r4)) ∧ Aside0 (kq ≤ k) ∧ Aside0 (Kd.R (Kd.int .u8) 73 w' w.heap.size (fun _ => True) (.slice cC mB.length dC) mB) ∧ Aside0 (Kd.R k30 30 w' w.heap.size (fun k_ => some k_ ≠ ((.slice cC mB.length dC) : Value).ownBlock ∧ k_ ≠ D ∧ k_ ≠ W ∧ k_ ≠ r) u151003 X) ∧ Aside0 (w'.heap[D]? = some (.cells #[.int .i64 T, .int .i64 U, (.slice uB cB.length wB), (.slice bC d.length xB)] 30 (0, 0))) ∧ Aside0 (w'.heap[W]? = some (.cells #[.int .i64 0, .int .i64 0, (.slice none 0 0), (.slice none 0 0)] 30 (0, 0))) ∧ Aside0 (w'.heap[r]? = some (.cells #[.int .i64 T, .int .i64 U, (.slice cC mB.length dC), u151003] 30 (0, 0))) ∧ Aside0 (Below w.heap.size w w'))
 case atStart => exact ⟨(0), (([] : List (S30))), (.slice none 0 0), rfl, H', ⟨Nat.le_refl _⟩, ⟨DZ (Kd.BC (rI (q := r) (Kd.Ao sB.out c.out (by decide)) (fun _ hk => hk.2)) (fun _ hk => trivial))⟩, ⟨by first | exact Kd.Di _ _ _ _ _ | exact Kd.Dx _ _ _ _ _ | exact Kd.DT _ _ _ _ _ | exact Kd.Du _ _ _ _ _ | exact Kd.Dw _ _ _ _ _⟩, ⟨bF m a⟩, ⟨bF G l⟩, ⟨pB c⟩, ⟨be3 HB y B L⟩⟩
 case round =>
  clear H'
  try clear c2
  obtain ⟨b, X, u151003, rfl, HA, gF, x, s, a, l, c, HB⟩ := hrel
  cases gk with
  | zero => exact absurd HA.out (by simp [Bo.l0])
  | succ k1 =>
   have H := HA.out; clear HA
   simp only [Bo.l0] at H
   replace H := iD' H; obtain ⟨-, mF, H⟩ | ⟨-, mF, H⟩ := H
   ·simp only [Option.some.injEq, Prod.mk.injEq] at H
    obtain ⟨rfl, rfl, rfl, rfl⟩ := H
    have ⟨kI, wI⟩ := no J m; have ⟨lI, xI⟩ := no O G
    have kJ := BN c.out
    have ⟨mI, yI⟩ := no sC qC
    have lJ := BN l.out
    obtain ⟨uF, zF, bG⟩ := Kd.Bn s.out
    subst bG
    go_wp2
    refine bodyPost_ret (results_cell_row rfl _ _ W 30 #[.int .i64 T, .int .i64 U, .slice cC mB.length dC, .slice uF X.length zF] (0, 0) _ rfl (pB l) Try.underlying30 rfl (by kernel_rfl)) rfl ?_
    exact ⟨_, _, rfl, by exact DZ (Kd.BC (rI (q := W) (Kd.Ao x.out l.out (by decide)) (fun _ hk => hk.2)) (fun _ hk => trivial)), by exact DZ (Kd.BC (rI (q := W) (Kd.BC s.out (fun k_ hk => (⟨hk, hk.2.2.1⟩ : _ ∧ k_ ≠ W))) (fun _ hk => hk.2)) (fun _ hk => hk.1.1)), be3 HB y B L⟩
   replace H := iN H; obtain ⟨-, wH, H⟩ := H
   replace H := iN H; obtain ⟨-, xH, H⟩ := H
   replace H := Option.bind_eq_some_iff.mp H
   obtain ⟨⟨aD, t154, bD, cD⟩, uE, H⟩ := H
   replace H : (if X.length < 2199023255552 then (Bo.l0 k1 d (d.length : Int) (wrap64 (b + 1)) T U mB (X ++ [(⟨aD, t154, bD, cD⟩ : S30)])) else (none)) = some (r1, r2, r3, r4) := H
   have rH := mk0 uE; clear uE
   by_cases c24 : X.length < 2199023255552
   rotate_left
   ·rw [if_neg c24] at H
    exact absurd H (by simp)
   rw [if_pos c24] at H; have jF := mk0 c24; clear c24
   obtain ⟨sE, xC⟩ : ∃ y_ : List (S30), y_ = (X ++ [(⟨aD, t154, bD, cD⟩ : S30)]) := ⟨_, rfl⟩
   replace H : (Bo.l0 k1 d (d.length : Int) (wrap64 (b + 1)) T U mB sE) = some (r1, r2, r3, r4) := by first | (rw [xC]; with_reducible exact H) | (have pC := (Option.bind_some _ _).symm.trans H; rw [xC]; with_reducible exact pC) | (have pC := (Option.bind_some _ _).symm.trans H; with_reducible exact pC) | with_reducible exact H | (rw [xC]; exact H) | exact H
   have lF := mk0 xC; clear xC
   have H' := mk0 H
   clear H
   have qE : 0 ≤ (b : Int) := od
   have rE : b < (d.length : Int) := od
   obtain ⟨eD, hB, kB, jB, lB, aG, lD, mD, nD, oD, jD, gD, kD, hD⟩ := Dy hF.out b qE rE
   cases aG
   replace lD := Ae HB.out lD
   replace mD := Ae HB.out mD
   replace nD := Ae HB.out nD
   replace oD := Ae HB.out oD
   have kE := mk0 gD; have gE := mk0 jD; clear gD jD; have lE := mk0 hD; have hE := mk0 kD; clear hD kD; replace qE := eq_true qE; replace rE := eq_true rE
   try go_wp2_with ((with_reducible refine AP rfl (N := 5) rfl (cs := #[.int .i64 0, .int .i64 0, .slice none 0 0, .slice none 0 0]) (t := 30) ?hr ?_); (case hr => first | (go_simp; done) | (go_simp; rfl)); intro u hg pD yB hb; replace s := rB s hg hb; replace x := rb x hb; have z := mk0 (yB); have gC := bs (be3 HB y B L) hg; replace HB := kh3 HB y B L hb; have ⟨rC, tD⟩ := nn a hg; have ⟨tC, uD⟩ := nn l hg; have ⟨hC, uC⟩ := nn c hg; obtain ⟨a, l, c⟩ := tb3 hb a l c; clear hb yB hg; have ⟨hI, qI⟩ := no tD rC; have ⟨iI, tI⟩ := no uD tC; have ⟨jI, uI⟩ := no uC hC; have jJ := BN z.out)
   have Y : Aside0 (Kd.R (Kd.int .u8) 73 ((((pD.setCell ⟨u, 0, none⟩ (.int .i64 ((AC d b).f0))).setCell ⟨u, 1, none⟩ (.int .i64 ((AC d b).f1))).setCell ⟨u, 2, none⟩ (.slice hB ((AC d b).f2).length kB)).setCell ⟨u, 3, none⟩ (.slice jB ((AC d b).f3).length lB)) w.heap.size (fun _ => True) (.slice cC mB.length dC) mB) := ⟨DZ (Kd.BC (rI (q := u) (Kd.Ao x.out z.out (by decide)) (fun _ hk => hk.2)) (fun _ hk => trivial))⟩
   have Z : Aside0 (Kd.R k30 30 ((((pD.setCell ⟨u, 0, none⟩ (.int .i64 ((AC d b).f0))).setCell ⟨u, 1, none⟩ (.int .i64 ((AC d b).f1))).setCell ⟨u, 2, none⟩ (.slice hB ((AC d b).f2).length kB)).setCell ⟨u, 3, none⟩ (.slice jB ((AC d b).f3).length lB)) w.heap.size (fun k_ => some k_ ≠ (.slice cC mB.length dC : Value).ownBlock ∧ k_ ≠ D ∧ k_ ≠ W ∧ k_ ≠ r ∧ k_ ≠ u) u151003 X) := ⟨DZ (Kd.BC (rI (q := u) (Kd.BC s.out (fun k_ hk => (⟨hk, hk.2⟩ : _ ∧ k_ ≠ u))) (fun _ hk => hk.2)) (fun _ hk => ⟨hk.1.1.1, ⟨hk.1.1.2.1, ⟨hk.1.1.2.2.1, ⟨hk.1.1.2.2.2, hk.1.2⟩⟩⟩⟩))⟩
   have bB : Aside0 (((((pD.setCell ⟨u, 0, none⟩ (.int .i64 ((AC d b).f0))).setCell ⟨u, 1, none⟩ (.int .i64 ((AC d b).f1))).setCell ⟨u, 2, none⟩ (.slice hB ((AC d b).f2).length kB)).setCell ⟨u, 3, none⟩ (.slice jB ((AC d b).f3).length lB)).heap[D]? = some (.cells #[.int .i64 T, .int .i64 U, .slice uB cB.length wB, .slice (some eD) d.length xB] 30 (0, 0))) := ⟨bF rC a⟩
   have fB : Aside0 (((((pD.setCell ⟨u, 0, none⟩ (.int .i64 ((AC d b).f0))).setCell ⟨u, 1, none⟩ (.int .i64 ((AC d b).f1))).setCell ⟨u, 2, none⟩ (.slice hB ((AC d b).f2).length kB)).setCell ⟨u, 3, none⟩ (.slice jB ((AC d b).f3).length lB)).heap[W]? = some (.cells #[.int .i64 0, .int .i64 0, .slice none 0 0, .slice none 0 0] 30 (0, 0))) := ⟨bF tC l⟩
   have oB : Aside0 (((((pD.setCell ⟨u, 0, none⟩ (.int .i64 ((AC d b).f0))).setCell ⟨u, 1, none⟩ (.int .i64 ((AC d b).f1))).setCell ⟨u, 2, none⟩ (.slice hB ((AC d b).f2).length kB)).setCell ⟨u, 3, none⟩ (.slice jB ((AC d b).f3).length lB)).heap[r]? = some (.cells #[.int .i64 T, .int .i64 U, .slice cC mB.length dC, u151003] 30 (0, 0))) := ⟨bF hC c⟩
   have zB : Aside0 (((((pD.setCell ⟨u, 0, none⟩ (.int .i64 ((AC d b).f0))).setCell ⟨u, 1, none⟩ (.int .i64 ((AC d b).f1))).setCell ⟨u, 2, none⟩ (.slice hB ((AC d b).f2).length kB)).setCell ⟨u, 3, none⟩ (.slice jB ((AC d b).f3).length lB)).heap[u]? = some (.cells #[.int .i64 ((AC d b).f0), .int .i64 ((AC d b).f1), .slice hB ((AC d b).f2).length kB, .slice jB ((AC d b).f3).length lB] 30 (0, 0))) := ⟨pB z⟩
   have aC : Aside0 (Below w.heap.size w ((((pD.setCell ⟨u, 0, none⟩ (.int .i64 ((AC d b).f0))).setCell ⟨u, 1, none⟩ (.int .i64 ((AC d b).f1))).setCell ⟨u, 2, none⟩ (.slice hB ((AC d b).f2).length kB)).setCell ⟨u, 3, none⟩ (.slice jB ((AC d b).f3).length lB))) := ⟨be4 HB y B L gC⟩
   try clear x
   try clear s
   try clear a
   try clear l
   try clear c
   try clear z
   try clear HB
   generalize ((((pD.setCell ⟨u, 0, none⟩ (.int .i64 ((AC d b).f0))).setCell ⟨u, 1, none⟩ (.int .i64 ((AC d b).f1))).setCell ⟨u, 2, none⟩ (.slice hB ((AC d b).f2).length kB)).setCell ⟨u, 3, none⟩ (.slice jB ((AC d b).f3).length lB)) = zI at Y Z bB fB oB zB aC ⊢
   have x := Y; have s := Z; have a := bB; have l := fB; have c := oB; have z := zB; have HB := aC; clear Y Z bB fB oB zB aC
   have Y := mk0 (Kd.ED x.out)
   have Z := mk0 (Kd.ED s.out)
   have bB := mk0 (AX a.out)
   have fB := mk0 (AX l.out)
   have oB := mk0 (AX c.out)
   have zB := mk0 (AX z.out)
   have aC := mk0 (Ad HB.out)
   clear x; clear s; clear a; clear l; clear c; clear z; clear HB; have x := Y; have s := Z; have a := bB; have l := fB; have c := oB; have z := zB; have HB := aC; clear Y Z bB fB oB zB aC
   refine Cz (n := 8) (S := fun w' => w'.cell? ⟨r, 0, none⟩ = some (.int .i64 T) ∧ w'.cell? ⟨r, 1, none⟩ = some (.int .i64 U) ∧ w'.cell? ⟨r, 2, none⟩ = some (.slice cC mB.length dC) ∧ w'.cell? ⟨r, 3, none⟩ = some (u151003) ∧ w'.cell? ⟨u, 0, none⟩ = some (.int .i64 ((AC d b).f0)) ∧ w'.cell? ⟨u, 1, none⟩ = some (.int .i64 ((AC d b).f1)) ∧ w'.cell? ⟨u, 2, none⟩ = some (.slice hB ((AC d b).f2).length kB) ∧ w'.cell? ⟨u, 3, none⟩ = some (.slice jB ((AC d b).f3).length lB)) (ds := [7]) (tf 0 8) (by kernel_rfl) rfl rfl ⟨bc c 0, bc c 1, bc c 2, bc c 3, bc z 0, bc z 1, bc z 2, bc z 3⟩ (fun I => ?_); refine Bz Bo.ND Bo.J2 (fun tB dE => ?_)
   generalize zI.drew = sJ at x s a l c z HB I ⊢
   refine pv 0 22 (tf 1 7) tB ?_
   refine Bl (i := 1) (N := some 23) (v := ?_) (a' := ?_) (tf 2 6) rfl rfl (Aj tB.out dE.out (by kernel_rfl)) (fun _ _ _ h => h) (Or.inl ⟨by rfl, ?_⟩) I ?_ ?_
   rotate_left
   ·rintro w' ⟨s0, s1, s2, s3, s4, s5, s6, s7⟩
    go_simp
    with_reducible rfl
   rotate_left
   ·simp only [ps]
    rfl
   refine Bl (i := 2) (N := some 24) (v := ?_) (a' := ?_) (tf 3 5) rfl rfl (Aj tB.out dE.out (by kernel_rfl)) (fun _ _ _ h => h) (Or.inl ⟨by rfl, ?_⟩) I ?_ ?_
   rotate_left
   ·rintro w' ⟨s0, s1, s2, s3, s4, s5, s6, s7⟩
    go_simp
    with_reducible rfl
   rotate_left
   ·simp only [ps]
    rfl
   refine DN (i := 3) (N := some 25) (tf 4 4) rfl rfl (Bv tB.out (by kernel_rfl)) (by decide) (fun K hK => ?_)
   refine Cx Try.func39 (by kernel_rfl) rfl #[.agg #[.int .i64 ((AC d b).f0), .int .i64 ((AC d b).f1), .slice hB ((AC d b).f2).length kB, .slice jB ((AC d b).f3).length lB]] (by rfl) rfl rfl (by (try simp only [List.map_toArray, List.map_cons, List.map_nil]); first | done | rfl | (simp only [List.length_drop, List.length_take]; rfl)) ?_
   with_reducible refine (ih k1 (by have := gF.out; omega) ((AC d b).f0) ((AC d b).f1) _ _ ((AC d b).f2) _ _ ((AC d b).f3) aD t154 bD cD _ ?side1 ?side2 ?side3 ?side4 rH.out).mono ?_
   (case side1 => exact cu kE HB)
   (case side2 => exact gE.out)
   (case side3 => exact cu lE HB)
   (case side4 => exact hE.out)
   rintro e tJ ⟨v156, v159, rfl, tE, pF, hb⟩
   refine ⟨_, rfl, ?_⟩
   have Y := mk0 (Kd.Fy (DC x.out) (Kd.BG tE) hb)
   have Z := mk0 (Kd.BC (Kd.Gz (Kd.Gz (Kd.Ml (DC s.out) hb) (Kd.BG tE)) (Kd.BG pF)) (fun _ h_ => h_.1))
   have bB := mk0 (Kd.CS (Kd.Ff tE (Kd.En (DC x.out))) (AQ (be4 HB y B L gC)))
   have fB := mk0 (Kd.CS (Kd.JG (Kd.JG (Kd.JG (Kd.JG (Kd.Ff (Kd.Ff pF (Kd.En (DC x.out))) (Kd.En (DC s.out))) (g := D) (o := .cells #[.int .i64 T, .int .i64 U, .slice uB cB.length wB, .slice (some eD) d.length xB] 30 (0, 0)) (AY a.out)) (g := W) (o := .cells #[.int .i64 0, .int .i64 0, .slice none 0 0, .slice none 0 0] 30 (0, 0)) (AY l.out)) (g := r) (o := .cells #[.int .i64 T, .int .i64 U, .slice cC mB.length dC, u151003] 30 (0, 0)) (AY c.out)) (g := u) (o := .cells #[.int .i64 ((AC d b).f0), .int .i64 ((AC d b).f1), .slice hB ((AC d b).f2).length kB, .slice jB ((AC d b).f3).length lB] 30 (0, 0)) (AY z.out)) (AQ (be4 HB y B L gC)))
   have oB := kb a hb
   have zB := kb l hb
   have aC := kb c hb
   have iC := kb z hb
   have jC := kh4 HB y B L gC hb
   clear x; clear s; clear a; clear l; clear c; clear z; clear HB; have x := Y; have s := Z; have qD := bB; have rD := fB; have a := oB; have l := zB; have c := aC; have z := iC; have HB := jC; clear Y Z bB fB oB zB aC iC jC
   try clear hb
   try clear hk
   try clear tE
   try clear pF
   obtain ⟨rF, wF, wE⟩ := Kd.Bn qD.out
   (first | subst wE | (injection wE with f1_ f2_ f3_; have lC := f1_.symm; have mC := f3_.symm; clear f1_ f2_ f3_; subst lC; subst mC))
   obtain ⟨sF, xF, xE⟩ := Kd.Bn rD.out
   (first | subst xE | (injection xE with f1_ f2_ f3_; have lC := f1_.symm; have mC := f3_.symm; clear f1_ f2_ f3_; subst lC; subst mC))
   refine hK.out _ _ ⟨bc c 0, bc c 1, bc c 2, bc c 3, bc z 0, bc z 1, bc z 2, bc z 3⟩ (fun I => ?_)
   clear hK K
   refine CJ (a' := ?_) ?_ ?_
   rotate_left
   ·show Act.put _ (some 25) _ = _
    simp only [ps]
    rfl
   refine DN (i := 4) (N := some 26) (tf 5 3) rfl rfl (Bv tB.out (by kernel_rfl)) (by decide) (fun K hK => ?_)
   refine CU (w1 := ?_) (v := ?_) (by rfl) rfl ?_ ?_
   rotate_left 2
   ·go_simp
    constructor
    ·rfl
    ·rfl
   refine hK.out _ _ ⟨(Ai (Ac c.out _) 0).trans rfl, (Ai (Ac c.out _) 1).trans rfl, (Ai (Ac c.out _) 2).trans rfl, (Ai (Ac c.out _) 3).trans rfl, (Ai (Ac z.out _) 0).trans rfl, (Ai (Ac z.out _) 1).trans rfl, (Ai (Ac z.out _) 2).trans rfl, (Ai (Ac z.out _) 3).trans rfl⟩ (fun I => ?_)
   clear hK K
   refine CJ (a' := ?_) ?_ ?_
   rotate_left
   ·show Act.put _ (some 26) _ = _
    simp only [ps]
    rfl
   refine DN (i := 5) (N := some 27) (tf 6 2) rfl rfl (Bv tB.out (by kernel_rfl)) (by decide) (fun K hK => ?_)
   refine Kd.Ey k30 (w0 := w) w.heap.size (by rfl) (.tmp 23) (.tmp 26) 28 30 (.agg #[(.int .i64 0), (.int .i64 0), (.slice none 0 0), (.slice none 0 0)]) 64 rfl Try.underlying28 G6 rfl (by decide) (by omega) u151003 X (⟨aD, t154, bD, cD⟩ : S30) [.int .i64 aD, .int .i64 t154, .slice rF bD.length wF, .slice sF cD.length xF] (fun k_ => some k_ ≠ (.slice cC mB.length dC : Value).ownBlock ∧ k_ ≠ D ∧ k_ ≠ W ∧ k_ ≠ r ∧ k_ ≠ u) (fun k_ => ((fun k_ => some k_ ≠ (.slice cC mB.length dC : Value).ownBlock ∧ k_ ≠ D ∧ k_ ≠ W ∧ k_ ≠ r ∧ k_ ≠ u)) k_ ∧ some k_ ≠ (u151003 : Value).ownBlock) rfl rfl ?aP (fun _ hk => hk) ?aF ?aO ?aB ?aS ?aL ?_
   (case aP => exact K8 _ _ _ (⟨aD, t154, bD, cD⟩ : S30) (Kd.BC (Kd.Ao (Kd.Ao (Kd.Ao (Kd.Ao (Kd.Ca (qD.out) (Kd.Ee s.out) (by decide)) a.out (by decide)) l.out (by decide)) c.out (by decide)) z.out (by decide)) (fun k_ hk => ⟨⟨hk.1.1.1.1.1.2, ⟨hk.1.1.1.2, ⟨hk.1.1.2, ⟨hk.1.2, hk.2⟩⟩⟩⟩, hk.1.1.1.1.2⟩)) (Kd.BC (rD.out) (fun k_ hk => ⟨⟨hk.1.1.1.1.1.2, ⟨hk.1.1.1.2, ⟨hk.1.1.2, ⟨hk.1.2, hk.2⟩⟩⟩⟩, hk.1.1.1.1.2⟩)))
   (case aB => exact (be4 HB y B L gC))
   (case aF => exact (fun k_ hk => ⟨Kd.fresh' (Kd.En (DC x.out)) k_ hk, Kd.Al (g := D) (o := .cells #[.int .i64 T, .int .i64 U, .slice uB cB.length wB, .slice (some eD) d.length xB] 30 (0, 0)) (AY a.out) k_ hk, Kd.Al (g := W) (o := .cells #[.int .i64 0, .int .i64 0, .slice none 0 0, .slice none 0 0] 30 (0, 0)) (AY l.out) k_ hk, Kd.Al (g := r) (o := .cells #[.int .i64 T, .int .i64 U, .slice cC mB.length dC, u151003] 30 (0, 0)) (AY c.out) k_ hk, Kd.Al (g := u) (o := .cells #[.int .i64 ((AC d b).f0), .int .i64 ((AC d b).f1), .slice hB ((AC d b).f2).length kB, .slice jB ((AC d b).f3).length lB] 30 (0, 0)) (AY z.out) k_ hk⟩))
   (case aO => exact (DZ (Kd.BC s.out (fun _ hk => ⟨hk.1.1.1, ⟨hk.1.1.2.1, ⟨hk.1.1.2.2.1, ⟨hk.1.1.2.2.2.1, hk.1.1.2.2.2.2⟩⟩⟩⟩))))
   (case aS => exact (AQ (be4 HB y B L gC)))
   (case aL => have := jF.out; omega)
   intro v162 aJ ho hb hg xD
   rw [← lF.out] at ho
   have Y := mk0 (Kd.Ht (DC x.out) (Kd.Ee (DC s.out)) (by decide) hg)
   have Z := mk0 (Bg (g := D) (o := .cells #[.int .i64 T, .int .i64 U, .slice uB cB.length wB, .slice (some eD) d.length xB] 30 (0, 0)) (AY a.out) hg (Kd.IA s.out (fun _ hk => hk.1.1.2.1)))
   have bB := mk0 (Bg (g := W) (o := .cells #[.int .i64 0, .int .i64 0, .slice none 0 0, .slice none 0 0] 30 (0, 0)) (AY l.out) hg (Kd.IA s.out (fun _ hk => hk.1.1.2.2.1)))
   have fB := mk0 (Bg (g := r) (o := .cells #[.int .i64 T, .int .i64 U, .slice cC mB.length dC, u151003] 30 (0, 0)) (AY c.out) hg (Kd.IA s.out (fun _ hk => hk.1.1.2.2.2.1)))
   have oB := mk0 (Bg (g := u) (o := .cells #[.int .i64 ((AC d b).f0), .int .i64 ((AC d b).f1), .slice hB ((AC d b).f2).length kB, .slice jB ((AC d b).f3).length lB] 30 (0, 0)) (AY z.out) hg (Kd.IA s.out (fun _ hk => hk.1.1.2.2.2.2)))
   have zB := mk0 (hb)
   have aC := mk0 (ho)
   clear x; clear a; clear l; clear c; clear z; clear HB; clear s; clear qD; clear rD; have x := Y; have a := Z; have l := bB; have c := fB; have z := oB; have HB := zB; have jE := aC; clear Y Z bB fB oB zB aC; clear ho hb hg xD
   obtain ⟨tF, yF, yE⟩ := Kd.Bn jE.out
   (first | subst yE | (injection yE with f1_ f2_ f3_; have lC := f1_.symm; have mC := f3_.symm; clear f1_ f2_ f3_; subst lC; subst mC))
   refine hK.out _ _ ⟨bc c 0, bc c 1, bc c 2, bc c 3, bc z 0, bc z 1, bc z 2, bc z 3⟩ (fun I => ?_)
   clear hK K
   refine CJ (a' := ?_) ?_ ?_
   rotate_left
   ·show Act.put _ (some 27) _ = _
    simp only [ps]
    rfl
   refine pv 6 28 (tf 7 1) tB ?_
   refine Me (i := 7) (N := none) (tf 8 0) rfl rfl (Bv tB.out (by kernel_rfl)) (by decide) (fun K hK => ?_)
   have fJ : aJ.cell? ⟨r, 3, none⟩ = some (u151003) := bc c 3
   have eI := AB c.out 3
   have gH := m.out; have hH := G.out; have iH := uC.out; have vG := J.out; have wG := O.out; have xG := hC.out
   refine Fu (w1 := ?_) (by rfl) rfl ?_ ?_
   rotate_left
   ·go_simp
    rfl
   refine hK.out _ _ ?_
   clear hK K
   refine Dv (Cu tB.out (by kernel_rfl)) ?_
   try go_wp2
   go_roundg k1
   case measure => have := gF.out; omega
   case rel => exact ⟨(wrap64 (b + 1)), (sE), (.slice tF sE.length yF), rfl, H', ⟨by have := gF.out; omega⟩, ⟨DZ (Kd.BC (rI (q := r) (Kd.Ao x.out c.out (by decide)) (fun _ hk => hk.2)) (fun _ hk => trivial))⟩, ⟨DZ (Kd.BC (rI (q := r) (Kd.BC jE.out (fun k_ hk => (⟨hk, hk.2.2.2.1⟩ : _ ∧ k_ ≠ r))) (fun _ hk => hk.2)) (fun _ hk => ⟨hk.1.1, ⟨hk.1.2.1, ⟨hk.1.2.2.1, hk.1.2.2.2.1⟩⟩⟩))⟩, ⟨bF m a⟩, ⟨bF G l⟩, ⟨pB c⟩, ⟨be4 HB y B L gC⟩⟩
end Go.Proofs.Ytojankgmedccdaa.PGn
