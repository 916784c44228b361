/- Lemmas. -/
import Derived.Test.YtojankgmedccdaaYNPGnx0
namespace Go.Proofs.Ytojankgmedccdaa.PGn
open Go.RowKit Own PTy Hand PIs PAw Wo
attribute [local go_sem] BS BU Bf Bg BC BD BX BZ
set_option linter.unusedVariables false
set_option linter.unusedSimpArgs false
mutual
def Bu.l0 : Nat → List (S30) → Int → Int → Int → Int → List Int → List (S30) → Option (Int × Int × List Int × (List (S30)))
 | 0, _, _, _, _, _, _, _ => none
 | k + 1, h, o, g, c, d, e, a => if g < o then (if 0 ≤ g then (if g < (h.length : Int) then ((Bu.f k ((AB h g).f0) ((AB h g).f1) ((AB h g).f2) ((AB h g).f3)).bind fun b => (if a.length < 2199023255552 then (Bu.l0 k h o (wrap64 (g + 1)) c d e (a ++ [(⟨b.1, b.2.1, b.2.2.1, b.2.2.2⟩ : S30)])) else (none))) else (none)) else (none)) else (some (c, d, e, a))
def Bu.f : Nat → Int → Int → List Int → List (S30) → Option (Int × Int × List Int × (List (S30)))
 | 0, _, _, _, _ => none
 | k + 1, m, n, i, j => (some (([] : List Int) : List Int)).bind fun l => (if l.length + i.length < 140737488355328 then (Bu.l0 k j (j.length : Int) 0 m n (l ++ i) ([] : List (S30))) else (none))
end
def Bu.T1 : Bool × List (List Nat × List Nat) := (true, [([], []), ([0], [0]), ([], []), ([2], [2]), ([], []), ([], []), ([5], [5]), ([4, 6], [4, 6]), ([1, 3, 7], [1, 3, 7]), ([], []), ([9, 8, 7, 0, 1, 2, 3, 4, 5, 6, 7, 8, 9], [8, 9])])
def Bu.B1 : List Nat := [0, 1, 0, 4, 0, 0, 32, 112, 255, 0, 1023]
theorem Bu.RY : DT .any (opsOf Try.f39 1) = Bu.T1 := by kernel_rfl
theorem Bu.QV : Cn Bu.T1.2 Bu.B1 = true := by kernel_rfl
def Bu.T5 : Bool × List (List Nat × List Nat) := (true, [([], []), ([0], [0]), ([], []), ([2], [2]), ([3], [3]), ([1, 4, 3], [1, 4]), ([0, 1, 2, 3, 4, 5], []), ([6, 5, 5, 0, 1, 2, 3, 4, 5], [5, 6])])
def Bu.B5 : List Nat := [0, 1, 0, 4, 12, 31, 63, 127]
theorem Bu.Nt : DT .any (opsOf Try.f39 5) = Bu.T5 := by kernel_rfl
theorem Bu.Kj : Cn Bu.T5.2 Bu.B5 = true := by kernel_rfl
set_option maxHeartbeats 8000000 in
set_option maxRecDepth 100000 in
theorem Bu.calls (k : Nat) : ∀ (T : Int) (U : Int) (lB : Option Addr) (mB : Nat) (Y : List Int) (uB : Option Addr) (qB : Nat) (c : List (S30)) (r1 : Int) (r2 : Int) (r3 : List Int) (r4 : List (S30)) (w : World) (oD : Kd.C (Kd.int .u8) w lB Y.length Y) (lD : Y.length ≤ mB) (pD : Kd.C k30 w uB c.length c) (mD : c.length ≤ qB) (h : Bu.f k T U Y c = some (r1, r2, r3, r4)),
  Calls Try.prog 39 #[.agg #[.int .i64 T, .int .i64 U, .slice lB Y.length mB, .slice uB c.length qB]] w fun e w' => ∃ fF hH : Value, e = .returned (.agg #[.int .i64 r1, .int .i64 r2, fF, hH]) ∧ Kd.R (Kd.int .u8) 73 w' w.heap.size (fun _ => True) fF r3 ∧ Kd.R k30 30 w' w.heap.size (fun k_ => nw fF k_) hH r4 ∧ Below w.heap.size w w' := by
 induction k using Nat.strongRecOn with
 | _ k ih =>
 intro T U lB mB Y uB qB c r1 r2 r3 r4 w oD lD pD mD h
 cases k with
 | zero => exact absurd h (by simp [Bu.f])
 | succ k =>
 simp only [Bu.f] at h
 have fJ := Try.underlying30
 have eD := mk0 oD; have sH := mk0 lD; clear oD lD; have xE := mk0 pD; have tH := mk0 mD; clear pD mD
 have HB := mk0 (Below.refl w.heap.size w)
 have H := h; unfold Bu.f at H
 clear h
 obtain ⟨nC, kC⟩ : ∃ y_ : List Int, y_ = (([] : List Int)) := ⟨_, rfl⟩
 replace H : (if nC.length + Y.length < 140737488355328 then (Bu.l0 k c (c.length : Int) 0 T U (nC ++ Y) ([] : List (S30))) else (none)) = some (r1, r2, r3, r4) := by first | (rw [kC]; with_reducible exact H) | (have eC := (Option.bind_some _ _).symm.trans H; rw [kC]; with_reducible exact eC) | (have eC := (Option.bind_some _ _).symm.trans H; with_reducible exact eC) | with_reducible exact H | (rw [kC]; exact H) | exact H
 have rC := mk0 kC; clear kC
 by_cases c2 : nC.length + Y.length < 140737488355328
 rotate_left
 ·rw [if_neg c2] at H; exact absurd H (by simp)
 rw [if_pos c2] at H; have fE := mk0 c2; clear c2
 obtain ⟨fB, lC⟩ : ∃ y_ : List Int, y_ = (nC ++ Y) := ⟨_, rfl⟩
 replace H : (Bu.l0 k c (c.length : Int) 0 T U fB ([] : List (S30))) = some (r1, r2, r3, r4) := by first | (rw [lC]; with_reducible exact H) | (have eC := (Option.bind_some _ _).symm.trans H; rw [lC]; with_reducible exact eC) | (have eC := (Option.bind_some _ _).symm.trans H; with_reducible exact eC) | with_reducible exact H | (rw [lC]; exact H) | exact H
 have hD := mk0 lC; clear lC
 have H' := mk0 H
 clear H
 go_enter Try.func39, Try.ntmps39
 try go_wp2_with (first | ((with_reducible refine AQ rfl (N := 1) rfl (cs := #[.int .i64 T, .int .i64 U, .slice lB Y.length mB, .slice uB c.length qB]) (t := 30) ?hr ?_); (case hr => first | (go_simp; done) | (go_simp; rfl)); intro D hg w3 sB hb; have a := mk0 (sB); have x := bs (be HB) hg; replace HB := kh HB hb; clear hb sB hg) | ((with_reducible refine AQ rfl (N := 2) rfl (cs := #[.int .i64 0, .int .i64 0, .slice none 0 0, .slice none 0 0]) (t := 30) ?hr ?_); (case hr => first | (go_simp; done) | (go_simp; rfl)); intro W hg w4 sB hb; have r := mk0 (sB); have z := bs (be1 HB x) hg; replace HB := kh1 HB x hb; have ⟨fC, hC⟩ := nn a hg; replace a := kb a hb; clear hb sB hg))
 replace a := mk0 (AZ a.out); replace r := mk0 (AZ r.out); replace HB := mk0 (Ad HB.out)
 refine DV (n := 11) (S := fun w' => w'.cell? ⟨D, 0, none⟩ = some (.int .i64 T) ∧ w'.cell? ⟨D, 1, none⟩ = some (.int .i64 U) ∧ w'.cell? ⟨D, 2, none⟩ = some (.slice lB Y.length mB) ∧ w'.cell? ⟨D, 3, none⟩ = some (.slice uB c.length qB)) (ds := []) (tf 0 11) (by kernel_rfl) rfl rfl ⟨bc a 0, bc a 1, bc a 2, bc a 3⟩ (fun I => ?_); refine CY Bu.RY Bu.QV (fun kB qD => ?_)
 generalize w4.drew = w5 at a r HB I ⊢
 refine pv 0 6 (tf 1 10) kB ?_
 refine pv 2 8 #[ξ,ζ,ξ,ζ,ζ,ζ,ζ,ζ,ζ,ζ,ζ] kB ?_
 refine pv 5 11 #[ξ,ζ,ξ,ζ,ζ,ξ,ζ,ζ,ζ,ζ,ζ] kB ?_
 refine Br (i := 1) (N := some 7) (v := ?_) (a' := ?_) #[ξ,ξ,ξ,ζ,ζ,ξ,ζ,ζ,ζ,ζ,ζ] rfl rfl (BA kB.out qD.out (by kernel_rfl)) (fun _ _ _ h => h) (Or.inl ⟨by rfl, ?_⟩) I ?_ ?_
 rotate_left
 ·rintro w' ⟨s0, s1, s2, s3⟩; go_simp; with_reducible rfl
 rotate_left
 ·simp only [ps]; rfl
 refine Br (i := 3) (N := some 9) (v := ?_) (a' := ?_) #[ξ,ξ,ξ,ξ,ζ,ξ,ζ,ζ,ζ,ζ,ζ] rfl rfl (BA kB.out qD.out (by kernel_rfl)) (fun _ _ _ h => h) (Or.inl ⟨by rfl, ?_⟩) I ?_ ?_
 rotate_left
 ·rintro w' ⟨s0, s1, s2, s3⟩; go_simp; with_reducible rfl
 rotate_left
 ·simp only [ps]; rfl
 refine Br (i := 6) (N := some 12) (v := ?_) (a' := ?_) #[ξ,ξ,ξ,ξ,ζ,ξ,ξ,ζ,ζ,ζ,ζ] rfl rfl (BA kB.out qD.out (by kernel_rfl)) (fun _ _ _ h => h) (Or.inl ⟨by rfl, ?_⟩) I ?_ ?_
 rotate_left
 ·rintro w' ⟨s0, s1, s2, s3⟩; go_simp; with_reducible rfl
 rotate_left
 ·simp only [ps]; rfl
 refine PD (σ := Value × Value × Nat) 1 #[ξ,ξ,ξ,ξ,ξ,ξ,ξ,ξ,ξ,ξ,ζ] (fun s_ => [(10, s_.1), (13, s_.2.1), (3, .pointer (some ⟨s_.2.2, 0, none⟩)), (14, .agg #[.int .i64 T, .int .i64 U, s_.2.1, .slice none 0 0])]) (fun s_ w' => (w'.cell? ⟨D, 0, none⟩ = some (.int .i64 T) ∧ w'.cell? ⟨D, 1, none⟩ = some (.int .i64 U) ∧ w'.cell? ⟨D, 2, none⟩ = some (.slice lB Y.length mB) ∧ w'.cell? ⟨D, 3, none⟩ = some (.slice uB c.length qB)) ∧ (Kd.R (Kd.int .u8) 73 w' w.heap.size (fun _ => True) s_.2.1 fB) ∧ (bk w' D 30 #[.int .i64 T, .int .i64 U, .slice lB Y.length mB, .slice uB c.length qB]) ∧ (bk w' W 30 #[.int .i64 0, .int .i64 0, .slice none 0 0, .slice none 0 0]) ∧ (w'.heap[s_.2.2]? = some (.cells #[.int .i64 0, .int .i64 0, .slice none 0 0, .slice none 0 0] 30 (0, 0))) ∧ (w.heap.size ≤ s_.2.2) ∧ (w.heap.size ≤ s_.2.2) ∧ (D ≠ s_.2.2) ∧ (s_.2.2 ≠ D) ∧ (W ≠ s_.2.2) ∧ (s_.2.2 ≠ W) ∧ (Below w.heap.size w w')) ?_ ?_
 rotate_left
 ·intro jD; refine OZ (i := 4) (j := 9) (Ni := some 10) (Nj := some 3) #[ξ,ξ,ξ,ξ,ξ,ξ,ξ,ζ,ζ,ζ,ζ] #[ξ,ξ,ξ,ξ,ζ,ξ,ξ,ζ,ζ,ξ,ζ] rfl rfl rfl rfl (J6 kB.out (by kernel_rfl)) (by decide) (by decide) (fun K hK => ?_) (fun K hK => ?_)
  ·skip
   refine Kd.JA (Kd.int .u8) _ 73 ?hg (N := 10) ?hd (xs := ([] : List Int)) (inner := []) (ok := fun _ => True) (okp := fun _ => True) ?hr ?hp (fun _ Z => Z) trivial (Below.refl _ _) (Nat.le_refl _) (by simp) ?_; (case hd => rfl); (case hg => rfl); (case hr => first | (go_simp; done) | (go_simp; rfl)); (case hp => exact (CK.none _ _)); intro v145 w6 jE hb dF nD; clear dF nD; (first | rw [← rC.out] at jE | (simp only [Int.reduceToNat] at jE; rw [← rC.out] at jE)); have gB := mk0 (Kd.Cb jE (AU (be2 HB x z))); obtain ⟨a, r⟩ := tb2 hb a r; replace HB := kh2 HB x z hb; clear hb jE; refine hK.out _ _ ⟨bc a 0, bc a 1, bc a 2, bc a 3⟩ (fun I => ?_); clear hK K; refine nz 10 ?_; refine OZ (i := 7) (j := 9) (Ni := some 13) (Nj := some 3) #[ξ,ξ,ξ,ξ,ξ,ξ,ξ,ξ,ζ,ζ,ζ] #[ξ,ξ,ξ,ξ,ξ,ξ,ξ,ζ,ζ,ξ,ζ] rfl rfl rfl rfl (J6 kB.out (by kernel_rfl)) (by decide) (by decide) (fun K hK => ?_) (fun K hK => ?_)
   ·skip
    refine Kd.EW (Kd.int .u8) (w0 := w) w.heap.size (by rfl) (.tmp 10) (.tmp 12) 27 73 (.int .u8 0) 1 rfl Try.underlying27 Fz rfl (by decide) (by omega) v145 nC Y _ _ _ (fun _ => True) (fun _ => False) rfl rfl ?aO ?aR (fun _ _ h => h) (fun _ h => h.elim) ?aF ?aB ?aS ?aL ?_; (case aR => exact cu eD HB); (case aB => exact (be2 HB x z)); (case aF => exact (fun _ _ => trivial)); (case aO => exact (Dc gB.out)); (case aS => exact (AU (be2 HB x z))); (case aL => have := fE.out; omega); intro v148 w8 ho hb hg kD; rw [← hD.out] at ho; replace a := mk0 (BR (g := D) (o := .cells #[.int .i64 T, .int .i64 U, .slice lB Y.length mB, .slice uB c.length qB] 30 (0, 0)) (Au a.out) hg (Kd.Hl gB.out a.out (by decide))); replace r := mk0 (BR (g := W) (o := .cells #[.int .i64 0, .int .i64 0, .slice none 0 0, .slice none 0 0] 30 (0, 0)) (Au r.out) hg (Kd.Hl gB.out r.out (by decide))); replace HB := mk0 (hb); have jB := mk0 (ho); clear gB; clear ho hb hg kD; obtain ⟨qH, wH, xH⟩ := Kd.Bt jB.out; subst xH; refine hK.out _ _ ⟨bc a 0, bc a 1, bc a 2, bc a 3⟩ (fun I => ?_); clear hK K; refine nz 13 ?_; refine pv 8 14 (tf 9 2) kB ?_; refine Dj (i := 9) (N := some 3) (tf 10 1) rfl rfl (CQ kB.out (by kernel_rfl)) (by decide) (fun K hK => ?_); refine FX ?hg (N := 3) ?hd (cs := #[.int .i64 0, .int .i64 0, .slice none 0 0, .slice none 0 0]) (t := 30) ?hr ?_; (case hd => rfl); (case hg => rfl); (case hr => first | (go_simp; done) | (go_simp; rfl)); intro m hg qJ sB hb; replace jB := rb jB hb; have l := mk0 (sB); have cC := bs (be2 HB x z) hg; have L := bs (be2 HB x z) hg; replace HB := kh2 HB x z hb; have ⟨d, J⟩ := nn a hg; have ⟨G, O⟩ := nn r hg; obtain ⟨a, r⟩ := tb2 hb a r; clear hb sB hg; refine hK.out _ _ ⟨bc a 0, bc a 1, bc a 2, bc a 3⟩ (fun I => ?_); clear hK K; refine nz 3 ?_; exact Hy (by simp only [FY, Act.put, List.setIfInBounds_toArray, List.set_cons_zero, List.set_cons_succ]) (jD (v145, .slice qH fB.length wH, m) _ ⟨I, (Dc jB.out), (Au a.out), (Au r.out), (Au l.out), cC.out, L.out, d.out, J.out, G.out, O.out, (be3 HB x z L)⟩)
   ·skip
    refine FX ?hg (N := 3) ?hd (cs := #[.int .i64 0, .int .i64 0, .slice none 0 0, .slice none 0 0]) (t := 30) ?hr ?_; (case hd => rfl); (case hg => rfl); (case hr => first | (go_simp; done) | (go_simp; rfl)); intro m hg w8 sB hb; replace gB := rb gB hb; have l := mk0 (sB); have cC := bs (be2 HB x z) hg; have L := bs (be2 HB x z) hg; replace HB := kh2 HB x z hb; have ⟨d, J⟩ := nn a hg; have ⟨G, O⟩ := nn r hg; obtain ⟨a, r⟩ := tb2 hb a r; clear hb sB hg; refine hK.out _ _ ⟨bc a 0, bc a 1, bc a 2, bc a 3⟩ (fun I => ?_); clear hK K; refine nz 3 ?_; refine Dj (i := 7) (N := some 13) #[ξ,ξ,ξ,ξ,ξ,ξ,ξ,ξ,ζ,ξ,ζ] rfl rfl (CQ kB.out (by kernel_rfl)) (by decide) (fun K hK => ?_); refine Kd.EW (Kd.int .u8) (w0 := w) w.heap.size (by rfl) (.tmp 10) (.tmp 12) 27 73 (.int .u8 0) 1 rfl Try.underlying27 Fz rfl (by decide) (by omega) v145 nC Y _ _ _ (fun _ => True) (fun _ => False) rfl rfl ?aO ?aR (fun _ _ h => h) (fun _ h => h.elim) ?aF ?aB ?aS ?aL ?_; (case aR => exact cu eD HB); (case aB => exact (be3 HB x z L)); (case aF => exact (fun _ _ => trivial)); (case aO => exact (Dc gB.out)); (case aS => exact (AU (be3 HB x z L))); (case aL => have := fE.out; omega); intro v148 w9 ho hb hg kD; rw [← hD.out] at ho; replace a := mk0 (BR (g := D) (o := .cells #[.int .i64 T, .int .i64 U, .slice lB Y.length mB, .slice uB c.length qB] 30 (0, 0)) (Au a.out) hg (Kd.Hl gB.out a.out (by decide))); replace r := mk0 (BR (g := W) (o := .cells #[.int .i64 0, .int .i64 0, .slice none 0 0, .slice none 0 0] 30 (0, 0)) (Au r.out) hg (Kd.Hl gB.out r.out (by decide))); replace l := mk0 (BR (g := m) (o := .cells #[.int .i64 0, .int .i64 0, .slice none 0 0, .slice none 0 0] 30 (0, 0)) (Au l.out) hg (Kd.Hl gB.out l.out (by decide))); replace HB := mk0 (hb); have jB := mk0 (ho); clear gB; clear ho hb hg kD; obtain ⟨zD, gE, hE⟩ := Kd.Bt jB.out; subst hE; refine hK.out _ _ ⟨bc a 0, bc a 1, bc a 2, bc a 3⟩ (fun I => ?_); clear hK K; refine nz 13 ?_; refine pv 8 14 (tf 10 1) kB ?_; exact Hy (by simp only [FY, Act.put, List.setIfInBounds_toArray, List.set_cons_zero, List.set_cons_succ]) (jD (v145, .slice zD fB.length gE, m) _ ⟨I, (Dc jB.out), (Au a.out), (Au r.out), (Au l.out), cC.out, L.out, d.out, J.out, G.out, O.out, (be3 HB x z L)⟩)
  ·skip
   refine FX ?hg (N := 3) ?hd (cs := #[.int .i64 0, .int .i64 0, .slice none 0 0, .slice none 0 0]) (t := 30) ?hr ?_; (case hd => rfl); (case hg => rfl); (case hr => first | (go_simp; done) | (go_simp; rfl)); intro m hg w6 sB hb; have l := mk0 (sB); have cC := bs (be2 HB x z) hg; have L := bs (be2 HB x z) hg; replace HB := kh2 HB x z hb; have ⟨d, J⟩ := nn a hg; have ⟨G, O⟩ := nn r hg; obtain ⟨a, r⟩ := tb2 hb a r; clear hb sB hg; refine hK.out _ _ ⟨bc a 0, bc a 1, bc a 2, bc a 3⟩ (fun I => ?_); clear hK K; refine nz 3 ?_; refine Dj (i := 4) (N := some 10) #[ξ,ξ,ξ,ξ,ξ,ξ,ξ,ζ,ζ,ξ,ζ] rfl rfl (CQ kB.out (by kernel_rfl)) (by decide) (fun K hK => ?_); refine Kd.JA (Kd.int .u8) _ 73 ?hg (N := 10) ?hd (xs := ([] : List Int)) (inner := []) (ok := fun _ => True) (okp := fun _ => True) ?hr ?hp (fun _ Z => Z) trivial (Below.refl _ _) (Nat.le_refl _) (by simp) ?_; (case hd => rfl); (case hg => rfl); (case hr => first | (go_simp; done) | (go_simp; rfl)); (case hp => exact (CK.none _ _)); intro v145 w7 kE hb dF nD; clear dF nD; (first | rw [← rC.out] at kE | (simp only [Int.reduceToNat] at kE; rw [← rC.out] at kE)); have gB := mk0 (Kd.Cb kE (AU (be3 HB x z L))); obtain ⟨a, r, l⟩ := tb3 hb a r l; replace HB := kh3 HB x z L hb; clear hb kE; refine hK.out _ _ ⟨bc a 0, bc a 1, bc a 2, bc a 3⟩ (fun I => ?_); clear hK K; refine nz 10 ?_; refine Dj (i := 7) (N := some 13) #[ξ,ξ,ξ,ξ,ξ,ξ,ξ,ξ,ζ,ξ,ζ] rfl rfl (CQ kB.out (by kernel_rfl)) (by decide) (fun K hK => ?_); refine Kd.EW (Kd.int .u8) (w0 := w) w.heap.size (by rfl) (.tmp 10) (.tmp 12) 27 73 (.int .u8 0) 1 rfl Try.underlying27 Fz rfl (by decide) (by omega) v145 nC Y _ _ _ (fun _ => True) (fun _ => False) rfl rfl ?aO ?aR (fun _ _ h => h) (fun _ h => h.elim) ?aF ?aB ?aS ?aL ?_; (case aR => exact cu eD HB); (case aB => exact (be3 HB x z L)); (case aF => exact (fun _ _ => trivial)); (case aO => exact (Dc gB.out)); (case aS => exact (AU (be3 HB x z L))); (case aL => have := fE.out; omega); intro v148 w9 ho hb hg kD; rw [← hD.out] at ho; replace a := mk0 (BR (g := D) (o := .cells #[.int .i64 T, .int .i64 U, .slice lB Y.length mB, .slice uB c.length qB] 30 (0, 0)) (Au a.out) hg (Kd.Hl gB.out a.out (by decide))); replace r := mk0 (BR (g := W) (o := .cells #[.int .i64 0, .int .i64 0, .slice none 0 0, .slice none 0 0] 30 (0, 0)) (Au r.out) hg (Kd.Hl gB.out r.out (by decide))); replace l := mk0 (BR (g := m) (o := .cells #[.int .i64 0, .int .i64 0, .slice none 0 0, .slice none 0 0] 30 (0, 0)) (Au l.out) hg (Kd.Hl gB.out l.out (by decide))); replace HB := mk0 (hb); have jB := mk0 (ho); clear gB; clear ho hb hg kD; obtain ⟨zD, gE, hE⟩ := Kd.Bt jB.out; subst hE; refine hK.out _ _ ⟨bc a 0, bc a 1, bc a 2, bc a 3⟩ (fun I => ?_); clear hK K; refine nz 13 ?_; refine pv 8 14 (tf 10 1) kB ?_; exact Hy (by simp only [FY, Act.put, List.setIfInBounds_toArray, List.set_cons_zero, List.set_cons_succ]) (jD (v145, .slice zD fB.length gE, m) _ ⟨I, (Dc jB.out), (Au a.out), (Au r.out), (Au l.out), cC.out, L.out, d.out, J.out, G.out, O.out, (be3 HB x z L)⟩)
 rintro ⟨v145, v148, m⟩ dC ⟨yH, yF, zF, aG, bG, cG, dG, eG, fG, gG, hG, qE⟩
 have rD : zzl dC w (fun _ => True) v148 fB := ⟨yF⟩
 have sD : Aside0 (bk dC D 30 #[.int .i64 T, .int .i64 U, .slice lB Y.length mB, .slice uB c.length qB]) := ⟨zF⟩
 have tD : Aside0 (bk dC W 30 #[.int .i64 0, .int .i64 0, .slice none 0 0, .slice none 0 0]) := ⟨aG⟩
 have uD : Aside0 (bk dC m 30 #[.int .i64 0, .int .i64 0, .slice none 0 0, .slice none 0 0]) := ⟨bG⟩
 have vD : Aside0 (w.heap.size ≤ m) := ⟨cG⟩
 have wD : Aside0 (w.heap.size ≤ m) := ⟨dG⟩
 have xD : Aside0 (D ≠ m) := ⟨eG⟩
 have eH : Aside0 (m ≠ D) := ⟨fG⟩
 have fH : Aside0 (W ≠ m) := ⟨gG⟩
 have gH : Aside0 (m ≠ W) := ⟨hG⟩
 have rE : Aside0 (Below w.heap.size w dC) := ⟨qE⟩
 clear a; clear r; clear HB; clear yF zF aG bG cG dG eG fG gG hG qE; have jB := rD; have a := sD; have r := tD; have l := uD; have cC := vD; have L := wD; have d := xD; have J := eH; have G := fH; have O := gH; have HB := rE; clear rD sD tD uD vD wD xD eH fH gH rE
 have I : dC.cell? ⟨D, 0, none⟩ = some (.int .i64 T) ∧ dC.cell? ⟨D, 1, none⟩ = some (.int .i64 U) ∧ dC.cell? ⟨D, 2, none⟩ = some (.slice lB Y.length mB) ∧ dC.cell? ⟨D, 3, none⟩ = some (.slice uB c.length qB) := yH
 obtain ⟨wB, xB, sF⟩ := Kd.Bt jB.out
 subst sF
 refine Hy (a' := ?_) ?_ ?_
 rotate_left
 ·simp only [FY, Act.put, List.setIfInBounds_toArray, List.set_cons_zero, List.set_cons_succ]; rfl
 refine Dj (i := 10) (N := none) (tf 11 0) rfl rfl (CQ kB.out (by kernel_rfl)) (by decide) (fun K hK => ?_)
 have aJ : dC.cell? ⟨m, 0, none⟩ = some (.int .i64 0) := bc l 0
 have zH := AY l.out 0
 have tG := d.out; have uG := G.out; have iG := J.out; have jG := O.out
 have bJ : dC.cell? ⟨m, 1, none⟩ = some (.int .i64 0) := bc l 1
 have aI := AY l.out 1
 have vG := d.out; have wG := G.out; have kG := J.out; have lG := O.out
 have cJ : dC.cell? ⟨m, 2, none⟩ = some (.slice none 0 0) := bc l 2
 have bI := AY l.out 2
 have xG := d.out; have yG := G.out; have mG := J.out; have nG := O.out
 have dJ : dC.cell? ⟨m, 3, none⟩ = some (.slice none 0 0) := bc l 3
 have cI := AY l.out 3
 have zG := d.out; have aH := G.out; have oG := J.out; have pG := O.out
 refine F7 (w1 := ?_) (by rfl) rfl ?_ ?_
 rotate_left
 ·go_simp; rfl
 refine hK.out _ _ ⟨((cell_far (p := ⟨m, _, none⟩) d.out _).trans (((cell_far (p := ⟨m, _, none⟩) d.out _).trans (((cell_far (p := ⟨m, _, none⟩) d.out _).trans (((cell_far (p := ⟨m, _, none⟩) d.out _).trans (I.1)))))))), ((cell_far (p := ⟨m, _, none⟩) d.out _).trans (((cell_far (p := ⟨m, _, none⟩) d.out _).trans (((cell_far (p := ⟨m, _, none⟩) d.out _).trans (((cell_far (p := ⟨m, _, none⟩) d.out _).trans (I.2.1)))))))), ((cell_far (p := ⟨m, _, none⟩) d.out _).trans (((cell_far (p := ⟨m, _, none⟩) d.out _).trans (((cell_far (p := ⟨m, _, none⟩) d.out _).trans (((cell_far (p := ⟨m, _, none⟩) d.out _).trans (I.2.2.1)))))))), ((cell_far (p := ⟨m, _, none⟩) d.out _).trans (((cell_far (p := ⟨m, _, none⟩) d.out _).trans (((cell_far (p := ⟨m, _, none⟩) d.out _).trans (((cell_far (p := ⟨m, _, none⟩) d.out _).trans (I.2.2.2))))))))⟩ (fun I => ?_)
 clear hK K
 refine EQ (Dm kB.out (by kernel_rfl)) ?_
 have ⟨eI, mI⟩ := no fC hC; have ⟨fI, oI⟩ := no d J
 have hJ := Ay a.out
 try go_wp2
 go_loopg [18] k (fun kq v18 w' => ∃ (b : Int) (X : List (S30)) (u151003 : Value), v18 = .int .i64 b ∧ Aside0 (Bu.l0 kq c (c.length : Int) b T U fB X = some (r1, r2, r3, r4)) ∧ Aside0 (kq ≤ k) ∧ zzl w' w (fun _ => True) (.slice wB fB.length xB) fB ∧ Aside0 (Kd.R k30 30 w' w.heap.size (fun k_ => zzb wB fB xB k_ ∧ zzd D W m k_) u151003 X) ∧ Aside0 (bk w' D 30 #[.int .i64 T, .int .i64 U, (.slice lB Y.length mB), (.slice uB c.length qB)]) ∧ Aside0 (bk w' W 30 #[.int .i64 0, .int .i64 0, (.slice none 0 0), (.slice none 0 0)]) ∧ Aside0 (bk w' m 30 #[.int .i64 T, .int .i64 U, (.slice wB fB.length xB), u151003]) ∧ Aside0 (Below w.heap.size w w'))
 case atStart => exact ⟨(0), (([] : List (S30))), (.slice none 0 0), rfl, H', ⟨Nat.le_refl _⟩, ⟨Dx (Kd.BK (rI (q := m) (Kd.Ai jB.out l.out (by decide)) zza) (fun _ Z => trivial))⟩, ⟨by first | exact Kd.Dq _ _ _ _ _ | exact Kd.ED _ _ _ _ _ | exact Kd.DZ _ _ _ _ _ | exact Kd.EB _ _ _ _ _ | exact Kd.EC _ _ _ _ _⟩, ⟨bF d a⟩, ⟨bF G r⟩, ⟨pB l⟩, ⟨be3 HB x z L⟩⟩
 case round =>
  clear H'; try clear c2
  obtain ⟨b, X, u151003, rfl, HA, wE, y, u, a, r, l, HB⟩ := hrel; cases gk with
  | zero => exact absurd HA.out (by simp [Bu.l0])
  | succ k1 =>
   have H := HA.out; clear HA; simp only [Bu.l0] at H; replace H := iD' H; obtain ⟨-, cF, H⟩ | ⟨-, cF, H⟩ := H
   ·simp only [Option.some.injEq, Prod.mk.injEq] at H; obtain ⟨rfl, rfl, rfl, rfl⟩ := H; have ⟨jI, uI⟩ := no J d; have ⟨kI, wI⟩ := no O G; have jJ := Ay l.out; have ⟨lI, xI⟩ := no hC fC; have kJ := Ay r.out; obtain ⟨lF, qF, xF⟩ := Kd.Bt u.out; subst xF; go_wp2; refine bodyPost_ret (results_cell_row rfl _ _ W 30 #[.int .i64 T, .int .i64 U, .slice wB fB.length xB, .slice lF X.length qF] (0, 0) _ rfl (pB r) Try.underlying30 rfl (by kernel_rfl)) rfl ?_; exact ⟨_, _, rfl, by exact Dx (Kd.BK (rI (q := W) (Kd.Ai y.out r.out (by decide)) zza) (fun _ Z => trivial)), by exact Dx (Kd.BK (rI (q := W) (Kd.BK u.out (fun k_ Z => (⟨Z, Z.2.2.1⟩ : _ ∧ k_ ≠ W))) zza) zza), be3 HB x z L⟩
   replace H := iN H; obtain ⟨-, uH, H⟩ := H; replace H := iN H; obtain ⟨-, vH, H⟩ := H; replace H := Option.bind_eq_some_iff.mp H; obtain ⟨⟨oC, t154, pC, qC⟩, pE, H⟩ := H; replace H : (if X.length < 2199023255552 then (Bu.l0 k1 c (c.length : Int) (wrap64 (b + 1)) T U fB (X ++ [(⟨oC, t154, pC, qC⟩ : S30)])) else (none)) = some (r1, r2, r3, r4) := H; have pH := mk0 pE; clear pE; by_cases c24 : X.length < 2199023255552; rotate_left
   ·rw [if_neg c24] at H; exact absurd H (by simp)
   rw [if_pos c24] at H; have yE := mk0 c24; clear c24; obtain ⟨nE, mC⟩ : ∃ y_ : List (S30), y_ = (X ++ [(⟨oC, t154, pC, qC⟩ : S30)]) := ⟨_, rfl⟩; replace H : (Bu.l0 k1 c (c.length : Int) (wrap64 (b + 1)) T U fB nE) = some (r1, r2, r3, r4) := by first | (rw [mC]; with_reducible exact H) | (have eC := (Option.bind_some _ _).symm.trans H; rw [mC]; with_reducible exact eC) | (have eC := (Option.bind_some _ _).symm.trans H; with_reducible exact eC) | with_reducible exact H | (rw [mC]; exact H) | exact H
   have zE := mk0 mC; clear mC; have H' := mk0 H; clear H; have lE : 0 ≤ (b : Int) := od; have mE : b < (c.length : Int) := od; obtain ⟨sC, bB, dB, cB, eB, rF, xC, yC, zC, aD, vC, tC, wC, uC⟩ := D8 xE.out b lE mE; cases rF; replace xC := AP HB.out xC; replace yC := AP HB.out yC; replace zC := AP HB.out zC; replace aD := AP HB.out aD; have dE := mk0 tC; have aE := mk0 vC; clear tC vC; have eE := mk0 uC; have bE := mk0 wC; clear uC wC; replace lE := eq_true lE; replace mE := eq_true mE; try go_wp2_with ((with_reducible refine AQ rfl (N := 5) rfl (cs := #[.int .i64 0, .int .i64 0, .slice none 0 0, .slice none 0 0]) (t := 30) ?hr ?_); (case hr => first | (go_simp; done) | (go_simp; rfl)); intro s hg bD sB hb; replace u := rB u hg hb; replace y := rb y hb; have B := mk0 (sB); have aC := bs (be3 HB x z L) hg; replace HB := kh3 HB x z L hb; have ⟨gC, fD⟩ := nn a hg; have ⟨iC, gD⟩ := nn r hg; have ⟨bC, jC⟩ := nn l hg; obtain ⟨a, r, l⟩ := tb3 hb a r l; clear hb sB hg; have ⟨gI, pI⟩ := no fD gC; have ⟨hI, qI⟩ := no gD iC; have ⟨iI, tI⟩ := no jC bC; have iJ := Ay B.out)
   have rD : Aside0 (Kd.R (Kd.int .u8) 73 ((((bD.setCell ⟨s, 0, none⟩ (.int .i64 ((AB c b).f0))).setCell ⟨s, 1, none⟩ (.int .i64 ((AB c b).f1))).setCell ⟨s, 2, none⟩ (.slice bB ((AB c b).f2).length dB)).setCell ⟨s, 3, none⟩ (.slice cB ((AB c b).f3).length eB)) w.heap.size (fun _ => True) (.slice wB fB.length xB) fB) := ⟨Dx (Kd.BK (rI (q := s) (Kd.Ai y.out B.out (by decide)) zza) (fun _ Z => trivial))⟩; have sD : Aside0 (Kd.R k30 30 ((((bD.setCell ⟨s, 0, none⟩ (.int .i64 ((AB c b).f0))).setCell ⟨s, 1, none⟩ (.int .i64 ((AB c b).f1))).setCell ⟨s, 2, none⟩ (.slice bB ((AB c b).f2).length dB)).setCell ⟨s, 3, none⟩ (.slice cB ((AB c b).f3).length eB)) w.heap.size (fun k_ => zzb wB fB xB k_ ∧ zze D W m s k_) u151003 X) := ⟨Dx (Kd.BK (rI (q := s) (Kd.BK u.out (fun k_ Z => (⟨Z, Z.2⟩ : _ ∧ k_ ≠ s))) zza) zza)⟩; have tD : Aside0 (((((bD.setCell ⟨s, 0, none⟩ (.int .i64 ((AB c b).f0))).setCell ⟨s, 1, none⟩ (.int .i64 ((AB c b).f1))).setCell ⟨s, 2, none⟩ (.slice bB ((AB c b).f2).length dB)).setCell ⟨s, 3, none⟩ (.slice cB ((AB c b).f3).length eB)).heap[D]? = some (.cells #[.int .i64 T, .int .i64 U, .slice lB Y.length mB, .slice (some sC) c.length qB] 30 (0, 0))) := ⟨bF gC a⟩; have uD : Aside0 (((((bD.setCell ⟨s, 0, none⟩ (.int .i64 ((AB c b).f0))).setCell ⟨s, 1, none⟩ (.int .i64 ((AB c b).f1))).setCell ⟨s, 2, none⟩ (.slice bB ((AB c b).f2).length dB)).setCell ⟨s, 3, none⟩ (.slice cB ((AB c b).f3).length eB)).heap[W]? = some (.cells #[.int .i64 0, .int .i64 0, .slice none 0 0, .slice none 0 0] 30 (0, 0))) := ⟨bF iC r⟩; have vD : Aside0 (((((bD.setCell ⟨s, 0, none⟩ (.int .i64 ((AB c b).f0))).setCell ⟨s, 1, none⟩ (.int .i64 ((AB c b).f1))).setCell ⟨s, 2, none⟩ (.slice bB ((AB c b).f2).length dB)).setCell ⟨s, 3, none⟩ (.slice cB ((AB c b).f3).length eB)).heap[m]? = some (.cells #[.int .i64 T, .int .i64 U, .slice wB fB.length xB, u151003] 30 (0, 0))) := ⟨bF bC l⟩; have wD : Aside0 (((((bD.setCell ⟨s, 0, none⟩ (.int .i64 ((AB c b).f0))).setCell ⟨s, 1, none⟩ (.int .i64 ((AB c b).f1))).setCell ⟨s, 2, none⟩ (.slice bB ((AB c b).f2).length dB)).setCell ⟨s, 3, none⟩ (.slice cB ((AB c b).f3).length eB)).heap[s]? = some (.cells #[.int .i64 ((AB c b).f0), .int .i64 ((AB c b).f1), .slice bB ((AB c b).f2).length dB, .slice cB ((AB c b).f3).length eB] 30 (0, 0))) := ⟨pB B⟩; have xD : Aside0 (Below w.heap.size w ((((bD.setCell ⟨s, 0, none⟩ (.int .i64 ((AB c b).f0))).setCell ⟨s, 1, none⟩ (.int .i64 ((AB c b).f1))).setCell ⟨s, 2, none⟩ (.slice bB ((AB c b).f2).length dB)).setCell ⟨s, 3, none⟩ (.slice cB ((AB c b).f3).length eB))) := ⟨be4 HB x z L aC⟩; try clear y
   try clear u
   try clear a
   try clear r
   try clear l
   try clear B
   try clear HB
   generalize ((((bD.setCell ⟨s, 0, none⟩ (.int .i64 ((AB c b).f0))).setCell ⟨s, 1, none⟩ (.int .i64 ((AB c b).f1))).setCell ⟨s, 2, none⟩ (.slice bB ((AB c b).f2).length dB)).setCell ⟨s, 3, none⟩ (.slice cB ((AB c b).f3).length eB)) = yI at rD sD tD uD vD wD xD ⊢; have y := rD; have u := sD; have a := tD; have r := uD; have l := vD; have B := wD; have HB := xD; clear rD sD tD uD vD wD xD; replace y := mk0 (Kd.GL y.out); replace u := mk0 (Kd.GL u.out); replace a := mk0 (AZ a.out); replace r := mk0 (AZ r.out); replace l := mk0 (AZ l.out); replace B := mk0 (AZ B.out); replace HB := mk0 (Ad HB.out); refine DV (n := 8) (S := fun w' => w'.cell? ⟨m, 0, none⟩ = some (.int .i64 T) ∧ w'.cell? ⟨m, 1, none⟩ = some (.int .i64 U) ∧ w'.cell? ⟨m, 2, none⟩ = some (.slice wB fB.length xB) ∧ w'.cell? ⟨m, 3, none⟩ = some (u151003) ∧ w'.cell? ⟨s, 0, none⟩ = some (.int .i64 ((AB c b).f0)) ∧ w'.cell? ⟨s, 1, none⟩ = some (.int .i64 ((AB c b).f1)) ∧ w'.cell? ⟨s, 2, none⟩ = some (.slice bB ((AB c b).f2).length dB) ∧ w'.cell? ⟨s, 3, none⟩ = some (.slice cB ((AB c b).f3).length eB)) (ds := [7]) (tf 0 8) (by kernel_rfl) rfl rfl ⟨bc l 0, bc l 1, bc l 2, bc l 3, bc B 0, bc B 1, bc B 2, bc B 3⟩ (fun I => ?_); refine CY Bu.Nt Bu.Kj (fun kB qD => ?_); generalize yI.drew = rJ at y u a r l B HB I ⊢; refine pv 0 22 (tf 1 7) kB ?_; refine Br (i := 1) (N := some 23) (v := ?_) (a' := ?_) (tf 2 6) rfl rfl (BA kB.out qD.out (by kernel_rfl)) (fun _ _ _ h => h) (Or.inl ⟨by rfl, ?_⟩) I ?_ ?_; rotate_left
   ·rintro w' ⟨s0, s1, s2, s3, s4, s5, s6, s7⟩; go_simp; with_reducible rfl
   rotate_left
   ·simp only [ps]; rfl
   refine Br (i := 2) (N := some 24) (v := ?_) (a' := ?_) (tf 3 5) rfl rfl (BA kB.out qD.out (by kernel_rfl)) (fun _ _ _ h => h) (Or.inl ⟨by rfl, ?_⟩) I ?_ ?_; rotate_left
   ·rintro w' ⟨s0, s1, s2, s3, s4, s5, s6, s7⟩; go_simp; with_reducible rfl
   rotate_left
   ·simp only [ps]; rfl
   refine Dj (i := 3) (N := some 25) (tf 4 4) rfl rfl (CQ kB.out (by kernel_rfl)) (by decide) (fun K hK => ?_); refine DF Try.func39 (by kernel_rfl) rfl #[.agg #[.int .i64 ((AB c b).f0), .int .i64 ((AB c b).f1), .slice bB ((AB c b).f2).length dB, .slice cB ((AB c b).f3).length eB]] (by rfl) rfl rfl (by (try simp only [List.map_toArray, List.map_cons, List.map_nil]); first | done | rfl | (simp only [List.length_drop, List.length_take]; rfl)) ?_; with_reducible refine (ih k1 (by have := wE.out; omega) ((AB c b).f0) ((AB c b).f1) _ _ ((AB c b).f2) _ _ ((AB c b).f3) oC t154 pC qC _ ?side1 ?side2 ?side3 ?side4 pH.out).mono ?_
   (case side1 => exact cu dE HB); (case side2 => exact aE.out); (case side3 => exact cu eE HB); (case side4 => exact bE.out); rintro e sJ ⟨v156, v159, rfl, oE, eF, hb⟩; refine ⟨_, rfl, ?_⟩; have cD := mk0 (Kd.Cb (Kd.GM oE (Kd.G8 (Dc y.out))) (AU (be4 HB x z L aC))); have dD := mk0 (Kd.Cb (Kd.Jy (Kd.Jy (Kd.Jy (Kd.Jy (Kd.GM (Kd.GM eF (Kd.G8 (Dc y.out))) (Kd.G8 (Dc u.out))) (g := D) (o := .cells #[.int .i64 T, .int .i64 U, .slice lB Y.length mB, .slice (some sC) c.length qB] 30 (0, 0)) (Au a.out)) (g := W) (o := .cells #[.int .i64 0, .int .i64 0, .slice none 0 0, .slice none 0 0] 30 (0, 0)) (Au r.out)) (g := m) (o := .cells #[.int .i64 T, .int .i64 U, .slice wB fB.length xB, u151003] 30 (0, 0)) (Au l.out)) (g := s) (o := .cells #[.int .i64 ((AB c b).f0), .int .i64 ((AB c b).f1), .slice bB ((AB c b).f2).length dB, .slice cB ((AB c b).f3).length eB] 30 (0, 0)) (Au B.out)) (AU (be4 HB x z L aC))); replace y := mk0 (Kd.Gb (Dc y.out) (Kd.Az oE) hb); replace u := mk0 (Kd.BK (Kd.IU (Kd.IU (Kd.NJ (Dc u.out) hb) (Kd.Az oE)) (Kd.Az eF)) (fun _ h_ => h_.1)); obtain ⟨a, r, l, B⟩ := tb4 hb a r l B; replace HB := kh4 HB x z L aC hb; try clear hb
   try clear Z
   try clear oE
   try clear eF
   obtain ⟨gF, mF, tF⟩ := Kd.Bt cD.out; subst tF; obtain ⟨hF, oF, uF⟩ := Kd.Bt dD.out; subst uF; refine hK.out _ _ ⟨bc l 0, bc l 1, bc l 2, bc l 3, bc B 0, bc B 1, bc B 2, bc B 3⟩ (fun I => ?_); clear hK K; refine nz 25 ?_; refine Dj (i := 4) (N := some 26) (tf 5 3) rfl rfl (CQ kB.out (by kernel_rfl)) (by decide) (fun K hK => ?_); refine CG (w1 := ?_) (v := ?_) (by rfl) rfl ?_ ?_; rotate_left 2
   ·go_simp; constructor
    ·rfl
    ·rfl
   refine hK.out _ _ ⟨(Af (Ac l.out _) 0).trans rfl, (Af (Ac l.out _) 1).trans rfl, (Af (Ac l.out _) 2).trans rfl, (Af (Ac l.out _) 3).trans rfl, (Af (Ac B.out _) 0).trans rfl, (Af (Ac B.out _) 1).trans rfl, (Af (Ac B.out _) 2).trans rfl, (Af (Ac B.out _) 3).trans rfl⟩ (fun I => ?_); clear hK K; refine nz 26 ?_; refine Dj (i := 5) (N := some 27) (tf 6 2) rfl rfl (CQ kB.out (by kernel_rfl)) (by decide) (fun K hK => ?_); refine Kd.Fw k30 (w0 := w) w.heap.size (by rfl) (.tmp 23) (.tmp 26) 28 30 (.agg #[(.int .i64 0), (.int .i64 0), (.slice none 0 0), (.slice none 0 0)]) 64 rfl Try.underlying28 IW rfl (by decide) (by omega) u151003 X (⟨oC, t154, pC, qC⟩ : S30) [.int .i64 oC, .int .i64 t154, .slice gF pC.length mF, .slice hF qC.length oF] (fun k_ => zzb wB fB xB k_ ∧ zze D W m s k_) (fun k_ => ((fun k_ => zzb wB fB xB k_ ∧ zze D W m s k_)) k_ ∧ nw u151003 k_) rfl rfl ?aP (fun _ Z => Z) ?aF ?aO ?aB ?aS ?aL ?_; (case aP => exact Lm _ _ _ (⟨oC, t154, pC, qC⟩ : S30) (Kd.BK (Kd.Ai (Kd.Ai (Kd.Ai (Kd.Ai (Kd.Bo (cD.out) (Kd.FL u.out) (by decide)) a.out (by decide)) r.out (by decide)) l.out (by decide)) B.out (by decide)) zza) (Kd.BK (dD.out) zza)); (case aB => exact (be4 HB x z L aC)); (case aF => exact (fun k_ Z => ⟨Kd.fresh' (Kd.G8 (Dc y.out)) k_ Z, Kd.CJ (g := D) (o := .cells #[.int .i64 T, .int .i64 U, .slice lB Y.length mB, .slice (some sC) c.length qB] 30 (0, 0)) (Au a.out) k_ Z, Kd.CJ (g := W) (o := .cells #[.int .i64 0, .int .i64 0, .slice none 0 0, .slice none 0 0] 30 (0, 0)) (Au r.out) k_ Z, Kd.CJ (g := m) (o := .cells #[.int .i64 T, .int .i64 U, .slice wB fB.length xB, u151003] 30 (0, 0)) (Au l.out) k_ Z, Kd.CJ (g := s) (o := .cells #[.int .i64 ((AB c b).f0), .int .i64 ((AB c b).f1), .slice bB ((AB c b).f2).length dB, .slice cB ((AB c b).f3).length eB] 30 (0, 0)) (Au B.out) k_ Z⟩)); (case aO => exact (Dx (Kd.BK u.out zza))); (case aS => exact (AU (be4 HB x z L aC))); (case aL => have := yE.out; omega); intro v162 zI ho hb hg kD; rw [← zE.out] at ho; replace y := mk0 (Kd.Fh (Dc y.out) (Kd.FL (Dc u.out)) (by decide) hg); replace a := mk0 (BR (g := D) (o := .cells #[.int .i64 T, .int .i64 U, .slice lB Y.length mB, .slice (some sC) c.length qB] 30 (0, 0)) (Au a.out) hg (Kd.I8 u.out zza)); replace r := mk0 (BR (g := W) (o := .cells #[.int .i64 0, .int .i64 0, .slice none 0 0, .slice none 0 0] 30 (0, 0)) (Au r.out) hg (Kd.I8 u.out zza)); replace l := mk0 (BR (g := m) (o := .cells #[.int .i64 T, .int .i64 U, .slice wB fB.length xB, u151003] 30 (0, 0)) (Au l.out) hg (Kd.I8 u.out zza)); replace B := mk0 (BR (g := s) (o := .cells #[.int .i64 ((AB c b).f0), .int .i64 ((AB c b).f1), .slice bB ((AB c b).f2).length dB, .slice cB ((AB c b).f3).length eB] 30 (0, 0)) (Au B.out) hg (Kd.I8 u.out zza)); replace HB := mk0 (hb); have cE := mk0 (ho); clear u cD dD; clear ho hb hg kD; obtain ⟨jF, pF, wF⟩ := Kd.Bt cE.out; subst wF; refine hK.out _ _ ⟨bc l 0, bc l 1, bc l 2, bc l 3, bc B 0, bc B 1, bc B 2, bc B 3⟩ (fun I => ?_); clear hK K; refine nz 27 ?_; refine pv 6 28 (tf 7 1) kB ?_; refine NB (i := 7) (N := none) (tf 8 0) rfl rfl (CQ kB.out (by kernel_rfl)) (by decide) (fun K hK => ?_); have eJ : zI.cell? ⟨m, 3, none⟩ = some (u151003) := bc l 3; have dI := AY l.out 3; have bH := d.out; have cH := G.out; have dH := jC.out; have qG := J.out; have rG := O.out; have sG := bC.out; refine F7 (w1 := ?_) (by rfl) rfl ?_ ?_; rotate_left
   ·go_simp; rfl
   refine hK.out _ _ ?_; clear hK K; refine EQ (Dm kB.out (by kernel_rfl)) ?_; try go_wp2
   go_roundg k1
   case measure => have := wE.out; omega
   case rel => exact ⟨(wrap64 (b + 1)), (nE), (.slice jF nE.length pF), rfl, H', ⟨by have := wE.out; omega⟩, ⟨Dx (Kd.BK (rI (q := m) (Kd.Ai y.out l.out (by decide)) zza) (fun _ Z => trivial))⟩, ⟨Dx (Kd.BK (rI (q := m) (Kd.BK cE.out (fun k_ Z => (⟨Z, Z.2.2.2.1⟩ : _ ∧ k_ ≠ m))) zza) zza)⟩, ⟨bF d a⟩, ⟨bF G r⟩, ⟨pB l⟩, ⟨be4 HB x z L aC⟩⟩
end Go.Proofs.Ytojankgmedccdaa.PGn
