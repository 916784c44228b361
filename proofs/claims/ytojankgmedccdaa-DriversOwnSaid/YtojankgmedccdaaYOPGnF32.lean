/- Lemmas. -/
import Derived.Test.YtojankgmedccdaaYOPGnx0
namespace Go.Proofs.Ytojankgmedccdaa.PGn
open Go.RowKit Own PTy Hand PIs PAw Wo
attribute [local go_sem] BI BJ Ba Bc Ao Ap BL BM
set_option linter.unusedVariables false
set_option linter.unusedSimpArgs false
mutual
def BH.j0 : Nat → Bool → Int → Int → List Int → List (S30) → Int → Int → List Int → List (S30) → Option (Bool)
 | 0, _, _, _, _, _, _, _, _, _ => none
 | k + 1, x34, c, e, h, a, i, j, l, b => if x34 = true then (some false) else (BH.l0 k (a.length : Int) 0 c e h a i j l b)
def BH.l0 : Nat → Int → Int → Int → Int → List Int → List (S30) → Int → Int → List Int → List (S30) → Option (Bool)
 | 0, _, _, _, _, _, _, _, _, _, _ => none
 | k + 1, G, x38, c, e, h, a, i, j, l, b => if x38 < G then (if 0 ≤ x38 then (if x38 < (a.length : Int) then (if x38 < (b.length : Int) then ((BH.f k ((AB a x38).f0) ((AB a x38).f1) ((AB a x38).f2) ((AB a x38).f3) ((AB b x38).f0) ((AB b x38).f1) ((AB b x38).f2) ((AB b x38).f3)).bind fun D => (if D = true then (BH.l0 k G (wrap64 (x38 + 1)) c e h a i j l b) else (some false))) else (none)) else (none)) else (none)) else (some true)
def BH.f : Nat → Int → Int → List Int → List (S30) → Int → Int → List Int → List (S30) → Option (Bool)
 | 0, _, _, _, _, _, _, _, _ => none
 | k + 1, o, q, u, v, r, s, w, z => if o = r then (if q = s then ((r01Same.f k u w).bind fun B => (if B = true then (BH.j0 k ((v.length : Int) != (z.length : Int)) o q u v r s w z) else (BH.j0 k true o q u v r s w z))) else (BH.j0 k true o q u v r s w z)) else (BH.j0 k true o q u v r s w z)
end
def BH.T6 : Bool × List (List Nat × List Nat) := (true, [([], []), ([0], [0]), ([], []), ([1, 2], [1, 2]), ([3], [3]), ([], []), ([5], [5]), ([], []), ([6, 7], [6, 7]), ([8], [8]), ([4, 9], [4, 9]), ([10], [10])])
def BH.B6 : List Nat := [0, 1, 0, 7, 15, 0, 32, 0, 224, 480, 1023, 2047]
theorem BH.Kb : Cm .any (opsOf Try.f32 6) = BH.T6 := by kernel_rfl
theorem BH.IG : CX BH.T6.2 BH.B6 = true := by kernel_rfl
set_option maxHeartbeats 8000000 in
set_option maxRecDepth 100000 in
theorem BH.calls (k : Nat) : ∀ (dC : Int) (eC : Int) (pC : Option Addr) (rC : Nat) (bB : List Int) (dD : Option Addr) (sC : Nat) (j : List (S30)) (fC : Int) (gC : Int) (qC : Option Addr) (tC : Nat) (cB : List Int) (eD : Option Addr) (uC : Nat) (l : List (S30)) (r : Bool) (w : World) (nD : Kd.C (Kd.int .u8) w pC bB.length bB) (jD : bB.length ≤ rC) (oD : Kd.C k30 w dD j.length j) (kD : j.length ≤ sC) (pD : Kd.C (Kd.int .u8) w qC cB.length cB) (lD : cB.length ≤ tC) (qD : Kd.C k30 w eD l.length l) (mD : l.length ≤ uC) (h : BH.f k dC eC bB j fC gC cB l = some r),
  Calls Try.prog 32 #[.agg #[.int .i64 dC, .int .i64 eC, .slice pC bB.length rC, .slice dD j.length sC], .agg #[.int .i64 fC, .int .i64 gC, .slice qC cB.length tC, .slice eD l.length uC]] w fun e w' => e = .returned (.bool r) ∧ Below w.heap.size w w' := by
 induction k using Nat.strongRecOn with
 | _ k ih =>
 intro dC eC pC rC bB dD sC j fC gC qC tC cB eD uC l r w nD jD oD kD pD lD qD mD h
 cases k with
 | zero => exact absurd h (by simp [BH.f])
 | succ k =>
 simp only [BH.f] at h
 have zF := Try.underlying30
 have cE := mk0 nD; have aE := mk0 jD; clear nD jD; have dE := mk0 oD; have eF := mk0 kD; clear oD kD; have eE := mk0 pD; have bE := mk0 lD; clear pD lD; have fE := mk0 qD; have fF := mk0 mD; clear qD mD
 have o := mk0 (Below.refl w.heap.size w)
 have H := h; unfold BH.f at H
 clear h; have mE := mk0 H; clear H
 go_enter Try.func32, Try.ntmps32
 go_upto_region 1 with (first | ((with_reducible refine AU rfl (N := 2) rfl (cs := #[.int .i64 dC, .int .i64 eC, .slice pC bB.length rC, .slice dD j.length sC]) (t := 30) ?hr ?_); (case hr => first | (go_simp; done) | (go_simp; rfl)); intro Z hg w4 hD hb; have b := mk0 (hD); have O := bs (be o) hg; replace o := kh o hb; clear hb hD hg) | ((with_reducible refine AU rfl (N := 3) rfl (cs := #[.int .i64 fC, .int .i64 gC, .slice qC cB.length tC, .slice eD l.length uC]) (t := 30) ?hr ?_); (case hr => first | (go_simp; done) | (go_simp; rfl)); intro aB hg w5 hD hb; have c := mk0 (hD); have W := bs (be1 o O) hg; replace o := kh1 o O hb; have ⟨X, Y⟩ := nn b hg; replace b := kb b hb; clear hb hD hg))
 (try simp only [Act.put, List.setIfInBounds_toArray, List.set_cons_zero, List.set_cons_succ])
 go_cut [34] (fun v34 wc => ∃ (kq : Nat) (xD : Bool), v34 = .bool xD ∧ Aside0 (BH.j0 kq xD dC eC bB j fC gC cB l = some r) ∧ Aside0 (kq ≤ k) ∧ Aside0 (bk wc Z 30 #[.int .i64 dC, .int .i64 eC, (.slice pC bB.length rC), (.slice dD j.length sC)]) ∧ Aside0 (bk wc aB 30 #[.int .i64 fC, .int .i64 gC, (.slice qC cB.length tC), (.slice eD l.length uC)]) ∧ Aside0 (Below w.heap.size w wc))
 case first =>
  have H := mE.out; clear mE; replace H := iE' H; obtain ⟨c6, gD, yE, H⟩ | ⟨gD, yE, H⟩ := H
  ·(first | rw [gD] | (simp only [CG, DK]; rw [gD]) | skip); have H' := mk0 H; clear H; have ⟨pF, uF⟩ := no X Y; have iG := Ar b.out; have jG := Ar c.out; go_wp2; go_meet
   case rel => exact ⟨_, (true), rfl, H', ⟨by omega⟩, ⟨bu b⟩, ⟨bu c⟩, ⟨be2 o O W⟩⟩
  (first | rw [gD] | (simp only [CG, DK]; rw [gD]) | skip); replace H := iE' H; obtain ⟨c7, zE, aF, H⟩ | ⟨zE, aF, H⟩ := H
  ·have H' := mk0 H; clear H; have ⟨oF, tF⟩ := no X Y; have gG := Ar b.out; have hG := Ar c.out; go_wp2; go_meet
   case rel => exact ⟨_, (true), rfl, H', ⟨by omega⟩, ⟨bu b⟩, ⟨bu c⟩, ⟨be2 o O W⟩⟩
  replace H := bS H; obtain ⟨aG, A8, H⟩ := H; replace H := iB H; obtain ⟨rfl, H⟩ | ⟨rfl, H⟩ := H
  ·have H' := mk0 H; clear H; have ⟨lF, rF⟩ := no X Y; have cG := Ar b.out; have dG := Ar c.out; go_wp2_with (go_at_call 55; refine (r01Same.calls (cu cE o) aE.out (cu eE o) bE.out A8.out).mono ?_; rintro e w' ⟨rfl, nd, rfl⟩); go_meet
   case rel => exact ⟨_, (((j.length : Int) != (l.length : Int))), rfl, H', ⟨by omega⟩, ⟨bu b⟩, ⟨bu c⟩, ⟨be2 o O W⟩⟩
  have H' := mk0 H; clear H; have ⟨mF, sF⟩ := no X Y; have eG := Ar b.out; have fG := Ar c.out; go_wp2_with (go_at_call 55; refine (r01Same.calls (cu cE o) aE.out (cu eE o) bE.out A8.out).mono ?_; rintro e w' ⟨rfl, nd, rfl⟩); go_meet
  case rel => exact ⟨_, (true), rfl, H', ⟨by omega⟩, ⟨bu b⟩, ⟨bu c⟩, ⟨be2 o O W⟩⟩
 case rest =>
  clear mE; obtain ⟨kq, xD, rfl, HA, jE, b, c, o⟩ := hcut; cases kq with
  | zero => exact absurd HA.out (by simp [BH.j0])
  | succ dF =>
   have H := HA.out; clear HA; simp only [BH.j0] at H; replace H := iB H; obtain ⟨rfl, H⟩ | ⟨rfl, H⟩ := H
   ·obtain rfl := sI H; go_wp2; go_ret; exact ⟨rfl, be2 o O W⟩
   have H' := mk0 H; clear H; have ⟨qF, wF⟩ := no X Y; have kG := Ar b.out; go_wp2; go_loopg [38] dF (fun kq v38 w' => ∃ (a : Int), v38 = .int .i64 a ∧ Aside0 (BH.l0 kq (j.length : Int) a dC eC bB j fC gC cB l = some r) ∧ Aside0 (kq ≤ dF) ∧ Aside0 (bk w' Z 30 #[.int .i64 dC, .int .i64 eC, (.slice pC bB.length rC), (.slice dD j.length sC)]) ∧ Aside0 (bk w' aB 30 #[.int .i64 fC, .int .i64 gC, (.slice qC cB.length tC), (.slice eD l.length uC)]) ∧ Aside0 (Below w.heap.size w w'))
   case atStart => exact ⟨(0), rfl, H', ⟨Nat.le_refl _⟩, ⟨bu b⟩, ⟨bu c⟩, ⟨be2 o O W⟩⟩
   case round =>
    clear H'; obtain ⟨a, rfl, HA, kE, b, c, o⟩ := hrel; cases gk with
    | zero => exact absurd HA.out (by simp [BH.l0])
    | succ k2 =>
     have H := HA.out; clear HA; simp only [BH.l0] at H; replace H := iD' H; obtain ⟨-, nE, H⟩ | ⟨-, nE, H⟩ := H
     ·obtain rfl := sI H; go_wp2; go_ret; exact ⟨rfl, be2 o O W⟩
     replace H := iN H; obtain ⟨-, gF, H⟩ := H; replace H := iN H; obtain ⟨-, hF, H⟩ := H; replace H := iN H; obtain ⟨-, jF, H⟩ := H; replace H := bS H; obtain ⟨bG, xE, H⟩ := H; replace H := iB' H; obtain ⟨rfl, H⟩ | ⟨rfl, H⟩ := H
     ·obtain rfl := sI H; try go_wp2
      replace b := mk0 (Aa b.out); replace c := mk0 (Aa c.out); replace o := mk0 (Af o.out); have zC : 0 ≤ (a : Int) := od; have bD : a < (j.length : Int) := od; obtain ⟨q, hC, lC, iC, mC, gE, u, z, B, D, mB, hB, qB, jB⟩ := DV dE.out a zC bD; have yB := D; have xB := B; have wB := z; have uB := u; cases gE; replace u := AY o.out u; replace z := AY o.out z; replace B := AY o.out B; replace D := AY o.out D; have dB := mk0 hB; have vC := mk0 mB; clear hB mB; have eB := mk0 jB; have wC := mk0 qB; clear jB qB; replace zC := eq_true zC; replace bD := eq_true bD; have aD : 0 ≤ (a : Int) := od; have cD : a < (l.length : Int) := od; obtain ⟨s, jC, nC, kC, oC, hE, G, I, J, L, sB, kB, tB, lB⟩ := DV fE.out a aD cD; have cC := L; have bC := J; have aC := I; have zB := G; cases hE; replace G := AY o.out G; replace I := AY o.out I; replace J := AY o.out J; replace L := AY o.out L; have fB := mk0 kB; have xC := mk0 sB; clear kB sB; have gB := mk0 lB; have yC := mk0 tB; clear lB tB; replace aD := eq_true aD; replace cD := eq_true cD; refine Cz (n := 12) (S := fun w' => w'.cell? ⟨Z, 0, none⟩ = some (.int .i64 dC) ∧ w'.cell? ⟨Z, 1, none⟩ = some (.int .i64 eC) ∧ w'.cell? ⟨Z, 2, none⟩ = some (.slice pC bB.length rC) ∧ w'.cell? ⟨Z, 3, none⟩ = some (.slice (some q) j.length sC) ∧ w'.cell? ⟨aB, 0, none⟩ = some (.int .i64 fC) ∧ w'.cell? ⟨aB, 1, none⟩ = some (.int .i64 gC) ∧ w'.cell? ⟨aB, 2, none⟩ = some (.slice qC cB.length tC) ∧ w'.cell? ⟨aB, 3, none⟩ = some (.slice (some s) l.length uC) ∧ w'.cell? (q.add ((a).toNat * 4)) = some (.int .i64 ((AB j a).f0)) ∧ w'.cell? ⟨(q.add ((a).toNat * 4)).block, (q.add ((a).toNat * 4)).off + 1, none⟩ = some (.int .i64 ((AB j a).f1)) ∧ w'.cell? ⟨(q.add ((a).toNat * 4)).block, (q.add ((a).toNat * 4)).off + 2, none⟩ = some (.slice hC ((AB j a).f2).length lC) ∧ w'.cell? ⟨(q.add ((a).toNat * 4)).block, (q.add ((a).toNat * 4)).off + 3, none⟩ = some (.slice iC ((AB j a).f3).length mC) ∧ w'.cell? (s.add ((a).toNat * 4)) = some (.int .i64 ((AB l a).f0)) ∧ w'.cell? ⟨(s.add ((a).toNat * 4)).block, (s.add ((a).toNat * 4)).off + 1, none⟩ = some (.int .i64 ((AB l a).f1)) ∧ w'.cell? ⟨(s.add ((a).toNat * 4)).block, (s.add ((a).toNat * 4)).off + 2, none⟩ = some (.slice jC ((AB l a).f2).length nC) ∧ w'.cell? ⟨(s.add ((a).toNat * 4)).block, (s.add ((a).toNat * 4)).off + 3, none⟩ = some (.slice kC ((AB l a).f3).length oC)) (ds := []) (tf 0 12) (by kernel_rfl) rfl rfl ⟨bc b 0, bc b 1, bc b 2, bc b 3, bc c 0, bc c 1, bc c 2, bc c 3, (AY o.out uB), (AY o.out wB), (AY o.out xB), (AY o.out yB), (AY o.out zB), (AY o.out aC), (AY o.out bC), (AY o.out cC)⟩ (fun U => ?_); refine CB BH.Kb BH.IG (fun T fD => ?_); generalize wr.drew = oG at b c o dB eB fB gB u z B D G I J L U ⊢; refine pv 0 41 (tf 1 11) T ?_; refine pv 2 43 #[true, false, true, false, false, false, false, false, false, false, false, false] T ?_; refine pv 5 46 #[true, false, true, false, false, true, false, false, false, false, false, false] T ?_; refine pv 7 48 #[true, false, true, false, false, true, false, true, false, false, false, false] T ?_; refine Bn (i := 1) (N := some 42) (v := ?_) (a' := ?_) #[true, true, true, false, false, true, false, true, false, false, false, false] rfl rfl (Am T.out fD.out (by kernel_rfl)) (fun _ _ _ h => h) (Or.inl ⟨by rfl, ?_⟩) U ?_ ?_; rotate_left
      ·rintro w' ⟨s0, s1, s2, s3, s4, s5, s6, s7, s8, s9, rD, sD, tD, uD, vD, wD⟩; go_simp; with_reducible rfl
      rotate_left
      ·simp only [ps]; rfl
      refine pv 3 44 #[true, true, true, true, false, true, false, true, false, false, false, false] T ?_; refine Bn (i := 4) (N := some 45) (v := ?_) (a' := ?_) #[true, true, true, true, true, true, false, true, false, false, false, false] rfl rfl (Am T.out fD.out (by kernel_rfl)) (fun _ _ _ h => h) (Or.inl ⟨by rfl, ?_⟩) U ?_ ?_; rotate_left
      ·rintro w' ⟨s0, s1, s2, s3, s4, s5, s6, s7, s8, s9, rD, sD, tD, uD, vD, wD⟩; go_simp; with_reducible rfl
      rotate_left
      ·simp only [ps]; rfl
      refine Bn (i := 6) (N := some 47) (v := ?_) (a' := ?_) (tf 8 4) rfl rfl (Am T.out fD.out (by kernel_rfl)) (fun _ _ _ h => h) (Or.inl ⟨by rfl, ?_⟩) U ?_ ?_; rotate_left
      ·rintro w' ⟨s0, s1, s2, s3, s4, s5, s6, s7, s8, s9, rD, sD, tD, uD, vD, wD⟩; go_simp; with_reducible rfl
      rotate_left
      ·simp only [ps]; rfl
      refine pv 8 49 (tf 9 3) T ?_; refine Bn (i := 9) (N := some 50) (v := ?_) (a' := ?_) (tf 10 2) rfl rfl (Am T.out fD.out (by kernel_rfl)) (fun _ _ _ h => h) (Or.inl ⟨by rfl, ?_⟩) U ?_ ?_; rotate_left
      ·rintro w' ⟨s0, s1, s2, s3, s4, s5, s6, s7, s8, s9, rD, sD, tD, uD, vD, wD⟩; go_simp; with_reducible rfl
      rotate_left
      ·simp only [ps]; rfl
      refine Cx (i := 10) (N := some 51) (tf 11 1) rfl rfl (Br T.out (by kernel_rfl)) (by decide) (fun K hK => ?_); refine Ct Try.func32 (by kernel_rfl) rfl #[.agg #[.int .i64 ((AB j a).f0), .int .i64 ((AB j a).f1), .slice hC ((AB j a).f2).length lC, .slice iC ((AB j a).f3).length mC], .agg #[.int .i64 ((AB l a).f0), .int .i64 ((AB l a).f1), .slice jC ((AB l a).f2).length nC, .slice kC ((AB l a).f3).length oC]] (by rfl) rfl rfl (by (try simp only [List.map_toArray, List.map_cons, List.map_nil]); first | done | rfl | (simp only [List.length_drop, List.length_take]; rfl)) ?_; with_reducible refine (ih k2 (by have := jE.out; have := kE.out; omega) ((AB j a).f0) ((AB j a).f1) _ _ ((AB j a).f2) _ _ ((AB j a).f3) ((AB l a).f0) ((AB l a).f1) _ _ ((AB l a).f2) _ _ ((AB l a).f3) false _ ?side1 ?side2 ?side3 ?side4 ?side5 ?side6 ?side7 ?side8 xE.out).mono ?_
      (case side1 => exact cu dB o); (case side2 => exact vC.out); (case side3 => exact cu eB o); (case side4 => exact wC.out); (case side5 => exact cu fB o); (case side6 => exact xC.out); (case side7 => exact cu gB o); (case side8 => exact yC.out); rintro e pG ⟨rfl, hb⟩; refine ⟨_, rfl, ?_⟩; obtain ⟨b, c⟩ := tb2 hb b c; replace o := kh2 o O W hb; try clear hb
      refine hK.out _ _ ⟨bc b 0, bc b 1, bc b 2, bc b 3, bc c 0, bc c 1, bc c 2, bc c 3, (AY o.out uB), (AY o.out wB), (AY o.out xB), (AY o.out yB), (AY o.out zB), (AY o.out aC), (AY o.out bC), (AY o.out cC)⟩ (fun U => ?_); clear hK K; refine nz 51 ?_; refine pv 11 52 (tf 12 0) T ?_; refine EB (Cv T.out (by kernel_rfl)) ?_; try go_wp2
      go_ret; exact ⟨rfl, be2 o O W⟩
     have H' := mk0 H; clear H; try go_wp2
     replace b := mk0 (Aa b.out); replace c := mk0 (Aa c.out); replace o := mk0 (Af o.out); have zC : 0 ≤ (a : Int) := od; have bD : a < (j.length : Int) := od; obtain ⟨q, hC, lC, iC, mC, gE, u, z, B, D, mB, hB, qB, jB⟩ := DV dE.out a zC bD; have yB := D; have xB := B; have wB := z; have uB := u; cases gE; replace u := AY o.out u; replace z := AY o.out z; replace B := AY o.out B; replace D := AY o.out D; have dB := mk0 hB; have vC := mk0 mB; clear hB mB; have eB := mk0 jB; have wC := mk0 qB; clear jB qB; replace zC := eq_true zC; replace bD := eq_true bD; have aD : 0 ≤ (a : Int) := od; have cD : a < (l.length : Int) := od; obtain ⟨s, jC, nC, kC, oC, hE, G, I, J, L, sB, kB, tB, lB⟩ := DV fE.out a aD cD; have cC := L; have bC := J; have aC := I; have zB := G; cases hE; replace G := AY o.out G; replace I := AY o.out I; replace J := AY o.out J; replace L := AY o.out L; have fB := mk0 kB; have xC := mk0 sB; clear kB sB; have gB := mk0 lB; have yC := mk0 tB; clear lB tB; replace aD := eq_true aD; replace cD := eq_true cD; refine Cz (n := 12) (S := fun w' => w'.cell? ⟨Z, 0, none⟩ = some (.int .i64 dC) ∧ w'.cell? ⟨Z, 1, none⟩ = some (.int .i64 eC) ∧ w'.cell? ⟨Z, 2, none⟩ = some (.slice pC bB.length rC) ∧ w'.cell? ⟨Z, 3, none⟩ = some (.slice (some q) j.length sC) ∧ w'.cell? ⟨aB, 0, none⟩ = some (.int .i64 fC) ∧ w'.cell? ⟨aB, 1, none⟩ = some (.int .i64 gC) ∧ w'.cell? ⟨aB, 2, none⟩ = some (.slice qC cB.length tC) ∧ w'.cell? ⟨aB, 3, none⟩ = some (.slice (some s) l.length uC) ∧ w'.cell? (q.add ((a).toNat * 4)) = some (.int .i64 ((AB j a).f0)) ∧ w'.cell? ⟨(q.add ((a).toNat * 4)).block, (q.add ((a).toNat * 4)).off + 1, none⟩ = some (.int .i64 ((AB j a).f1)) ∧ w'.cell? ⟨(q.add ((a).toNat * 4)).block, (q.add ((a).toNat * 4)).off + 2, none⟩ = some (.slice hC ((AB j a).f2).length lC) ∧ w'.cell? ⟨(q.add ((a).toNat * 4)).block, (q.add ((a).toNat * 4)).off + 3, none⟩ = some (.slice iC ((AB j a).f3).length mC) ∧ w'.cell? (s.add ((a).toNat * 4)) = some (.int .i64 ((AB l a).f0)) ∧ w'.cell? ⟨(s.add ((a).toNat * 4)).block, (s.add ((a).toNat * 4)).off + 1, none⟩ = some (.int .i64 ((AB l a).f1)) ∧ w'.cell? ⟨(s.add ((a).toNat * 4)).block, (s.add ((a).toNat * 4)).off + 2, none⟩ = some (.slice jC ((AB l a).f2).length nC) ∧ w'.cell? ⟨(s.add ((a).toNat * 4)).block, (s.add ((a).toNat * 4)).off + 3, none⟩ = some (.slice kC ((AB l a).f3).length oC)) (ds := []) (tf 0 12) (by kernel_rfl) rfl rfl ⟨bc b 0, bc b 1, bc b 2, bc b 3, bc c 0, bc c 1, bc c 2, bc c 3, (AY o.out uB), (AY o.out wB), (AY o.out xB), (AY o.out yB), (AY o.out zB), (AY o.out aC), (AY o.out bC), (AY o.out cC)⟩ (fun U => ?_); refine CB BH.Kb BH.IG (fun T fD => ?_); generalize wr.drew = mG at b c o dB eB fB gB u z B D G I J L U ⊢; refine pv 0 41 (tf 1 11) T ?_; refine pv 2 43 #[true, false, true, false, false, false, false, false, false, false, false, false] T ?_; refine pv 5 46 #[true, false, true, false, false, true, false, false, false, false, false, false] T ?_; refine pv 7 48 #[true, false, true, false, false, true, false, true, false, false, false, false] T ?_; refine Bn (i := 1) (N := some 42) (v := ?_) (a' := ?_) #[true, true, true, false, false, true, false, true, false, false, false, false] rfl rfl (Am T.out fD.out (by kernel_rfl)) (fun _ _ _ h => h) (Or.inl ⟨by rfl, ?_⟩) U ?_ ?_; rotate_left
     ·rintro w' ⟨s0, s1, s2, s3, s4, s5, s6, s7, s8, s9, rD, sD, tD, uD, vD, wD⟩; go_simp; with_reducible rfl
     rotate_left
     ·simp only [ps]; rfl
     refine pv 3 44 #[true, true, true, true, false, true, false, true, false, false, false, false] T ?_; refine Bn (i := 4) (N := some 45) (v := ?_) (a' := ?_) #[true, true, true, true, true, true, false, true, false, false, false, false] rfl rfl (Am T.out fD.out (by kernel_rfl)) (fun _ _ _ h => h) (Or.inl ⟨by rfl, ?_⟩) U ?_ ?_; rotate_left
     ·rintro w' ⟨s0, s1, s2, s3, s4, s5, s6, s7, s8, s9, rD, sD, tD, uD, vD, wD⟩; go_simp; with_reducible rfl
     rotate_left
     ·simp only [ps]; rfl
     refine Bn (i := 6) (N := some 47) (v := ?_) (a' := ?_) (tf 8 4) rfl rfl (Am T.out fD.out (by kernel_rfl)) (fun _ _ _ h => h) (Or.inl ⟨by rfl, ?_⟩) U ?_ ?_; rotate_left
     ·rintro w' ⟨s0, s1, s2, s3, s4, s5, s6, s7, s8, s9, rD, sD, tD, uD, vD, wD⟩; go_simp; with_reducible rfl
     rotate_left
     ·simp only [ps]; rfl
     refine pv 8 49 (tf 9 3) T ?_; refine Bn (i := 9) (N := some 50) (v := ?_) (a' := ?_) (tf 10 2) rfl rfl (Am T.out fD.out (by kernel_rfl)) (fun _ _ _ h => h) (Or.inl ⟨by rfl, ?_⟩) U ?_ ?_; rotate_left
     ·rintro w' ⟨s0, s1, s2, s3, s4, s5, s6, s7, s8, s9, rD, sD, tD, uD, vD, wD⟩; go_simp; with_reducible rfl
     rotate_left
     ·simp only [ps]; rfl
     refine Cx (i := 10) (N := some 51) (tf 11 1) rfl rfl (Br T.out (by kernel_rfl)) (by decide) (fun K hK => ?_); refine Ct Try.func32 (by kernel_rfl) rfl #[.agg #[.int .i64 ((AB j a).f0), .int .i64 ((AB j a).f1), .slice hC ((AB j a).f2).length lC, .slice iC ((AB j a).f3).length mC], .agg #[.int .i64 ((AB l a).f0), .int .i64 ((AB l a).f1), .slice jC ((AB l a).f2).length nC, .slice kC ((AB l a).f3).length oC]] (by rfl) rfl rfl (by (try simp only [List.map_toArray, List.map_cons, List.map_nil]); first | done | rfl | (simp only [List.length_drop, List.length_take]; rfl)) ?_; with_reducible refine (ih k2 (by have := jE.out; have := kE.out; omega) ((AB j a).f0) ((AB j a).f1) _ _ ((AB j a).f2) _ _ ((AB j a).f3) ((AB l a).f0) ((AB l a).f1) _ _ ((AB l a).f2) _ _ ((AB l a).f3) true _ ?side1 ?side2 ?side3 ?side4 ?side5 ?side6 ?side7 ?side8 xE.out).mono ?_
     (case side1 => exact cu dB o); (case side2 => exact vC.out); (case side3 => exact cu eB o); (case side4 => exact wC.out); (case side5 => exact cu fB o); (case side6 => exact xC.out); (case side7 => exact cu gB o); (case side8 => exact yC.out); rintro e nG ⟨rfl, hb⟩; refine ⟨_, rfl, ?_⟩; obtain ⟨b, c⟩ := tb2 hb b c; replace o := kh2 o O W hb; try clear hb
     refine hK.out _ _ ⟨bc b 0, bc b 1, bc b 2, bc b 3, bc c 0, bc c 1, bc c 2, bc c 3, (AY o.out uB), (AY o.out wB), (AY o.out xB), (AY o.out yB), (AY o.out zB), (AY o.out aC), (AY o.out bC), (AY o.out cC)⟩ (fun U => ?_); clear hK K; refine nz 51 ?_; refine pv 11 52 (tf 12 0) T ?_; refine EB (Cv T.out (by kernel_rfl)) ?_; try go_wp2
     go_roundg k2
     case measure => have := jE.out; have := kE.out; omega
     case rel => exact ⟨(wrap64 (a + 1)), rfl, H', ⟨by have := jE.out; have := kE.out; omega⟩, ⟨bu b⟩, ⟨bu c⟩, ⟨be2 o O W⟩⟩
end Go.Proofs.Ytojankgmedccdaa.PGn
