/- Lemmas. -/
import Derived.Test.YtojankgmedccdaaYNPGnx0
namespace Go.Proofs.Ytojankgmedccdaa.PGn
open Go.RowKit Own PTy Hand PIs PAw Wo
attribute [local go_sem] BS BU Bf Bg BC BD BX BZ
set_option linter.unusedVariables false
set_option linter.unusedSimpArgs false
mutual
def Bi.j0 : Nat → Bool → Int → Int → List Int → List (S30) → Int → Int → List Int → List (S30) → Option (Bool)
 | 0, _, _, _, _, _, _, _, _, _ => none
 | k + 1, x34, c, d, e, a, g, h, i, b => if x34 = true then (some false) else (Bi.l0 k (a.length : Int) 0 c d e a g h i b)
def Bi.l0 : Nat → Int → Int → Int → Int → List Int → List (S30) → Int → Int → List Int → List (S30) → Option (Bool)
 | 0, _, _, _, _, _, _, _, _, _, _ => none
 | k + 1, v, x38, c, d, e, a, g, h, i, b => if x38 < v then (if 0 ≤ x38 then (if x38 < (a.length : Int) then (if x38 < (b.length : Int) then ((Bi.f k ((AB a x38).f0) ((AB a x38).f1) ((AB a x38).f2) ((AB a x38).f3) ((AB b x38).f0) ((AB b x38).f1) ((AB b x38).f2) ((AB b x38).f3)).bind fun u => (if u = true then (Bi.l0 k v (wrap64 (x38 + 1)) c d e a g h i b) else (some false))) else (none)) else (none)) else (none)) else (some true)
def Bi.f : Nat → Int → Int → List Int → List (S30) → Int → Int → List Int → List (S30) → Option (Bool)
 | 0, _, _, _, _, _, _, _, _ => none
 | k + 1, j, l, o, p, m, n, q, r => if j = m then (if l = n then ((r01Same.f k o q).bind fun s => (if s = true then (Bi.j0 k ((p.length : Int) != (r.length : Int)) j l o p m n q r) else (Bi.j0 k true j l o p m n q r))) else (Bi.j0 k true j l o p m n q r)) else (Bi.j0 k true j l o p m n q r)
end
def Bi.T6 : Bool × List (List Nat × List Nat) := (true, [([], []), ([0], [0]), ([], []), ([1, 2], [1, 2]), ([3], [3]), ([], []), ([5], [5]), ([], []), ([6, 7], [6, 7]), ([8], [8]), ([4, 9], [4, 9]), ([10], [10])])
def Bi.B6 : List Nat := [0, 1, 0, 7, 15, 0, 32, 0, 224, 480, 1023, 2047]
theorem Bi.Kk : DT .any (opsOf Try.f32 6) = Bi.T6 := by kernel_rfl
theorem Bi.Il : Cn Bi.T6.2 Bi.B6 = true := by kernel_rfl
set_option maxHeartbeats 8000000 in
set_option maxRecDepth 100000 in
theorem Bi.calls (k : Nat) : ∀ (xB : Int) (yB : Int) (jC : Option Addr) (lC : Nat) (U : List Int) (xC : Option Addr) (mC : Nat) (d : List (S30)) (zB : Int) (aC : Int) (kC : Option Addr) (nC : Nat) (W : List Int) (yC : Option Addr) (oC : Nat) (g : List (S30)) (r : Bool) (w : World) (gD : Kd.C (Kd.int .u8) w jC U.length U) (cD : U.length ≤ lC) (hD : Kd.C k30 w xC d.length d) (dD : d.length ≤ mC) (jD : Kd.C (Kd.int .u8) w kC W.length W) (eD : W.length ≤ nC) (kD : Kd.C k30 w yC g.length g) (fD : g.length ≤ oC) (h : Bi.f k xB yB U d zB aC W g = some r),
  Calls Try.prog 32 #[.agg #[.int .i64 xB, .int .i64 yB, .slice jC U.length lC, .slice xC d.length mC], .agg #[.int .i64 zB, .int .i64 aC, .slice kC W.length nC, .slice yC g.length oC]] w fun e w' => e = .returned (.bool r) ∧ Below w.heap.size w w' := by
 induction k using Nat.strongRecOn with
 | _ k ih =>
 intro xB yB jC lC U xC mC d zB aC kC nC W yC oC g r w gD cD hD dD jD eD kD fD h
 cases k with
 | zero => exact absurd h (by simp [Bi.f])
 | succ k =>
 simp only [Bi.f] at h
 have uF := Try.underlying30
 have wD := mk0 gD; have uD := mk0 cD; clear gD cD; have xD := mk0 hD; have zE := mk0 dD; clear hD dD; have yD := mk0 jD; have vD := mk0 eD; clear jD eD; have zD := mk0 kD; have aF := mk0 fD; clear kD fD
 have j := mk0 (Below.refl w.heap.size w)
 have H := h; unfold Bi.f at H
 clear h; have fE := mk0 H; clear H
 go_enter Try.func32, Try.ntmps32
 go_upto_region 1 with (first | ((with_reducible refine AQ rfl (N := 2) rfl (cs := #[.int .i64 xB, .int .i64 yB, .slice jC U.length lC, .slice xC d.length mC]) (t := 30) ?hr ?_); (case hr => first | (go_simp; done) | (go_simp; rfl)); intro O hg w4 bD hb; have b := mk0 (bD); have B := bs (be j) hg; replace j := kh j hb; clear hb bD hg) | ((with_reducible refine AQ rfl (N := 3) rfl (cs := #[.int .i64 zB, .int .i64 aC, .slice kC W.length nC, .slice yC g.length oC]) (t := 30) ?hr ?_); (case hr => first | (go_simp; done) | (go_simp; rfl)); intro T hg w5 bD hb; have c := mk0 (bD); have I := bs (be1 j B) hg; replace j := kh1 j B hb; have ⟨J, L⟩ := nn b hg; replace b := kb b hb; clear hb bD hg))
 (try simp only [Act.put, List.setIfInBounds_toArray, List.set_cons_zero, List.set_cons_succ])
 go_cut [34] (fun v34 wc => ∃ (kq : Nat) (rD : Bool), v34 = .bool rD ∧ Aside0 (Bi.j0 kq rD xB yB U d zB aC W g = some r) ∧ Aside0 (kq ≤ k) ∧ Aside0 (bk wc O 30 #[.int .i64 xB, .int .i64 yB, (.slice jC U.length lC), (.slice xC d.length mC)]) ∧ Aside0 (bk wc T 30 #[.int .i64 zB, .int .i64 aC, (.slice kC W.length nC), (.slice yC g.length oC)]) ∧ Aside0 (Below w.heap.size w wc))
 case first =>
  have H := fE.out; clear fE; replace H := iE' H; obtain ⟨c6, aD, uE, H⟩ | ⟨aD, uE, H⟩ := H
  ·(first | rw [aD] | (simp only [Bw, DI]; rw [aD]) | skip); have H' := mk0 H; clear H; have ⟨jF, qF⟩ := no J L; have eG := Ay b.out; have fG := Ay c.out; go_wp2; go_meet
   case rel => exact ⟨_, (true), rfl, H', ⟨by omega⟩, ⟨bu b⟩, ⟨bu c⟩, ⟨be2 j B I⟩⟩
  (first | rw [aD] | (simp only [Bw, DI]; rw [aD]) | skip); replace H := iE' H; obtain ⟨c7, vE, wE, H⟩ | ⟨vE, wE, H⟩ := H
  ·have H' := mk0 H; clear H; have ⟨hF, pF⟩ := no J L; have cG := Ay b.out; have dG := Ay c.out; go_wp2; go_meet
   case rel => exact ⟨_, (true), rfl, H', ⟨by omega⟩, ⟨bu b⟩, ⟨bu c⟩, ⟨be2 j B I⟩⟩
  replace H := bS H; obtain ⟨wF, A8, H⟩ := H; replace H := iB H; obtain ⟨rfl, H⟩ | ⟨rfl, H⟩ := H
  ·have H' := mk0 H; clear H; have ⟨fF, mF⟩ := no J L; have yF := Ay b.out; have zF := Ay c.out; go_wp2_with (go_at_call 55; refine (r01Same.calls (cu wD j) uD.out (cu yD j) vD.out A8.out).mono ?_; rintro e w' ⟨rfl, nd, rfl⟩); go_meet
   case rel => exact ⟨_, (((d.length : Int) != (g.length : Int))), rfl, H', ⟨by omega⟩, ⟨bu b⟩, ⟨bu c⟩, ⟨be2 j B I⟩⟩
  have H' := mk0 H; clear H; have ⟨gF, oF⟩ := no J L; have aG := Ay b.out; have bG := Ay c.out; go_wp2_with (go_at_call 55; refine (r01Same.calls (cu wD j) uD.out (cu yD j) vD.out A8.out).mono ?_; rintro e w' ⟨rfl, nd, rfl⟩); go_meet
  case rel => exact ⟨_, (true), rfl, H', ⟨by omega⟩, ⟨bu b⟩, ⟨bu c⟩, ⟨be2 j B I⟩⟩
 case rest =>
  clear fE; obtain ⟨kq, rD, rfl, HA, cE, b, c, j⟩ := hcut; cases kq with
  | zero => exact absurd HA.out (by simp [Bi.j0])
  | succ yE =>
   have H := HA.out; clear HA; simp only [Bi.j0] at H; replace H := iB H; obtain ⟨rfl, H⟩ | ⟨rfl, H⟩ := H
   ·obtain rfl := sI H; go_wp2; go_ret; exact ⟨rfl, be2 j B I⟩
   have H' := mk0 H; clear H; have ⟨lF, rF⟩ := no J L; have gG := Ay b.out; go_wp2; go_loopg [38] yE (fun kq v38 w' => ∃ (a : Int), v38 = .int .i64 a ∧ Aside0 (Bi.l0 kq (d.length : Int) a xB yB U d zB aC W g = some r) ∧ Aside0 (kq ≤ yE) ∧ Aside0 (bk w' O 30 #[.int .i64 xB, .int .i64 yB, (.slice jC U.length lC), (.slice xC d.length mC)]) ∧ Aside0 (bk w' T 30 #[.int .i64 zB, .int .i64 aC, (.slice kC W.length nC), (.slice yC g.length oC)]) ∧ Aside0 (Below w.heap.size w w'))
   case atStart => exact ⟨(0), rfl, H', ⟨Nat.le_refl _⟩, ⟨bu b⟩, ⟨bu c⟩, ⟨be2 j B I⟩⟩
   case round =>
    clear H'; obtain ⟨a, rfl, HA, dE, b, c, j⟩ := hrel; cases gk with
    | zero => exact absurd HA.out (by simp [Bi.l0])
    | succ k2 =>
     have H := HA.out; clear HA; simp only [Bi.l0] at H; replace H := iD' H; obtain ⟨-, gE, H⟩ | ⟨-, gE, H⟩ := H
     ·obtain rfl := sI H; go_wp2; go_ret; exact ⟨rfl, be2 j B I⟩
     replace H := iN H; obtain ⟨-, cF, H⟩ := H; replace H := iN H; obtain ⟨-, dF, H⟩ := H; replace H := iN H; obtain ⟨-, eF, H⟩ := H; replace H := bS H; obtain ⟨xF, tE, H⟩ := H; replace H := iB' H; obtain ⟨rfl, H⟩ | ⟨rfl, H⟩ := H
     ·obtain rfl := sI H; try go_wp2
      replace b := mk0 (AZ b.out); replace c := mk0 (AZ c.out); replace j := mk0 (Ad j.out); have tC : 0 ≤ (a : Int) := od; have vC : a < (d.length : Int) := od; obtain ⟨l, bC, fC, cC, gC, aE, o, p, q, s, fB, bB, gB, cB⟩ := D8 xD.out a tC vC; have qB := s; have mB := q; have lB := p; have kB := o; cases aE; replace o := AP j.out o; replace p := AP j.out p; replace q := AP j.out q; replace s := AP j.out s; have X := mk0 bB; have pC := mk0 fB; clear bB fB; have Y := mk0 cB; have qC := mk0 gB; clear cB gB; replace tC := eq_true tC; replace vC := eq_true vC; have uC : 0 ≤ (a : Int) := od; have wC : a < (g.length : Int) := od; obtain ⟨m, dC, hC, eC, iC, bE, u, x, y, z, hB, dB, jB, eB⟩ := D8 zD.out a uC wC; have wB := z; have uB := y; have tB := x; have sB := u; cases bE; replace u := AP j.out u; replace x := AP j.out x; replace y := AP j.out y; replace z := AP j.out z; have Z := mk0 dB; have rC := mk0 hB; clear dB hB; have aB := mk0 eB; have sC := mk0 jB; clear eB jB; replace uC := eq_true uC; replace wC := eq_true wC; refine DV (n := 12) (S := fun w' => w'.cell? ⟨O, 0, none⟩ = some (.int .i64 xB) ∧ w'.cell? ⟨O, 1, none⟩ = some (.int .i64 yB) ∧ w'.cell? ⟨O, 2, none⟩ = some (.slice jC U.length lC) ∧ w'.cell? ⟨O, 3, none⟩ = some (.slice (some l) d.length mC) ∧ w'.cell? ⟨T, 0, none⟩ = some (.int .i64 zB) ∧ w'.cell? ⟨T, 1, none⟩ = some (.int .i64 aC) ∧ w'.cell? ⟨T, 2, none⟩ = some (.slice kC W.length nC) ∧ w'.cell? ⟨T, 3, none⟩ = some (.slice (some m) g.length oC) ∧ w'.cell? (l.add ((a).toNat * 4)) = some (.int .i64 ((AB d a).f0)) ∧ w'.cell? ⟨(l.add ((a).toNat * 4)).block, (l.add ((a).toNat * 4)).off + 1, none⟩ = some (.int .i64 ((AB d a).f1)) ∧ w'.cell? ⟨(l.add ((a).toNat * 4)).block, (l.add ((a).toNat * 4)).off + 2, none⟩ = some (.slice bC ((AB d a).f2).length fC) ∧ w'.cell? ⟨(l.add ((a).toNat * 4)).block, (l.add ((a).toNat * 4)).off + 3, none⟩ = some (.slice cC ((AB d a).f3).length gC) ∧ w'.cell? (m.add ((a).toNat * 4)) = some (.int .i64 ((AB g a).f0)) ∧ w'.cell? ⟨(m.add ((a).toNat * 4)).block, (m.add ((a).toNat * 4)).off + 1, none⟩ = some (.int .i64 ((AB g a).f1)) ∧ w'.cell? ⟨(m.add ((a).toNat * 4)).block, (m.add ((a).toNat * 4)).off + 2, none⟩ = some (.slice dC ((AB g a).f2).length hC) ∧ w'.cell? ⟨(m.add ((a).toNat * 4)).block, (m.add ((a).toNat * 4)).off + 3, none⟩ = some (.slice eC ((AB g a).f3).length iC)) (ds := []) (tf 0 12) (by kernel_rfl) rfl rfl ⟨bc b 0, bc b 1, bc b 2, bc b 3, bc c 0, bc c 1, bc c 2, bc c 3, (AP j.out kB), (AP j.out lB), (AP j.out mB), (AP j.out qB), (AP j.out sB), (AP j.out tB), (AP j.out uB), (AP j.out wB)⟩ (fun G => ?_); refine CY Bi.Kk Bi.Il (fun D zC => ?_); generalize wr.drew = kG at b c j X Y Z aB o p q s u x y z G ⊢; refine pv 0 41 (tf 1 11) D ?_; refine pv 2 43 #[ξ,ζ,ξ,ζ,ζ,ζ,ζ,ζ,ζ,ζ,ζ,ζ] D ?_; refine pv 5 46 #[ξ,ζ,ξ,ζ,ζ,ξ,ζ,ζ,ζ,ζ,ζ,ζ] D ?_; refine pv 7 48 #[ξ,ζ,ξ,ζ,ζ,ξ,ζ,ξ,ζ,ζ,ζ,ζ] D ?_; refine Br (i := 1) (N := some 42) (v := ?_) (a' := ?_) #[ξ,ξ,ξ,ζ,ζ,ξ,ζ,ξ,ζ,ζ,ζ,ζ] rfl rfl (BA D.out zC.out (by kernel_rfl)) (fun _ _ _ h => h) (Or.inl ⟨by rfl, ?_⟩) G ?_ ?_; rotate_left
      ·rintro w' ⟨s0, s1, s2, s3, s4, s5, s6, s7, s8, s9, lD, mD, nD, oD, pD, qD⟩; go_simp; with_reducible rfl
      rotate_left
      ·simp only [ps]; rfl
      refine pv 3 44 #[ξ,ξ,ξ,ξ,ζ,ξ,ζ,ξ,ζ,ζ,ζ,ζ] D ?_; refine Br (i := 4) (N := some 45) (v := ?_) (a' := ?_) #[ξ,ξ,ξ,ξ,ξ,ξ,ζ,ξ,ζ,ζ,ζ,ζ] rfl rfl (BA D.out zC.out (by kernel_rfl)) (fun _ _ _ h => h) (Or.inl ⟨by rfl, ?_⟩) G ?_ ?_; rotate_left
      ·rintro w' ⟨s0, s1, s2, s3, s4, s5, s6, s7, s8, s9, lD, mD, nD, oD, pD, qD⟩; go_simp; with_reducible rfl
      rotate_left
      ·simp only [ps]; rfl
      refine Br (i := 6) (N := some 47) (v := ?_) (a' := ?_) (tf 8 4) rfl rfl (BA D.out zC.out (by kernel_rfl)) (fun _ _ _ h => h) (Or.inl ⟨by rfl, ?_⟩) G ?_ ?_; rotate_left
      ·rintro w' ⟨s0, s1, s2, s3, s4, s5, s6, s7, s8, s9, lD, mD, nD, oD, pD, qD⟩; go_simp; with_reducible rfl
      rotate_left
      ·simp only [ps]; rfl
      refine pv 8 49 (tf 9 3) D ?_; refine Br (i := 9) (N := some 50) (v := ?_) (a' := ?_) (tf 10 2) rfl rfl (BA D.out zC.out (by kernel_rfl)) (fun _ _ _ h => h) (Or.inl ⟨by rfl, ?_⟩) G ?_ ?_; rotate_left
      ·rintro w' ⟨s0, s1, s2, s3, s4, s5, s6, s7, s8, s9, lD, mD, nD, oD, pD, qD⟩; go_simp; with_reducible rfl
      rotate_left
      ·simp only [ps]; rfl
      refine Dj (i := 10) (N := some 51) (tf 11 1) rfl rfl (CQ D.out (by kernel_rfl)) (by decide) (fun K hK => ?_); refine DF Try.func32 (by kernel_rfl) rfl #[.agg #[.int .i64 ((AB d a).f0), .int .i64 ((AB d a).f1), .slice bC ((AB d a).f2).length fC, .slice cC ((AB d a).f3).length gC], .agg #[.int .i64 ((AB g a).f0), .int .i64 ((AB g a).f1), .slice dC ((AB g a).f2).length hC, .slice eC ((AB g a).f3).length iC]] (by rfl) rfl rfl (by (try simp only [List.map_toArray, List.map_cons, List.map_nil]); first | done | rfl | (simp only [List.length_drop, List.length_take]; rfl)) ?_; with_reducible refine (ih k2 (by have := cE.out; have := dE.out; omega) ((AB d a).f0) ((AB d a).f1) _ _ ((AB d a).f2) _ _ ((AB d a).f3) ((AB g a).f0) ((AB g a).f1) _ _ ((AB g a).f2) _ _ ((AB g a).f3) false _ ?side1 ?side2 ?side3 ?side4 ?side5 ?side6 ?side7 ?side8 tE.out).mono ?_
      (case side1 => exact cu X j); (case side2 => exact pC.out); (case side3 => exact cu Y j); (case side4 => exact qC.out); (case side5 => exact cu Z j); (case side6 => exact rC.out); (case side7 => exact cu aB j); (case side8 => exact sC.out); rintro e lG ⟨rfl, hb⟩; refine ⟨_, rfl, ?_⟩; obtain ⟨b, c⟩ := tb2 hb b c; replace j := kh2 j B I hb; try clear hb
      refine hK.out _ _ ⟨bc b 0, bc b 1, bc b 2, bc b 3, bc c 0, bc c 1, bc c 2, bc c 3, (AP j.out kB), (AP j.out lB), (AP j.out mB), (AP j.out qB), (AP j.out sB), (AP j.out tB), (AP j.out uB), (AP j.out wB)⟩ (fun G => ?_); clear hK K; refine nz 51 ?_; refine pv 11 52 (tf 12 0) D ?_; refine EQ (Dm D.out (by kernel_rfl)) ?_; try go_wp2
      go_ret; exact ⟨rfl, be2 j B I⟩
     have H' := mk0 H; clear H; try go_wp2
     replace b := mk0 (AZ b.out); replace c := mk0 (AZ c.out); replace j := mk0 (Ad j.out); have tC : 0 ≤ (a : Int) := od; have vC : a < (d.length : Int) := od; obtain ⟨l, bC, fC, cC, gC, aE, o, p, q, s, fB, bB, gB, cB⟩ := D8 xD.out a tC vC; have qB := s; have mB := q; have lB := p; have kB := o; cases aE; replace o := AP j.out o; replace p := AP j.out p; replace q := AP j.out q; replace s := AP j.out s; have X := mk0 bB; have pC := mk0 fB; clear bB fB; have Y := mk0 cB; have qC := mk0 gB; clear cB gB; replace tC := eq_true tC; replace vC := eq_true vC; have uC : 0 ≤ (a : Int) := od; have wC : a < (g.length : Int) := od; obtain ⟨m, dC, hC, eC, iC, bE, u, x, y, z, hB, dB, jB, eB⟩ := D8 zD.out a uC wC; have wB := z; have uB := y; have tB := x; have sB := u; cases bE; replace u := AP j.out u; replace x := AP j.out x; replace y := AP j.out y; replace z := AP j.out z; have Z := mk0 dB; have rC := mk0 hB; clear dB hB; have aB := mk0 eB; have sC := mk0 jB; clear eB jB; replace uC := eq_true uC; replace wC := eq_true wC; refine DV (n := 12) (S := fun w' => w'.cell? ⟨O, 0, none⟩ = some (.int .i64 xB) ∧ w'.cell? ⟨O, 1, none⟩ = some (.int .i64 yB) ∧ w'.cell? ⟨O, 2, none⟩ = some (.slice jC U.length lC) ∧ w'.cell? ⟨O, 3, none⟩ = some (.slice (some l) d.length mC) ∧ w'.cell? ⟨T, 0, none⟩ = some (.int .i64 zB) ∧ w'.cell? ⟨T, 1, none⟩ = some (.int .i64 aC) ∧ w'.cell? ⟨T, 2, none⟩ = some (.slice kC W.length nC) ∧ w'.cell? ⟨T, 3, none⟩ = some (.slice (some m) g.length oC) ∧ w'.cell? (l.add ((a).toNat * 4)) = some (.int .i64 ((AB d a).f0)) ∧ w'.cell? ⟨(l.add ((a).toNat * 4)).block, (l.add ((a).toNat * 4)).off + 1, none⟩ = some (.int .i64 ((AB d a).f1)) ∧ w'.cell? ⟨(l.add ((a).toNat * 4)).block, (l.add ((a).toNat * 4)).off + 2, none⟩ = some (.slice bC ((AB d a).f2).length fC) ∧ w'.cell? ⟨(l.add ((a).toNat * 4)).block, (l.add ((a).toNat * 4)).off + 3, none⟩ = some (.slice cC ((AB d a).f3).length gC) ∧ w'.cell? (m.add ((a).toNat * 4)) = some (.int .i64 ((AB g a).f0)) ∧ w'.cell? ⟨(m.add ((a).toNat * 4)).block, (m.add ((a).toNat * 4)).off + 1, none⟩ = some (.int .i64 ((AB g a).f1)) ∧ w'.cell? ⟨(m.add ((a).toNat * 4)).block, (m.add ((a).toNat * 4)).off + 2, none⟩ = some (.slice dC ((AB g a).f2).length hC) ∧ w'.cell? ⟨(m.add ((a).toNat * 4)).block, (m.add ((a).toNat * 4)).off + 3, none⟩ = some (.slice eC ((AB g a).f3).length iC)) (ds := []) (tf 0 12) (by kernel_rfl) rfl rfl ⟨bc b 0, bc b 1, bc b 2, bc b 3, bc c 0, bc c 1, bc c 2, bc c 3, (AP j.out kB), (AP j.out lB), (AP j.out mB), (AP j.out qB), (AP j.out sB), (AP j.out tB), (AP j.out uB), (AP j.out wB)⟩ (fun G => ?_); refine CY Bi.Kk Bi.Il (fun D zC => ?_); generalize wr.drew = iG at b c j X Y Z aB o p q s u x y z G ⊢; refine pv 0 41 (tf 1 11) D ?_; refine pv 2 43 #[ξ,ζ,ξ,ζ,ζ,ζ,ζ,ζ,ζ,ζ,ζ,ζ] D ?_; refine pv 5 46 #[ξ,ζ,ξ,ζ,ζ,ξ,ζ,ζ,ζ,ζ,ζ,ζ] D ?_; refine pv 7 48 #[ξ,ζ,ξ,ζ,ζ,ξ,ζ,ξ,ζ,ζ,ζ,ζ] D ?_; refine Br (i := 1) (N := some 42) (v := ?_) (a' := ?_) #[ξ,ξ,ξ,ζ,ζ,ξ,ζ,ξ,ζ,ζ,ζ,ζ] rfl rfl (BA D.out zC.out (by kernel_rfl)) (fun _ _ _ h => h) (Or.inl ⟨by rfl, ?_⟩) G ?_ ?_; rotate_left
     ·rintro w' ⟨s0, s1, s2, s3, s4, s5, s6, s7, s8, s9, lD, mD, nD, oD, pD, qD⟩; go_simp; with_reducible rfl
     rotate_left
     ·simp only [ps]; rfl
     refine pv 3 44 #[ξ,ξ,ξ,ξ,ζ,ξ,ζ,ξ,ζ,ζ,ζ,ζ] D ?_; refine Br (i := 4) (N := some 45) (v := ?_) (a' := ?_) #[ξ,ξ,ξ,ξ,ξ,ξ,ζ,ξ,ζ,ζ,ζ,ζ] rfl rfl (BA D.out zC.out (by kernel_rfl)) (fun _ _ _ h => h) (Or.inl ⟨by rfl, ?_⟩) G ?_ ?_; rotate_left
     ·rintro w' ⟨s0, s1, s2, s3, s4, s5, s6, s7, s8, s9, lD, mD, nD, oD, pD, qD⟩; go_simp; with_reducible rfl
     rotate_left
     ·simp only [ps]; rfl
     refine Br (i := 6) (N := some 47) (v := ?_) (a' := ?_) (tf 8 4) rfl rfl (BA D.out zC.out (by kernel_rfl)) (fun _ _ _ h => h) (Or.inl ⟨by rfl, ?_⟩) G ?_ ?_; rotate_left
     ·rintro w' ⟨s0, s1, s2, s3, s4, s5, s6, s7, s8, s9, lD, mD, nD, oD, pD, qD⟩; go_simp; with_reducible rfl
     rotate_left
     ·simp only [ps]; rfl
     refine pv 8 49 (tf 9 3) D ?_; refine Br (i := 9) (N := some 50) (v := ?_) (a' := ?_) (tf 10 2) rfl rfl (BA D.out zC.out (by kernel_rfl)) (fun _ _ _ h => h) (Or.inl ⟨by rfl, ?_⟩) G ?_ ?_; rotate_left
     ·rintro w' ⟨s0, s1, s2, s3, s4, s5, s6, s7, s8, s9, lD, mD, nD, oD, pD, qD⟩; go_simp; with_reducible rfl
     rotate_left
     ·simp only [ps]; rfl
     refine Dj (i := 10) (N := some 51) (tf 11 1) rfl rfl (CQ D.out (by kernel_rfl)) (by decide) (fun K hK => ?_); refine DF Try.func32 (by kernel_rfl) rfl #[.agg #[.int .i64 ((AB d a).f0), .int .i64 ((AB d a).f1), .slice bC ((AB d a).f2).length fC, .slice cC ((AB d a).f3).length gC], .agg #[.int .i64 ((AB g a).f0), .int .i64 ((AB g a).f1), .slice dC ((AB g a).f2).length hC, .slice eC ((AB g a).f3).length iC]] (by rfl) rfl rfl (by (try simp only [List.map_toArray, List.map_cons, List.map_nil]); first | done | rfl | (simp only [List.length_drop, List.length_take]; rfl)) ?_; with_reducible refine (ih k2 (by have := cE.out; have := dE.out; omega) ((AB d a).f0) ((AB d a).f1) _ _ ((AB d a).f2) _ _ ((AB d a).f3) ((AB g a).f0) ((AB g a).f1) _ _ ((AB g a).f2) _ _ ((AB g a).f3) true _ ?side1 ?side2 ?side3 ?side4 ?side5 ?side6 ?side7 ?side8 tE.out).mono ?_
     (case side1 => exact cu X j); (case side2 => exact pC.out); (case side3 => exact cu Y j); (case side4 => exact qC.out); (case side5 => exact cu Z j); (case side6 => exact rC.out); (case side7 => exact cu aB j); (case side8 => exact sC.out); rintro e jG ⟨rfl, hb⟩; refine ⟨_, rfl, ?_⟩; obtain ⟨b, c⟩ := tb2 hb b c; replace j := kh2 j B I hb; try clear hb
     refine hK.out _ _ ⟨bc b 0, bc b 1, bc b 2, bc b 3, bc c 0, bc c 1, bc c 2, bc c 3, (AP j.out kB), (AP j.out lB), (AP j.out mB), (AP j.out qB), (AP j.out sB), (AP j.out tB), (AP j.out uB), (AP j.out wB)⟩ (fun G => ?_); clear hK K; refine nz 51 ?_; refine pv 11 52 (tf 12 0) D ?_; refine EQ (Dm D.out (by kernel_rfl)) ?_; try go_wp2
     go_roundg k2
     case measure => have := cE.out; have := dE.out; omega
     case rel => exact ⟨(wrap64 (a + 1)), rfl, H', ⟨by have := cE.out; have := dE.out; omega⟩, ⟨bu b⟩, ⟨bu c⟩, ⟨be2 j B I⟩⟩
end Go.Proofs.Ytojankgmedccdaa.PGn
