/- Lemmas for LawDriversGives. -/
import Derived.Test.YtojankgmedccdaaYGPGnx0
namespace Go.Proofs.Ytojankgmedccdaa.PGn
open Go.RowKit Own PTy Hand PIs PAw YtojankgmedccdaaW.PrintWords YtojankgmedccdaaW.PrintLast YtojankgmedccdaaW.PrintMore
attribute [local go_sem] BI BJ Be Bf Ar Au BK BL
set_option linter.unusedVariables false
set_option linter.unusedSimpArgs false
mutual
def Bi.j0 : Nat → Bool → Int → Int → List Int → List (S30) → Int → Int → List Int → List (S30) → Option (Bool)
 | 0, _, _, _, _, _, _, _, _, _ => none
 | k + 1, x34, c, d, e, a, g, h, i, b => if x34 = true then (some false) else (Bi.l0 k (a.length : Int) 0 c d e a g h i b)
def Bi.l0 : Nat → Int → Int → Int → Int → List Int → List (S30) → Int → Int → List Int → List (S30) → Option (Bool)
 | 0, _, _, _, _, _, _, _, _, _, _ => none
 | k + 1, v, x38, c, d, e, a, g, h, i, b => if x38 < v then (if 0 ≤ x38 then (if x38 < (a.length : Int) then (if x38 < (b.length : Int) then ((Bi.f k ((AC a x38).f0) ((AC a x38).f1) ((AC a x38).f2) ((AC a x38).f3) ((AC b x38).f0) ((AC b x38).f1) ((AC b x38).f2) ((AC b x38).f3)).bind fun u => (if u = true then (Bi.l0 k v (wrap64 (x38 + 1)) c d e a g h i b) else (some false))) else (none)) else (none)) else (none)) else (some true)
def Bi.f : Nat → Int → Int → List Int → List (S30) → Int → Int → List Int → List (S30) → Option (Bool)
 | 0, _, _, _, _, _, _, _, _ => none
 | k + 1, j, l, o, p, m, n, q, r => if j = m then (if l = n then ((r01Same.f k o q).bind fun s => (if s = true then (Bi.j0 k ((p.length : Int) != (r.length : Int)) j l o p m n q r) else (Bi.j0 k true j l o p m n q r))) else (Bi.j0 k true j l o p m n q r)) else (Bi.j0 k true j l o p m n q r)
end
def Bi.T6 : Bool × List (List Nat × List Nat) := (true, [([], []), ([0], [0]), ([], []), ([1, 2], [1, 2]), ([3], [3]), ([], []), ([5], [5]), ([], []), ([6, 7], [6, 7]), ([8], [8]), ([4, 9], [4, 9]), ([10], [10])])
def Bi.B6 : List Nat := [0, 1, 0, 7, 15, 0, 32, 0, 224, 480, 1023, 2047]
theorem Bi.OC : Ct .any (opsOf Try.f32 6) = Bi.T6 := by kernel_rfl
theorem Bi.LF : CW Bi.T6.2 Bi.B6 = true := by kernel_rfl
set_option maxHeartbeats 8000000 in
set_option maxRecDepth 100000 in
theorem Bi.calls (k : Nat) : ∀ (wB : Int) (xB : Int) (iC : Option Addr) (kC : Nat) (U : List Int) (zC : Option Addr) (lC : Nat) (d : List (S30)) (yB : Int) (zB : Int) (jC : Option Addr) (mC : Nat) (W : List Int) (aD : Option Addr) (nC : Nat) (g : List (S30)) (r : Bool) (w : World) (kD : Kd.C (Kd.int .u8) w iC U.length U) (fD : U.length ≤ kC) (lD : Kd.C k30 w zC d.length d) (gD : d.length ≤ lC) (mD : Kd.C (Kd.int .u8) w jC W.length W) (hD : W.length ≤ mC) (nD : Kd.C k30 w aD g.length g) (jD : g.length ≤ nC) (h : Bi.f k wB xB U d yB zB W g = some r),
  Calls Try.prog 32 #[.agg #[.int .i64 wB, .int .i64 xB, .slice iC U.length kC, .slice zC d.length lC], .agg #[.int .i64 yB, .int .i64 zB, .slice jC W.length mC, .slice aD g.length nC]] w fun e w' => e = .returned (.bool r) ∧ Below w.heap.size w w' := by
 induction k using Nat.strongRecOn with
 | _ k ih =>
 intro wB xB iC kC U zC lC d yB zB jC mC W aD nC g r w kD fD lD gD mD hD nD jD h
 cases k with
 | zero => exact absurd h (by simp [Bi.f])
 | succ k =>
 simp only [Bi.f] at h
 have xF := Try.underlying30
 have yD := mk0 kD; have wD := mk0 fD; clear kD fD; have zD := mk0 lD; have cF := mk0 gD; clear lD gD; have aE := mk0 mD; have xD := mk0 hD; clear mD hD; have bE := mk0 nD; have dF := mk0 jD; clear nD jD
 have j := mk0 (Below.refl w.heap.size w)
 have H := h; unfold Bi.f at H
 clear h; have hE := mk0 H; clear H
 go_enter Try.func32, Try.ntmps32
 go_upto_region 1 with (first | ((with_reducible refine AP rfl (N := 2) rfl (cs := #[.int .i64 wB, .int .i64 xB, .slice iC U.length kC, .slice zC d.length lC]) (t := 30) ?hr ?_); (case hr => first | (go_simp; done) | (go_simp; rfl)); intro O hg w4 dD hb; have b := mk0 (dD); have B := bs (be j) hg; replace j := kh j hb; clear hb dD hg) | ((with_reducible refine AP rfl (N := 3) rfl (cs := #[.int .i64 yB, .int .i64 zB, .slice jC W.length mC, .slice aD g.length nC]) (t := 30) ?hr ?_); (case hr => first | (go_simp; done) | (go_simp; rfl)); intro T hg w5 dD hb; have c := mk0 (dD); have I := bs (be1 j B) hg; replace j := kh1 j B hb; have ⟨J, L⟩ := nn b hg; replace b := kb b hb; clear hb dD hg))
 (try simp only [Act.put, List.setIfInBounds_toArray, List.set_cons_zero, List.set_cons_succ])
 go_cut [34] (fun v34 wc => ∃ (kq : Nat) (uD : Bool), v34 = .bool uD ∧ Aside0 (Bi.j0 kq uD wB xB U d yB zB W g = some r) ∧ Aside0 (kq ≤ k) ∧ Aside0 (wc.heap[O]? = some (.cells #[.int .i64 wB, .int .i64 xB, (.slice iC U.length kC), (.slice zC d.length lC)] 30 (0, 0))) ∧ Aside0 (wc.heap[T]? = some (.cells #[.int .i64 yB, .int .i64 zB, (.slice jC W.length mC), (.slice aD g.length nC)] 30 (0, 0))) ∧ Aside0 (Below w.heap.size w wc))
 case first =>
  have H := hE.out; clear hE
  replace H := iE' H; obtain ⟨c6, cD, wE, H⟩ | ⟨cD, wE, H⟩ := H
  ·(first | rw [cD] | (simp only [CP, Dj]; rw [cD]) | skip)
   have H' := mk0 H
   clear H; have ⟨mF, sF⟩ := no J L
   have gG := BN b.out
   have hG := BN c.out
   go_wp2
   go_meet
   case rel => exact ⟨_, (true), rfl, H', ⟨by omega⟩, ⟨bu b⟩, ⟨bu c⟩, ⟨be2 j B I⟩⟩
  (first | rw [cD] | (simp only [CP, Dj]; rw [cD]) | skip)
  replace H := iE' H; obtain ⟨c7, xE, yE, H⟩ | ⟨xE, yE, H⟩ := H
  ·have H' := mk0 H
   clear H; have ⟨lF, rF⟩ := no J L
   have eG := BN b.out
   have fG := BN c.out
   go_wp2
   go_meet
   case rel => exact ⟨_, (true), rfl, H', ⟨by omega⟩, ⟨bu b⟩, ⟨bu c⟩, ⟨be2 j B I⟩⟩
  replace H := bS H; obtain ⟨yF, A8, H⟩ := H
  replace H := iB H; obtain ⟨rfl, H⟩ | ⟨rfl, H⟩ := H
  ·have H' := mk0 H
   clear H; have ⟨hF, pF⟩ := no J L
   have aG := BN b.out
   have bG := BN c.out
   go_wp2_with (go_at_call 55; refine (r01Same.calls (cu yD j) wD.out (cu aE j) xD.out A8.out).mono ?_; rintro e w' ⟨rfl, ⟨nd, rfl⟩⟩)
   go_meet
   case rel => exact ⟨_, (((d.length : Int) != (g.length : Int))), rfl, H', ⟨by omega⟩, ⟨bu b⟩, ⟨bu c⟩, ⟨be2 j B I⟩⟩
  have H' := mk0 H
  clear H; have ⟨jF, qF⟩ := no J L
  have cG := BN b.out
  have dG := BN c.out
  go_wp2_with (go_at_call 55; refine (r01Same.calls (cu yD j) wD.out (cu aE j) xD.out A8.out).mono ?_; rintro e w' ⟨rfl, ⟨nd, rfl⟩⟩)
  go_meet
  case rel => exact ⟨_, (true), rfl, H', ⟨by omega⟩, ⟨bu b⟩, ⟨bu c⟩, ⟨be2 j B I⟩⟩
 case rest =>
  clear hE
  obtain ⟨kq, uD, rfl, HA, eE, b, c, j⟩ := hcut
  cases kq with
  | zero => exact absurd HA.out (by simp [Bi.j0])
  | succ aF =>
   have H := HA.out; clear HA
   simp only [Bi.j0] at H
   replace H := iB H; obtain ⟨rfl, H⟩ | ⟨rfl, H⟩ := H
   ·obtain rfl := sI H
    go_wp2
    go_ret
    exact ⟨rfl, be2 j B I⟩
   have H' := mk0 H
   clear H; have ⟨oF, tF⟩ := no J L
   have iG := BN b.out
   go_wp2
   go_loopg [38] aF (fun kq v38 w' => ∃ (a : Int), v38 = .int .i64 a ∧ Aside0 (Bi.l0 kq (d.length : Int) a wB xB U d yB zB W g = some r) ∧ Aside0 (kq ≤ aF) ∧ Aside0 (w'.heap[O]? = some (.cells #[.int .i64 wB, .int .i64 xB, (.slice iC U.length kC), (.slice zC d.length lC)] 30 (0, 0))) ∧ Aside0 (w'.heap[T]? = some (.cells #[.int .i64 yB, .int .i64 zB, (.slice jC W.length mC), (.slice aD g.length nC)] 30 (0, 0))) ∧ Aside0 (Below w.heap.size w w'))
   case atStart => exact ⟨(0), rfl, H', ⟨Nat.le_refl _⟩, ⟨bu b⟩, ⟨bu c⟩, ⟨be2 j B I⟩⟩
   case round =>
    clear H'
    obtain ⟨a, rfl, HA, fE, b, c, j⟩ := hrel
    cases gk with
    | zero => exact absurd HA.out (by simp [Bi.l0])
    | succ k2 =>
     have H := HA.out; clear HA
     simp only [Bi.l0] at H
     replace H := iD' H; obtain ⟨-, jE, H⟩ | ⟨-, jE, H⟩ := H
     ·obtain rfl := sI H
      go_wp2
      go_ret
      exact ⟨rfl, be2 j B I⟩
     replace H := iN H; obtain ⟨-, eF, H⟩ := H
     replace H := iN H; obtain ⟨-, fF, H⟩ := H
     replace H := iN H; obtain ⟨-, gF, H⟩ := H
     replace H := bS H; obtain ⟨zF, vE, H⟩ := H
     replace H := iB' H; obtain ⟨rfl, H⟩ | ⟨rfl, H⟩ := H
     ·obtain rfl := sI H
      try go_wp2
      have sC := mk0 (AX b.out)
      have tC := mk0 (AX c.out)
      have uC := mk0 (Ad j.out)
      clear b; clear c; clear j; have b := sC; have c := tC; have j := uC; clear sC tC uC
      have vC : 0 ≤ (a : Int) := od
      have xC : a < (d.length : Int) := od
      obtain ⟨l, aC, eC, bC, fC, cE, o, p, q, s, fB, bB, gB, cB⟩ := Dy zD.out a vC xC
      have oB := s; have mB := q; have lB := p; have kB := o; cases cE
      replace o := Ae j.out o
      replace p := Ae j.out p
      replace q := Ae j.out q
      replace s := Ae j.out s
      have X := mk0 bB; have oC := mk0 fB; clear bB fB; have Y := mk0 cB; have pC := mk0 gB; clear cB gB; replace vC := eq_true vC; replace xC := eq_true xC
      have wC : 0 ≤ (a : Int) := od
      have yC : a < (g.length : Int) := od
      obtain ⟨m, cC, gC, dC, hC, dE, u, x, y, z, hB, dB, jB, eB⟩ := Dy bE.out a wC yC
      have uB := z; have tB := y; have sB := x; have qB := u; cases dE
      replace u := Ae j.out u
      replace x := Ae j.out x
      replace y := Ae j.out y
      replace z := Ae j.out z
      have Z := mk0 dB; have qC := mk0 hB; clear dB hB; have aB := mk0 eB; have rC := mk0 jB; clear eB jB; replace wC := eq_true wC; replace yC := eq_true yC
      refine Cz (n := 12) (S := fun w' => w'.cell? ⟨O, 0, none⟩ = some (.int .i64 wB) ∧ w'.cell? ⟨O, 1, none⟩ = some (.int .i64 xB) ∧ w'.cell? ⟨O, 2, none⟩ = some (.slice iC U.length kC) ∧ w'.cell? ⟨O, 3, none⟩ = some (.slice (some l) d.length lC) ∧ w'.cell? ⟨T, 0, none⟩ = some (.int .i64 yB) ∧ w'.cell? ⟨T, 1, none⟩ = some (.int .i64 zB) ∧ w'.cell? ⟨T, 2, none⟩ = some (.slice jC W.length mC) ∧ w'.cell? ⟨T, 3, none⟩ = some (.slice (some m) g.length nC) ∧ w'.cell? (l.add ((a).toNat * 4)) = some (.int .i64 ((AC d a).f0)) ∧ w'.cell? ⟨(l.add ((a).toNat * 4)).block, (l.add ((a).toNat * 4)).off + 1, none⟩ = some (.int .i64 ((AC d a).f1)) ∧ w'.cell? ⟨(l.add ((a).toNat * 4)).block, (l.add ((a).toNat * 4)).off + 2, none⟩ = some (.slice aC ((AC d a).f2).length eC) ∧ w'.cell? ⟨(l.add ((a).toNat * 4)).block, (l.add ((a).toNat * 4)).off + 3, none⟩ = some (.slice bC ((AC d a).f3).length fC) ∧ w'.cell? (m.add ((a).toNat * 4)) = some (.int .i64 ((AC g a).f0)) ∧ w'.cell? ⟨(m.add ((a).toNat * 4)).block, (m.add ((a).toNat * 4)).off + 1, none⟩ = some (.int .i64 ((AC g a).f1)) ∧ w'.cell? ⟨(m.add ((a).toNat * 4)).block, (m.add ((a).toNat * 4)).off + 2, none⟩ = some (.slice cC ((AC g a).f2).length gC) ∧ w'.cell? ⟨(m.add ((a).toNat * 4)).block, (m.add ((a).toNat * 4)).off + 3, none⟩ = some (.slice dC ((AC g a).f3).length hC)) (ds := []) (tf 0 12) (by kernel_rfl) rfl rfl ⟨bc b 0, bc b 1, bc b 2, bc b 3, bc c 0, bc c 1, bc c 2, bc c 3, (Ae j.out kB), (Ae j.out lB), (Ae j.out mB), (Ae j.out oB), (Ae j.out qB), (Ae j.out sB), (Ae j.out tB), (Ae j.out uB)⟩ (fun G => ?_); refine Bz Bi.OC Bi.LF (fun D bD => ?_)
      generalize wr.drew = mG at b c j X Y Z aB o p q s u x y z G ⊢
      refine pv 0 41 (tf 1 11) D ?_
      refine pv 2 43 #[true, false, true, false, false, false, false, false, false, false, false, false] D ?_
      refine pv 5 46 #[true, false, true, false, false, true, false, false, false, false, false, false] D ?_
      refine pv 7 48 #[true, false, true, false, false, true, false, true, false, false, false, false] D ?_
      refine Bl (i := 1) (N := some 42) (v := ?_) (a' := ?_) #[true, true, true, false, false, true, false, true, false, false, false, false] rfl rfl (Aj D.out bD.out (by kernel_rfl)) (fun _ _ _ h => h) (Or.inl ⟨by rfl, ?_⟩) G ?_ ?_
      rotate_left
      ·rintro w' ⟨s0, s1, s2, s3, s4, s5, s6, s7, s8, s9, oD, pD, qD, rD, sD, tD⟩
       go_simp
       with_reducible rfl
      rotate_left
      ·simp only [ps]
       rfl
      refine pv 3 44 #[true, true, true, true, false, true, false, true, false, false, false, false] D ?_
      refine Bl (i := 4) (N := some 45) (v := ?_) (a' := ?_) #[true, true, true, true, true, true, false, true, false, false, false, false] rfl rfl (Aj D.out bD.out (by kernel_rfl)) (fun _ _ _ h => h) (Or.inl ⟨by rfl, ?_⟩) G ?_ ?_
      rotate_left
      ·rintro w' ⟨s0, s1, s2, s3, s4, s5, s6, s7, s8, s9, oD, pD, qD, rD, sD, tD⟩
       go_simp
       with_reducible rfl
      rotate_left
      ·simp only [ps]
       rfl
      refine Bl (i := 6) (N := some 47) (v := ?_) (a' := ?_) (tf 8 4) rfl rfl (Aj D.out bD.out (by kernel_rfl)) (fun _ _ _ h => h) (Or.inl ⟨by rfl, ?_⟩) G ?_ ?_
      rotate_left
      ·rintro w' ⟨s0, s1, s2, s3, s4, s5, s6, s7, s8, s9, oD, pD, qD, rD, sD, tD⟩
       go_simp
       with_reducible rfl
      rotate_left
      ·simp only [ps]
       rfl
      refine pv 8 49 (tf 9 3) D ?_
      refine Bl (i := 9) (N := some 50) (v := ?_) (a' := ?_) (tf 10 2) rfl rfl (Aj D.out bD.out (by kernel_rfl)) (fun _ _ _ h => h) (Or.inl ⟨by rfl, ?_⟩) G ?_ ?_
      rotate_left
      ·rintro w' ⟨s0, s1, s2, s3, s4, s5, s6, s7, s8, s9, oD, pD, qD, rD, sD, tD⟩
       go_simp
       with_reducible rfl
      rotate_left
      ·simp only [ps]
       rfl
      refine DN (i := 10) (N := some 51) (tf 11 1) rfl rfl (Bv D.out (by kernel_rfl)) (by decide) (fun K hK => ?_)
      refine Cx Try.func32 (by kernel_rfl) rfl #[.agg #[.int .i64 ((AC d a).f0), .int .i64 ((AC d a).f1), .slice aC ((AC d a).f2).length eC, .slice bC ((AC d a).f3).length fC], .agg #[.int .i64 ((AC g a).f0), .int .i64 ((AC g a).f1), .slice cC ((AC g a).f2).length gC, .slice dC ((AC g a).f3).length hC]] (by rfl) rfl rfl (by (try simp only [List.map_toArray, List.map_cons, List.map_nil]); first | done | rfl | (simp only [List.length_drop, List.length_take]; rfl)) ?_
      with_reducible refine (ih k2 (by have := eE.out; have := fE.out; omega) ((AC d a).f0) ((AC d a).f1) _ _ ((AC d a).f2) _ _ ((AC d a).f3) ((AC g a).f0) ((AC g a).f1) _ _ ((AC g a).f2) _ _ ((AC g a).f3) false _ ?side1 ?side2 ?side3 ?side4 ?side5 ?side6 ?side7 ?side8 vE.out).mono ?_
      (case side1 => exact cu X j)
      (case side2 => exact oC.out)
      (case side3 => exact cu Y j)
      (case side4 => exact pC.out)
      (case side5 => exact cu Z j)
      (case side6 => exact qC.out)
      (case side7 => exact cu aB j)
      (case side8 => exact rC.out)
      rintro e nG ⟨rfl, hb⟩
      refine ⟨_, rfl, ?_⟩
      have sC := kb b hb
      have tC := kb c hb
      have uC := kh2 j B I hb
      clear b; clear c; clear j; have b := sC; have c := tC; have j := uC; clear sC tC uC
      try clear hb
      refine hK.out _ _ ⟨bc b 0, bc b 1, bc b 2, bc b 3, bc c 0, bc c 1, bc c 2, bc c 3, (Ae j.out kB), (Ae j.out lB), (Ae j.out mB), (Ae j.out oB), (Ae j.out qB), (Ae j.out sB), (Ae j.out tB), (Ae j.out uB)⟩ (fun G => ?_)
      clear hK K
      refine CJ (a' := ?_) ?_ ?_
      rotate_left
      ·show Act.put _ (some 51) _ = _
       simp only [ps]
       rfl
      refine pv 11 52 (tf 12 0) D ?_
      refine Dv (Cu D.out (by kernel_rfl)) ?_
      try go_wp2
      go_ret
      exact ⟨rfl, be2 j B I⟩
     have H' := mk0 H
     clear H
     try go_wp2
     have sC := mk0 (AX b.out)
     have tC := mk0 (AX c.out)
     have uC := mk0 (Ad j.out)
     clear b; clear c; clear j; have b := sC; have c := tC; have j := uC; clear sC tC uC
     have vC : 0 ≤ (a : Int) := od
     have xC : a < (d.length : Int) := od
     obtain ⟨l, aC, eC, bC, fC, cE, o, p, q, s, fB, bB, gB, cB⟩ := Dy zD.out a vC xC
     have oB := s; have mB := q; have lB := p; have kB := o; cases cE
     replace o := Ae j.out o
     replace p := Ae j.out p
     replace q := Ae j.out q
     replace s := Ae j.out s
     have X := mk0 bB; have oC := mk0 fB; clear bB fB; have Y := mk0 cB; have pC := mk0 gB; clear cB gB; replace vC := eq_true vC; replace xC := eq_true xC
     have wC : 0 ≤ (a : Int) := od
     have yC : a < (g.length : Int) := od
     obtain ⟨m, cC, gC, dC, hC, dE, u, x, y, z, hB, dB, jB, eB⟩ := Dy bE.out a wC yC
     have uB := z; have tB := y; have sB := x; have qB := u; cases dE
     replace u := Ae j.out u
     replace x := Ae j.out x
     replace y := Ae j.out y
     replace z := Ae j.out z
     have Z := mk0 dB; have qC := mk0 hB; clear dB hB; have aB := mk0 eB; have rC := mk0 jB; clear eB jB; replace wC := eq_true wC; replace yC := eq_true yC
     refine Cz (n := 12) (S := fun w' => w'.cell? ⟨O, 0, none⟩ = some (.int .i64 wB) ∧ w'.cell? ⟨O, 1, none⟩ = some (.int .i64 xB) ∧ w'.cell? ⟨O, 2, none⟩ = some (.slice iC U.length kC) ∧ w'.cell? ⟨O, 3, none⟩ = some (.slice (some l) d.length lC) ∧ w'.cell? ⟨T, 0, none⟩ = some (.int .i64 yB) ∧ w'.cell? ⟨T, 1, none⟩ = some (.int .i64 zB) ∧ w'.cell? ⟨T, 2, none⟩ = some (.slice jC W.length mC) ∧ w'.cell? ⟨T, 3, none⟩ = some (.slice (some m) g.length nC) ∧ w'.cell? (l.add ((a).toNat * 4)) = some (.int .i64 ((AC d a).f0)) ∧ w'.cell? ⟨(l.add ((a).toNat * 4)).block, (l.add ((a).toNat * 4)).off + 1, none⟩ = some (.int .i64 ((AC d a).f1)) ∧ w'.cell? ⟨(l.add ((a).toNat * 4)).block, (l.add ((a).toNat * 4)).off + 2, none⟩ = some (.slice aC ((AC d a).f2).length eC) ∧ w'.cell? ⟨(l.add ((a).toNat * 4)).block, (l.add ((a).toNat * 4)).off + 3, none⟩ = some (.slice bC ((AC d a).f3).length fC) ∧ w'.cell? (m.add ((a).toNat * 4)) = some (.int .i64 ((AC g a).f0)) ∧ w'.cell? ⟨(m.add ((a).toNat * 4)).block, (m.add ((a).toNat * 4)).off + 1, none⟩ = some (.int .i64 ((AC g a).f1)) ∧ w'.cell? ⟨(m.add ((a).toNat * 4)).block, (m.add ((a).toNat * 4)).off + 2, none⟩ = some (.slice cC ((AC g a).f2).length gC) ∧ w'.cell? ⟨(m.add ((a).toNat * 4)).block, (m.add ((a).toNat * 4)).off + 3, none⟩ = some (.slice dC ((AC g a).f3).length hC)) (ds := []) (tf 0 12) (by kernel_rfl) rfl rfl ⟨bc b 0, bc b 1, bc b 2, bc b 3, bc c 0, bc c 1, bc c 2, bc c 3, (Ae j.out kB), (Ae j.out lB), (Ae j.out mB), (Ae j.out oB), (Ae j.out qB), (Ae j.out sB), (Ae j.out tB), (Ae j.out uB)⟩ (fun G => ?_); refine Bz Bi.OC Bi.LF (fun D bD => ?_)
     generalize wr.drew = kG at b c j X Y Z aB o p q s u x y z G ⊢
     refine pv 0 41 (tf 1 11) D ?_
     refine pv 2 43 #[true, false, true, false, false, false, false, false, false, false, false, false] D ?_
     refine pv 5 46 #[true, false, true, false, false, true, false, false, false, false, false, false] D ?_
     refine pv 7 48 #[true, false, true, false, false, true, false, true, false, false, false, false] D ?_
     refine Bl (i := 1) (N := some 42) (v := ?_) (a' := ?_) #[true, true, true, false, false, true, false, true, false, false, false, false] rfl rfl (Aj D.out bD.out (by kernel_rfl)) (fun _ _ _ h => h) (Or.inl ⟨by rfl, ?_⟩) G ?_ ?_
     rotate_left
     ·rintro w' ⟨s0, s1, s2, s3, s4, s5, s6, s7, s8, s9, oD, pD, qD, rD, sD, tD⟩
      go_simp
      with_reducible rfl
     rotate_left
     ·simp only [ps]
      rfl
     refine pv 3 44 #[true, true, true, true, false, true, false, true, false, false, false, false] D ?_
     refine Bl (i := 4) (N := some 45) (v := ?_) (a' := ?_) #[true, true, true, true, true, true, false, true, false, false, false, false] rfl rfl (Aj D.out bD.out (by kernel_rfl)) (fun _ _ _ h => h) (Or.inl ⟨by rfl, ?_⟩) G ?_ ?_
     rotate_left
     ·rintro w' ⟨s0, s1, s2, s3, s4, s5, s6, s7, s8, s9, oD, pD, qD, rD, sD, tD⟩
      go_simp
      with_reducible rfl
     rotate_left
     ·simp only [ps]
      rfl
     refine Bl (i := 6) (N := some 47) (v := ?_) (a' := ?_) (tf 8 4) rfl rfl (Aj D.out bD.out (by kernel_rfl)) (fun _ _ _ h => h) (Or.inl ⟨by rfl, ?_⟩) G ?_ ?_
     rotate_left
     ·rintro w' ⟨s0, s1, s2, s3, s4, s5, s6, s7, s8, s9, oD, pD, qD, rD, sD, tD⟩
      go_simp
      with_reducible rfl
     rotate_left
     ·simp only [ps]
      rfl
     refine pv 8 49 (tf 9 3) D ?_
     refine Bl (i := 9) (N := some 50) (v := ?_) (a' := ?_) (tf 10 2) rfl rfl (Aj D.out bD.out (by kernel_rfl)) (fun _ _ _ h => h) (Or.inl ⟨by rfl, ?_⟩) G ?_ ?_
     rotate_left
     ·rintro w' ⟨s0, s1, s2, s3, s4, s5, s6, s7, s8, s9, oD, pD, qD, rD, sD, tD⟩
      go_simp
      with_reducible rfl
     rotate_left
     ·simp only [ps]
      rfl
     refine DN (i := 10) (N := some 51) (tf 11 1) rfl rfl (Bv D.out (by kernel_rfl)) (by decide) (fun K hK => ?_)
     refine Cx Try.func32 (by kernel_rfl) rfl #[.agg #[.int .i64 ((AC d a).f0), .int .i64 ((AC d a).f1), .slice aC ((AC d a).f2).length eC, .slice bC ((AC d a).f3).length fC], .agg #[.int .i64 ((AC g a).f0), .int .i64 ((AC g a).f1), .slice cC ((AC g a).f2).length gC, .slice dC ((AC g a).f3).length hC]] (by rfl) rfl rfl (by (try simp only [List.map_toArray, List.map_cons, List.map_nil]); first | done | rfl | (simp only [List.length_drop, List.length_take]; rfl)) ?_
     with_reducible refine (ih k2 (by have := eE.out; have := fE.out; omega) ((AC d a).f0) ((AC d a).f1) _ _ ((AC d a).f2) _ _ ((AC d a).f3) ((AC g a).f0) ((AC g a).f1) _ _ ((AC g a).f2) _ _ ((AC g a).f3) true _ ?side1 ?side2 ?side3 ?side4 ?side5 ?side6 ?side7 ?side8 vE.out).mono ?_
     (case side1 => exact cu X j)
     (case side2 => exact oC.out)
     (case side3 => exact cu Y j)
     (case side4 => exact pC.out)
     (case side5 => exact cu Z j)
     (case side6 => exact qC.out)
     (case side7 => exact cu aB j)
     (case side8 => exact rC.out)
     rintro e lG ⟨rfl, hb⟩
     refine ⟨_, rfl, ?_⟩
     have sC := kb b hb
     have tC := kb c hb
     have uC := kh2 j B I hb
     clear b; clear c; clear j; have b := sC; have c := tC; have j := uC; clear sC tC uC
     try clear hb
     refine hK.out _ _ ⟨bc b 0, bc b 1, bc b 2, bc b 3, bc c 0, bc c 1, bc c 2, bc c 3, (Ae j.out kB), (Ae j.out lB), (Ae j.out mB), (Ae j.out oB), (Ae j.out qB), (Ae j.out sB), (Ae j.out tB), (Ae j.out uB)⟩ (fun G => ?_)
     clear hK K
     refine CJ (a' := ?_) ?_ ?_
     rotate_left
     ·show Act.put _ (some 51) _ = _
      simp only [ps]
      rfl
     refine pv 11 52 (tf 12 0) D ?_
     refine Dv (Cu D.out (by kernel_rfl)) ?_
     try go_wp2
     go_roundg k2
     case measure => have := eE.out; have := fE.out; omega
     case rel => exact ⟨(wrap64 (a + 1)), rfl, H', ⟨by have := eE.out; have := fE.out; omega⟩, ⟨bu b⟩, ⟨bu c⟩, ⟨be2 j B I⟩⟩
end Go.Proofs.Ytojankgmedccdaa.PGn
