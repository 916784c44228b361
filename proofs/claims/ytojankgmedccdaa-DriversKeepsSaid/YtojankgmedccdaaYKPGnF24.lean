/- Lemmas for LawDriversKeeps. -/
import Derived.Test.YtojankgmedccdaaYKPGnF32
namespace Go.Proofs.Ytojankgmedccdaa.PGn
open Go.RowKit Own PTy Hand PIs PAw YtojankgmedccdaaW.PrintWords YtojankgmedccdaaW.PrintLast YtojankgmedccdaaW.PrintMore
attribute [local go_sem] BN BO Be Bf BF BG BR BS
set_option linter.unusedVariables false
set_option linter.unusedSimpArgs false
mutual
def CK.j0 : Nat → Bool → Int → Int → List Int → List (S30) → List (S63) → Int → Int → List Int → List (S30) → List (S63) → Option (Bool)
 | 0, _, _, _, _, _, _, _, _, _, _, _ => none
 | k + 1, x20, c, d, e, g, a, h, i, j, l, b => if x20 = true then (some false) else (CK.l0 k (a.length : Int) 0 c d e g a h i j l b)
def CK.l0 : Nat → Int → Int → Int → Int → List Int → List (S30) → List (S63) → Int → Int → List Int → List (S30) → List (S63) → Option (Bool)
 | 0, _, _, _, _, _, _, _, _, _, _, _, _ => none
 | k + 1, n, x24, c, d, e, g, a, h, i, j, l, b => if x24 < n then (if 0 ≤ x24 then (if x24 < (a.length : Int) then (if x24 < (b.length : Int) then (if ((AA a x24).f0) = ((AA b x24).f0) then ((Bd.f k ((AA a x24).f1.f0) ((AA a x24).f1.f1) ((AA a x24).f1.f2) ((AA a x24).f1.f3) ((AA b x24).f1.f0) ((AA b x24).f1.f1) ((AA b x24).f1.f2) ((AA b x24).f1.f3)).bind fun m => (if m = true then (CK.l0 k n (wrap64 (x24 + 1)) c d e g a h i j l b) else (some false))) else (some false)) else (none)) else (none)) else (none)) else (some true)
end
def CK.f (k : Nat) (a : Int) (b : Int) (e : List Int) (g : List (S30)) (h : List (S63)) (c : Int) (d : Int) (i : List Int) (j : List (S30)) (l : List (S63)) : Option (Bool) := (Bd.f k a b e g c d i j).bind fun m => (if m = true then (CK.j0 k ((h.length : Int) != (l.length : Int)) a b e g h c d i j l) else (CK.j0 k true a b e g h c d i j l))
def CK.T6 : Bool × List (List Nat × List Nat) := (true, [([], []), ([0], [0]), ([], []), ([1, 2], [1, 2]), ([3], [3]), ([4], [4]), ([], []), ([6], [6]), ([], []), ([7, 8], [7, 8]), ([9], [9]), ([10], [10]), ([5, 11], [5, 11]), ([12], [12]), ([13], [13]), ([14, 13], [13, 14]), ([13], [13]), ([15, 16, 13], [13, 15, 16]), ([17, 13], [13, 17]), ([18, 13], [13, 18]), ([13], [13]), ([20, 13], [13, 20]), ([13], [13]), ([21, 22, 13], [13, 21, 22]), ([23, 13], [13, 23]), ([24, 13], [13, 24]), ([19, 25, 13, 13], [13, 19, 25]), ([26, 13], [13, 26]), ([13, 27], [13, 27])])
def CK.B6 : List Nat := [0, 1, 0, 7, 15, 31, 0, 64, 0, 448, 960, 1984, 4095, 8191, 16383, 32767, 16383, 131071, 262143, 524287, 16383, 1064959, 16383, 7356415, 15745023, 32522239, 67108863, 134217727, 268435455]
theorem CK.Ia : Cw .any (opsOf Try.f24 6) = CK.T6 := by kernel_rfl
theorem CK.F3 : CZ CK.T6.2 CK.B6 = true := by kernel_rfl
set_option maxHeartbeats 8000000 in
set_option maxRecDepth 100000 in
theorem CK.calls {k : Nat} {aD bD : Int} {zE : Option Addr} {eF : Nat} {lC : List Int} {aF : Option Addr} {fF : Nat} {mC : List (S30)} {jG : Option Addr} {gF : Nat} {m : List (S63)} {cD dD : Int} {cF : Option Addr} {hF : Nat} {nC : List Int} {dF : Option Addr} {jF : Nat} {oC : List (S30)} {kG : Option Addr} {lF : Nat} {o : List (S63)} {r : Bool} {w : World} (lH : Kd.C (Kd.int .u8) w zE lC.length lC) (fH : lC.length ≤ eF) (mH : Kd.C k30 w aF mC.length mC) (gH : mC.length ≤ fF) (nH : Kd.C k63 w jG m.length m) (hH : m.length ≤ gF) (oH : Kd.C (Kd.int .u8) w cF nC.length nC) (iH : nC.length ≤ hF) (pH : Kd.C k30 w dF oC.length oC) (jH : oC.length ≤ jF) (qH : Kd.C k63 w kG o.length o) (kH : o.length ≤ lF) (h : CK.f k aD bD lC mC m cD dD nC oC o = some r) :
  Calls Try.prog 24 #[.agg #[.int .i64 aD, .int .i64 bD, .slice zE lC.length eF, .slice aF mC.length fF, .slice jG m.length gF], .agg #[.int .i64 cD, .int .i64 dD, .slice cF nC.length hF, .slice dF oC.length jF, .slice kG o.length lF]] w fun e w' => e = .returned (.bool r) ∧ Below w.heap.size w w' := by
 have dJ := Try.underlying33
 have cJ := Try.underlying30
 have zG := mk0 lH; have vG := mk0 fH; clear lH fH; have aH := mk0 mH; have wG := mk0 gH; clear mH gH; have rF := mk0 nH; have lI := mk0 hH; clear nH hH; have bH := mk0 oH; have xG := mk0 iH; clear oH iH; have cH := mk0 pH; have yG := mk0 jH; clear pH jH; have sF := mk0 qH; have mI := mk0 kH; clear qH kH
 have j := mk0 (Below.refl w.heap.size w)
 have H := h; unfold CK.f at H
 clear h; have bI := mk0 H; clear H
 go_enter Try.func24, Try.ntmps24
 go_upto_region 1 with (first | ((with_reducible refine AR rfl (N := 2) rfl (cs := #[.int .i64 aD, .int .i64 bD, .slice zE lC.length eF, .slice aF mC.length fF, .slice jG m.length gF]) (t := 33) ?hr ?_); (case hr => first | (go_simp; done) | (go_simp; rfl)); intro J hg w4 rG hb; have b := mk0 (rG); have Y := bs (be j) hg; replace j := kh j hb; clear hb rG hg) | ((with_reducible refine AR rfl (N := 3) rfl (cs := #[.int .i64 cD, .int .i64 dD, .slice cF nC.length hF, .slice dF oC.length jF, .slice kG o.length lF]) (t := 33) ?hr ?_); (case hr => first | (go_simp; done) | (go_simp; rfl)); intro L hg w5 rG hb; have c := mk0 (rG); have qB := bs (be1 j Y) hg; replace j := kh1 j Y hb; have ⟨kE, lE⟩ := nn b hg; replace b := kb b hb; clear hb rG hg))
 (try simp only [Act.put, List.setIfInBounds_toArray, List.set_cons_zero, List.set_cons_succ])
 go_cut [20] (fun v20 wc => ∃ (kq : Nat) (uG : Bool), v20 = .bool uG ∧ Aside0 (CK.j0 kq uG aD bD lC mC m cD dD nC oC o = some r) ∧ Aside0 (kq ≤ k) ∧ Aside0 (wc.heap[J]? = some (.cells #[.int .i64 aD, .int .i64 bD, (.slice zE lC.length eF), (.slice aF mC.length fF), (.slice jG m.length gF)] 33 (0, 0))) ∧ Aside0 (wc.heap[L]? = some (.cells #[.int .i64 cD, .int .i64 dD, (.slice cF nC.length hF), (.slice dF oC.length jF), (.slice kG o.length lF)] 33 (0, 0))) ∧ Aside0 (Below w.heap.size w wc))
 case first =>
  have H := bI.out; clear bI
  replace H := bS H; obtain ⟨eJ, A6, H⟩ := H
  replace H := iB H; obtain ⟨rfl, H⟩ | ⟨rfl, H⟩ := H
  ·have H' := mk0 H
   clear H; have ⟨aJ, bJ⟩ := no kE lE
   have uJ := cells5 b.out
   have gJ := cells5 c.out
   go_wp2_with ((with_reducible refine AV (f := 32) rfl ?_); refine Cf Try.func32 (Bd.calls k aD bD _ _ lC _ _ mC cD dD _ _ nC _ _ oC true _ (cu zG j) vG.out (cu aH j) wG.out (cu bH j) xG.out (cu cH j) yG.out A6.out) ?_; intro nJ hb; obtain ⟨b, c⟩ := tb2 hb b c; replace j := kh2 j Y qB hb; have hJ := cells5 b.out; have iJ := cells5 c.out)
   go_meet
   case rel => exact ⟨_, (((m.length : Int) != (o.length : Int))), rfl, H', ⟨by omega⟩, ⟨bu b⟩, ⟨bu c⟩, ⟨be2 j Y qB⟩⟩
  have H' := mk0 H
  clear H; have ⟨tI, wI⟩ := no kE lE
  have jJ := cells5 b.out
  have kJ := cells5 c.out
  go_wp2_with ((with_reducible refine AV (f := 32) rfl ?_); refine Cf Try.func32 (Bd.calls k aD bD _ _ lC _ _ mC cD dD _ _ nC _ _ oC false _ (cu zG j) vG.out (cu aH j) wG.out (cu bH j) xG.out (cu cH j) yG.out A6.out) ?_; intro oJ hb; obtain ⟨b, c⟩ := tb2 hb b c; replace j := kh2 j Y qB hb)
  go_meet
  case rel => exact ⟨_, (true), rfl, H', ⟨by omega⟩, ⟨bu b⟩, ⟨bu c⟩, ⟨be2 j Y qB⟩⟩
 case rest =>
  clear bI
  obtain ⟨kq, uG, rfl, HA, hI, b, c, j⟩ := hcut
  cases kq with
  | zero => exact absurd HA.out (by simp [CK.j0])
  | succ kI =>
   have H := HA.out; clear HA
   simp only [CK.j0] at H
   replace H := iB H; obtain ⟨rfl, H⟩ | ⟨rfl, H⟩ := H
   ·obtain rfl := sI H
    go_wp2
    go_ret
    exact ⟨rfl, be2 j Y qB⟩
   have H' := mk0 H
   clear H; have ⟨uI, xI⟩ := no kE lE
   have lJ := cells5 b.out
   go_wp2
   go_loopg [24] kI (fun kq v24 w' => ∃ (a : Int), v24 = .int .i64 a ∧ Aside0 (CK.l0 kq (m.length : Int) a aD bD lC mC m cD dD nC oC o = some r) ∧ Aside0 (kq ≤ kI) ∧ Aside0 (w'.heap[J]? = some (.cells #[.int .i64 aD, .int .i64 bD, (.slice zE lC.length eF), (.slice aF mC.length fF), (.slice jG m.length gF)] 33 (0, 0))) ∧ Aside0 (w'.heap[L]? = some (.cells #[.int .i64 cD, .int .i64 dD, (.slice cF nC.length hF), (.slice dF oC.length jF), (.slice kG o.length lF)] 33 (0, 0))) ∧ Aside0 (Below w.heap.size w w'))
   case atStart => exact ⟨(0), rfl, H', ⟨Nat.le_refl _⟩, ⟨bu b⟩, ⟨bu c⟩, ⟨be2 j Y qB⟩⟩
   case round =>
    clear H'
    obtain ⟨a, rfl, HA, iI, b, c, j⟩ := hrel
    cases gk with
    | zero => exact absurd HA.out (by simp [CK.l0])
    | succ k2 =>
     have H := HA.out; clear HA
     simp only [CK.l0] at H
     replace H := iD' H; obtain ⟨-, cI, H⟩ | ⟨-, cI, H⟩ := H
     ·obtain rfl := sI H
      go_wp2
      go_ret
      exact ⟨rfl, be2 j Y qB⟩
     replace H := iN H; obtain ⟨-, oI, H⟩ := H
     replace H := iN H; obtain ⟨-, pI, H⟩ := H
     replace H := iN H; obtain ⟨-, qI, H⟩ := H
     replace H := iE' H; obtain ⟨mJ, dI, eI, H⟩ | ⟨dI, eI, H⟩ := H
     ·obtain rfl := sI H
      try go_wp2
      have wE := mk0 (Aa b.out)
      have xE := mk0 (Aa c.out)
      have yE := mk0 (Ag j.out)
      clear b; clear c; clear j; have b := wE; have c := xE; have j := yE; clear wE xE yE
      have fE : 0 ≤ (a : Int) := od
      have hE : a < (m.length : Int) := od
      obtain ⟨d, sB, xB, tB, yB, pG, y, z, B, q, s, kB, fB, lB, gB⟩ := Cx rF.out a fE hE
      have fC := s; have eC := q; have dC := B; have cC := z; have bC := y; cases pG
      replace y := AO j.out y
      replace z := AO j.out z
      replace B := AO j.out B
      replace q := AO j.out q
      replace s := AO j.out s
      have eD := mk0 fB; have lG := mk0 kB; clear fB kB; have fD := mk0 gB; have mG := mk0 lB; clear gB lB; replace fE := eq_true fE; replace hE := eq_true hE
      have gE : 0 ≤ (a : Int) := od
      have jE : a < (o.length : Int) := od
      obtain ⟨g, uB, zB, wB, aC, qG, D, G, I, u, x, mB, hB, oB, jB⟩ := Cx sF.out a gE jE
      have kC := x; have jC := u; have iC := I; have hC := G; have gC := D; cases qG
      replace D := AO j.out D
      replace G := AO j.out G
      replace I := AO j.out I
      replace u := AO j.out u
      replace x := AO j.out x
      have gD := mk0 hB; have nG := mk0 mB; clear hB mB; have hD := mk0 jB; have oG := mk0 oB; clear jB oB; replace gE := eq_true gE; replace jE := eq_true jE
      refine Cs (n := 29) (S := fun w' => w'.cell? ⟨J, 0, none⟩ = some (.int .i64 aD) ∧ w'.cell? ⟨J, 1, none⟩ = some (.int .i64 bD) ∧ w'.cell? ⟨J, 2, none⟩ = some (.slice zE lC.length eF) ∧ w'.cell? ⟨J, 3, none⟩ = some (.slice aF mC.length fF) ∧ w'.cell? ⟨J, 4, none⟩ = some (.slice (some d) m.length gF) ∧ w'.cell? ⟨L, 0, none⟩ = some (.int .i64 cD) ∧ w'.cell? ⟨L, 1, none⟩ = some (.int .i64 dD) ∧ w'.cell? ⟨L, 2, none⟩ = some (.slice cF nC.length hF) ∧ w'.cell? ⟨L, 3, none⟩ = some (.slice dF oC.length jF) ∧ w'.cell? ⟨L, 4, none⟩ = some (.slice (some g) o.length lF) ∧ w'.cell? (d.add ((a).toNat * 5)) = some (.int .i64 ((AA m a).f0)) ∧ w'.cell? ⟨(d.add ((a).toNat * 5)).block, (d.add ((a).toNat * 5)).off + 1, none⟩ = some (.int .i64 ((AA m a).f1.f0)) ∧ w'.cell? ⟨(d.add ((a).toNat * 5)).block, (d.add ((a).toNat * 5)).off + 2, none⟩ = some (.int .i64 ((AA m a).f1.f1)) ∧ w'.cell? ⟨(d.add ((a).toNat * 5)).block, (d.add ((a).toNat * 5)).off + 3, none⟩ = some (.slice sB ((AA m a).f1.f2).length xB) ∧ w'.cell? ⟨(d.add ((a).toNat * 5)).block, (d.add ((a).toNat * 5)).off + 4, none⟩ = some (.slice tB ((AA m a).f1.f3).length yB) ∧ w'.cell? (g.add ((a).toNat * 5)) = some (.int .i64 ((AA o a).f0)) ∧ w'.cell? ⟨(g.add ((a).toNat * 5)).block, (g.add ((a).toNat * 5)).off + 1, none⟩ = some (.int .i64 ((AA o a).f1.f0)) ∧ w'.cell? ⟨(g.add ((a).toNat * 5)).block, (g.add ((a).toNat * 5)).off + 2, none⟩ = some (.int .i64 ((AA o a).f1.f1)) ∧ w'.cell? ⟨(g.add ((a).toNat * 5)).block, (g.add ((a).toNat * 5)).off + 3, none⟩ = some (.slice uB ((AA o a).f1.f2).length zB) ∧ w'.cell? ⟨(g.add ((a).toNat * 5)).block, (g.add ((a).toNat * 5)).off + 4, none⟩ = some (.slice wB ((AA o a).f1.f3).length aC)) (ds := []) (tf 0 29) (by kernel_rfl) rfl rfl ⟨bc b 0, bc b 1, bc b 2, bc b 3, bc b 4, bc c 0, bc c 1, bc c 2, bc c 3, bc c 4, (AO j.out bC), (AO j.out cC), (AO j.out dC), (AO j.out eC), (AO j.out fC), (AO j.out gC), (AO j.out hC), (AO j.out iC), (AO j.out jC), (AO j.out kC)⟩ (fun p => ?_); refine Bq CK.Ia CK.F3 (fun l pC => ?_)
      generalize wr.drew = tJ at b c j eD fD gD hD y z B q s D G I u x p ⊢
      refine pv 0 27 (tf 1 28) l ?_
      refine pv 2 29 #[true, false, true, false, false, false, false, false, false, false, false, false, false, false, false, false, false, false, false, false, false, false, false, false, false, false, false, false, false] l ?_
      refine pv 6 33 #[true, false, true, false, false, false, true, false, false, false, false, false, false, false, false, false, false, false, false, false, false, false, false, false, false, false, false, false, false] l ?_
      refine pv 8 35 #[true, false, true, false, false, false, true, false, true, false, false, false, false, false, false, false, false, false, false, false, false, false, false, false, false, false, false, false, false] l ?_
      refine BI (i := 1) (N := some 28) (v := ?_) (a' := ?_) #[true, true, true, false, false, false, true, false, true, false, false, false, false, false, false, false, false, false, false, false, false, false, false, false, false, false, false, false, false] rfl rfl (Ad l.out pC.out (by kernel_rfl)) (fun _ _ _ h => h) (Or.inl ⟨by rfl, ?_⟩) p ?_ ?_
      rotate_left
      ·rintro w' ⟨s0, s1, s2, s3, s4, s5, s6, s7, s8, s9, qC, rC, sC, tC, uC, vC, wC, xC, yC, zC⟩
       go_simp
       with_reducible rfl
      rotate_left
      ·simp only [ps]
       rfl
      refine pv 3 30 #[true, true, true, true, false, false, true, false, true, false, false, false, false, false, false, false, false, false, false, false, false, false, false, false, false, false, false, false, false] l ?_
      refine pv 4 31 #[true, true, true, true, true, false, true, false, true, false, false, false, false, false, false, false, false, false, false, false, false, false, false, false, false, false, false, false, false] l ?_
      refine BI (i := 5) (N := some 32) (v := ?_) (a' := ?_) #[true, true, true, true, true, true, true, false, true, false, false, false, false, false, false, false, false, false, false, false, false, false, false, false, false, false, false, false, false] rfl rfl (Ad l.out pC.out (by kernel_rfl)) (fun _ _ _ h => h) (Or.inl ⟨by rfl, ?_⟩) p ?_ ?_
      rotate_left
      ·rintro w' ⟨s0, s1, s2, s3, s4, s5, s6, s7, s8, s9, qC, rC, sC, tC, uC, vC, wC, xC, yC, zC⟩
       go_simp
       with_reducible rfl
      rotate_left
      ·simp only [ps]
       rfl
      refine BI (i := 7) (N := some 34) (v := ?_) (a' := ?_) (tf 9 20) rfl rfl (Ad l.out pC.out (by kernel_rfl)) (fun _ _ _ h => h) (Or.inl ⟨by rfl, ?_⟩) p ?_ ?_
      rotate_left
      ·rintro w' ⟨s0, s1, s2, s3, s4, s5, s6, s7, s8, s9, qC, rC, sC, tC, uC, vC, wC, xC, yC, zC⟩
       go_simp
       with_reducible rfl
      rotate_left
      ·simp only [ps]
       rfl
      refine pv 9 36 (tf 10 19) l ?_
      refine pv 10 37 (tf 11 18) l ?_
      refine BI (i := 11) (N := some 38) (v := ?_) (a' := ?_) (tf 12 17) rfl rfl (Ad l.out pC.out (by kernel_rfl)) (fun _ _ _ h => h) (Or.inl ⟨by rfl, ?_⟩) p ?_ ?_
      rotate_left
      ·rintro w' ⟨s0, s1, s2, s3, s4, s5, s6, s7, s8, s9, qC, rC, sC, tC, uC, vC, wC, xC, yC, zC⟩
       go_simp
       with_reducible rfl
      rotate_left
      ·simp only [ps]
       rfl
      refine pv 12 39 (tf 13 16) l ?_
      refine pv 13 40 (tf 14 15) l ?_
      refine pw 14 41 (tf 15 14) l ?_
      refine pw 15 42 (tf 16 13) l ?_
      refine pw 16 43 (tf 17 12) l ?_
      refine pw 17 44 (tf 18 11) l ?_
      refine pw 18 45 (tf 19 10) l ?_
      refine pw 19 46 (tf 20 9) l ?_
      refine pw 20 47 (tf 21 8) l ?_
      refine pw 21 48 (tf 22 7) l ?_
      refine pw 22 49 (tf 23 6) l ?_
      refine pw 23 50 (tf 24 5) l ?_
      refine pw 24 51 (tf 25 4) l ?_
      refine pw 25 52 (tf 26 3) l ?_
      refine pw 26 53 (tf 27 2) l ?_
      refine pw 27 54 (tf 28 1) l ?_
      refine pv 28 55 (tf 29 0) l ?_
      refine Di (Co l.out (by kernel_rfl)) ?_
      try go_wp2
      go_ret
      exact ⟨rfl, be2 j Y qB⟩
     replace H := bS H; obtain ⟨fJ, gI, H⟩ := H
     replace H := iB' H; obtain ⟨rfl, H⟩ | ⟨rfl, H⟩ := H
     ·obtain rfl := sI H
      try go_wp2
      have wE := mk0 (Aa b.out)
      have xE := mk0 (Aa c.out)
      have yE := mk0 (Ag j.out)
      clear b; clear c; clear j; have b := wE; have c := xE; have j := yE; clear wE xE yE
      have fE : 0 ≤ (a : Int) := od
      have hE : a < (m.length : Int) := od
      obtain ⟨d, sB, xB, tB, yB, pG, y, z, B, q, s, kB, fB, lB, gB⟩ := Cx rF.out a fE hE
      have fC := s; have eC := q; have dC := B; have cC := z; have bC := y; cases pG
      replace y := AO j.out y
      replace z := AO j.out z
      replace B := AO j.out B
      replace q := AO j.out q
      replace s := AO j.out s
      have eD := mk0 fB; have lG := mk0 kB; clear fB kB; have fD := mk0 gB; have mG := mk0 lB; clear gB lB; replace fE := eq_true fE; replace hE := eq_true hE
      have gE : 0 ≤ (a : Int) := od
      have jE : a < (o.length : Int) := od
      obtain ⟨g, uB, zB, wB, aC, qG, D, G, I, u, x, mB, hB, oB, jB⟩ := Cx sF.out a gE jE
      have kC := x; have jC := u; have iC := I; have hC := G; have gC := D; cases qG
      replace D := AO j.out D
      replace G := AO j.out G
      replace I := AO j.out I
      replace u := AO j.out u
      replace x := AO j.out x
      have gD := mk0 hB; have nG := mk0 mB; clear hB mB; have hD := mk0 jB; have oG := mk0 oB; clear jB oB; replace gE := eq_true gE; replace jE := eq_true jE
      have tF : 0 ≤ (a : Int) := od
      have wF : a < (m.length : Int) := od
      obtain ⟨sG, rH, vH, sH, wH, dH, Z, aB, bB, O, T, rD, nD, sD, oD⟩ := Cx rF.out a tF wF
      have zD := T; have yD := O; have xD := bB; have wD := aB; have vD := Z
      obtain rfl : d = sG := (by injection dH)
      replace Z := AO j.out Z
      replace aB := AO j.out aB
      replace bB := AO j.out bB
      replace O := AO j.out O
      replace T := AO j.out T
      have jD := mk0 nD; have mF := mk0 rD; clear nD rD; have kD := mk0 oD; have oF := mk0 sD; clear oD sD; replace tF := eq_true tF; replace wF := eq_true wF
      have X := Option.some.inj (q.symm.trans O)
      injection X with X en_ ec_
      subst X; subst ec_; clear en_
      have X := Option.some.inj (s.symm.trans T)
      injection X with X en_ ec_
      subst X; subst ec_; clear en_
      have uF : 0 ≤ (a : Int) := od
      have xF : a < (o.length : Int) := od
      obtain ⟨tG, tH, xH, uH, yH, eH, cB, dB, eB, U, W, tD, pD, uD, qD⟩ := Cx sF.out a uF xF
      have eE := W; have dE := U; have cE := eB; have bE := dB; have aE := cB
      obtain rfl : g = tG := (by injection eH)
      replace cB := AO j.out cB
      replace dB := AO j.out dB
      replace eB := AO j.out eB
      replace U := AO j.out U
      replace W := AO j.out W
      have lD := mk0 pD; have pF := mk0 tD; clear pD tD; have mD := mk0 qD; have qF := mk0 uD; clear qD uD; replace uF := eq_true uF; replace xF := eq_true xF
      have X := Option.some.inj (u.symm.trans U)
      injection X with X en_ ec_
      subst X; subst ec_; clear en_
      have X := Option.some.inj (x.symm.trans W)
      injection X with X en_ ec_
      subst X; subst ec_; clear en_
      refine Cs (n := 29) (S := fun w' => w'.cell? ⟨J, 0, none⟩ = some (.int .i64 aD) ∧ w'.cell? ⟨J, 1, none⟩ = some (.int .i64 bD) ∧ w'.cell? ⟨J, 2, none⟩ = some (.slice zE lC.length eF) ∧ w'.cell? ⟨J, 3, none⟩ = some (.slice aF mC.length fF) ∧ w'.cell? ⟨J, 4, none⟩ = some (.slice (some d) m.length gF) ∧ w'.cell? ⟨L, 0, none⟩ = some (.int .i64 cD) ∧ w'.cell? ⟨L, 1, none⟩ = some (.int .i64 dD) ∧ w'.cell? ⟨L, 2, none⟩ = some (.slice cF nC.length hF) ∧ w'.cell? ⟨L, 3, none⟩ = some (.slice dF oC.length jF) ∧ w'.cell? ⟨L, 4, none⟩ = some (.slice (some g) o.length lF) ∧ w'.cell? (d.add ((a).toNat * 5)) = some (.int .i64 ((AA m a).f0)) ∧ w'.cell? ⟨(d.add ((a).toNat * 5)).block, (d.add ((a).toNat * 5)).off + 1, none⟩ = some (.int .i64 ((AA m a).f1.f0)) ∧ w'.cell? ⟨(d.add ((a).toNat * 5)).block, (d.add ((a).toNat * 5)).off + 2, none⟩ = some (.int .i64 ((AA m a).f1.f1)) ∧ w'.cell? ⟨(d.add ((a).toNat * 5)).block, (d.add ((a).toNat * 5)).off + 3, none⟩ = some (.slice sB ((AA m a).f1.f2).length xB) ∧ w'.cell? ⟨(d.add ((a).toNat * 5)).block, (d.add ((a).toNat * 5)).off + 4, none⟩ = some (.slice tB ((AA m a).f1.f3).length yB) ∧ w'.cell? (g.add ((a).toNat * 5)) = some (.int .i64 ((AA o a).f0)) ∧ w'.cell? ⟨(g.add ((a).toNat * 5)).block, (g.add ((a).toNat * 5)).off + 1, none⟩ = some (.int .i64 ((AA o a).f1.f0)) ∧ w'.cell? ⟨(g.add ((a).toNat * 5)).block, (g.add ((a).toNat * 5)).off + 2, none⟩ = some (.int .i64 ((AA o a).f1.f1)) ∧ w'.cell? ⟨(g.add ((a).toNat * 5)).block, (g.add ((a).toNat * 5)).off + 3, none⟩ = some (.slice uB ((AA o a).f1.f2).length zB) ∧ w'.cell? ⟨(g.add ((a).toNat * 5)).block, (g.add ((a).toNat * 5)).off + 4, none⟩ = some (.slice wB ((AA o a).f1.f3).length aC) ∧ w'.cell? (d.add ((a).toNat * 5)) = some (.int .i64 ((AA m a).f0)) ∧ w'.cell? ⟨(d.add ((a).toNat * 5)).block, (d.add ((a).toNat * 5)).off + 1, none⟩ = some (.int .i64 ((AA m a).f1.f0)) ∧ w'.cell? ⟨(d.add ((a).toNat * 5)).block, (d.add ((a).toNat * 5)).off + 2, none⟩ = some (.int .i64 ((AA m a).f1.f1)) ∧ w'.cell? ⟨(d.add ((a).toNat * 5)).block, (d.add ((a).toNat * 5)).off + 3, none⟩ = some (.slice sB ((AA m a).f1.f2).length xB) ∧ w'.cell? ⟨(d.add ((a).toNat * 5)).block, (d.add ((a).toNat * 5)).off + 4, none⟩ = some (.slice tB ((AA m a).f1.f3).length yB) ∧ w'.cell? (g.add ((a).toNat * 5)) = some (.int .i64 ((AA o a).f0)) ∧ w'.cell? ⟨(g.add ((a).toNat * 5)).block, (g.add ((a).toNat * 5)).off + 1, none⟩ = some (.int .i64 ((AA o a).f1.f0)) ∧ w'.cell? ⟨(g.add ((a).toNat * 5)).block, (g.add ((a).toNat * 5)).off + 2, none⟩ = some (.int .i64 ((AA o a).f1.f1)) ∧ w'.cell? ⟨(g.add ((a).toNat * 5)).block, (g.add ((a).toNat * 5)).off + 3, none⟩ = some (.slice uB ((AA o a).f1.f2).length zB) ∧ w'.cell? ⟨(g.add ((a).toNat * 5)).block, (g.add ((a).toNat * 5)).off + 4, none⟩ = some (.slice wB ((AA o a).f1.f3).length aC)) (ds := []) (tf 0 29) (by kernel_rfl) rfl rfl ⟨bc b 0, bc b 1, bc b 2, bc b 3, bc b 4, bc c 0, bc c 1, bc c 2, bc c 3, bc c 4, (AO j.out bC), (AO j.out cC), (AO j.out dC), (AO j.out eC), (AO j.out fC), (AO j.out gC), (AO j.out hC), (AO j.out iC), (AO j.out jC), (AO j.out kC), (AO j.out vD), (AO j.out wD), (AO j.out xD), (AO j.out yD), (AO j.out zD), (AO j.out aE), (AO j.out bE), (AO j.out cE), (AO j.out dE), (AO j.out eE)⟩ (fun p => ?_); refine Bq CK.Ia CK.F3 (fun l pC => ?_)
      generalize wr.drew = rJ at b c j eD fD gD hD jD kD lD mD y z B q s D G I u x Z aB bB O T cB dB eB U W p ⊢
      refine pv 0 27 (tf 1 28) l ?_
      refine pv 2 29 #[true, false, true, false, false, false, false, false, false, false, false, false, false, false, false, false, false, false, false, false, false, false, false, false, false, false, false, false, false] l ?_
      refine pv 6 33 #[true, false, true, false, false, false, true, false, false, false, false, false, false, false, false, false, false, false, false, false, false, false, false, false, false, false, false, false, false] l ?_
      refine pv 8 35 #[true, false, true, false, false, false, true, false, true, false, false, false, false, false, false, false, false, false, false, false, false, false, false, false, false, false, false, false, false] l ?_
      refine BI (i := 1) (N := some 28) (v := ?_) (a' := ?_) #[true, true, true, false, false, false, true, false, true, false, false, false, false, false, false, false, false, false, false, false, false, false, false, false, false, false, false, false, false] rfl rfl (Ad l.out pC.out (by kernel_rfl)) (fun _ _ _ h => h) (Or.inl ⟨by rfl, ?_⟩) p ?_ ?_
      rotate_left
      ·rintro w' ⟨s0, s1, s2, s3, s4, s5, s6, s7, s8, s9, qC, rC, sC, tC, uC, vC, wC, xC, yC, zC, mE, nE, oE, pE, qE, rE, sE, tE, uE, vE⟩
       go_simp
       with_reducible rfl
      rotate_left
      ·simp only [ps]
       rfl
      refine pv 3 30 #[true, true, true, true, false, false, true, false, true, false, false, false, false, false, false, false, false, false, false, false, false, false, false, false, false, false, false, false, false] l ?_
      refine pv 4 31 #[true, true, true, true, true, false, true, false, true, false, false, false, false, false, false, false, false, false, false, false, false, false, false, false, false, false, false, false, false] l ?_
      refine BI (i := 5) (N := some 32) (v := ?_) (a' := ?_) #[true, true, true, true, true, true, true, false, true, false, false, false, false, false, false, false, false, false, false, false, false, false, false, false, false, false, false, false, false] rfl rfl (Ad l.out pC.out (by kernel_rfl)) (fun _ _ _ h => h) (Or.inl ⟨by rfl, ?_⟩) p ?_ ?_
      rotate_left
      ·rintro w' ⟨s0, s1, s2, s3, s4, s5, s6, s7, s8, s9, qC, rC, sC, tC, uC, vC, wC, xC, yC, zC, mE, nE, oE, pE, qE, rE, sE, tE, uE, vE⟩
       go_simp
       with_reducible rfl
      rotate_left
      ·simp only [ps]
       rfl
      refine BI (i := 7) (N := some 34) (v := ?_) (a' := ?_) (tf 9 20) rfl rfl (Ad l.out pC.out (by kernel_rfl)) (fun _ _ _ h => h) (Or.inl ⟨by rfl, ?_⟩) p ?_ ?_
      rotate_left
      ·rintro w' ⟨s0, s1, s2, s3, s4, s5, s6, s7, s8, s9, qC, rC, sC, tC, uC, vC, wC, xC, yC, zC, mE, nE, oE, pE, qE, rE, sE, tE, uE, vE⟩
       go_simp
       with_reducible rfl
      rotate_left
      ·simp only [ps]
       rfl
      refine pv 9 36 (tf 10 19) l ?_
      refine pv 10 37 (tf 11 18) l ?_
      refine BI (i := 11) (N := some 38) (v := ?_) (a' := ?_) (tf 12 17) rfl rfl (Ad l.out pC.out (by kernel_rfl)) (fun _ _ _ h => h) (Or.inl ⟨by rfl, ?_⟩) p ?_ ?_
      rotate_left
      ·rintro w' ⟨s0, s1, s2, s3, s4, s5, s6, s7, s8, s9, qC, rC, sC, tC, uC, vC, wC, xC, yC, zC, mE, nE, oE, pE, qE, rE, sE, tE, uE, vE⟩
       go_simp
       with_reducible rfl
      rotate_left
      ·simp only [ps]
       rfl
      refine pv 12 39 (tf 13 16) l ?_
      refine pv 13 40 (tf 14 15) l ?_
      refine pv 14 41 (tf 15 14) l ?_
      refine pv 16 43 #[true, true, true, true, true, true, true, true, true, true, true, true, true, true, true, false, true, false, false, false, false, false, false, false, false, false, false, false, false] l ?_
      refine pv 20 47 #[true, true, true, true, true, true, true, true, true, true, true, true, true, true, true, false, true, false, false, false, true, false, false, false, false, false, false, false, false] l ?_
      refine pv 22 49 #[true, true, true, true, true, true, true, true, true, true, true, true, true, true, true, false, true, false, false, false, true, false, true, false, false, false, false, false, false] l ?_
      refine BI (i := 15) (N := some 42) (v := ?_) (a' := ?_) #[true, true, true, true, true, true, true, true, true, true, true, true, true, true, true, true, true, false, false, false, true, false, true, false, false, false, false, false, false] rfl rfl (Ad l.out pC.out (by kernel_rfl)) (fun _ _ _ h => h) (Or.inl ⟨by rfl, ?_⟩) p ?_ ?_
      rotate_left
      ·rintro w' ⟨s0, s1, s2, s3, s4, s5, s6, s7, s8, s9, qC, rC, sC, tC, uC, vC, wC, xC, yC, zC, mE, nE, oE, pE, qE, rE, sE, tE, uE, vE⟩
       go_simp
       with_reducible rfl
      rotate_left
      ·simp only [ps]
       rfl
      refine pv 17 44 #[true, true, true, true, true, true, true, true, true, true, true, true, true, true, true, true, true, true, false, false, true, false, true, false, false, false, false, false, false] l ?_
      refine pv 18 45 #[true, true, true, true, true, true, true, true, true, true, true, true, true, true, true, true, true, true, true, false, true, false, true, false, false, false, false, false, false] l ?_
      refine BI (i := 19) (N := some 46) (v := ?_) (a' := ?_) #[true, true, true, true, true, true, true, true, true, true, true, true, true, true, true, true, true, true, true, true, true, false, true, false, false, false, false, false, false] rfl rfl (Ad l.out pC.out (by kernel_rfl)) (fun _ _ _ h => h) (Or.inl ⟨by rfl, ?_⟩) p ?_ ?_
      rotate_left
      ·rintro w' ⟨s0, s1, s2, s3, s4, s5, s6, s7, s8, s9, qC, rC, sC, tC, uC, vC, wC, xC, yC, zC, mE, nE, oE, pE, qE, rE, sE, tE, uE, vE⟩
       go_simp
       with_reducible rfl
      rotate_left
      ·simp only [ps]
       rfl
      refine BI (i := 21) (N := some 48) (v := ?_) (a' := ?_) (tf 23 6) rfl rfl (Ad l.out pC.out (by kernel_rfl)) (fun _ _ _ h => h) (Or.inl ⟨by rfl, ?_⟩) p ?_ ?_
      rotate_left
      ·rintro w' ⟨s0, s1, s2, s3, s4, s5, s6, s7, s8, s9, qC, rC, sC, tC, uC, vC, wC, xC, yC, zC, mE, nE, oE, pE, qE, rE, sE, tE, uE, vE⟩
       go_simp
       with_reducible rfl
      rotate_left
      ·simp only [ps]
       rfl
      refine pv 23 50 (tf 24 5) l ?_
      refine pv 24 51 (tf 25 4) l ?_
      refine BI (i := 25) (N := some 52) (v := ?_) (a' := ?_) (tf 26 3) rfl rfl (Ad l.out pC.out (by kernel_rfl)) (fun _ _ _ h => h) (Or.inl ⟨by rfl, ?_⟩) p ?_ ?_
      rotate_left
      ·rintro w' ⟨s0, s1, s2, s3, s4, s5, s6, s7, s8, s9, qC, rC, sC, tC, uC, vC, wC, xC, yC, zC, mE, nE, oE, pE, qE, rE, sE, tE, uE, vE⟩
       go_simp
       with_reducible rfl
      rotate_left
      ·simp only [ps]
       rfl
      refine C9 (i := 26) (N := some 53) (tf 27 2) rfl rfl (Bp l.out (by kernel_rfl)) (by decide) (fun K hK => ?_)
      refine Ca Try.func32 (by kernel_rfl) rfl #[.agg #[.int .i64 ((AA m a).f1.f0), .int .i64 ((AA m a).f1.f1), .slice sB ((AA m a).f1.f2).length xB, .slice tB ((AA m a).f1.f3).length yB], .agg #[.int .i64 ((AA o a).f1.f0), .int .i64 ((AA o a).f1.f1), .slice uB ((AA o a).f1.f2).length zB, .slice wB ((AA o a).f1.f3).length aC]] (by rfl) rfl rfl (by (try simp only [List.map_toArray, List.map_cons, List.map_nil]); first | done | rfl | (simp only [List.length_drop, List.length_take]; rfl)) ?_
      with_reducible refine (Bd.calls k2 ((AA m a).f1.f0) ((AA m a).f1.f1) _ _ ((AA m a).f1.f2) _ _ ((AA m a).f1.f3) ((AA o a).f1.f0) ((AA o a).f1.f1) _ _ ((AA o a).f1.f2) _ _ ((AA o a).f1.f3) false _ ?side1 ?side2 ?side3 ?side4 ?side5 ?side6 ?side7 ?side8 gI.out).mono ?_
      (case side1 => exact cu jD j)
      (case side2 => exact mF.out)
      (case side3 => exact cu kD j)
      (case side4 => exact oF.out)
      (case side5 => exact cu lD j)
      (case side6 => exact pF.out)
      (case side7 => exact cu mD j)
      (case side8 => exact qF.out)
      rintro e sJ ⟨rfl, hb⟩
      refine ⟨_, rfl, ?_⟩
      have wE := kb b hb
      have xE := kb c hb
      have yE := kh2 j Y qB hb
      clear b; clear c; clear j; have b := wE; have c := xE; have j := yE; clear wE xE yE
      try clear hb
      refine hK.out _ _ ⟨bc b 0, bc b 1, bc b 2, bc b 3, bc b 4, bc c 0, bc c 1, bc c 2, bc c 3, bc c 4, (AO j.out bC), (AO j.out cC), (AO j.out dC), (AO j.out eC), (AO j.out fC), (AO j.out gC), (AO j.out hC), (AO j.out iC), (AO j.out jC), (AO j.out kC), (AO j.out vD), (AO j.out wD), (AO j.out xD), (AO j.out yD), (AO j.out zD), (AO j.out aE), (AO j.out bE), (AO j.out cE), (AO j.out dE), (AO j.out eE)⟩ (fun p => ?_)
      clear hK K
      refine Bz (a' := ?_) ?_ ?_
      rotate_left
      ·show Act.put _ (some 53) _ = _
       simp only [ps]
       rfl
      refine pv 27 54 (tf 28 1) l ?_
      refine pv 28 55 (tf 29 0) l ?_
      refine Di (Co l.out (by kernel_rfl)) ?_
      try go_wp2
      go_ret
      exact ⟨rfl, be2 j Y qB⟩
     have H' := mk0 H
     clear H
     try go_wp2
     have wE := mk0 (Aa b.out)
     have xE := mk0 (Aa c.out)
     have yE := mk0 (Ag j.out)
     clear b; clear c; clear j; have b := wE; have c := xE; have j := yE; clear wE xE yE
     have fE : 0 ≤ (a : Int) := od
     have hE : a < (m.length : Int) := od
     obtain ⟨d, sB, xB, tB, yB, pG, y, z, B, q, s, kB, fB, lB, gB⟩ := Cx rF.out a fE hE
     have fC := s; have eC := q; have dC := B; have cC := z; have bC := y; cases pG
     replace y := AO j.out y
     replace z := AO j.out z
     replace B := AO j.out B
     replace q := AO j.out q
     replace s := AO j.out s
     have eD := mk0 fB; have lG := mk0 kB; clear fB kB; have fD := mk0 gB; have mG := mk0 lB; clear gB lB; replace fE := eq_true fE; replace hE := eq_true hE
     have gE : 0 ≤ (a : Int) := od
     have jE : a < (o.length : Int) := od
     obtain ⟨g, uB, zB, wB, aC, qG, D, G, I, u, x, mB, hB, oB, jB⟩ := Cx sF.out a gE jE
     have kC := x; have jC := u; have iC := I; have hC := G; have gC := D; cases qG
     replace D := AO j.out D
     replace G := AO j.out G
     replace I := AO j.out I
     replace u := AO j.out u
     replace x := AO j.out x
     have gD := mk0 hB; have nG := mk0 mB; clear hB mB; have hD := mk0 jB; have oG := mk0 oB; clear jB oB; replace gE := eq_true gE; replace jE := eq_true jE
     have tF : 0 ≤ (a : Int) := od
     have wF : a < (m.length : Int) := od
     obtain ⟨sG, rH, vH, sH, wH, dH, Z, aB, bB, O, T, rD, nD, sD, oD⟩ := Cx rF.out a tF wF
     have zD := T; have yD := O; have xD := bB; have wD := aB; have vD := Z
     obtain rfl : d = sG := (by injection dH)
     replace Z := AO j.out Z
     replace aB := AO j.out aB
     replace bB := AO j.out bB
     replace O := AO j.out O
     replace T := AO j.out T
     have jD := mk0 nD; have mF := mk0 rD; clear nD rD; have kD := mk0 oD; have oF := mk0 sD; clear oD sD; replace tF := eq_true tF; replace wF := eq_true wF
     have X := Option.some.inj (q.symm.trans O)
     injection X with X en_ ec_
     subst X; subst ec_; clear en_
     have X := Option.some.inj (s.symm.trans T)
     injection X with X en_ ec_
     subst X; subst ec_; clear en_
     have uF : 0 ≤ (a : Int) := od
     have xF : a < (o.length : Int) := od
     obtain ⟨tG, tH, xH, uH, yH, eH, cB, dB, eB, U, W, tD, pD, uD, qD⟩ := Cx sF.out a uF xF
     have eE := W; have dE := U; have cE := eB; have bE := dB; have aE := cB
     obtain rfl : g = tG := (by injection eH)
     replace cB := AO j.out cB
     replace dB := AO j.out dB
     replace eB := AO j.out eB
     replace U := AO j.out U
     replace W := AO j.out W
     have lD := mk0 pD; have pF := mk0 tD; clear pD tD; have mD := mk0 qD; have qF := mk0 uD; clear qD uD; replace uF := eq_true uF; replace xF := eq_true xF
     have X := Option.some.inj (u.symm.trans U)
     injection X with X en_ ec_
     subst X; subst ec_; clear en_
     have X := Option.some.inj (x.symm.trans W)
     injection X with X en_ ec_
     subst X; subst ec_; clear en_
     refine Cs (n := 29) (S := fun w' => w'.cell? ⟨J, 0, none⟩ = some (.int .i64 aD) ∧ w'.cell? ⟨J, 1, none⟩ = some (.int .i64 bD) ∧ w'.cell? ⟨J, 2, none⟩ = some (.slice zE lC.length eF) ∧ w'.cell? ⟨J, 3, none⟩ = some (.slice aF mC.length fF) ∧ w'.cell? ⟨J, 4, none⟩ = some (.slice (some d) m.length gF) ∧ w'.cell? ⟨L, 0, none⟩ = some (.int .i64 cD) ∧ w'.cell? ⟨L, 1, none⟩ = some (.int .i64 dD) ∧ w'.cell? ⟨L, 2, none⟩ = some (.slice cF nC.length hF) ∧ w'.cell? ⟨L, 3, none⟩ = some (.slice dF oC.length jF) ∧ w'.cell? ⟨L, 4, none⟩ = some (.slice (some g) o.length lF) ∧ w'.cell? (d.add ((a).toNat * 5)) = some (.int .i64 ((AA m a).f0)) ∧ w'.cell? ⟨(d.add ((a).toNat * 5)).block, (d.add ((a).toNat * 5)).off + 1, none⟩ = some (.int .i64 ((AA m a).f1.f0)) ∧ w'.cell? ⟨(d.add ((a).toNat * 5)).block, (d.add ((a).toNat * 5)).off + 2, none⟩ = some (.int .i64 ((AA m a).f1.f1)) ∧ w'.cell? ⟨(d.add ((a).toNat * 5)).block, (d.add ((a).toNat * 5)).off + 3, none⟩ = some (.slice sB ((AA m a).f1.f2).length xB) ∧ w'.cell? ⟨(d.add ((a).toNat * 5)).block, (d.add ((a).toNat * 5)).off + 4, none⟩ = some (.slice tB ((AA m a).f1.f3).length yB) ∧ w'.cell? (g.add ((a).toNat * 5)) = some (.int .i64 ((AA o a).f0)) ∧ w'.cell? ⟨(g.add ((a).toNat * 5)).block, (g.add ((a).toNat * 5)).off + 1, none⟩ = some (.int .i64 ((AA o a).f1.f0)) ∧ w'.cell? ⟨(g.add ((a).toNat * 5)).block, (g.add ((a).toNat * 5)).off + 2, none⟩ = some (.int .i64 ((AA o a).f1.f1)) ∧ w'.cell? ⟨(g.add ((a).toNat * 5)).block, (g.add ((a).toNat * 5)).off + 3, none⟩ = some (.slice uB ((AA o a).f1.f2).length zB) ∧ w'.cell? ⟨(g.add ((a).toNat * 5)).block, (g.add ((a).toNat * 5)).off + 4, none⟩ = some (.slice wB ((AA o a).f1.f3).length aC) ∧ w'.cell? (d.add ((a).toNat * 5)) = some (.int .i64 ((AA m a).f0)) ∧ w'.cell? ⟨(d.add ((a).toNat * 5)).block, (d.add ((a).toNat * 5)).off + 1, none⟩ = some (.int .i64 ((AA m a).f1.f0)) ∧ w'.cell? ⟨(d.add ((a).toNat * 5)).block, (d.add ((a).toNat * 5)).off + 2, none⟩ = some (.int .i64 ((AA m a).f1.f1)) ∧ w'.cell? ⟨(d.add ((a).toNat * 5)).block, (d.add ((a).toNat * 5)).off + 3, none⟩ = some (.slice sB ((AA m a).f1.f2).length xB) ∧ w'.cell? ⟨(d.add ((a).toNat * 5)).block, (d.add ((a).toNat * 5)).off + 4, none⟩ = some (.slice tB ((AA m a).f1.f3).length yB) ∧ w'.cell? (g.add ((a).toNat * 5)) = some (.int .i64 ((AA o a).f0)) ∧ w'.cell? ⟨(g.add ((a).toNat * 5)).block, (g.add ((a).toNat * 5)).off + 1, none⟩ = some (.int .i64 ((AA o a).f1.f0)) ∧ w'.cell? ⟨(g.add ((a).toNat * 5)).block, (g.add ((a).toNat * 5)).off + 2, none⟩ = some (.int .i64 ((AA o a).f1.f1)) ∧ w'.cell? ⟨(g.add ((a).toNat * 5)).block, (g.add ((a).toNat * 5)).off + 3, none⟩ = some (.slice uB ((AA o a).f1.f2).length zB) ∧ w'.cell? ⟨(g.add ((a).toNat * 5)).block, (g.add ((a).toNat * 5)).off + 4, none⟩ = some (.slice wB ((AA o a).f1.f3).length aC)) (ds := []) (tf 0 29) (by kernel_rfl) rfl rfl ⟨bc b 0, bc b 1, bc b 2, bc b 3, bc b 4, bc c 0, bc c 1, bc c 2, bc c 3, bc c 4, (AO j.out bC), (AO j.out cC), (AO j.out dC), (AO j.out eC), (AO j.out fC), (AO j.out gC), (AO j.out hC), (AO j.out iC), (AO j.out jC), (AO j.out kC), (AO j.out vD), (AO j.out wD), (AO j.out xD), (AO j.out yD), (AO j.out zD), (AO j.out aE), (AO j.out bE), (AO j.out cE), (AO j.out dE), (AO j.out eE)⟩ (fun p => ?_); refine Bq CK.Ia CK.F3 (fun l pC => ?_)
     generalize wr.drew = pJ at b c j eD fD gD hD jD kD lD mD y z B q s D G I u x Z aB bB O T cB dB eB U W p ⊢
     refine pv 0 27 (tf 1 28) l ?_
     refine pv 2 29 #[true, false, true, false, false, false, false, false, false, false, false, false, false, false, false, false, false, false, false, false, false, false, false, false, false, false, false, false, false] l ?_
     refine pv 6 33 #[true, false, true, false, false, false, true, false, false, false, false, false, false, false, false, false, false, false, false, false, false, false, false, false, false, false, false, false, false] l ?_
     refine pv 8 35 #[true, false, true, false, false, false, true, false, true, false, false, false, false, false, false, false, false, false, false, false, false, false, false, false, false, false, false, false, false] l ?_
     refine BI (i := 1) (N := some 28) (v := ?_) (a' := ?_) #[true, true, true, false, false, false, true, false, true, false, false, false, false, false, false, false, false, false, false, false, false, false, false, false, false, false, false, false, false] rfl rfl (Ad l.out pC.out (by kernel_rfl)) (fun _ _ _ h => h) (Or.inl ⟨by rfl, ?_⟩) p ?_ ?_
     rotate_left
     ·rintro w' ⟨s0, s1, s2, s3, s4, s5, s6, s7, s8, s9, qC, rC, sC, tC, uC, vC, wC, xC, yC, zC, mE, nE, oE, pE, qE, rE, sE, tE, uE, vE⟩
      go_simp
      with_reducible rfl
     rotate_left
     ·simp only [ps]
      rfl
     refine pv 3 30 #[true, true, true, true, false, false, true, false, true, false, false, false, false, false, false, false, false, false, false, false, false, false, false, false, false, false, false, false, false] l ?_
     refine pv 4 31 #[true, true, true, true, true, false, true, false, true, false, false, false, false, false, false, false, false, false, false, false, false, false, false, false, false, false, false, false, false] l ?_
     refine BI (i := 5) (N := some 32) (v := ?_) (a' := ?_) #[true, true, true, true, true, true, true, false, true, false, false, false, false, false, false, false, false, false, false, false, false, false, false, false, false, false, false, false, false] rfl rfl (Ad l.out pC.out (by kernel_rfl)) (fun _ _ _ h => h) (Or.inl ⟨by rfl, ?_⟩) p ?_ ?_
     rotate_left
     ·rintro w' ⟨s0, s1, s2, s3, s4, s5, s6, s7, s8, s9, qC, rC, sC, tC, uC, vC, wC, xC, yC, zC, mE, nE, oE, pE, qE, rE, sE, tE, uE, vE⟩
      go_simp
      with_reducible rfl
     rotate_left
     ·simp only [ps]
      rfl
     refine BI (i := 7) (N := some 34) (v := ?_) (a' := ?_) (tf 9 20) rfl rfl (Ad l.out pC.out (by kernel_rfl)) (fun _ _ _ h => h) (Or.inl ⟨by rfl, ?_⟩) p ?_ ?_
     rotate_left
     ·rintro w' ⟨s0, s1, s2, s3, s4, s5, s6, s7, s8, s9, qC, rC, sC, tC, uC, vC, wC, xC, yC, zC, mE, nE, oE, pE, qE, rE, sE, tE, uE, vE⟩
      go_simp
      with_reducible rfl
     rotate_left
     ·simp only [ps]
      rfl
     refine pv 9 36 (tf 10 19) l ?_
     refine pv 10 37 (tf 11 18) l ?_
     refine BI (i := 11) (N := some 38) (v := ?_) (a' := ?_) (tf 12 17) rfl rfl (Ad l.out pC.out (by kernel_rfl)) (fun _ _ _ h => h) (Or.inl ⟨by rfl, ?_⟩) p ?_ ?_
     rotate_left
     ·rintro w' ⟨s0, s1, s2, s3, s4, s5, s6, s7, s8, s9, qC, rC, sC, tC, uC, vC, wC, xC, yC, zC, mE, nE, oE, pE, qE, rE, sE, tE, uE, vE⟩
      go_simp
      with_reducible rfl
     rotate_left
     ·simp only [ps]
      rfl
     refine pv 12 39 (tf 13 16) l ?_
     refine pv 13 40 (tf 14 15) l ?_
     refine pv 14 41 (tf 15 14) l ?_
     refine pv 16 43 #[true, true, true, true, true, true, true, true, true, true, true, true, true, true, true, false, true, false, false, false, false, false, false, false, false, false, false, false, false] l ?_
     refine pv 20 47 #[true, true, true, true, true, true, true, true, true, true, true, true, true, true, true, false, true, false, false, false, true, false, false, false, false, false, false, false, false] l ?_
     refine pv 22 49 #[true, true, true, true, true, true, true, true, true, true, true, true, true, true, true, false, true, false, false, false, true, false, true, false, false, false, false, false, false] l ?_
     refine BI (i := 15) (N := some 42) (v := ?_) (a' := ?_) #[true, true, true, true, true, true, true, true, true, true, true, true, true, true, true, true, true, false, false, false, true, false, true, false, false, false, false, false, false] rfl rfl (Ad l.out pC.out (by kernel_rfl)) (fun _ _ _ h => h) (Or.inl ⟨by rfl, ?_⟩) p ?_ ?_
     rotate_left
     ·rintro w' ⟨s0, s1, s2, s3, s4, s5, s6, s7, s8, s9, qC, rC, sC, tC, uC, vC, wC, xC, yC, zC, mE, nE, oE, pE, qE, rE, sE, tE, uE, vE⟩
      go_simp
      with_reducible rfl
     rotate_left
     ·simp only [ps]
      rfl
     refine pv 17 44 #[true, true, true, true, true, true, true, true, true, true, true, true, true, true, true, true, true, true, false, false, true, false, true, false, false, false, false, false, false] l ?_
     refine pv 18 45 #[true, true, true, true, true, true, true, true, true, true, true, true, true, true, true, true, true, true, true, false, true, false, true, false, false, false, false, false, false] l ?_
     refine BI (i := 19) (N := some 46) (v := ?_) (a' := ?_) #[true, true, true, true, true, true, true, true, true, true, true, true, true, true, true, true, true, true, true, true, true, false, true, false, false, false, false, false, false] rfl rfl (Ad l.out pC.out (by kernel_rfl)) (fun _ _ _ h => h) (Or.inl ⟨by rfl, ?_⟩) p ?_ ?_
     rotate_left
     ·rintro w' ⟨s0, s1, s2, s3, s4, s5, s6, s7, s8, s9, qC, rC, sC, tC, uC, vC, wC, xC, yC, zC, mE, nE, oE, pE, qE, rE, sE, tE, uE, vE⟩
      go_simp
      with_reducible rfl
     rotate_left
     ·simp only [ps]
      rfl
     refine BI (i := 21) (N := some 48) (v := ?_) (a' := ?_) (tf 23 6) rfl rfl (Ad l.out pC.out (by kernel_rfl)) (fun _ _ _ h => h) (Or.inl ⟨by rfl, ?_⟩) p ?_ ?_
     rotate_left
     ·rintro w' ⟨s0, s1, s2, s3, s4, s5, s6, s7, s8, s9, qC, rC, sC, tC, uC, vC, wC, xC, yC, zC, mE, nE, oE, pE, qE, rE, sE, tE, uE, vE⟩
      go_simp
      with_reducible rfl
     rotate_left
     ·simp only [ps]
      rfl
     refine pv 23 50 (tf 24 5) l ?_
     refine pv 24 51 (tf 25 4) l ?_
     refine BI (i := 25) (N := some 52) (v := ?_) (a' := ?_) (tf 26 3) rfl rfl (Ad l.out pC.out (by kernel_rfl)) (fun _ _ _ h => h) (Or.inl ⟨by rfl, ?_⟩) p ?_ ?_
     rotate_left
     ·rintro w' ⟨s0, s1, s2, s3, s4, s5, s6, s7, s8, s9, qC, rC, sC, tC, uC, vC, wC, xC, yC, zC, mE, nE, oE, pE, qE, rE, sE, tE, uE, vE⟩
      go_simp
      with_reducible rfl
     rotate_left
     ·simp only [ps]
      rfl
     refine C9 (i := 26) (N := some 53) (tf 27 2) rfl rfl (Bp l.out (by kernel_rfl)) (by decide) (fun K hK => ?_)
     refine Ca Try.func32 (by kernel_rfl) rfl #[.agg #[.int .i64 ((AA m a).f1.f0), .int .i64 ((AA m a).f1.f1), .slice sB ((AA m a).f1.f2).length xB, .slice tB ((AA m a).f1.f3).length yB], .agg #[.int .i64 ((AA o a).f1.f0), .int .i64 ((AA o a).f1.f1), .slice uB ((AA o a).f1.f2).length zB, .slice wB ((AA o a).f1.f3).length aC]] (by rfl) rfl rfl (by (try simp only [List.map_toArray, List.map_cons, List.map_nil]); first | done | rfl | (simp only [List.length_drop, List.length_take]; rfl)) ?_
     with_reducible refine (Bd.calls k2 ((AA m a).f1.f0) ((AA m a).f1.f1) _ _ ((AA m a).f1.f2) _ _ ((AA m a).f1.f3) ((AA o a).f1.f0) ((AA o a).f1.f1) _ _ ((AA o a).f1.f2) _ _ ((AA o a).f1.f3) true _ ?side1 ?side2 ?side3 ?side4 ?side5 ?side6 ?side7 ?side8 gI.out).mono ?_
     (case side1 => exact cu jD j)
     (case side2 => exact mF.out)
     (case side3 => exact cu kD j)
     (case side4 => exact oF.out)
     (case side5 => exact cu lD j)
     (case side6 => exact pF.out)
     (case side7 => exact cu mD j)
     (case side8 => exact qF.out)
     rintro e qJ ⟨rfl, hb⟩
     refine ⟨_, rfl, ?_⟩
     have wE := kb b hb
     have xE := kb c hb
     have yE := kh2 j Y qB hb
     clear b; clear c; clear j; have b := wE; have c := xE; have j := yE; clear wE xE yE
     try clear hb
     refine hK.out _ _ ⟨bc b 0, bc b 1, bc b 2, bc b 3, bc b 4, bc c 0, bc c 1, bc c 2, bc c 3, bc c 4, (AO j.out bC), (AO j.out cC), (AO j.out dC), (AO j.out eC), (AO j.out fC), (AO j.out gC), (AO j.out hC), (AO j.out iC), (AO j.out jC), (AO j.out kC), (AO j.out vD), (AO j.out wD), (AO j.out xD), (AO j.out yD), (AO j.out zD), (AO j.out aE), (AO j.out bE), (AO j.out cE), (AO j.out dE), (AO j.out eE)⟩ (fun p => ?_)
     clear hK K
     refine Bz (a' := ?_) ?_ ?_
     rotate_left
     ·show Act.put _ (some 53) _ = _
      simp only [ps]
      rfl
     refine pv 27 54 (tf 28 1) l ?_
     refine pv 28 55 (tf 29 0) l ?_
     refine Di (Co l.out (by kernel_rfl)) ?_
     try go_wp2
     go_roundg k2
     case measure => have := hI.out; have := iI.out; omega
     case rel => exact ⟨(wrap64 (a + 1)), rfl, H', ⟨by have := hI.out; have := iI.out; omega⟩, ⟨bu b⟩, ⟨bu c⟩, ⟨be2 j Y qB⟩⟩
end Go.Proofs.Ytojankgmedccdaa.PGn
