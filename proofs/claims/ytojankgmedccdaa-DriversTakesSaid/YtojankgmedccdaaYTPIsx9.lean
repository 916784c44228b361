/- Lemmas for LawDriversTakes. -/
import Derived.Test.YtojankgmedccdaaYTPIsx8
namespace Go.Proofs.Ytojankgmedccdaa.PIs
open Go.RowKit Own PTy Hand YtojankgmedccdaaW.PrintWords YtojankgmedccdaaW.PrintLast YtojankgmedccdaaW.PrintMore
attribute [local go_sem] BN BO Be Bf Az BA BR BS
set_option linter.unusedVariables false
set_option linter.unusedSimpArgs false
mutual
def Ag.j0 : Nat → Bool → Int → Int → ByteArray → List ByteArray → List (S26) → Option (Bool)
 | 0, _, _, _, _, _, _ => none
 | k + 1, x3, b, c, e, d, a => if b = 1 then (Ag.j1 k x3 b (b == 1) b c e d a) else (if b = 2 then (Ag.j1 k x3 b (b == 2) b c e d a) else (Ag.j1 k x3 b (b == 3) b c e d a))
def Ag.j1 : Nat → Bool → Int → Bool → Int → Int → ByteArray → List ByteArray → List (S26) → Option (Bool)
 | 0, _, _, _, _, _, _, _, _ => none
 | k + 1, x3, r, w, b, c, e, d, a => if w = true then (if c = 0 then (if x3 = true then (some ((a.length : Int) == 0)) else (some false)) else (some false)) else (if r = 4 then (if c ≥ 1 then (if c ≤ 64 then (if x3 = true then (some ((a.length : Int) == 0)) else (some false)) else (some false)) else (some false)) else (if r = 6 then (if c ≥ 1 then (if c ≤ 64 then (if x3 = true then (if (a.length : Int) = 1 then (if 0 < (a.length : Int) then (if ((Aj a 0).f0) = 6 then (some false) else ((Ag.f k ((Aj a 0).f0) ((Aj a 0).f1) ((Aj a 0).f2) ((Aj a 0).f3) ((Aj a 0).f4)).bind fun s => (some s))) else (none)) else (some false)) else (some false)) else (some false)) else (some false)) else (if r = 5 then (if c = 0 then (if (a.length : Int) = 0 then ((Bt.f k e).bind fun u => (if u = true then (if (d.length : Int) < 1 then (Ag.j2 k true b c e d a) else (Ag.j2 k (decide ((d.length : Int) > 16)) b c e d a)) else (Ag.j2 k true b c e d a))) else (Ag.j2 k true b c e d a)) else (Ag.j2 k true b c e d a)) else (some false))))
def Ag.j2 : Nat → Bool → Int → Int → ByteArray → List ByteArray → List (S26) → Option (Bool)
 | 0, _, _, _, _, _, _ => none
 | k + 1, x115, b, c, e, d, a => if x115 = true then (some false) else (Ag.l0 k d (d.length : Int) 0 b c e d a)
def Ag.l0 : Nat → List ByteArray → Int → Int → Int → Int → ByteArray → List ByteArray → List (S26) → Option (Bool)
 | 0, _, _, _, _, _, _, _, _ => none
 | k + 1, h, i, g, b, c, e, d, a => if g < i then (if 0 ≤ g then (if g < (h.length : Int) then ((Dl.f k (D9 ByteArray.empty h g)).bind fun v => (if v = true then (Ag.l1 k (D9 ByteArray.empty h g) h i g g 0 b c e d a) else (some false))) else (none)) else (none)) else (some true)
def Ag.l1 : Nat → ByteArray → List ByteArray → Int → Int → Int → Int → Int → Int → ByteArray → List ByteArray → List (S26) → Option (Bool)
 | 0, _, _, _, _, _, _, _, _, _, _, _ => none
 | k + 1, x5, h, i, g, q, j, b, c, e, d, a => if j < q then (if 0 ≤ j then (if j < (d.length : Int) then (if (D9 ByteArray.empty d j).toList = x5.toList then (some false) else (Ag.l1 k x5 h i g q (wrap64 (j + 1)) b c e d a)) else (none)) else (none)) else (Ag.l0 k h i (wrap64 (g + 1)) b c e d a)
def Ag.f : Nat → Int → Int → ByteArray → List ByteArray → List (S26) → Option (Bool)
 | 0, _, _, _, _, _ => none
 | k + 1, n, o, l, m, p => if l.toList = ([] : List UInt8) then (Ag.j0 k ((m.length : Int) == 0) n o l m p) else (Ag.j0 k false n o l m p)
end
set_option maxHeartbeats 8000000 in
set_option maxRecDepth 100000 in
theorem Ag.calls (k : Nat) : ∀ (q : Int) (p : Int) (u : ByteArray) (Z : Option Addr) (W : Nat) (c : List ByteArray) (T : Option Addr) (X : Nat) (d : List (S26)) (r : Bool) (w : World) (kC : Kd.C Kd.string w Z c.length c) (iC : c.length ≤ W) (lC : Kd.C k26 w T d.length d) (jC : d.length ≤ X) (h : Ag.f k q p u c d = some r),
  Calls Try.prog 44 #[.agg #[.int .i64 q, .int .i64 p, .string u, .slice Z c.length W, .slice T d.length X]] w fun e w' => e = .returned (.bool r) ∧ Below w.heap.size w w' := by
 induction k using Nat.strongRecOn with
 | _ k ih =>
 intro q p u Z W c T X d r w kC iC lC jC h
 cases k with
 | zero => exact absurd h (by simp [Ag.f])
 | succ k =>
 simp only [Ag.f] at h
 have uF := Try.underlying26
 have oB := mk0 kC; have fF := mk0 iC; clear kC iC; have fC := mk0 lC; have gF := mk0 jC; clear lC jC
 have o := mk0 (Below.refl w.heap.size w)
 have H := h; unfold Ag.f at H
 clear h; have qD := mk0 H; clear H
 go_enter Try.func44, Try.ntmps44
 go_upto_region 1 with ((with_reducible refine AJ rfl (N := 1) rfl (cs := #[.int .i64 q, .int .i64 p, .string u, .slice Z c.length W, .slice T d.length X]) (t := 26) ?hr ?_); (case hr => first | (go_simp; done) | (go_simp; rfl)); intro dB hg w3 nD hb; have a := mk0 (nD); have b := bs (be o) hg; replace o := kh o hb; clear hb nD hg)
 (try simp only [Act.put, List.setIfInBounds_toArray, List.set_cons_zero, List.set_cons_succ])
 go_cut [3] (fun v3 wc => ∃ (kq : Nat) (oC : Bool), v3 = .bool oC ∧ Aside0 (Ag.j0 kq oC q p u c d = some r) ∧ Aside0 (kq ≤ k) ∧ Aside0 (wc.heap[dB]? = some (.cells #[.int .i64 q, .int .i64 p, .string u, (.slice Z c.length W), (.slice T d.length X)] 26 (0, 0))) ∧ Aside0 (Below w.heap.size w wc))
 case first =>
  have H := qD.out; clear qD
  replace H := iE' H; obtain ⟨c4, zB, uE, H⟩ | ⟨zB, uE, H⟩ := H
  ·(first | rw [zB] | (simp only [CO, Da]; rw [zB]) | skip)
   have U := mk0 H
   clear H
   have z6 := cells5 a.out
   go_wp2
   go_meet
   case rel => exact ⟨_, (false), rfl, U, ⟨by omega⟩, ⟨bu a⟩, ⟨be1 o b⟩⟩
  (first | rw [zB] | (simp only [CO, Da]; rw [zB]) | skip)
  have U := mk0 H
  clear H
  have z5 := cells5 a.out
  go_wp2
  go_meet
  case rel => exact ⟨_, (((c.length : Int) == 0)), rfl, U, ⟨by omega⟩, ⟨bu a⟩, ⟨be1 o b⟩⟩
 case rest =>
  clear qD
  obtain ⟨kq, oC, rfl, HA, Y, a, o⟩ := hcut
  cases kq with
  | zero => exact absurd HA.out (by simp [Ag.j0])
  | succ sF =>
   have H := HA.out; clear HA
   simp only [Ag.j0] at H
   have rD := mk0 H; clear H
   have z8 := cells5 a.out
   go_upto_if 18 with (fail)
   go_cut [18] (fun v18 wc => ∃ (kq : Nat) (mC : Bool), v18 = .bool mC ∧ Aside0 (Ag.j1 kq oC q mC q p u c d = some r) ∧ Aside0 (kq ≤ sF) ∧ Aside0 (wc.heap[dB]? = some (.cells #[.int .i64 q, .int .i64 p, .string u, (.slice Z c.length W), (.slice T d.length X)] 26 (0, 0))) ∧ Aside0 (Below w.heap.size w wc))
   case first =>
    have H := rD.out; clear rD
    replace H := iE H; obtain ⟨aC, vE, H⟩ | ⟨c9, aC, vE, H⟩ := H
    ·(first | rw [aC] | (simp only [CO, Da]; rw [aC]) | skip)
     have U := mk0 H
     clear H
     go_wp2
     go_meet
     case rel => exact ⟨_, ((q == 1)), (by first | rfl | (simp; done) | (simp [*]; done)), U, ⟨by have := Y.out; omega⟩, ⟨bu a⟩, ⟨be1 o b⟩⟩
    (first | rw [aC] | (simp only [CO, Da]; rw [aC]) | skip)
    replace H := iE' H; obtain ⟨bG, tD, uD, H⟩ | ⟨tD, uD, H⟩ := H
    ·have U := mk0 H
     clear H
     go_wp2
     go_meet
     case rel => exact ⟨_, ((q == 3)), rfl, U, ⟨by have := Y.out; omega⟩, ⟨bu a⟩, ⟨be1 o b⟩⟩
    have U := mk0 H
    clear H
    go_wp2
    go_meet
    case rel => exact ⟨_, ((q == 2)), (by first | rfl | (simp; done) | (simp [*]; done)), U, ⟨by have := Y.out; omega⟩, ⟨bu a⟩, ⟨be1 o b⟩⟩
   case rest =>
    clear rD
    obtain ⟨kq, mC, rfl, HA, kB, a, o⟩ := hcut
    cases kq with
    | zero => exact absurd HA.out (by simp [Ag.j1])
    | succ xE =>
     have H := HA.out; clear HA
     simp only [Ag.j1] at H
     replace H := iB H; obtain ⟨rfl, H⟩ | ⟨rfl, H⟩ := H
     ·replace H := iE' H; obtain ⟨c12, vD, wD, H⟩ | ⟨vD, wD, H⟩ := H
      ·obtain rfl := sI H
       have lG := cells5 a.out
       go_wp2
       go_ret
       exact ⟨rfl, be1 o b⟩
      replace H := iB H; obtain ⟨rfl, H⟩ | ⟨rfl, H⟩ := H
      ·obtain rfl := sI H
       have jG := cells5 a.out
       go_wp2
       go_ret
       exact ⟨rfl, be1 o b⟩
      obtain rfl := sI H
      have kG := cells5 a.out
      go_wp2
      go_ret
      exact ⟨rfl, be1 o b⟩
     replace H := iE H; obtain ⟨sB, tB, H⟩ | ⟨xD, sB, tB, H⟩ := H
     ·by_cases c18 : p ≥ 1
      rotate_left
      ·rw [if_neg c18] at H
       have yD : decide (1 ≤ p) = false := decide_eq_false c18; clear c18; obtain rfl := sI H
       have z24 := cells5 a.out
       go_wp2
       go_ret
       exact ⟨rfl, be1 o b⟩
      rw [if_pos c18] at H; have yD : decide (1 ≤ p) = true := decide_eq_true c18; clear c18
      replace H := iD' H; obtain ⟨-, zD, H⟩ | ⟨-, zD, H⟩ := H
      ·obtain rfl := sI H
       have z23 := cells5 a.out
       go_wp2
       go_ret
       exact ⟨rfl, be1 o b⟩
      replace H := iB H; obtain ⟨rfl, H⟩ | ⟨rfl, H⟩ := H
      ·obtain rfl := sI H
       have z21 := cells5 a.out
       go_wp2
       go_ret
       exact ⟨rfl, be1 o b⟩
      obtain rfl := sI H
      have z22 := cells5 a.out
      go_wp2
      go_ret
      exact ⟨rfl, be1 o b⟩
     replace H := iE H; obtain ⟨uB, wB, H⟩ | ⟨aE, uB, wB, H⟩ := H
     ·by_cases c26 : p ≥ 1
      rotate_left
      ·rw [if_neg c26] at H
       have bE : decide (1 ≤ p) = false := decide_eq_false c26; clear c26; obtain rfl := sI H
       have z39 := cells5 a.out
       go_wp2
       go_ret
       exact ⟨rfl, be1 o b⟩
      rw [if_pos c26] at H; have bE : decide (1 ≤ p) = true := decide_eq_true c26; clear c26
      replace H := iD' H; obtain ⟨-, cE, H⟩ | ⟨-, cE, H⟩ := H
      ·obtain rfl := sI H
       have z38 := cells5 a.out
       go_wp2
       go_ret
       exact ⟨rfl, be1 o b⟩
      replace H := iB' H; obtain ⟨rfl, H⟩ | ⟨rfl, H⟩ := H
      ·obtain rfl := sI H
       have z37 := cells5 a.out
       go_wp2
       go_ret
       exact ⟨rfl, be1 o b⟩
      replace H := iE' H; obtain ⟨cG, dE, eE, H⟩ | ⟨dE, eE, H⟩ := H
      ·obtain rfl := sI H
       have z36 := cells5 a.out
       go_wp2
       go_ret
       exact ⟨rfl, be1 o b⟩
      replace H := iN H; obtain ⟨hF, jF, H⟩ := H
      have lF : decide (0 < d.length) = true := decide_eq_true (by omega)
      clear hF
      replace H := iE H; obtain ⟨fE, gE, H⟩ | ⟨c31, fE, gE, H⟩ := H
      ·obtain rfl := sI H
       have z32 := cells5 a.out
       have eB : 0 ≤ (0 : Int) := (by omega)
       have gB : 0 < (d.length : Int) := od
       obtain ⟨yC, gD, lD, hD, mD, aD, j, l, m, g, i, D, z, G, B⟩ := FR fC.out 0 eB gB
       cases aD
       have sE : (0 < d.length) = True := eq_true (by omega)
       (try rw [show ((0 : Int)).toNat = 0 from rfl] at j)
       (try rw [show 0 * 5 = 0 from rfl] at j)
       (try rw [Addr.add_zero'] at j)
       (try rw [show ((0 : Int)).toNat = 0 from rfl] at l)
       (try rw [show 0 * 5 = 0 from rfl] at l)
       (try rw [Addr.add_zero'] at l)
       (try rw [show ((0 : Int)).toNat = 0 from rfl] at m)
       (try rw [show 0 * 5 = 0 from rfl] at m)
       (try rw [Addr.add_zero'] at m)
       (try rw [show ((0 : Int)).toNat = 0 from rfl] at g)
       (try rw [show 0 * 5 = 0 from rfl] at g)
       (try rw [Addr.add_zero'] at g)
       (try rw [show ((0 : Int)).toNat = 0 from rfl] at i)
       (try rw [show 0 * 5 = 0 from rfl] at i)
       (try rw [Addr.add_zero'] at i)
       replace j := AC o.out j
       replace l := AC o.out l
       replace m := AC o.out m
       replace g := AC o.out g
       replace i := AC o.out i
       have uC := mk0 z; have pC := mk0 D; clear z D; have vC := mk0 B; have qC := mk0 G; clear B G; replace eB := eq_true eB; replace gB := eq_true gB
       go_wp2
       go_ret
       exact ⟨rfl, be1 o b⟩
      replace H := bS H; obtain ⟨yE, eF, H⟩ := H; obtain rfl := sI H
      have z34 := cells5 a.out
      have eB : 0 ≤ (0 : Int) := (by omega)
      have gB : 0 < (d.length : Int) := od
      obtain ⟨yC, gD, lD, hD, mD, aD, j, l, m, g, i, D, z, G, B⟩ := FR fC.out 0 eB gB
      cases aD
      have sE : (0 < d.length) = True := eq_true (by omega)
      (try rw [show ((0 : Int)).toNat = 0 from rfl] at j)
      (try rw [show 0 * 5 = 0 from rfl] at j)
      (try rw [Addr.add_zero'] at j)
      (try rw [show ((0 : Int)).toNat = 0 from rfl] at l)
      (try rw [show 0 * 5 = 0 from rfl] at l)
      (try rw [Addr.add_zero'] at l)
      (try rw [show ((0 : Int)).toNat = 0 from rfl] at m)
      (try rw [show 0 * 5 = 0 from rfl] at m)
      (try rw [Addr.add_zero'] at m)
      (try rw [show ((0 : Int)).toNat = 0 from rfl] at g)
      (try rw [show 0 * 5 = 0 from rfl] at g)
      (try rw [Addr.add_zero'] at g)
      (try rw [show ((0 : Int)).toNat = 0 from rfl] at i)
      (try rw [show 0 * 5 = 0 from rfl] at i)
      (try rw [Addr.add_zero'] at i)
      replace j := AC o.out j
      replace l := AC o.out l
      replace m := AC o.out m
      replace g := AC o.out g
      replace i := AC o.out i
      have uC := mk0 z; have pC := mk0 D; clear z D; have vC := mk0 B; have qC := mk0 G; clear B G; replace eB := eq_true eB; replace gB := eq_true gB
      have eD : 0 ≤ (0 : Int) := (by omega)
      have fD : 0 < (d.length : Int) := od
      obtain ⟨sD, zE, cF, aF, dF, wE, I, J, L, v, x, dC, bC, eC, cC⟩ := FR fC.out 0 eD fD
      obtain rfl : yC = sD := (by injection wE)
      have tF : (0 < d.length) = True := eq_true (by omega)
      (try rw [show ((0 : Int)).toNat = 0 from rfl] at I)
      (try rw [show 0 * 5 = 0 from rfl] at I)
      (try rw [Addr.add_zero'] at I)
      (try rw [show ((0 : Int)).toNat = 0 from rfl] at J)
      (try rw [show 0 * 5 = 0 from rfl] at J)
      (try rw [Addr.add_zero'] at J)
      (try rw [show ((0 : Int)).toNat = 0 from rfl] at L)
      (try rw [show 0 * 5 = 0 from rfl] at L)
      (try rw [Addr.add_zero'] at L)
      (try rw [show ((0 : Int)).toNat = 0 from rfl] at v)
      (try rw [show 0 * 5 = 0 from rfl] at v)
      (try rw [Addr.add_zero'] at v)
      (try rw [show ((0 : Int)).toNat = 0 from rfl] at x)
      (try rw [show 0 * 5 = 0 from rfl] at x)
      (try rw [Addr.add_zero'] at x)
      replace I := AC o.out I
      replace J := AC o.out J
      replace L := AC o.out L
      replace v := AC o.out v
      replace x := AC o.out x
      have wC := mk0 bC; have rC := mk0 dC; clear bC dC; have xC := mk0 cC; have sC := mk0 eC; clear cC eC; replace eD := eq_true eD; replace fD := eq_true fD
      have hC := Option.some.inj (g.symm.trans v)
      injection hC with hC en_ ec_
      subst hC; subst ec_; clear en_
      have hC := Option.some.inj (i.symm.trans x)
      injection hC with hC en_ ec_
      subst hC; subst ec_; clear en_
      go_wp2_with (go_at_call 44; refine (ih xE (by have := Y.out; have := kB.out; omega) ((Aj d 0).f0) ((Aj d 0).f1) ((Aj d 0).f2) _ _ ((Aj d 0).f3) _ _ ((Aj d 0).f4) yE _ (cu wC o) rC.out (cu xC o) sC.out eF.out).mono ?_; rintro e gG ⟨rfl, hb⟩; replace a := kb a hb; replace o := kh1 o b hb)
      go_ret
      exact ⟨rfl, be1 o b⟩
     replace H := iE' H; obtain ⟨c40, xB, yB, H⟩ | ⟨xB, yB, H⟩ := H
     ·obtain rfl := sI H
      go_wp2
      go_ret
      exact ⟨rfl, be1 o b⟩
     have tC := mk0 H; clear H
     go_upto_region 12 with (fail)
     go_cut [115] (fun v115 wc => ∃ (kq : Nat) (jB : Bool), v115 = .bool jB ∧ Aside0 (Ag.j2 kq jB q p u c d = some r) ∧ Aside0 (kq ≤ xE) ∧ Aside0 (wc.heap[dB]? = some (.cells #[.int .i64 q, .int .i64 p, .string u, (.slice Z c.length W), (.slice T d.length X)] 26 (0, 0))) ∧ Aside0 (Below w.heap.size w wc))
     case first =>
      have H := tC.out; clear tC
      replace H := iE' H; obtain ⟨dG, cB, hE, H⟩ | ⟨cB, hE, H⟩ := H
      ·(first | rw [cB] | (simp only [CO, Da]; rw [cB]) | skip)
       have U := mk0 H
       clear H
       have z51 := cells5 a.out
       go_wp2
       go_meet
       case rel => exact ⟨_, (true), rfl, U, ⟨by have := Y.out; have := kB.out; first | omega | exact Nat.le_refl _⟩, ⟨bu a⟩, ⟨be1 o b⟩⟩
      (first | rw [cB] | (simp only [CO, Da]; rw [cB]) | skip)
      replace H := iE' H; obtain ⟨mF, jE, kE, H⟩ | ⟨jE, kE, H⟩ := H
      ·have oF : ¬ (d = []) := fun h_ => mF (by rw [h_]; rfl)
       have U := mk0 H
       clear H
       have z50 := cells5 a.out
       go_wp2
       go_meet
       case rel => exact ⟨_, (true), rfl, U, ⟨by have := Y.out; have := kB.out; first | omega | exact Nat.le_refl _⟩, ⟨bu a⟩, ⟨be1 o b⟩⟩
      replace H := bS H; obtain ⟨zF, pD, H⟩ := H
      replace H := iB' H; obtain ⟨rfl, H⟩ | ⟨rfl, H⟩ := H
      ·have U := mk0 H
       clear H
       have z49 := cells5 a.out
       go_wp2_with (go_at_call 65; refine (Bt.calls pD.out).mono ?_; rintro e w' ⟨rfl, ⟨nd, rfl⟩⟩)
       go_meet
       case rel => exact ⟨_, (true), rfl, U, ⟨by have := Y.out; have := kB.out; first | omega | exact Nat.le_refl _⟩, ⟨bu a⟩, ⟨be1 o b⟩⟩
      replace H := iD' H; obtain ⟨c46, lE, H⟩ | ⟨c46, lE, H⟩ := H
      ·have mE : decide (c.length < 1) = false := decide_eq_false (by omega); clear c46
       have U := mk0 H
       clear H
       have z48 := cells5 a.out
       go_wp2_with (go_at_call 65; refine (Bt.calls pD.out).mono ?_; rintro e w' ⟨rfl, ⟨nd, rfl⟩⟩)
       go_meet
       case rel => exact ⟨_, (decide ((c.length : Int) > 16)), rfl, U, ⟨by have := Y.out; have := kB.out; first | omega | exact Nat.le_refl _⟩, ⟨bu a⟩, ⟨be1 o b⟩⟩
      have mE : decide (c.length < 1) = true := decide_eq_true (by omega)
      clear c46
      have U := mk0 H
      clear H
      have z47 := cells5 a.out
      go_wp2_with (go_at_call 65; refine (Bt.calls pD.out).mono ?_; rintro e w' ⟨rfl, ⟨nd, rfl⟩⟩)
      go_meet
      case rel => exact ⟨_, (true), rfl, U, ⟨by have := Y.out; have := kB.out; first | omega | exact Nat.le_refl _⟩, ⟨bu a⟩, ⟨be1 o b⟩⟩
     case rest =>
      clear tC; try clear xD; try clear sB; try clear tB; try clear aE; try clear uB; try clear wB; try clear c40; try clear xB; try clear yB
      obtain ⟨kq, jB, rfl, HA, nC, a, o⟩ := hcut
      cases kq with
      | zero => exact absurd HA.out (by simp [Ag.j2])
      | succ oD =>
       have H := HA.out; clear HA
       simp only [Ag.j2] at H
       replace H := iB H; obtain ⟨rfl, H⟩ | ⟨rfl, H⟩ := H
       ·obtain rfl := sI H
        go_wp2
        go_ret
        exact ⟨rfl, be1 o b⟩
       have U := mk0 H
       clear H
       have z53 := cells5 a.out
       go_wp2
       go_loopg [119] oD (fun kq v119 w' => ∃ (n : Int), v119 = .int .i64 n ∧ Aside0 (Ag.l0 kq c (c.length : Int) n q p u c d = some r) ∧ Aside0 (kq ≤ oD) ∧ Aside0 (w'.heap[dB]? = some (.cells #[.int .i64 q, .int .i64 p, .string u, (.slice Z c.length W), (.slice T d.length X)] 26 (0, 0))) ∧ Aside0 (Below w.heap.size w w'))
       case atStart => exact ⟨(0), rfl, U, ⟨Nat.le_refl _⟩, ⟨bu a⟩, ⟨be1 o b⟩⟩
       case round =>
        clear U
        try clear xD; try clear sB; try clear tB; try clear aE; try clear uB; try clear wB; try clear c40; try clear xB; try clear yB
        obtain ⟨n, rfl, HA, jD, a, o⟩ := hrel
        cases gk with
        | zero => exact absurd HA.out (by simp [Ag.l0])
        | succ k4 =>
         have H := HA.out; clear HA
         simp only [Ag.l0] at H
         replace H := iD' H; obtain ⟨-, zC, H⟩ | ⟨-, zC, H⟩ := H
         ·obtain rfl := sI H
          go_wp2
          go_ret
          exact ⟨rfl, be1 o b⟩
         replace H := iN H; obtain ⟨-, nE, H⟩ := H
         replace H := iN H; obtain ⟨-, oE, H⟩ := H
         replace H := bS H; obtain ⟨aG, tE, H⟩ := H
         replace H := iB' H; obtain ⟨rfl, H⟩ | ⟨rfl, H⟩ := H
         ·obtain rfl := sI H
          have aB : 0 ≤ (n : Int) := od
          have bB : n < (c.length : Int) := od
          obtain ⟨qB, bD, y⟩ := Kd.Di oB.out n aB bB
          cases bD
          replace y := AC o.out y
          replace aB := eq_true aB; replace bB := eq_true bB
          go_wp2_with ((with_reducible refine AL (f := 66) rfl ?_); refine CV Try.func66 (Dl.calls tE.out) ?_; intro iG hb; replace a := kb a hb; replace o := kh1 o b hb)
          go_ret
          exact ⟨rfl, be1 o b⟩
         have U := mk0 H
         clear H
         have aB : 0 ≤ (n : Int) := od
         have bB : n < (c.length : Int) := od
         obtain ⟨qB, bD, y⟩ := Kd.Di oB.out n aB bB
         cases bD
         replace y := AC o.out y
         replace aB := eq_true aB; replace bB := eq_true bB
         go_wp2_with ((with_reducible refine AL (f := 66) rfl ?_); refine CV Try.func66 (Dl.calls tE.out) ?_; intro hG hb; replace a := kb a hb; replace o := kh1 o b hb)
         go_loopg [128] k4 (fun kq v128 w' => ∃ (s : Int), v128 = .int .i64 s ∧ Aside0 (Ag.l1 kq (D9 ByteArray.empty c n) c (c.length : Int) n n s q p u c d = some r) ∧ Aside0 (kq ≤ k4) ∧ Aside0 (w'.heap[dB]? = some (.cells #[.int .i64 q, .int .i64 p, .string u, (.slice (some qB) c.length W), (.slice T d.length X)] 26 (0, 0))) ∧ Aside0 (Below w.heap.size w w'))
         case atStart => exact ⟨(0), rfl, U, ⟨Nat.le_refl _⟩, ⟨bu a⟩, ⟨be1 o b⟩⟩
         case round =>
          clear U
          try clear xD; try clear sB; try clear tB; try clear aE; try clear uB; try clear wB; try clear c40; try clear xB; try clear yB; try clear zC; try clear nE; try clear oE; try clear y; try clear aB; try clear bB
          obtain ⟨s, rfl, HA, kD, a, o⟩ := hrel
          cases gk with
          | zero => exact absurd HA.out (by simp [Ag.l1])
          | succ k5 =>
           have H := HA.out; clear HA
           simp only [Ag.l1] at H
           replace H := iD' H; obtain ⟨-, pE, H⟩ | ⟨-, pE, H⟩ := H
           ·have U := mk0 H
            clear H
            go_wp2
            go_roundg k5
            case measure => have := Y.out; have := kB.out; have := nC.out; have := jD.out; have := kD.out; omega
            case rel => exact ⟨(wrap64 (n + 1)), rfl, U, ⟨by have := Y.out; have := kB.out; have := nC.out; have := jD.out; have := kD.out; omega⟩, ⟨bu a⟩, ⟨be1 o b⟩⟩
           replace H := iN H; obtain ⟨-, pF, H⟩ := H
           replace H := iN H; obtain ⟨-, qF, H⟩ := H
           replace H := iE H; obtain ⟨qE, rE, H⟩ | ⟨eG, qE, rE, H⟩ := H
           ·obtain rfl := sI H
            have z64 := cells5 a.out
            have fB : 0 ≤ (s : Int) := od
            have hB : s < (c.length : Int) := od
            obtain ⟨gC, cD, O⟩ := Kd.Di oB.out s fB hB
            obtain rfl : qB = gC := (by injection cD)
            replace O := AC o.out O
            replace fB := eq_true fB; replace hB := eq_true hB
            go_wp2
            go_ret
            exact ⟨rfl, be1 o b⟩
           have U := mk0 H
           clear H
           have z65 := cells5 a.out
           have fB : 0 ≤ (s : Int) := od
           have hB : s < (c.length : Int) := od
           obtain ⟨gC, cD, O⟩ := Kd.Di oB.out s fB hB
           obtain rfl : qB = gC := (by injection cD)
           replace O := AC o.out O
           replace fB := eq_true fB; replace hB := eq_true hB
           go_wp2
           go_roundg k5
           case measure => have := Y.out; have := kB.out; have := nC.out; have := jD.out; have := kD.out; omega
           case rel => exact ⟨(wrap64 (s + 1)), rfl, U, ⟨by have := Y.out; have := kB.out; have := nC.out; have := jD.out; have := kD.out; omega⟩, ⟨bu a⟩, ⟨be1 o b⟩⟩
end Go.Proofs.Ytojankgmedccdaa.PIs
