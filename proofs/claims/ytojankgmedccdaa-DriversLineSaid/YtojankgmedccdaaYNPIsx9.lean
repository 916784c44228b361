/- Lemmas. -/
import Derived.Test.YtojankgmedccdaaYNPIsx8
namespace Go.Proofs.Ytojankgmedccdaa.PIs
open Go.RowKit Own PTy Hand Wo
attribute [local go_sem] BS BU Bf Bg BC BD BX BZ
set_option linter.unusedVariables false
set_option linter.unusedSimpArgs false
mutual
def Ah.j0 : Nat → Bool → Int → Int → ByteArray → List ByteArray → List (S26) → Option (Bool)
 | 0, _, _, _, _, _, _ => none
 | k + 1, x3, b, c, e, d, a => if b = 1 then (Ah.j1 k x3 b (b == 1) b c e d a) else (if b = 2 then (Ah.j1 k x3 b (b == 2) b c e d a) else (Ah.j1 k x3 b (b == 3) b c e d a))
def Ah.j1 : Nat → Bool → Int → Bool → Int → Int → ByteArray → List ByteArray → List (S26) → Option (Bool)
 | 0, _, _, _, _, _, _, _, _ => none
 | k + 1, x3, r, w, b, c, e, d, a => if w = true then (if c = 0 then (if x3 = true then (some ((a.length : Int) == 0)) else (some false)) else (some false)) else (if r = 4 then (if c ≥ 1 then (if c ≤ 64 then (if x3 = true then (some ((a.length : Int) == 0)) else (some false)) else (some false)) else (some false)) else (if r = 6 then (if c ≥ 1 then (if c ≤ 64 then (if x3 = true then (if (a.length : Int) = 1 then (if 0 < (a.length : Int) then (if ((Al a 0).f0) = 6 then (some false) else ((Ah.f k ((Al a 0).f0) ((Al a 0).f1) ((Al a 0).f2) ((Al a 0).f3) ((Al a 0).f4)).bind fun s => (some s))) else (none)) else (some false)) else (some false)) else (some false)) else (some false)) else (if r = 5 then (if c = 0 then (if (a.length : Int) = 0 then ((CB.f k e).bind fun u => (if u = true then (if (d.length : Int) < 1 then (Ah.j2 k true b c e d a) else (Ah.j2 k (decide ((d.length : Int) > 16)) b c e d a)) else (Ah.j2 k true b c e d a))) else (Ah.j2 k true b c e d a)) else (Ah.j2 k true b c e d a)) else (some false))))
def Ah.j2 : Nat → Bool → Int → Int → ByteArray → List ByteArray → List (S26) → Option (Bool)
 | 0, _, _, _, _, _, _ => none
 | k + 1, x115, b, c, e, d, a => if x115 = true then (some false) else (Ah.l0 k d (d.length : Int) 0 b c e d a)
def Ah.l0 : Nat → List ByteArray → Int → Int → Int → Int → ByteArray → List ByteArray → List (S26) → Option (Bool)
 | 0, _, _, _, _, _, _, _, _ => none
 | k + 1, h, i, g, b, c, e, d, a => if g < i then (if 0 ≤ g then (if g < (h.length : Int) then ((Dp.f k (EI ByteArray.empty h g)).bind fun v => (if v = true then (Ah.l1 k (EI ByteArray.empty h g) h i g g 0 b c e d a) else (some false))) else (none)) else (none)) else (some true)
def Ah.l1 : Nat → ByteArray → List ByteArray → Int → Int → Int → Int → Int → Int → ByteArray → List ByteArray → List (S26) → Option (Bool)
 | 0, _, _, _, _, _, _, _, _, _, _, _ => none
 | k + 1, x5, h, i, g, q, j, b, c, e, d, a => if j < q then (if 0 ≤ j then (if j < (d.length : Int) then (if (EI ByteArray.empty d j).toList = x5.toList then (some false) else (Ah.l1 k x5 h i g q (wrap64 (j + 1)) b c e d a)) else (none)) else (none)) else (Ah.l0 k h i (wrap64 (g + 1)) b c e d a)
def Ah.f : Nat → Int → Int → ByteArray → List ByteArray → List (S26) → Option (Bool)
 | 0, _, _, _, _, _ => none
 | k + 1, n, o, l, m, p => if l.toList = ([] : List UInt8) then (Ah.j0 k ((m.length : Int) == 0) n o l m p) else (Ah.j0 k false n o l m p)
end
set_option maxHeartbeats 8000000 in
set_option maxRecDepth 100000 in
theorem Ah.calls (k : Nat) : ∀ (q : Int) (p : Int) (u : ByteArray) (Z : Option Addr) (W : Nat) (c : List ByteArray) (T : Option Addr) (X : Nat) (d : List (S26)) (r : Bool) (w : World) (lC : Kd.C Kd.string w Z c.length c) (jC : c.length ≤ W) (mC : Kd.C k26 w T d.length d) (kC : d.length ≤ X) (h : Ah.f k q p u c d = some r),
  Calls Try.prog 44 #[.agg #[.int .i64 q, .int .i64 p, .string u, .slice Z c.length W, .slice T d.length X]] w fun e w' => e = .returned (.bool r) ∧ Below w.heap.size w w' := by
 induction k using Nat.strongRecOn with
 | _ k ih =>
 intro q p u Z W c T X d r w lC jC mC kC h
 cases k with
 | zero => exact absurd h (by simp [Ah.f])
 | succ k =>
 simp only [Ah.f] at h
 have uF := Try.underlying26
 have qB := mk0 lC; have gF := mk0 jC; clear lC jC; have gC := mk0 mC; have hF := mk0 kC; clear mC kC
 have o := mk0 (Below.refl w.heap.size w)
 have H := h; unfold Ah.f at H
 clear h; have rD := mk0 H; clear H
 go_enter Try.func44, Try.ntmps44
 go_upto_region 1 with ((with_reducible refine AQ rfl (N := 1) rfl (cs := #[.int .i64 q, .int .i64 p, .string u, .slice Z c.length W, .slice T d.length X]) (t := 26) ?hr ?_); (case hr => first | (go_simp; done) | (go_simp; rfl)); intro dB hg w3 oD hb; have a := mk0 (oD); have b := bs (be o) hg; replace o := kh o hb; clear hb oD hg)
 (try simp only [Act.put, List.setIfInBounds_toArray, List.set_cons_zero, List.set_cons_succ])
 go_cut [3] (fun v3 wc => ∃ (kq : Nat) (pC : Bool), v3 = .bool pC ∧ Aside0 (Ah.j0 kq pC q p u c d = some r) ∧ Aside0 (kq ≤ k) ∧ Aside0 (bk wc dB 26 #[.int .i64 q, .int .i64 p, .string u, (.slice Z c.length W), (.slice T d.length X)]) ∧ Aside0 (Below w.heap.size w wc))
 case first =>
  have H := rD.out; clear rD; replace H := iE' H; obtain ⟨c4, aC, vE, H⟩ | ⟨aC, vE, H⟩ := H
  ·(first | rw [aC] | (simp only [Bw, DI]; rw [aC]) | skip); have U := mk0 H; clear H; have z6 := cells5 a.out; go_wp2; go_meet
   case rel => exact ⟨_, (false), rfl, U, ⟨by omega⟩, ⟨bu a⟩, ⟨be1 o b⟩⟩
  (first | rw [aC] | (simp only [Bw, DI]; rw [aC]) | skip); have U := mk0 H; clear H; have z5 := cells5 a.out; go_wp2; go_meet
  case rel => exact ⟨_, (((c.length : Int) == 0)), rfl, U, ⟨by omega⟩, ⟨bu a⟩, ⟨be1 o b⟩⟩
 case rest =>
  clear rD; obtain ⟨kq, pC, rfl, HA, Y, a, o⟩ := hcut; cases kq with
  | zero => exact absurd HA.out (by simp [Ah.j0])
  | succ sF =>
   have H := HA.out; clear HA; simp only [Ah.j0] at H; have sD := mk0 H; clear H; have z8 := cells5 a.out; go_upto_if 18 with (fail); go_cut [18] (fun v18 wc => ∃ (kq : Nat) (nC : Bool), v18 = .bool nC ∧ Aside0 (Ah.j1 kq pC q nC q p u c d = some r) ∧ Aside0 (kq ≤ sF) ∧ Aside0 (bk wc dB 26 #[.int .i64 q, .int .i64 p, .string u, (.slice Z c.length W), (.slice T d.length X)]) ∧ Aside0 (Below w.heap.size w wc))
   case first =>
    have H := sD.out; clear sD; replace H := iE H; obtain ⟨bC, wE, H⟩ | ⟨c9, bC, wE, H⟩ := H
    ·(first | rw [bC] | (simp only [Bw, DI]; rw [bC]) | skip); have U := mk0 H; clear H; go_wp2; go_meet
     case rel => exact ⟨_, ((q == 1)), (by first | rfl | (simp; done) | (simp [*]; done)), U, ⟨by have := Y.out; omega⟩, ⟨bu a⟩, ⟨be1 o b⟩⟩
    (first | rw [bC] | (simp only [Bw, DI]; rw [bC]) | skip); replace H := iE' H; obtain ⟨bG, uD, vD, H⟩ | ⟨uD, vD, H⟩ := H
    ·have U := mk0 H; clear H; go_wp2; go_meet
     case rel => exact ⟨_, ((q == 3)), rfl, U, ⟨by have := Y.out; omega⟩, ⟨bu a⟩, ⟨be1 o b⟩⟩
    have U := mk0 H; clear H; go_wp2; go_meet
    case rel => exact ⟨_, ((q == 2)), (by first | rfl | (simp; done) | (simp [*]; done)), U, ⟨by have := Y.out; omega⟩, ⟨bu a⟩, ⟨be1 o b⟩⟩
   case rest =>
    clear sD; obtain ⟨kq, nC, rfl, HA, kB, a, o⟩ := hcut; cases kq with
    | zero => exact absurd HA.out (by simp [Ah.j1])
    | succ yE =>
     have H := HA.out; clear HA; simp only [Ah.j1] at H; replace H := iB H; obtain ⟨rfl, H⟩ | ⟨rfl, H⟩ := H
     ·replace H := iE' H; obtain ⟨c12, wD, xD, H⟩ | ⟨wD, xD, H⟩ := H
      ·obtain rfl := sI H; have lG := cells5 a.out; go_wp2; go_ret; exact ⟨rfl, be1 o b⟩
      replace H := iB H; obtain ⟨rfl, H⟩ | ⟨rfl, H⟩ := H
      ·obtain rfl := sI H; have jG := cells5 a.out; go_wp2; go_ret; exact ⟨rfl, be1 o b⟩
      obtain rfl := sI H; have kG := cells5 a.out; go_wp2; go_ret; exact ⟨rfl, be1 o b⟩
     replace H := iE H; obtain ⟨tB, uB, H⟩ | ⟨yD, tB, uB, H⟩ := H
     ·by_cases c18 : p ≥ 1; rotate_left
      ·rw [if_neg c18] at H; have zD : decide (1 ≤ p) = false := decide_eq_false c18; clear c18; obtain rfl := sI H; have z24 := cells5 a.out; go_wp2; go_ret; exact ⟨rfl, be1 o b⟩
      rw [if_pos c18] at H; have zD : decide (1 ≤ p) = true := decide_eq_true c18; clear c18; replace H := iD' H; obtain ⟨-, aE, H⟩ | ⟨-, aE, H⟩ := H
      ·obtain rfl := sI H; have z23 := cells5 a.out; go_wp2; go_ret; exact ⟨rfl, be1 o b⟩
      replace H := iB H; obtain ⟨rfl, H⟩ | ⟨rfl, H⟩ := H
      ·obtain rfl := sI H; have z21 := cells5 a.out; go_wp2; go_ret; exact ⟨rfl, be1 o b⟩
      obtain rfl := sI H; have z22 := cells5 a.out; go_wp2; go_ret; exact ⟨rfl, be1 o b⟩
     replace H := iE H; obtain ⟨wB, xB, H⟩ | ⟨bE, wB, xB, H⟩ := H
     ·by_cases c26 : p ≥ 1; rotate_left
      ·rw [if_neg c26] at H; have cE : decide (1 ≤ p) = false := decide_eq_false c26; clear c26; obtain rfl := sI H; have z39 := cells5 a.out; go_wp2; go_ret; exact ⟨rfl, be1 o b⟩
      rw [if_pos c26] at H; have cE : decide (1 ≤ p) = true := decide_eq_true c26; clear c26; replace H := iD' H; obtain ⟨-, dE, H⟩ | ⟨-, dE, H⟩ := H
      ·obtain rfl := sI H; have z38 := cells5 a.out; go_wp2; go_ret; exact ⟨rfl, be1 o b⟩
      replace H := iB' H; obtain ⟨rfl, H⟩ | ⟨rfl, H⟩ := H
      ·obtain rfl := sI H; have z37 := cells5 a.out; go_wp2; go_ret; exact ⟨rfl, be1 o b⟩
      replace H := iE' H; obtain ⟨cG, eE, fE, H⟩ | ⟨eE, fE, H⟩ := H
      ·obtain rfl := sI H; have z36 := cells5 a.out; go_wp2; go_ret; exact ⟨rfl, be1 o b⟩
      replace H := iN H; obtain ⟨jF, lF, H⟩ := H; have mF : decide (0 < d.length) = true := decide_eq_true (by omega); clear jF; replace H := iE H; obtain ⟨gE, hE, H⟩ | ⟨c31, gE, hE, H⟩ := H
      ·obtain rfl := sI H; have z32 := cells5 a.out; have eB : 0 ≤ (0 : Int) := (by omega); have gB : 0 < (d.length : Int) := od; obtain ⟨zC, hD, mD, jD, nD, bD, j, l, m, g, i, D, z, G, B⟩ := Fe gC.out 0 eB gB; cases bD; have tE : (0 < d.length) = True := eq_true (by omega); (try rw [show ((0 : Int)).toNat = 0 from rfl] at j); (try rw [show 0 * 5 = 0 from rfl] at j); (try rw [Addr.add_zero'] at j); (try rw [show ((0 : Int)).toNat = 0 from rfl] at l); (try rw [show 0 * 5 = 0 from rfl] at l); (try rw [Addr.add_zero'] at l); (try rw [show ((0 : Int)).toNat = 0 from rfl] at m); (try rw [show 0 * 5 = 0 from rfl] at m); (try rw [Addr.add_zero'] at m); (try rw [show ((0 : Int)).toNat = 0 from rfl] at g); (try rw [show 0 * 5 = 0 from rfl] at g); (try rw [Addr.add_zero'] at g); (try rw [show ((0 : Int)).toNat = 0 from rfl] at i); (try rw [show 0 * 5 = 0 from rfl] at i); (try rw [Addr.add_zero'] at i); replace j := AP o.out j; replace l := AP o.out l; replace m := AP o.out m; replace g := AP o.out g; replace i := AP o.out i; have vC := mk0 z; have qC := mk0 D; clear z D; have wC := mk0 B; have rC := mk0 G; clear B G; replace eB := eq_true eB; replace gB := eq_true gB; go_wp2; go_ret; exact ⟨rfl, be1 o b⟩
      replace H := bS H; obtain ⟨zE, fF, H⟩ := H; obtain rfl := sI H; have z34 := cells5 a.out; have eB : 0 ≤ (0 : Int) := (by omega); have gB : 0 < (d.length : Int) := od; obtain ⟨zC, hD, mD, jD, nD, bD, j, l, m, g, i, D, z, G, B⟩ := Fe gC.out 0 eB gB; cases bD; have tE : (0 < d.length) = True := eq_true (by omega); (try rw [show ((0 : Int)).toNat = 0 from rfl] at j); (try rw [show 0 * 5 = 0 from rfl] at j); (try rw [Addr.add_zero'] at j); (try rw [show ((0 : Int)).toNat = 0 from rfl] at l); (try rw [show 0 * 5 = 0 from rfl] at l); (try rw [Addr.add_zero'] at l); (try rw [show ((0 : Int)).toNat = 0 from rfl] at m); (try rw [show 0 * 5 = 0 from rfl] at m); (try rw [Addr.add_zero'] at m); (try rw [show ((0 : Int)).toNat = 0 from rfl] at g); (try rw [show 0 * 5 = 0 from rfl] at g); (try rw [Addr.add_zero'] at g); (try rw [show ((0 : Int)).toNat = 0 from rfl] at i); (try rw [show 0 * 5 = 0 from rfl] at i); (try rw [Addr.add_zero'] at i); replace j := AP o.out j; replace l := AP o.out l; replace m := AP o.out m; replace g := AP o.out g; replace i := AP o.out i; have vC := mk0 z; have qC := mk0 D; clear z D; have wC := mk0 B; have rC := mk0 G; clear B G; replace eB := eq_true eB; replace gB := eq_true gB; have fD : 0 ≤ (0 : Int) := (by omega); have gD : 0 < (d.length : Int) := od; obtain ⟨tD, aF, dF, cF, eF, xE, I, J, L, v, x, eC, cC, fC, dC⟩ := Fe gC.out 0 fD gD; obtain rfl : zC = tD := (by injection xE); have tF : (0 < d.length) = True := eq_true (by omega); (try rw [show ((0 : Int)).toNat = 0 from rfl] at I); (try rw [show 0 * 5 = 0 from rfl] at I); (try rw [Addr.add_zero'] at I); (try rw [show ((0 : Int)).toNat = 0 from rfl] at J); (try rw [show 0 * 5 = 0 from rfl] at J); (try rw [Addr.add_zero'] at J); (try rw [show ((0 : Int)).toNat = 0 from rfl] at L); (try rw [show 0 * 5 = 0 from rfl] at L); (try rw [Addr.add_zero'] at L); (try rw [show ((0 : Int)).toNat = 0 from rfl] at v); (try rw [show 0 * 5 = 0 from rfl] at v); (try rw [Addr.add_zero'] at v); (try rw [show ((0 : Int)).toNat = 0 from rfl] at x); (try rw [show 0 * 5 = 0 from rfl] at x); (try rw [Addr.add_zero'] at x); replace I := AP o.out I; replace J := AP o.out J; replace L := AP o.out L; replace v := AP o.out v; replace x := AP o.out x; have xC := mk0 cC; have sC := mk0 eC; clear cC eC; have yC := mk0 dC; have tC := mk0 fC; clear dC fC; replace fD := eq_true fD; replace gD := eq_true gD; have iC := Option.some.inj (g.symm.trans v); injection iC with iC en_ ec_; subst iC; subst ec_; clear en_; have iC := Option.some.inj (i.symm.trans x); injection iC with iC en_ ec_; subst iC; subst ec_; clear en_; go_wp2_with (go_at_call 44; refine (ih yE (by have := Y.out; have := kB.out; omega) ((Al d 0).f0) ((Al d 0).f1) ((Al d 0).f2) _ _ ((Al d 0).f3) _ _ ((Al d 0).f4) zE _ (cu xC o) sC.out (cu yC o) tC.out fF.out).mono ?_; rintro e gG ⟨rfl, hb⟩; replace a := kb a hb; replace o := kh1 o b hb); go_ret; exact ⟨rfl, be1 o b⟩
     replace H := iE' H; obtain ⟨c40, yB, zB, H⟩ | ⟨yB, zB, H⟩ := H
     ·obtain rfl := sI H; go_wp2; go_ret; exact ⟨rfl, be1 o b⟩
     have uC := mk0 H; clear H; go_upto_region 12 with (fail); go_cut [115] (fun v115 wc => ∃ (kq : Nat) (jB : Bool), v115 = .bool jB ∧ Aside0 (Ah.j2 kq jB q p u c d = some r) ∧ Aside0 (kq ≤ yE) ∧ Aside0 (bk wc dB 26 #[.int .i64 q, .int .i64 p, .string u, (.slice Z c.length W), (.slice T d.length X)]) ∧ Aside0 (Below w.heap.size w wc))
     case first =>
      have H := uC.out; clear uC; replace H := iE' H; obtain ⟨dG, cB, jE, H⟩ | ⟨cB, jE, H⟩ := H
      ·(first | rw [cB] | (simp only [Bw, DI]; rw [cB]) | skip); have U := mk0 H; clear H; have z51 := cells5 a.out; go_wp2; go_meet
       case rel => exact ⟨_, (true), rfl, U, ⟨by have := Y.out; have := kB.out; first | omega | exact Nat.le_refl _⟩, ⟨bu a⟩, ⟨be1 o b⟩⟩
      (first | rw [cB] | (simp only [Bw, DI]; rw [cB]) | skip); replace H := iE' H; obtain ⟨oF, kE, lE, H⟩ | ⟨kE, lE, H⟩ := H
      ·have pF : ¬ (d = []) := fun h_ => oF (by rw [h_]; rfl); have U := mk0 H; clear H; have z50 := cells5 a.out; go_wp2; go_meet
       case rel => exact ⟨_, (true), rfl, U, ⟨by have := Y.out; have := kB.out; first | omega | exact Nat.le_refl _⟩, ⟨bu a⟩, ⟨be1 o b⟩⟩
      replace H := bS H; obtain ⟨zF, qD, H⟩ := H; replace H := iB' H; obtain ⟨rfl, H⟩ | ⟨rfl, H⟩ := H
      ·have U := mk0 H; clear H; have z49 := cells5 a.out; go_wp2_with (go_at_call 65; refine (CB.calls qD.out).mono ?_; rintro e w' ⟨rfl, nd, rfl⟩); go_meet
       case rel => exact ⟨_, (true), rfl, U, ⟨by have := Y.out; have := kB.out; first | omega | exact Nat.le_refl _⟩, ⟨bu a⟩, ⟨be1 o b⟩⟩
      replace H := iD' H; obtain ⟨c46, mE, H⟩ | ⟨c46, mE, H⟩ := H
      ·have nE : decide (c.length < 1) = false := decide_eq_false (by omega); clear c46; have U := mk0 H; clear H; have z48 := cells5 a.out; go_wp2_with (go_at_call 65; refine (CB.calls qD.out).mono ?_; rintro e w' ⟨rfl, nd, rfl⟩); go_meet
       case rel => exact ⟨_, (decide ((c.length : Int) > 16)), rfl, U, ⟨by have := Y.out; have := kB.out; first | omega | exact Nat.le_refl _⟩, ⟨bu a⟩, ⟨be1 o b⟩⟩
      have nE : decide (c.length < 1) = true := decide_eq_true (by omega); clear c46; have U := mk0 H; clear H; have z47 := cells5 a.out; go_wp2_with (go_at_call 65; refine (CB.calls qD.out).mono ?_; rintro e w' ⟨rfl, nd, rfl⟩); go_meet
      case rel => exact ⟨_, (true), rfl, U, ⟨by have := Y.out; have := kB.out; first | omega | exact Nat.le_refl _⟩, ⟨bu a⟩, ⟨be1 o b⟩⟩
     case rest =>
      clear uC; try clear yD; try clear tB; try clear uB; try clear bE; try clear wB; try clear xB; try clear c40; try clear yB; try clear zB
      obtain ⟨kq, jB, rfl, HA, oC, a, o⟩ := hcut; cases kq with
      | zero => exact absurd HA.out (by simp [Ah.j2])
      | succ pD =>
       have H := HA.out; clear HA; simp only [Ah.j2] at H; replace H := iB H; obtain ⟨rfl, H⟩ | ⟨rfl, H⟩ := H
       ·obtain rfl := sI H; go_wp2; go_ret; exact ⟨rfl, be1 o b⟩
       have U := mk0 H; clear H; have z53 := cells5 a.out; go_wp2; go_loopg [119] pD (fun kq v119 w' => ∃ (n : Int), v119 = .int .i64 n ∧ Aside0 (Ah.l0 kq c (c.length : Int) n q p u c d = some r) ∧ Aside0 (kq ≤ pD) ∧ Aside0 (bk w' dB 26 #[.int .i64 q, .int .i64 p, .string u, (.slice Z c.length W), (.slice T d.length X)]) ∧ Aside0 (Below w.heap.size w w'))
       case atStart => exact ⟨(0), rfl, U, ⟨Nat.le_refl _⟩, ⟨bu a⟩, ⟨be1 o b⟩⟩
       case round =>
        clear U; try clear yD; try clear tB; try clear uB; try clear bE; try clear wB; try clear xB; try clear c40; try clear yB; try clear zB
        obtain ⟨n, rfl, HA, kD, a, o⟩ := hrel; cases gk with
        | zero => exact absurd HA.out (by simp [Ah.l0])
        | succ k4 =>
         have H := HA.out; clear HA; simp only [Ah.l0] at H; replace H := iD' H; obtain ⟨-, aD, H⟩ | ⟨-, aD, H⟩ := H
         ·obtain rfl := sI H; go_wp2; go_ret; exact ⟨rfl, be1 o b⟩
         replace H := iN H; obtain ⟨-, oE, H⟩ := H; replace H := iN H; obtain ⟨-, pE, H⟩ := H; replace H := bS H; obtain ⟨aG, uE, H⟩ := H; replace H := iB' H; obtain ⟨rfl, H⟩ | ⟨rfl, H⟩ := H
         ·obtain rfl := sI H; have aB : 0 ≤ (n : Int) := od; have bB : n < (c.length : Int) := od; obtain ⟨sB, cD, y⟩ := Kd.Dh qB.out n aB bB; cases cD; replace y := AP o.out y; replace aB := eq_true aB; replace bB := eq_true bB; go_wp2_with ((with_reducible refine AJ (f := 66) rfl ?_); refine CS Try.func66 (Dp.calls uE.out) ?_; intro iG hb; replace a := kb a hb; replace o := kh1 o b hb); go_ret; exact ⟨rfl, be1 o b⟩
         have U := mk0 H; clear H; have aB : 0 ≤ (n : Int) := od; have bB : n < (c.length : Int) := od; obtain ⟨sB, cD, y⟩ := Kd.Dh qB.out n aB bB; cases cD; replace y := AP o.out y; replace aB := eq_true aB; replace bB := eq_true bB; go_wp2_with ((with_reducible refine AJ (f := 66) rfl ?_); refine CS Try.func66 (Dp.calls uE.out) ?_; intro hG hb; replace a := kb a hb; replace o := kh1 o b hb); go_loopg [128] k4 (fun kq v128 w' => ∃ (s : Int), v128 = .int .i64 s ∧ Aside0 (Ah.l1 kq (EI ByteArray.empty c n) c (c.length : Int) n n s q p u c d = some r) ∧ Aside0 (kq ≤ k4) ∧ Aside0 (bk w' dB 26 #[.int .i64 q, .int .i64 p, .string u, (.slice (some sB) c.length W), (.slice T d.length X)]) ∧ Aside0 (Below w.heap.size w w'))
         case atStart => exact ⟨(0), rfl, U, ⟨Nat.le_refl _⟩, ⟨bu a⟩, ⟨be1 o b⟩⟩
         case round =>
          clear U; try clear yD; try clear tB; try clear uB; try clear bE; try clear wB; try clear xB; try clear c40; try clear yB; try clear zB; try clear aD; try clear oE; try clear pE; try clear y; try clear aB; try clear bB
          obtain ⟨s, rfl, HA, lD, a, o⟩ := hrel; cases gk with
          | zero => exact absurd HA.out (by simp [Ah.l1])
          | succ k5 =>
           have H := HA.out; clear HA; simp only [Ah.l1] at H; replace H := iD' H; obtain ⟨-, qE, H⟩ | ⟨-, qE, H⟩ := H
           ·have U := mk0 H; clear H; go_wp2; go_roundg k5
            case measure => have := Y.out; have := kB.out; have := oC.out; have := kD.out; have := lD.out; omega
            case rel => exact ⟨(wrap64 (n + 1)), rfl, U, ⟨by have := Y.out; have := kB.out; have := oC.out; have := kD.out; have := lD.out; omega⟩, ⟨bu a⟩, ⟨be1 o b⟩⟩
           replace H := iN H; obtain ⟨-, qF, H⟩ := H; replace H := iN H; obtain ⟨-, rF, H⟩ := H; replace H := iE H; obtain ⟨rE, sE, H⟩ | ⟨eG, rE, sE, H⟩ := H
           ·obtain rfl := sI H; have z64 := cells5 a.out; have fB : 0 ≤ (s : Int) := od; have hB : s < (c.length : Int) := od; obtain ⟨hC, dD, O⟩ := Kd.Dh qB.out s fB hB; obtain rfl : sB = hC := (by injection dD); replace O := AP o.out O; replace fB := eq_true fB; replace hB := eq_true hB; go_wp2; go_ret; exact ⟨rfl, be1 o b⟩
           have U := mk0 H; clear H; have z65 := cells5 a.out; have fB : 0 ≤ (s : Int) := od; have hB : s < (c.length : Int) := od; obtain ⟨hC, dD, O⟩ := Kd.Dh qB.out s fB hB; obtain rfl : sB = hC := (by injection dD); replace O := AP o.out O; replace fB := eq_true fB; replace hB := eq_true hB; go_wp2; go_roundg k5
           case measure => have := Y.out; have := kB.out; have := oC.out; have := kD.out; have := lD.out; omega
           case rel => exact ⟨(wrap64 (s + 1)), rfl, U, ⟨by have := Y.out; have := kB.out; have := oC.out; have := kD.out; have := lD.out; omega⟩, ⟨bu a⟩, ⟨be1 o b⟩⟩
end Go.Proofs.Ytojankgmedccdaa.PIs
