/- Lemmas. -/
import Derived.Test.YtojankgmedccdaaYNPIsx5
set_option maxHeartbeats 8000000
set_option maxRecDepth 100000
namespace Go.Proofs.Ytojankgmedccdaa.PIs
open Go.RowKit Own PTy Hand Wo
attribute [local go_sem] BS BU Bf Bg BC BD BX BZ
set_option linter.unusedVariables false
set_option linter.unusedSimpArgs false
mutual
def Bc.j0 : Nat → Int → Bool → Int → Int → ByteArray → List ByteArray → List (S26) → Option (Bool)
 | 0, _, _, _, _, _, _, _ => none
 | k + 1, x4, x5, d, b, e, g, a => if x5 = true then ((CE.f d b e g a false false false).bind fun m => (some m)) else (if x4 = 4 then ((CE.f d b e g a true false false).bind fun t143 => (if t143 = true then (if b ≥ 1 then (some (decide (b ≤ 64))) else (some false)) else (some false))) else (if x4 = 5 then ((CE.f d b e g a false true false).bind fun n => (if n = true then ((BN.f k d b e g a).bind fun t145 => (some t145)) else (some false))) else (if x4 = 6 then ((CE.f d b e g a true false true).bind fun t146 => (if t146 = true then (if b ≥ 1 then (if b ≤ 64 then (if (a.length : Int) = 1 then (if 0 < (a.length : Int) then (if ((Al a 0).f0) = 6 then (some false) else ((Bc.f k ((Al a 0).f0) ((Al a 0).f1) ((Al a 0).f2) ((Al a 0).f3) ((Al a 0).f4)).bind fun o => (some o))) else (none)) else (some false)) else (some false)) else (some false)) else (some false))) else (some false))))
def Bc.f : Nat → Int → Int → ByteArray → List ByteArray → List (S26) → Option (Bool)
 | 0, _, _, _, _, _ => none
 | k + 1, c, h, i, j, l => if c = 1 then (Bc.j0 k c (c == 1) c h i j l) else (if c = 2 then (Bc.j0 k c (c == 2) c h i j l) else (Bc.j0 k c (c == 3) c h i j l))
end
theorem Bc.calls (k : Nat) : ∀ (L : Int) (x : Int) (W : ByteArray) (X : Option Addr) (Z : Nat) (O : List ByteArray) (Y : Option Addr) (aB : Nat) (n : List (S26)) (r : Bool) (w : World) (hG : EP w) (kB : Kd.C Kd.string w X O.length O) (hB : O.length ≤ Z) (lB : Kd.C k26 w Y n.length n) (jB : n.length ≤ aB) (h : Bc.f k L x W O n = some r),
  Calls Try.prog 43 #[.agg #[.int .i64 L, .int .i64 x, .string W, .slice X O.length Z, .slice Y n.length aB]] w fun e w' => e = .returned (.bool r) ∧ Below w.heap.size w w' := by
 induction k using Nat.strongRecOn with
 | _ k ih =>
 intro L x W X Z O Y aB n r w hG kB hB lB jB h
 cases k with
 | zero => exact absurd h (by simp [Bc.f])
 | succ k =>
 simp only [Bc.f] at h
 have HG := mk0 hG; clear hG
 have aE := Try.underlying26
 have q := mk0 kB; have o := mk0 hB; clear kB hB; have m := mk0 lB; have p := mk0 jB; clear lB jB
 have c := mk0 (Below.refl w.heap.size w)
 have H := h; unfold Bc.f at H
 clear h; have lC := mk0 H; clear H
 go_enter Try.func43, Try.ntmps43
 go_upto_if 5 with ((with_reducible refine AQ rfl (N := 1) rfl (cs := #[.int .i64 L, .int .i64 x, .string W, .slice X O.length Z, .slice Y n.length aB]) (t := 26) ?hr ?_); (case hr => first | (go_simp; done) | (go_simp; rfl)); intro aD hg w3 jC s; have a := mk0 (jC); have b := bs (be c) hg; replace c := kh c s; clear s jC hg; have z4 := cells5 a.out)
 (try simp only [Act.put, List.setIfInBounds_toArray, List.set_cons_zero, List.set_cons_succ])
 go_cut [5] (fun v5 wc => ∃ (kq : Nat) (eC : Bool), v5 = .bool eC ∧ Aside0 (Bc.j0 kq L eC L x W O n = some r) ∧ Aside0 (kq ≤ k) ∧ Aside0 (bk wc aD 26 #[.int .i64 L, .int .i64 x, .string W, (.slice X O.length Z), (.slice Y n.length aB)]) ∧ Aside0 (Below w.heap.size w wc))
 case first =>
  have H := lC.out; clear lC; replace H := iE H; obtain ⟨bB, eD, H⟩ | ⟨c5, bB, eD, H⟩ := H
  ·(first | rw [bB] | (simp only [Bw, DI]; rw [bB]) | skip); have H' := mk0 H; clear H; go_wp2; go_meet
   case rel => exact ⟨_, ((L == 1)), (by first | rfl | (simp; done) | (simp [*]; done)), H', ⟨by omega⟩, ⟨bu a⟩, ⟨be1 c b⟩⟩
  (first | rw [bB] | (simp only [Bw, DI]; rw [bB]) | skip); replace H := iE' H; obtain ⟨c6, fD, gD, H⟩ | ⟨fD, gD, H⟩ := H
  ·have H' := mk0 H; clear H; go_wp2; go_meet
   case rel => exact ⟨_, ((L == 3)), rfl, H', ⟨by omega⟩, ⟨bu a⟩, ⟨be1 c b⟩⟩
  have H' := mk0 H; clear H; go_wp2; go_meet
  case rel => exact ⟨_, ((L == 2)), (by first | rfl | (simp; done) | (simp [*]; done)), H', ⟨by omega⟩, ⟨bu a⟩, ⟨be1 c b⟩⟩
 case rest =>
  clear lC; obtain ⟨kq, eC, rfl, HA, sD, a, c⟩ := hcut; cases kq with
  | zero => exact absurd HA.out (by simp [Bc.j0])
  | succ xD =>
   have H := HA.out; clear HA; simp only [Bc.j0] at H; replace H := iB H; obtain ⟨rfl, H⟩ | ⟨rfl, H⟩ := H
   ·replace H := bS H; obtain ⟨bE, A8, H⟩ := H; obtain rfl := sI H; have z9 := cells5 a.out; go_wp2_with ((with_reducible refine AJ (f := 63) rfl ?_); refine CS Try.func63 (CE.calls (cu q c) o.out (cu m c) p.out A8.out) ?_; intro jE s; replace a := kb a s; replace c := kh1 c b s); go_ret; exact ⟨rfl, be1 c b⟩
   replace H := iE H; obtain ⟨nC, oC, H⟩ | ⟨eE, nC, oC, H⟩ := H
   ·replace H := bS H; obtain ⟨t143, kC, H⟩ := H; replace H := iB' H; obtain ⟨rfl, H⟩ | ⟨rfl, H⟩ := H
    ·obtain rfl := sI H; have z21 := cells5 a.out; go_wp2_with ((with_reducible refine AJ (f := 63) rfl ?_); refine CS Try.func63 (CE.calls (cu q c) o.out (cu m c) p.out kC.out) ?_; intro mE s; replace a := kb a s; replace c := kh1 c b s); go_ret; exact ⟨rfl, be1 c b⟩
    by_cases c14 : x ≥ 1; rotate_left
    ·rw [if_neg c14] at H; have pC : decide (1 ≤ x) = false := decide_eq_false c14; clear c14; obtain rfl := sI H; have yE := cells5 a.out; go_wp2_with ((with_reducible refine AJ (f := 63) rfl ?_); refine CS Try.func63 (CE.calls (cu q c) o.out (cu m c) p.out kC.out) ?_; intro lE s; replace a := kb a s; replace c := kh1 c b s; have z20 := cells5 a.out); go_ret; exact ⟨rfl, be1 c b⟩
    rw [if_pos c14] at H; have pC : decide (1 ≤ x) = true := decide_eq_true c14; clear c14; obtain rfl := sI H; have xE := cells5 a.out; go_wp2_with ((with_reducible refine AJ (f := 63) rfl ?_); refine CS Try.func63 (CE.calls (cu q c) o.out (cu m c) p.out kC.out) ?_; intro kE s; replace a := kb a s; replace c := kh1 c b s; have z17 := cells5 a.out); go_ret; exact ⟨rfl, be1 c b⟩
   replace H := iE H; obtain ⟨qC, rC, H⟩ | ⟨fE, qC, rC, H⟩ := H
   ·replace H := bS H; obtain ⟨cE, cD, H⟩ := H; replace H := iB' H; obtain ⟨rfl, H⟩ | ⟨rfl, H⟩ := H
    ·obtain rfl := sI H; have z31 := cells5 a.out; go_wp2_with ((with_reducible refine AJ (f := 63) rfl ?_); refine CS Try.func63 (CE.calls (cu q c) o.out (cu m c) p.out cD.out) ?_; intro pE s; replace a := kb a s; replace c := kh1 c b s); go_ret; exact ⟨rfl, be1 c b⟩
    replace H := bS H; obtain ⟨t145, pD, H⟩ := H; obtain rfl := sI H; have z27 := cells5 a.out; go_wp2_with (first | ((with_reducible refine AJ (f := 63) rfl ?_); refine CS Try.func63 (CE.calls (cu q c) o.out (cu m c) p.out cD.out) ?_; intro nE s; replace a := kb a s; replace c := kh1 c b s; have z29 := cells5 a.out) | (go_at_call 64; refine (BN.calls (Aa HG.out (be1 c b)) (cu q c) o.out (cu m c) p.out pD.out).mono ?_; rintro e oE ⟨rfl, s⟩; replace a := kb a s; replace c := kh1 c b s)); go_ret; exact ⟨rfl, be1 c b⟩
   replace H := iE' H; obtain ⟨gE, sC, tC, H⟩ | ⟨sC, tC, H⟩ := H
   ·obtain rfl := sI H; go_wp2; go_ret; exact ⟨rfl, be1 c b⟩
   replace H := bS H; obtain ⟨t146, mB, H⟩ := H; replace H := iB' H; obtain ⟨rfl, H⟩ | ⟨rfl, H⟩ := H
   ·obtain rfl := sI H; have z58 := cells5 a.out; go_wp2_with ((with_reducible refine AJ (f := 63) rfl ?_); refine CS Try.func63 (CE.calls (cu q c) o.out (cu m c) p.out mB.out) ?_; intro wE s; replace a := kb a s; replace c := kh1 c b s); go_ret; exact ⟨rfl, be1 c b⟩
   by_cases c36 : x ≥ 1; rotate_left
   ·rw [if_neg c36] at H; have uC : decide (1 ≤ x) = false := decide_eq_false c36; clear c36; obtain rfl := sI H; have z55 := cells5 a.out; go_wp2_with ((with_reducible refine AJ (f := 63) rfl ?_); refine CS Try.func63 (CE.calls (cu q c) o.out (cu m c) p.out mB.out) ?_; intro vE s; replace a := kb a s; replace c := kh1 c b s; have z57 := cells5 a.out); go_ret; exact ⟨rfl, be1 c b⟩
   rw [if_pos c36] at H; have uC : decide (1 ≤ x) = true := decide_eq_true c36; clear c36; replace H := iD' H; obtain ⟨-, vC, H⟩ | ⟨-, vC, H⟩ := H
   ·obtain rfl := sI H; have z52 := cells5 a.out; go_wp2_with ((with_reducible refine AJ (f := 63) rfl ?_); refine CS Try.func63 (CE.calls (cu q c) o.out (cu m c) p.out mB.out) ?_; intro uE s; replace a := kb a s; replace c := kh1 c b s; have z54 := cells5 a.out); go_ret; exact ⟨rfl, be1 c b⟩
   replace H := iE' H; obtain ⟨hE, wC, xC, H⟩ | ⟨wC, xC, H⟩ := H
   ·obtain rfl := sI H; have z49 := cells5 a.out; go_wp2_with ((with_reducible refine AJ (f := 63) rfl ?_); refine CS Try.func63 (CE.calls (cu q c) o.out (cu m c) p.out mB.out) ?_; intro tE s; replace a := kb a s; replace c := kh1 c b s; have z51 := cells5 a.out); go_ret; exact ⟨rfl, be1 c b⟩
   replace H := iN H; obtain ⟨tD, uD, H⟩ := H; have vD : decide (0 < n.length) = true := decide_eq_true (by omega); clear tD; replace H := iE H; obtain ⟨yC, zC, H⟩ | ⟨c40, yC, zC, H⟩ := H
   ·obtain rfl := sI H; have z41 := cells5 a.out; go_wp2_with ((with_reducible refine AJ (f := 63) rfl ?_); refine CS Try.func63 (CE.calls (cu q c) o.out (cu m c) p.out mB.out) ?_; intro qE s; replace a := kb a s; replace c := kh1 c b s; have z43 := cells5 a.out; have T : 0 ≤ (0 : Int) := (by omega); have U : 0 < (n.length : Int) := of_decide_eq_true (by assumption); obtain ⟨aC, fC, hC, gC, iC, bC, i, j, l, d, g, B, y, D, z⟩ := Fe m.out 0 T U; cases bC; have bD : (0 < n.length) = True := eq_true (by omega); (try rw [show ((0 : Int)).toNat = 0 from rfl] at i); (try rw [show 0 * 5 = 0 from rfl] at i); (try rw [Addr.add_zero'] at i); (try rw [show ((0 : Int)).toNat = 0 from rfl] at j); (try rw [show 0 * 5 = 0 from rfl] at j); (try rw [Addr.add_zero'] at j); (try rw [show ((0 : Int)).toNat = 0 from rfl] at l); (try rw [show 0 * 5 = 0 from rfl] at l); (try rw [Addr.add_zero'] at l); (try rw [show ((0 : Int)).toNat = 0 from rfl] at d); (try rw [show 0 * 5 = 0 from rfl] at d); (try rw [Addr.add_zero'] at d); (try rw [show ((0 : Int)).toNat = 0 from rfl] at g); (try rw [show 0 * 5 = 0 from rfl] at g); (try rw [Addr.add_zero'] at g); replace i := AP c.out i; replace j := AP c.out j; replace l := AP c.out l; replace d := AP c.out d; replace g := AP c.out g; have wB := mk0 y; have qB := mk0 B; clear y B; have xB := mk0 z; have sB := mk0 D; clear z D; replace T := eq_true T; replace U := eq_true U); go_ret; exact ⟨rfl, be1 c b⟩
   replace H := bS H; obtain ⟨jD, qD, H⟩ := H; obtain rfl := sI H; have z45 := cells5 a.out; go_wp2_with (first | ((with_reducible refine AJ (f := 63) rfl ?_); refine CS Try.func63 (CE.calls (cu q c) o.out (cu m c) p.out mB.out) ?_; intro rE s; replace a := kb a s; replace c := kh1 c b s; have z47 := cells5 a.out; have T : 0 ≤ (0 : Int) := (by omega); have U : 0 < (n.length : Int) := of_decide_eq_true (by assumption); obtain ⟨aC, fC, hC, gC, iC, bC, i, j, l, d, g, B, y, D, z⟩ := Fe m.out 0 T U; cases bC; have bD : (0 < n.length) = True := eq_true (by omega); (try rw [show ((0 : Int)).toNat = 0 from rfl] at i); (try rw [show 0 * 5 = 0 from rfl] at i); (try rw [Addr.add_zero'] at i); (try rw [show ((0 : Int)).toNat = 0 from rfl] at j); (try rw [show 0 * 5 = 0 from rfl] at j); (try rw [Addr.add_zero'] at j); (try rw [show ((0 : Int)).toNat = 0 from rfl] at l); (try rw [show 0 * 5 = 0 from rfl] at l); (try rw [Addr.add_zero'] at l); (try rw [show ((0 : Int)).toNat = 0 from rfl] at d); (try rw [show 0 * 5 = 0 from rfl] at d); (try rw [Addr.add_zero'] at d); (try rw [show ((0 : Int)).toNat = 0 from rfl] at g); (try rw [show 0 * 5 = 0 from rfl] at g); (try rw [Addr.add_zero'] at g); replace i := AP c.out i; replace j := AP c.out j; replace l := AP c.out l; replace d := AP c.out d; replace g := AP c.out g; have wB := mk0 y; have qB := mk0 B; clear y B; have xB := mk0 z; have sB := mk0 D; clear z D; replace T := eq_true T; replace U := eq_true U; have cC : 0 ≤ (0 : Int) := (by omega); have dC : 0 < (n.length : Int) := of_decide_eq_true (by assumption); obtain ⟨mC, kD, mD, lD, nD, hD, G, I, J, u, v, eB, cB, fB, dB⟩ := Fe m.out 0 cC dC; obtain rfl : aC = mC := (by injection hD); have yD : (0 < n.length) = True := eq_true (by omega); (try rw [show ((0 : Int)).toNat = 0 from rfl] at G); (try rw [show 0 * 5 = 0 from rfl] at G); (try rw [Addr.add_zero'] at G); (try rw [show ((0 : Int)).toNat = 0 from rfl] at I); (try rw [show 0 * 5 = 0 from rfl] at I); (try rw [Addr.add_zero'] at I); (try rw [show ((0 : Int)).toNat = 0 from rfl] at J); (try rw [show 0 * 5 = 0 from rfl] at J); (try rw [Addr.add_zero'] at J); (try rw [show ((0 : Int)).toNat = 0 from rfl] at u); (try rw [show 0 * 5 = 0 from rfl] at u); (try rw [Addr.add_zero'] at u); (try rw [show ((0 : Int)).toNat = 0 from rfl] at v); (try rw [show 0 * 5 = 0 from rfl] at v); (try rw [Addr.add_zero'] at v); replace G := AP c.out G; replace I := AP c.out I; replace J := AP c.out J; replace u := AP c.out u; replace v := AP c.out v; have yB := mk0 cB; have tB := mk0 eB; clear cB eB; have zB := mk0 dB; have uB := mk0 fB; clear dB fB; replace cC := eq_true cC; replace dC := eq_true dC; have gB := Option.some.inj (d.symm.trans u); injection gB with gB en_ ec_; subst gB; subst ec_; clear en_; have gB := Option.some.inj (g.symm.trans v); injection gB with gB en_ ec_; subst gB; subst ec_; clear en_) | (go_at_call 43; refine (ih xD (by have := sD.out; omega) ((Al n 0).f0) ((Al n 0).f1) ((Al n 0).f2) _ _ ((Al n 0).f3) _ _ ((Al n 0).f4) jD _ (Aa HG.out (be1 c b)) (cu yB c) tB.out (cu zB c) uB.out qD.out).mono ?_; rintro e sE ⟨rfl, s⟩; replace a := kb a s; replace c := kh1 c b s)); go_ret; exact ⟨rfl, be1 c b⟩
def CP.f (k : Nat) (a : Int) (b : Int) (c : ByteArray) (d : List ByteArray) (e : List (S26)) : Option (Bool) := if a = 1 then ((Bc.f k a b c d e).bind fun g => (some g)) else (if a = 2 then ((Bc.f k a b c d e).bind fun t152 => (some t152)) else (if a = 3 then ((Bc.f k a b c d e).bind fun h => (some h)) else (if a = 5 then ((Bc.f k a b c d e).bind fun t154 => (some t154)) else (some false))))
theorem CP.calls (k : Nat) (j : Int) (l : Int) (m : ByteArray) (o : Option Addr) (q : Nat) (d : List ByteArray) (p : Option Addr) (s : Nat) (g : List (S26)) (r : Bool) (w : World) (hG : EP w) (G : Kd.C Kd.string w o d.length d) (B : d.length ≤ q) (I : Kd.C k26 w p g.length g) (D : g.length ≤ s) (h : CP.f k j l m d g = some r) :
  Calls Try.prog 17 #[.agg #[.int .i64 j, .int .i64 l, .string m, .slice o d.length q, .slice p g.length s]] w fun e w' => e = .returned (.bool r) ∧ Below w.heap.size w w' := by
 have HG := mk0 hG; clear hG
 have fB := Try.underlying26
 have x := mk0 G; have u := mk0 B; clear G B; have y := mk0 I; have v := mk0 D; clear I D
 have i := mk0 (Below.refl w.heap.size w)
 have H := h; unfold CP.f at H
 clear h
 replace H := iE H; obtain ⟨U, W, H⟩ | ⟨c2, U, W, H⟩ := H
 ·replace H := bS H; obtain ⟨Z, A3, H⟩ := H; obtain rfl := sI H; go_enter Try.func17, Try.ntmps17; go_wp2_with (first | ((with_reducible refine AQ rfl (N := 1) rfl (cs := #[.int .i64 j, .int .i64 l, .string m, .slice o d.length q, .slice p g.length s]) (t := 26) ?hr ?_); (case hr => first | (go_simp; done) | (go_simp; rfl)); intro z hg w4 c n; have a := mk0 (c); have b := bs (be i) hg; replace i := kh i n; clear n c hg; have z5 := cells5 a.out) | ((with_reducible refine AJ (f := 43) rfl ?_); refine CS Try.func43 (Bc.calls k j l m _ _ d _ _ g Z _ (Aa HG.out (be1 i b)) (cu x i) u.out (cu y i) v.out A3.out) ?_; intro w6 n; replace a := kb a n; replace i := kh1 i b n)); go_ret; exact ⟨rfl, be1 i b⟩
 replace H := iE H; obtain ⟨X, Y, H⟩ | ⟨c7, X, Y, H⟩ := H
 ·replace H := bS H; obtain ⟨t152, A8, H⟩ := H; obtain rfl := sI H; go_enter Try.func17, Try.ntmps17; go_wp2_with (first | ((with_reducible refine AQ rfl (N := 1) rfl (cs := #[.int .i64 j, .int .i64 l, .string m, .slice o d.length q, .slice p g.length s]) (t := 26) ?hr ?_); (case hr => first | (go_simp; done) | (go_simp; rfl)); intro z hg w9 c n; have a := mk0 (c); have b := bs (be i) hg; replace i := kh i n; clear n c hg; have uB := cells5 a.out) | ((with_reducible refine AJ (f := 43) rfl ?_); refine CS Try.func43 (Bc.calls k j l m _ _ d _ _ g t152 _ (Aa HG.out (be1 i b)) (cu x i) u.out (cu y i) v.out A8.out) ?_; intro kB n; replace a := kb a n; replace i := kh1 i b n)); go_ret; exact ⟨rfl, be1 i b⟩
 replace H := iE H; obtain ⟨J, L, H⟩ | ⟨c12, J, L, H⟩ := H
 ·replace H := bS H; obtain ⟨aB, cB, H⟩ := H; obtain rfl := sI H; go_enter Try.func17, Try.ntmps17; go_wp2_with (first | ((with_reducible refine AQ rfl (N := 1) rfl (cs := #[.int .i64 j, .int .i64 l, .string m, .slice o d.length q, .slice p g.length s]) (t := 26) ?hr ?_); (case hr => first | (go_simp; done) | (go_simp; rfl)); intro z hg lB c n; have a := mk0 (c); have b := bs (be i) hg; replace i := kh i n; clear n c hg; have wB := cells5 a.out) | ((with_reducible refine AJ (f := 43) rfl ?_); refine CS Try.func43 (Bc.calls k j l m _ _ d _ _ g aB _ (Aa HG.out (be1 i b)) (cu x i) u.out (cu y i) v.out cB.out) ?_; intro mB n; replace a := kb a n; replace i := kh1 i b n)); go_ret; exact ⟨rfl, be1 i b⟩
 replace H := iE' H; obtain ⟨jB, O, T, H⟩ | ⟨O, T, H⟩ := H
 ·obtain rfl := sI H; go_enter Try.func17, Try.ntmps17; go_wp2_with ((with_reducible refine AQ rfl (N := 1) rfl (cs := #[.int .i64 j, .int .i64 l, .string m, .slice o d.length q, .slice p g.length s]) (t := 26) ?hr ?_); (case hr => first | (go_simp; done) | (go_simp; rfl)); intro z hg tB c n; have a := mk0 (c); have b := bs (be i) hg; replace i := kh i n; clear n c hg; have z23 := cells5 a.out); go_ret; exact ⟨rfl, be1 i b⟩
 replace H := bS H; obtain ⟨t154, dB, H⟩ := H; obtain rfl := sI H
 go_enter Try.func17, Try.ntmps17
 go_wp2_with (first | ((with_reducible refine AQ rfl (N := 1) rfl (cs := #[.int .i64 j, .int .i64 l, .string m, .slice o d.length q, .slice p g.length s]) (t := 26) ?hr ?_); (case hr => first | (go_simp; done) | (go_simp; rfl)); intro z hg qB c n; have a := mk0 (c); have b := bs (be i) hg; replace i := kh i n; clear n c hg; have z20 := cells5 a.out) | ((with_reducible refine AJ (f := 43) rfl ?_); refine CS Try.func43 (Bc.calls k j l m _ _ d _ _ g t154 _ (Aa HG.out (be1 i b)) (cu x i) u.out (cu y i) v.out dB.out) ?_; intro sB n; replace a := kb a n; replace i := kh1 i b n))
 go_ret
 exact ⟨rfl, be1 i b⟩
end Go.Proofs.Ytojankgmedccdaa.PIs
