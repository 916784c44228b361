/- Lemmas. -/
import Derived.Test.YtojankgmedccdaaYOPIsx5
set_option maxHeartbeats 8000000
set_option maxRecDepth 100000
namespace Go.Proofs.Ytojankgmedccdaa.PIs
open Go.RowKit Own PTy Hand Wo
attribute [local go_sem] BI BJ Ba Bc Ao Ap BL BM
set_option linter.unusedVariables false
set_option linter.unusedSimpArgs false
mutual
def BU.j0 : Nat → Int → Bool → Int → Int → ByteArray → List ByteArray → List (S26) → Option (Bool)
 | 0, _, _, _, _, _, _, _ => none
 | k + 1, x4, x5, e, b, h, i, a => if x5 = true then ((Bu.f e b h i a false false false).bind fun r => (some r)) else (if x4 = 4 then ((Bu.f e b h i a true false false).bind fun t143 => (if t143 = true then (if b ≥ 1 then (some (decide (b ≤ 64))) else (some false)) else (some false))) else (if x4 = 5 then ((Bu.f e b h i a false true false).bind fun s => (if s = true then ((BG.f k e b h i a).bind fun t145 => (some t145)) else (some false))) else (if x4 = 6 then ((Bu.f e b h i a true false true).bind fun t146 => (if t146 = true then (if b ≥ 1 then (if b ≤ 64 then (if (a.length : Int) = 1 then (if 0 < (a.length : Int) then (if ((Bd a 0).f0) = 6 then (some false) else ((BU.f k ((Bd a 0).f0) ((Bd a 0).f1) ((Bd a 0).f2) ((Bd a 0).f3) ((Bd a 0).f4)).bind fun u => (some u))) else (none)) else (some false)) else (some false)) else (some false)) else (some false))) else (some false))))
def BU.f : Nat → Int → Int → ByteArray → List ByteArray → List (S26) → Option (Bool)
 | 0, _, _, _, _, _ => none
 | k + 1, c, j, l, o, q => if c = 1 then (BU.j0 k c (c == 1) c j l o q) else (if c = 2 then (BU.j0 k c (c == 2) c j l o q) else (BU.j0 k c (c == 3) c j l o q))
end
theorem BU.calls (k : Nat) : ∀ (Z : Int) (J : Int) (dB : ByteArray) (eB : Option Addr) (gB : Nat) (aB : List ByteArray) (fB : Option Addr) (hB : Nat) (u : List (S26)) (r : Bool) (w : World) (hG : Dk w) (wB : Kd.C Kd.string w eB aB.length aB) (tB : aB.length ≤ gB) (xB : Kd.C k26 w fB u.length u) (uB : u.length ≤ hB) (h : BU.f k Z J dB aB u = some r),
  Calls Try.prog 43 #[.agg #[.int .i64 Z, .int .i64 J, .string dB, .slice eB aB.length gB, .slice fB u.length hB]] w fun e w' => e = .returned (.bool r) ∧ Below w.heap.size w w' := by
 induction k using Nat.strongRecOn with
 | _ k ih =>
 intro Z J dB eB gB aB fB hB u r w hG wB tB xB uB h
 cases k with
 | zero => exact absurd h (by simp [BU.f])
 | succ k =>
 simp only [BU.f] at h
 have HG := mk0 hG; clear hG
 have hE := Try.underlying26
 have B := mk0 wB; have v := mk0 tB; clear wB tB; have s := mk0 xB; have z := mk0 uB; clear xB uB
 have c := mk0 (Below.refl w.heap.size w)
 have H := h; unfold BU.f at H
 clear h; have sC := mk0 H; clear H
 go_enter Try.func43, Try.ntmps43
 go_upto_if 5 with ((with_reducible refine AU rfl (N := 1) rfl (cs := #[.int .i64 Z, .int .i64 J, .string dB, .slice eB aB.length gB, .slice fB u.length hB]) (t := 26) ?hr ?_); (case hr => first | (go_simp; done) | (go_simp; rfl)); intro hD hg w3 qC D; have a := mk0 (qC); have b := bs (be c) hg; replace c := kh c D; clear D qC hg; have z4 := cells5 a.out)
 (try simp only [Act.put, List.setIfInBounds_toArray, List.set_cons_zero, List.set_cons_succ])
 go_cut [5] (fun v5 wc => ∃ (kq : Nat) (lC : Bool), v5 = .bool lC ∧ Aside0 (BU.j0 kq Z lC Z J dB aB u = some r) ∧ Aside0 (kq ≤ k) ∧ Aside0 (bk wc hD 26 #[.int .i64 Z, .int .i64 J, .string dB, (.slice eB aB.length gB), (.slice fB u.length hB)]) ∧ Aside0 (Below w.heap.size w wc))
 case first =>
  have H := sC.out; clear sC; replace H := iE H; obtain ⟨jB, mD, H⟩ | ⟨c5, jB, mD, H⟩ := H
  ·(first | rw [jB] | (simp only [CG, DK]; rw [jB]) | skip); have H' := mk0 H; clear H; go_wp2; go_meet
   case rel => exact ⟨_, ((Z == 1)), (by first | rfl | (simp; done) | (simp [*]; done)), H', ⟨by omega⟩, ⟨bu a⟩, ⟨be1 c b⟩⟩
  (first | rw [jB] | (simp only [CG, DK]; rw [jB]) | skip); replace H := iE' H; obtain ⟨c6, nD, oD, H⟩ | ⟨nD, oD, H⟩ := H
  ·have H' := mk0 H; clear H; go_wp2; go_meet
   case rel => exact ⟨_, ((Z == 3)), rfl, H', ⟨by omega⟩, ⟨bu a⟩, ⟨be1 c b⟩⟩
  have H' := mk0 H; clear H; go_wp2; go_meet
  case rel => exact ⟨_, ((Z == 2)), (by first | rfl | (simp; done) | (simp [*]; done)), H', ⟨by omega⟩, ⟨bu a⟩, ⟨be1 c b⟩⟩
 case rest =>
  clear sC; obtain ⟨kq, lC, rfl, HA, zD, a, c⟩ := hcut; cases kq with
  | zero => exact absurd HA.out (by simp [BU.j0])
  | succ eE =>
   have H := HA.out; clear HA; simp only [BU.j0] at H; replace H := iB H; obtain ⟨rfl, H⟩ | ⟨rfl, H⟩ := H
   ·replace H := bS H; obtain ⟨jE, A8, H⟩ := H; obtain rfl := sI H; have z9 := cells5 a.out; go_wp2_with ((with_reducible refine AP (f := 63) rfl ?_); refine CS Try.func63 (Bu.calls (cu B c) v.out (cu s c) z.out A8.out) ?_; intro qE D; replace a := kb a D; replace c := kh1 c b D); go_ret; exact ⟨rfl, be1 c b⟩
   replace H := iE H; obtain ⟨uC, vC, H⟩ | ⟨mE, uC, vC, H⟩ := H
   ·replace H := bS H; obtain ⟨t143, rC, H⟩ := H; replace H := iB' H; obtain ⟨rfl, H⟩ | ⟨rfl, H⟩ := H
    ·obtain rfl := sI H; have z21 := cells5 a.out; go_wp2_with ((with_reducible refine AP (f := 63) rfl ?_); refine CS Try.func63 (Bu.calls (cu B c) v.out (cu s c) z.out rC.out) ?_; intro tE D; replace a := kb a D; replace c := kh1 c b D); go_ret; exact ⟨rfl, be1 c b⟩
    by_cases c14 : J ≥ 1; rotate_left
    ·rw [if_neg c14] at H; have wC : decide (1 ≤ J) = false := decide_eq_false c14; clear c14; obtain rfl := sI H; have gF := cells5 a.out; go_wp2_with ((with_reducible refine AP (f := 63) rfl ?_); refine CS Try.func63 (Bu.calls (cu B c) v.out (cu s c) z.out rC.out) ?_; intro sE D; replace a := kb a D; replace c := kh1 c b D; have z20 := cells5 a.out); go_ret; exact ⟨rfl, be1 c b⟩
    rw [if_pos c14] at H; have wC : decide (1 ≤ J) = true := decide_eq_true c14; clear c14; obtain rfl := sI H; have fF := cells5 a.out; go_wp2_with ((with_reducible refine AP (f := 63) rfl ?_); refine CS Try.func63 (Bu.calls (cu B c) v.out (cu s c) z.out rC.out) ?_; intro rE D; replace a := kb a D; replace c := kh1 c b D; have z17 := cells5 a.out); go_ret; exact ⟨rfl, be1 c b⟩
   replace H := iE H; obtain ⟨xC, yC, H⟩ | ⟨nE, xC, yC, H⟩ := H
   ·replace H := bS H; obtain ⟨kE, kD, H⟩ := H; replace H := iB' H; obtain ⟨rfl, H⟩ | ⟨rfl, H⟩ := H
    ·obtain rfl := sI H; have z31 := cells5 a.out; go_wp2_with ((with_reducible refine AP (f := 63) rfl ?_); refine CS Try.func63 (Bu.calls (cu B c) v.out (cu s c) z.out kD.out) ?_; intro wE D; replace a := kb a D; replace c := kh1 c b D); go_ret; exact ⟨rfl, be1 c b⟩
    replace H := bS H; obtain ⟨t145, wD, H⟩ := H; obtain rfl := sI H; have z27 := cells5 a.out; go_wp2_with (first | ((with_reducible refine AP (f := 63) rfl ?_); refine CS Try.func63 (Bu.calls (cu B c) v.out (cu s c) z.out kD.out) ?_; intro uE D; replace a := kb a D; replace c := kh1 c b D; have z29 := cells5 a.out) | (go_at_call 64; refine (BG.calls (Ad HG.out (be1 c b)) (cu B c) v.out (cu s c) z.out wD.out).mono ?_; rintro e vE ⟨rfl, D⟩; replace a := kb a D; replace c := kh1 c b D)); go_ret; exact ⟨rfl, be1 c b⟩
   replace H := iE' H; obtain ⟨oE, zC, aD, H⟩ | ⟨zC, aD, H⟩ := H
   ·obtain rfl := sI H; go_wp2; go_ret; exact ⟨rfl, be1 c b⟩
   replace H := bS H; obtain ⟨t146, yB, H⟩ := H; replace H := iB' H; obtain ⟨rfl, H⟩ | ⟨rfl, H⟩ := H
   ·obtain rfl := sI H; have z58 := cells5 a.out; go_wp2_with ((with_reducible refine AP (f := 63) rfl ?_); refine CS Try.func63 (Bu.calls (cu B c) v.out (cu s c) z.out yB.out) ?_; intro eF D; replace a := kb a D; replace c := kh1 c b D); go_ret; exact ⟨rfl, be1 c b⟩
   by_cases c36 : J ≥ 1; rotate_left
   ·rw [if_neg c36] at H; have bD : decide (1 ≤ J) = false := decide_eq_false c36; clear c36; obtain rfl := sI H; have z55 := cells5 a.out; go_wp2_with ((with_reducible refine AP (f := 63) rfl ?_); refine CS Try.func63 (Bu.calls (cu B c) v.out (cu s c) z.out yB.out) ?_; intro dF D; replace a := kb a D; replace c := kh1 c b D; have z57 := cells5 a.out); go_ret; exact ⟨rfl, be1 c b⟩
   rw [if_pos c36] at H; have bD : decide (1 ≤ J) = true := decide_eq_true c36; clear c36; replace H := iD' H; obtain ⟨-, cD, H⟩ | ⟨-, cD, H⟩ := H
   ·obtain rfl := sI H; have z52 := cells5 a.out; go_wp2_with ((with_reducible refine AP (f := 63) rfl ?_); refine CS Try.func63 (Bu.calls (cu B c) v.out (cu s c) z.out yB.out) ?_; intro cF D; replace a := kb a D; replace c := kh1 c b D; have z54 := cells5 a.out); go_ret; exact ⟨rfl, be1 c b⟩
   replace H := iE' H; obtain ⟨pE, dD, eD, H⟩ | ⟨dD, eD, H⟩ := H
   ·obtain rfl := sI H; have z49 := cells5 a.out; go_wp2_with ((with_reducible refine AP (f := 63) rfl ?_); refine CS Try.func63 (Bu.calls (cu B c) v.out (cu s c) z.out yB.out) ?_; intro aF D; replace a := kb a D; replace c := kh1 c b D; have z51 := cells5 a.out); go_ret; exact ⟨rfl, be1 c b⟩
   replace H := iN H; obtain ⟨aE, bE, H⟩ := H; have cE : decide (0 < u.length) = true := decide_eq_true (by omega); clear aE; replace H := iE H; obtain ⟨fD, gD, H⟩ | ⟨c40, fD, gD, H⟩ := H
   ·obtain rfl := sI H; have z41 := cells5 a.out; go_wp2_with ((with_reducible refine AP (f := 63) rfl ?_); refine CS Try.func63 (Bu.calls (cu B c) v.out (cu s c) z.out yB.out) ?_; intro xE D; replace a := kb a D; replace c := kh1 c b D; have z43 := cells5 a.out; have bB : 0 ≤ (0 : Int) := (by omega); have cB : 0 < (u.length : Int) := of_decide_eq_true (by assumption); obtain ⟨hC, mC, oC, nC, pC, iC, l, o, q, i, j, T, L, U, O⟩ := Hw s.out 0 bB cB; cases iC; have jD : (0 < u.length) = True := eq_true (by omega); (try rw [show ((0 : Int)).toNat = 0 from rfl] at l); (try rw [show 0 * 5 = 0 from rfl] at l); (try rw [Addr.add_zero'] at l); (try rw [show ((0 : Int)).toNat = 0 from rfl] at o); (try rw [show 0 * 5 = 0 from rfl] at o); (try rw [Addr.add_zero'] at o); (try rw [show ((0 : Int)).toNat = 0 from rfl] at q); (try rw [show 0 * 5 = 0 from rfl] at q); (try rw [Addr.add_zero'] at q); (try rw [show ((0 : Int)).toNat = 0 from rfl] at i); (try rw [show 0 * 5 = 0 from rfl] at i); (try rw [Addr.add_zero'] at i); (try rw [show ((0 : Int)).toNat = 0 from rfl] at j); (try rw [show 0 * 5 = 0 from rfl] at j); (try rw [Addr.add_zero'] at j); replace l := AY c.out l; replace o := AY c.out o; replace q := AY c.out q; replace i := AY c.out i; replace j := AY c.out j; have dC := mk0 L; have zB := mk0 T; clear L T; have eC := mk0 O; have aC := mk0 U; clear O U; replace bB := eq_true bB; replace cB := eq_true cB); go_ret; exact ⟨rfl, be1 c b⟩
   replace H := bS H; obtain ⟨qD, xD, H⟩ := H; obtain rfl := sI H; have z45 := cells5 a.out; go_wp2_with (first | ((with_reducible refine AP (f := 63) rfl ?_); refine CS Try.func63 (Bu.calls (cu B c) v.out (cu s c) z.out yB.out) ?_; intro yE D; replace a := kb a D; replace c := kh1 c b D; have z47 := cells5 a.out; have bB : 0 ≤ (0 : Int) := (by omega); have cB : 0 < (u.length : Int) := of_decide_eq_true (by assumption); obtain ⟨hC, mC, oC, nC, pC, iC, l, o, q, i, j, T, L, U, O⟩ := Hw s.out 0 bB cB; cases iC; have jD : (0 < u.length) = True := eq_true (by omega); (try rw [show ((0 : Int)).toNat = 0 from rfl] at l); (try rw [show 0 * 5 = 0 from rfl] at l); (try rw [Addr.add_zero'] at l); (try rw [show ((0 : Int)).toNat = 0 from rfl] at o); (try rw [show 0 * 5 = 0 from rfl] at o); (try rw [Addr.add_zero'] at o); (try rw [show ((0 : Int)).toNat = 0 from rfl] at q); (try rw [show 0 * 5 = 0 from rfl] at q); (try rw [Addr.add_zero'] at q); (try rw [show ((0 : Int)).toNat = 0 from rfl] at i); (try rw [show 0 * 5 = 0 from rfl] at i); (try rw [Addr.add_zero'] at i); (try rw [show ((0 : Int)).toNat = 0 from rfl] at j); (try rw [show 0 * 5 = 0 from rfl] at j); (try rw [Addr.add_zero'] at j); replace l := AY c.out l; replace o := AY c.out o; replace q := AY c.out q; replace i := AY c.out i; replace j := AY c.out j; have dC := mk0 L; have zB := mk0 T; clear L T; have eC := mk0 O; have aC := mk0 U; clear O U; replace bB := eq_true bB; replace cB := eq_true cB; have jC : 0 ≤ (0 : Int) := (by omega); have kC : 0 < (u.length : Int) := of_decide_eq_true (by assumption); obtain ⟨tC, rD, tD, sD, uD, pD, W, X, Y, G, I, mB, kB, qB, lB⟩ := Hw s.out 0 jC kC; obtain rfl : hC = tC := (by injection pD); have fE : (0 < u.length) = True := eq_true (by omega); (try rw [show ((0 : Int)).toNat = 0 from rfl] at W); (try rw [show 0 * 5 = 0 from rfl] at W); (try rw [Addr.add_zero'] at W); (try rw [show ((0 : Int)).toNat = 0 from rfl] at X); (try rw [show 0 * 5 = 0 from rfl] at X); (try rw [Addr.add_zero'] at X); (try rw [show ((0 : Int)).toNat = 0 from rfl] at Y); (try rw [show 0 * 5 = 0 from rfl] at Y); (try rw [Addr.add_zero'] at Y); (try rw [show ((0 : Int)).toNat = 0 from rfl] at G); (try rw [show 0 * 5 = 0 from rfl] at G); (try rw [Addr.add_zero'] at G); (try rw [show ((0 : Int)).toNat = 0 from rfl] at I); (try rw [show 0 * 5 = 0 from rfl] at I); (try rw [Addr.add_zero'] at I); replace W := AY c.out W; replace X := AY c.out X; replace Y := AY c.out Y; replace G := AY c.out G; replace I := AY c.out I; have fC := mk0 kB; have bC := mk0 mB; clear kB mB; have gC := mk0 lB; have cC := mk0 qB; clear lB qB; replace jC := eq_true jC; replace kC := eq_true kC; have sB := Option.some.inj (i.symm.trans G); injection sB with sB en_ ec_; subst sB; subst ec_; clear en_; have sB := Option.some.inj (j.symm.trans I); injection sB with sB en_ ec_; subst sB; subst ec_; clear en_) | (go_at_call 43; refine (ih eE (by have := zD.out; omega) ((Bd u 0).f0) ((Bd u 0).f1) ((Bd u 0).f2) _ _ ((Bd u 0).f3) _ _ ((Bd u 0).f4) qD _ (Ad HG.out (be1 c b)) (cu fC c) bC.out (cu gC c) cC.out xD.out).mono ?_; rintro e zE ⟨rfl, D⟩; replace a := kb a D; replace c := kh1 c b D)); go_ret; exact ⟨rfl, be1 c b⟩
def Bq.f (k : Nat) (a : Int) (b : Int) (c : ByteArray) (e : List ByteArray) (h : List (S26)) : Option (Bool) := if a = 1 then ((BU.f k a b c e h).bind fun i => (some i)) else (if a = 2 then ((BU.f k a b c e h).bind fun t152 => (some t152)) else (if a = 3 then ((BU.f k a b c e h).bind fun j => (some j)) else (if a = 5 then ((BU.f k a b c e h).bind fun t154 => (some t154)) else (some false))))
theorem Bq.calls (k : Nat) (o : Int) (q : Int) (s : ByteArray) (v : Option Addr) (B : Nat) (i : List ByteArray) (z : Option Addr) (D : Nat) (j : List (S26)) (r : Bool) (w : World) (hG : Dk w) (W : Kd.C Kd.string w v i.length i) (T : i.length ≤ B) (X : Kd.C k26 w z j.length j) (U : j.length ≤ D) (h : Bq.f k o q s i j = some r) :
  Calls Try.prog 17 #[.agg #[.int .i64 o, .int .i64 q, .string s, .slice v i.length B, .slice z j.length D]] w fun e w' => e = .returned (.bool r) ∧ Below w.heap.size w w' := by
 have HG := mk0 hG; clear hG
 have qB := Try.underlying26
 have J := mk0 W; have G := mk0 T; clear W T; have L := mk0 X; have I := mk0 U; clear X U
 have l := mk0 (Below.refl w.heap.size w)
 have H := h; unfold Bq.f at H
 clear h
 replace H := iE H; obtain ⟨cB, dB, H⟩ | ⟨c2, cB, dB, H⟩ := H
 ·replace H := bS H; obtain ⟨gB, A3, H⟩ := H; obtain rfl := sI H; go_enter Try.func17, Try.ntmps17; go_wp2_with (first | ((with_reducible refine AU rfl (N := 1) rfl (cs := #[.int .i64 o, .int .i64 q, .string s, .slice v i.length B, .slice z j.length D]) (t := 26) ?hr ?_); (case hr => first | (go_simp; done) | (go_simp; rfl)); intro O hg w4 c u; have a := mk0 (c); have b := bs (be l) hg; replace l := kh l u; clear u c hg; have z5 := cells5 a.out) | ((with_reducible refine AP (f := 43) rfl ?_); refine CS Try.func43 (BU.calls k o q s _ _ i _ _ j gB _ (Ad HG.out (be1 l b)) (cu J l) G.out (cu L l) I.out A3.out) ?_; intro w6 u; replace a := kb a u; replace l := kh1 l b u)); go_ret; exact ⟨rfl, be1 l b⟩
 replace H := iE H; obtain ⟨eB, fB, H⟩ | ⟨c7, eB, fB, H⟩ := H
 ·replace H := bS H; obtain ⟨t152, A8, H⟩ := H; obtain rfl := sI H; go_enter Try.func17, Try.ntmps17; go_wp2_with (first | ((with_reducible refine AU rfl (N := 1) rfl (cs := #[.int .i64 o, .int .i64 q, .string s, .slice v i.length B, .slice z j.length D]) (t := 26) ?hr ?_); (case hr => first | (go_simp; done) | (go_simp; rfl)); intro O hg w9 c u; have a := mk0 (c); have b := bs (be l) hg; replace l := kh l u; clear u c hg; have cC := cells5 a.out) | ((with_reducible refine AP (f := 43) rfl ?_); refine CS Try.func43 (BU.calls k o q s _ _ i _ _ j t152 _ (Ad HG.out (be1 l b)) (cu J l) G.out (cu L l) I.out A8.out) ?_; intro wB u; replace a := kb a u; replace l := kh1 l b u)); go_ret; exact ⟨rfl, be1 l b⟩
 replace H := iE H; obtain ⟨Y, Z, H⟩ | ⟨c12, Y, Z, H⟩ := H
 ·replace H := bS H; obtain ⟨hB, kB, H⟩ := H; obtain rfl := sI H; go_enter Try.func17, Try.ntmps17; go_wp2_with (first | ((with_reducible refine AU rfl (N := 1) rfl (cs := #[.int .i64 o, .int .i64 q, .string s, .slice v i.length B, .slice z j.length D]) (t := 26) ?hr ?_); (case hr => first | (go_simp; done) | (go_simp; rfl)); intro O hg xB c u; have a := mk0 (c); have b := bs (be l) hg; replace l := kh l u; clear u c hg; have dC := cells5 a.out) | ((with_reducible refine AP (f := 43) rfl ?_); refine CS Try.func43 (BU.calls k o q s _ _ i _ _ j hB _ (Ad HG.out (be1 l b)) (cu J l) G.out (cu L l) I.out kB.out) ?_; intro yB u; replace a := kb a u; replace l := kh1 l b u)); go_ret; exact ⟨rfl, be1 l b⟩
 replace H := iE' H; obtain ⟨uB, aB, bB, H⟩ | ⟨aB, bB, H⟩ := H
 ·obtain rfl := sI H; go_enter Try.func17, Try.ntmps17; go_wp2_with ((with_reducible refine AU rfl (N := 1) rfl (cs := #[.int .i64 o, .int .i64 q, .string s, .slice v i.length B, .slice z j.length D]) (t := 26) ?hr ?_); (case hr => first | (go_simp; done) | (go_simp; rfl)); intro O hg bC c u; have a := mk0 (c); have b := bs (be l) hg; replace l := kh l u; clear u c hg; have z23 := cells5 a.out); go_ret; exact ⟨rfl, be1 l b⟩
 replace H := bS H; obtain ⟨t154, lB, H⟩ := H; obtain rfl := sI H
 go_enter Try.func17, Try.ntmps17
 go_wp2_with (first | ((with_reducible refine AU rfl (N := 1) rfl (cs := #[.int .i64 o, .int .i64 q, .string s, .slice v i.length B, .slice z j.length D]) (t := 26) ?hr ?_); (case hr => first | (go_simp; done) | (go_simp; rfl)); intro O hg zB c u; have a := mk0 (c); have b := bs (be l) hg; replace l := kh l u; clear u c hg; have z20 := cells5 a.out) | ((with_reducible refine AP (f := 43) rfl ?_); refine CS Try.func43 (BU.calls k o q s _ _ i _ _ j t154 _ (Ad HG.out (be1 l b)) (cu J l) G.out (cu L l) I.out lB.out) ?_; intro aC u; replace a := kb a u; replace l := kh1 l b u))
 go_ret
 exact ⟨rfl, be1 l b⟩
end Go.Proofs.Ytojankgmedccdaa.PIs
