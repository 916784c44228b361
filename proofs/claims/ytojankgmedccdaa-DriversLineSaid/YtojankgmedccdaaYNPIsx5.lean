/- Lemmas. -/
import Derived.Test.YtojankgmedccdaaYNPIsx4
namespace Go.Proofs.Ytojankgmedccdaa.PIs
open Go.RowKit Own PTy Hand Wo
attribute [local go_sem] BS BU Bf Bg BC BD BX BZ
set_option linter.unusedVariables false
set_option linter.unusedSimpArgs false
mutual
def BN.j0 : Nat → Bool → Int → Int → ByteArray → List ByteArray → List (S26) → Option (Bool)
 | 0, _, _, _, _, _, _ => none
 | k + 1, x30, b, c, d, a, e => if x30 = true then (some false) else (BN.l0 k a (a.length : Int) 0 b c d a e)
def BN.l0 : Nat → List ByteArray → Int → Int → Int → Int → ByteArray → List ByteArray → List (S26) → Option (Bool)
 | 0, _, _, _, _, _, _, _, _ => none
 | k + 1, x32, i, g, b, c, d, a, e => if g < i then (if 0 ≤ g then (if g < (x32.length : Int) then ((BM.f k (EI ByteArray.empty x32 g)).bind fun t138 => (if t138 = true then (if g ≤ (a.length : Int) then ((KC.f k (a.take (g : Int).toNat) (EI ByteArray.empty x32 g)).bind fun h => (if h = true then (some false) else (BN.l0 k x32 i (wrap64 (g + 1)) b c d a e))) else (none)) else (some false))) else (none)) else (none)) else (some true)
end
def BN.f (k : Nat) (c : Int) (d : Int) (a : ByteArray) (b : List ByteArray) (e : List (S26)) : Option (Bool) := if a.toList = ([] : List UInt8) then (BN.j0 k true c d a b e) else (if (a.size : Int) > 100 then (BN.j0 k true c d a b e) else ((strings_ContainsFunc.f a).bind fun g => (if g = true then (BN.j0 k true c d a b e) else (if (b.length : Int) < 1 then (BN.j0 k true c d a b e) else (BN.j0 k (decide ((b.length : Int) > 16)) c d a b e)))))
set_option maxHeartbeats 8000000 in
set_option maxRecDepth 100000 in
theorem BN.calls {k : Nat} {s u : Int} {i : ByteArray} {v : Option Addr} {o : Nat} {c : List ByteArray} {x : Option Addr} {y : Nat} {m : List (S26)} {r : Bool} {w : World} (hG : EP w) (Z : Kd.C Kd.string w v c.length c) (U : c.length ≤ o) (aB : Kd.C k26 w x m.length m) (W : m.length ≤ y) (h : BN.f k s u i c m = some r) :
  Calls Try.prog 64 #[.agg #[.int .i64 s, .int .i64 u, .string i, .slice v c.length o, .slice x m.length y]] w fun e w' => e = .returned (.bool r) ∧ Below w.heap.size w w' := by
 have HG := mk0 hG; clear hG
 have pC := Try.underlying26
 have q := mk0 Z; have L := mk0 U; clear Z U; have iC := mk0 aB; have gC := mk0 W; clear aB W
 have n := mk0 (Below.refl w.heap.size w)
 have H := h; unfold BN.f at H
 clear h; have lB := mk0 H; clear H
 go_enter Try.func64, Try.ntmps64
 go_upto_region 1 with ((with_reducible refine AQ rfl (N := 1) rfl (cs := #[.int .i64 s, .int .i64 u, .string i, .slice v c.length o, .slice x m.length y]) (t := 26) ?hr ?_); (case hr => first | (go_simp; done) | (go_simp; rfl)); intro O hg w3 hB T; have b := mk0 (hB); have d := bs (be n) hg; replace n := kh n T; clear T hB hg)
 (try simp only [Act.put, List.setIfInBounds_toArray, List.set_cons_zero, List.set_cons_succ])
 go_cut [30] (fun v30 wc => ∃ (kq : Nat) (I : Bool), v30 = .bool I ∧ Aside0 (BN.j0 kq I s u i c m = some r) ∧ Aside0 (kq ≤ k) ∧ Aside0 (bk wc O 26 #[.int .i64 s, .int .i64 u, .string i, (.slice v c.length o), (.slice x m.length y)]) ∧ Aside0 (Below w.heap.size w wc))
 case first =>
  have H := lB.out; clear lB; replace H := iE H; obtain ⟨z, yB, H⟩ | ⟨c4, z, yB, H⟩ := H
  ·(first | rw [z] | (simp only [Bw, DI]; rw [z]) | skip); have J := mk0 H; clear H; have z5 := cells5 b.out; go_wp2; go_meet
   case rel => exact ⟨_, (true), rfl, J, ⟨by omega⟩, ⟨bu b⟩, ⟨be1 n d⟩⟩
  (first | rw [z] | (simp only [Bw, DI]; rw [z]) | skip); by_cases c6 : (i.size : Int) > 100
  ·rw [if_pos c6] at H; have zB : decide (100 < (i.size : Int)) = true := decide_eq_true c6; have aC : decide (100 < i.size) = true := decide_eq_true (by omega); clear c6; have J := mk0 H; clear H; have z7 := cells5 b.out; go_wp2; go_meet
   case rel => exact ⟨_, (true), rfl, J, ⟨by omega⟩, ⟨bu b⟩, ⟨be1 n d⟩⟩
  rw [if_neg c6] at H; have zB : decide (100 < (i.size : Int)) = false := decide_eq_false c6; have aC : decide (100 < i.size) = false := decide_eq_false (by omega); clear c6; replace H := bS H; obtain ⟨sC, A8, H⟩ := H; replace H := iB H; obtain ⟨rfl, H⟩ | ⟨rfl, H⟩ := H
  ·have J := mk0 H; clear H; have zC := cells5 b.out; go_wp2_with (go_at_call 73; refine (strings_ContainsFunc.calls i true _ A8.out).mono ?_; rintro e wC ⟨rfl, T⟩; replace b := kb b T; replace n := kh1 n d T); go_meet
   case rel => exact ⟨_, (true), rfl, J, ⟨by omega⟩, ⟨bu b⟩, ⟨be1 n d⟩⟩
  replace H := iD' H; obtain ⟨c12, mB, H⟩ | ⟨c12, mB, H⟩ := H
  ·have qB : decide (c.length < 1) = false := decide_eq_false (by omega); clear c12; have J := mk0 H; clear H; have cD := cells5 b.out; go_wp2_with (go_at_call 73; refine (strings_ContainsFunc.calls i false _ A8.out).mono ?_; rintro e yC ⟨rfl, T⟩; replace b := kb b T; replace n := kh1 n d T; have dD := cells5 b.out); go_meet
   case rel => exact ⟨_, (decide ((c.length : Int) > 16)), rfl, J, ⟨by omega⟩, ⟨bu b⟩, ⟨be1 n d⟩⟩
  have qB : decide (c.length < 1) = true := decide_eq_true (by omega); clear c12; have J := mk0 H; clear H; have aD := cells5 b.out; go_wp2_with (go_at_call 73; refine (strings_ContainsFunc.calls i false _ A8.out).mono ?_; rintro e xC ⟨rfl, T⟩; replace b := kb b T; replace n := kh1 n d T; have bD := cells5 b.out); go_meet
  case rel => exact ⟨_, (true), rfl, J, ⟨by omega⟩, ⟨bu b⟩, ⟨be1 n d⟩⟩
 case rest =>
  clear lB; obtain ⟨kq, I, rfl, HA, wB, b, n⟩ := hcut; cases kq with
  | zero => exact absurd HA.out (by simp [BN.j0])
  | succ bC =>
   have H := HA.out; clear HA; simp only [BN.j0] at H; replace H := iB H; obtain ⟨rfl, H⟩ | ⟨rfl, H⟩ := H
   ·obtain rfl := sI H; go_wp2; go_ret; exact ⟨rfl, be1 n d⟩
   have J := mk0 H; clear H; have z20 := cells5 b.out; go_wp2; go_loopg [34] bC (fun kq v34 w' => ∃ (a : Int), v34 = .int .i64 a ∧ Aside0 (BN.l0 kq c (c.length : Int) a s u i c m = some r) ∧ Aside0 (kq ≤ bC) ∧ Aside0 (bk w' O 26 #[.int .i64 s, .int .i64 u, .string i, (.slice v c.length o), (.slice x m.length y)]) ∧ Aside0 (Below w.heap.size w w'))
   case atStart => exact ⟨(0), rfl, J, ⟨Nat.le_refl _⟩, ⟨bu b⟩, ⟨be1 n d⟩⟩
   case round =>
    clear J; obtain ⟨a, rfl, HA, xB, b, n⟩ := hrel; cases gk with
    | zero => exact absurd HA.out (by simp [BN.l0])
    | succ k2 =>
     have H := HA.out; clear HA; simp only [BN.l0] at H; replace H := iD' H; obtain ⟨-, sB, H⟩ | ⟨-, sB, H⟩ := H
     ·obtain rfl := sI H; go_wp2; go_ret; exact ⟨rfl, be1 n d⟩
     replace H := iN H; obtain ⟨-, jC, H⟩ := H; replace H := iN H; obtain ⟨-, kC, H⟩ := H; replace H := bS H; obtain ⟨t138, jB, H⟩ := H; replace H := iB' H; obtain ⟨rfl, H⟩ | ⟨rfl, H⟩ := H
     ·obtain rfl := sI H; have j : 0 ≤ (a : Int) := od; have l : a < (c.length : Int) := od; obtain ⟨p, B, g⟩ := Kd.Dh q.out a j l; cases B; replace g := AP n.out g; replace j := eq_true j; replace l := eq_true l; go_wp2_with ((with_reducible refine AJ (f := 75) rfl ?_); refine FM Try.func75 (BM.calls (Aa HG.out (be1 n d)) jB.out) ?_; intro nd); go_ret; exact ⟨rfl, be1 n d⟩
     have lC := eq_true (of_decide_eq_true (by assumption) : 0 ≤ a); by_cases c27 : a ≤ (c.length : Int); rotate_left
     ·rw [if_neg c27] at H; exact absurd H (by simp)
     rw [if_pos c27] at H; have mC := eq_true c27; have nC : decide (a ≤ (c.length : Int)) = true := decide_eq_true c27; clear c27; replace H := bS H; obtain ⟨tC, uB, H⟩ := H; replace H := iB H; obtain ⟨rfl, H⟩ | ⟨rfl, H⟩ := H
     ·obtain rfl := sI H; have j : 0 ≤ (a : Int) := od; have l : a < (c.length : Int) := od; obtain ⟨p, B, g⟩ := Kd.Dh q.out a j l; cases B; replace g := AP n.out g; replace j := eq_true j; replace l := eq_true l; go_wp2_with (first | ((with_reducible refine AJ (f := 75) rfl ?_); refine FM Try.func75 (BM.calls (Aa HG.out (be1 n d)) jB.out) ?_; intro nd; have z30 := cells5 b.out; obtain ⟨qC, X, _, bB, _⟩ := info_parts NN; obtain ⟨cC, dB, fB⟩ := G9 (P := Try.prog) Value.string (⟨#[]⟩ : ByteArray) 23 9 .i64 Try.underlying23 X bB (some p) o c a (of_decide_eq_true (by assumption)) (of_decide_eq_true (by assumption)) L.out; have G := mk0 (Kd.I5 (h1 := fun _ => rfl) (dB _ (Kd.GJ q.out))); have D := mk0 fB; clear dB fB X bB) | (go_at_call 76; refine Hd (args' := #[.slice (some p) (c.take (a : Int).toNat).length o, .string (EI ByteArray.empty c a)]) (by rw [show (c.take (a : Int).toNat).length = (a).toNat from (by rw [List.length_take]; have h_ : (a : Int) ≤ (c.length : Int) := of_decide_eq_true (by assumption); omega)] <;> rfl) ?_; (with_reducible refine (KC.calls ?side1 ?side2 uB.out).mono ?_); (case side1 => exact (Kd.Ap G.out (be1 n d))); (case side2 => exact D.out); rintro e w' ⟨rfl, nd, rfl⟩)); go_ret; exact ⟨rfl, be1 n d⟩
     have J := mk0 H; clear H; have j : 0 ≤ (a : Int) := od; have l : a < (c.length : Int) := od; obtain ⟨p, B, g⟩ := Kd.Dh q.out a j l; cases B; replace g := AP n.out g; replace j := eq_true j; replace l := eq_true l; go_wp2_with (first | ((with_reducible refine AJ (f := 75) rfl ?_); refine FM Try.func75 (BM.calls (Aa HG.out (be1 n d)) jB.out) ?_; intro nd; have z32 := cells5 b.out; obtain ⟨rC, Y, _, cB, _⟩ := info_parts NN; obtain ⟨dC, eB, gB⟩ := G9 (P := Try.prog) Value.string (⟨#[]⟩ : ByteArray) 23 9 .i64 Try.underlying23 Y cB (some p) o c a (of_decide_eq_true (by assumption)) (of_decide_eq_true (by assumption)) L.out; have G := mk0 (Kd.I5 (h1 := fun _ => rfl) (eB _ (Kd.GJ q.out))); have D := mk0 gB; clear eB gB Y cB) | (go_at_call 76; refine Hd (args' := #[.slice (some p) (c.take (a : Int).toNat).length o, .string (EI ByteArray.empty c a)]) (by rw [show (c.take (a : Int).toNat).length = (a).toNat from (by rw [List.length_take]; have h_ : (a : Int) ≤ (c.length : Int) := of_decide_eq_true (by assumption); omega)] <;> rfl) ?_; (with_reducible refine (KC.calls ?side1 ?side2 uB.out).mono ?_); (case side1 => exact (Kd.Ap G.out (be1 n d))); (case side2 => exact D.out); rintro e w' ⟨rfl, nd, rfl⟩)); go_roundg k2
     case measure => have := wB.out; have := xB.out; omega
     case rel => exact ⟨(wrap64 (a + 1)), rfl, J, ⟨by have := wB.out; have := xB.out; omega⟩, ⟨bu b⟩, ⟨be1 n d⟩⟩
end Go.Proofs.Ytojankgmedccdaa.PIs
