/- Lemmas. -/
import Derived.Test.YtojankgmedccdaaYOPAwx7
namespace Go.Proofs.Ytojankgmedccdaa.PAw
open Go.RowKit Own PTy Hand PIs Wo
attribute [local go_sem] BI BJ Ba Bc Ao Ap BL BM
set_option linter.unusedVariables false
set_option linter.unusedSimpArgs false
def drivers_rising.l0 : Nat → Int → List Int → Int → Int → Option (Bool)
 | 0, _, _, _, _ => none
 | k + 1, x3, x6, x7, a => if a < x7 then (if 0 ≤ a then (if a < (x6.length : Int) then (if (rd x6 a) ≤ x3 then (some false) else (if (rd x6 a) > 1000000 then (some false) else (drivers_rising.l0 k (rd x6 a) x6 x7 (wrap64 (a + 1))))) else (none)) else (none)) else (some true)
def drivers_rising.f (k : Nat) (l0 : List Int) : Option (Bool) := drivers_rising.l0 k (-1) l0 (l0.length : Int) 0
set_option maxHeartbeats 8000000 in
set_option maxRecDepth 100000 in
theorem drivers_rising.calls {k : Nat} {J : Option Addr} {L : Nat} {l0 : List Int} {r : Bool} {w : World} (D : Kd.C (Kd.int .i64) w J l0.length l0) (B : l0.length ≤ L) (h : drivers_rising.f k l0 = some r) :
  Calls Try.prog 59 #[.slice J l0.length L] w fun e w' => e = .returned (.bool r) ∧ Aq w w' := by
 have q := mk0 D; have W := mk0 B; clear D B
 have H : (drivers_rising.l0 k (-1) l0 (l0.length : Int) 0) = some r := h
 clear h
 have G := mk0 H
 clear H
 go_enter Try.func59, Try.ntmps59
 go_wp2
 go_loopg [3, 8] k (fun U v3 v8 w' => ∃ (o : Int) (a : Int), v3 = .int .i64 o ∧ v8 = .int .i64 a ∧ Aside0 (drivers_rising.l0 U o l0 (l0.length : Int) a = some r) ∧ Aside0 (U ≤ k) ∧ Aq w w')
 case atStart => exact ⟨((-1)), (0), rfl, rfl, G, ⟨Nat.le_refl _⟩, dr⟩
 case round =>
  clear G; obtain ⟨o, a, rfl, rfl, I, s, Y, rfl⟩ := hrel; cases gk with
  | zero => exact absurd I.out (by simp [drivers_rising.l0])
  | succ X =>
   have H := I.out; clear I; simp only [drivers_rising.l0] at H; replace H := iD' H; obtain ⟨-, u, H⟩ | ⟨-, u, H⟩ := H
   ·obtain rfl := sI H; go_wp2; go_ret; exact dn
   replace H := iN H; obtain ⟨-, O, H⟩ := H; replace H := iN H; obtain ⟨-, T, H⟩ := H; replace H := iD H; obtain ⟨-, v, H⟩ | ⟨-, v, H⟩ := H
   ·obtain rfl := sI H; have b : 0 ≤ (a : Int) := od; have c : a < (l0.length : Int) := od; obtain ⟨l, i, j⟩ := Kd.DX q.out a b c; cases i; replace b := eq_true b; replace c := eq_true c; go_wp2; go_ret; exact dn
   by_cases c6 : (rd l0 a) > 1000000
   ·rw [if_pos c6] at H; have z : decide (1000000 < (rd l0 a)) = true := decide_eq_true c6; clear c6; obtain rfl := sI H; have b : 0 ≤ (a : Int) := od; have c : a < (l0.length : Int) := od; obtain ⟨l, i, j⟩ := Kd.DX q.out a b c; cases i; replace b := eq_true b; replace c := eq_true c; go_wp2; go_ret; exact dn
   rw [if_neg c6] at H; have z : decide (1000000 < (rd l0 a)) = false := decide_eq_false c6; clear c6; have G := mk0 H; clear H; have b : 0 ≤ (a : Int) := od; have c : a < (l0.length : Int) := od; obtain ⟨l, i, j⟩ := Kd.DX q.out a b c; cases i; replace b := eq_true b; replace c := eq_true c; go_wp2; go_roundg X
   case measure => have := s.out; omega
   case rel => exact ⟨(rd l0 a), (wrap64 (a + 1)), rfl, rfl, G, ⟨by have := s.out; omega⟩, dr⟩
end Go.Proofs.Ytojankgmedccdaa.PAw
