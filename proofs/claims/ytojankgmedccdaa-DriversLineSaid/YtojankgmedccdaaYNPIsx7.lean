/- Lemmas. -/
import Derived.Test.YtojankgmedccdaaYNPIsx0
set_option maxHeartbeats 8000000
set_option maxRecDepth 100000
namespace Go.Proofs.Ytojankgmedccdaa.PIs
open Go.RowKit Own PTy Hand Wo
attribute [local go_sem] BS BU Bf Bg BC BD BX BZ
set_option linter.unusedVariables false
set_option linter.unusedSimpArgs false
def CB.l0 : Nat → ByteArray → Int → Int → Option (Bool)
 | 0, _, _, _ => none
 | k + 1, x0, x6, x7 => if x7 < x6 then (if 0 ≤ x7 then (if x7 < (x0.size : Int) then (if (bt x0 x7) < 97 then (if (bt x0 x7) < 65 then (if (bt x0 x7) < 48 then (if (bt x0 x7) = 95 then (CB.l0 k x0 x6 (wrap64 (x7 + 1))) else (if (bt x0 x7) = 46 then (CB.l0 k x0 x6 (wrap64 (x7 + 1))) else (some false))) else (if (bt x0 x7) > 57 then (if (bt x0 x7) = 95 then (CB.l0 k x0 x6 (wrap64 (x7 + 1))) else (if (bt x0 x7) = 46 then (CB.l0 k x0 x6 (wrap64 (x7 + 1))) else (some false))) else (CB.l0 k x0 x6 (wrap64 (x7 + 1))))) else (if (bt x0 x7) > 90 then (if (bt x0 x7) < 48 then (if (bt x0 x7) = 95 then (CB.l0 k x0 x6 (wrap64 (x7 + 1))) else (if (bt x0 x7) = 46 then (CB.l0 k x0 x6 (wrap64 (x7 + 1))) else (some false))) else (if (bt x0 x7) > 57 then (if (bt x0 x7) = 95 then (CB.l0 k x0 x6 (wrap64 (x7 + 1))) else (if (bt x0 x7) = 46 then (CB.l0 k x0 x6 (wrap64 (x7 + 1))) else (some false))) else (CB.l0 k x0 x6 (wrap64 (x7 + 1))))) else (CB.l0 k x0 x6 (wrap64 (x7 + 1))))) else (if (bt x0 x7) > 122 then (if (bt x0 x7) < 65 then (if (bt x0 x7) < 48 then (if (bt x0 x7) = 95 then (CB.l0 k x0 x6 (wrap64 (x7 + 1))) else (if (bt x0 x7) = 46 then (CB.l0 k x0 x6 (wrap64 (x7 + 1))) else (some false))) else (if (bt x0 x7) > 57 then (if (bt x0 x7) = 95 then (CB.l0 k x0 x6 (wrap64 (x7 + 1))) else (if (bt x0 x7) = 46 then (CB.l0 k x0 x6 (wrap64 (x7 + 1))) else (some false))) else (CB.l0 k x0 x6 (wrap64 (x7 + 1))))) else (if (bt x0 x7) > 90 then (if (bt x0 x7) < 48 then (if (bt x0 x7) = 95 then (CB.l0 k x0 x6 (wrap64 (x7 + 1))) else (if (bt x0 x7) = 46 then (CB.l0 k x0 x6 (wrap64 (x7 + 1))) else (some false))) else (if (bt x0 x7) > 57 then (if (bt x0 x7) = 95 then (CB.l0 k x0 x6 (wrap64 (x7 + 1))) else (if (bt x0 x7) = 46 then (CB.l0 k x0 x6 (wrap64 (x7 + 1))) else (some false))) else (CB.l0 k x0 x6 (wrap64 (x7 + 1))))) else (CB.l0 k x0 x6 (wrap64 (x7 + 1))))) else (CB.l0 k x0 x6 (wrap64 (x7 + 1))))) else (none)) else (none)) else (if (x0.size : Int) ≥ 1 then (some (decide ((x0.size : Int) ≤ 100))) else (some false))
def CB.f (k : Nat) (a0 : ByteArray) : Option (Bool) := CB.l0 k a0 (a0.size : Int) 0
theorem CB.calls {k : Nat} {a0 : ByteArray} {r : Bool} {w : World} (h : CB.f k a0 = some r) :
  Calls Try.prog 65 #[.string a0] w fun e w' => e = .returned (.bool r) ∧ Ar w w' := by
 have H : (CB.l0 k a0 (a0.size : Int) 0) = some r := h
 clear h
 have i := mk0 H
 clear H
 go_enter Try.func65, Try.ntmps65
 go_wp2
 go_loopg [7] k (fun kq v7 w' => ∃ (a : Int), v7 = .int .i64 a ∧ Aside0 (CB.l0 kq a0 (a0.size : Int) a = some r) ∧ Aside0 (kq ≤ k) ∧ Ar w w')
 case atStart => exact ⟨(0), rfl, i, ⟨Nat.le_refl _⟩, dr⟩
 case round =>
  clear i; obtain ⟨a, rfl, HA, b, m1, rfl⟩ := hrel; cases gk with
  | zero => exact absurd HA.out (by simp [CB.l0])
  | succ j =>
   have H := HA.out; clear HA; simp only [CB.l0] at H; replace H := iD' H; obtain ⟨-, yB, H⟩ | ⟨-, yB, H⟩ := H
   ·by_cases c36 : (a0.size : Int) ≥ 1
    ·rw [if_pos c36] at H; have wB : decide (1 ≤ (a0.size : Int)) = true := decide_eq_true c36; have xB : decide (1 ≤ a0.size) = true := decide_eq_true (by omega); clear c36; obtain rfl := sI H; go_wp2; go_ret; exact dn
    rw [if_neg c36] at H; have wB : decide (1 ≤ (a0.size : Int)) = false := decide_eq_false c36; have xB : decide (1 ≤ a0.size) = false := decide_eq_false (by omega); clear c36; obtain rfl := sI H; go_wp2; go_ret; exact dn
   replace H := iN H; obtain ⟨-, fC, H⟩ := H; replace H := iN H; obtain ⟨-, gC, H⟩ := H; replace H := iD H; obtain ⟨-, zB, H⟩ | ⟨-, zB, H⟩ := H
   ·replace H := iD H; obtain ⟨-, aC, H⟩ | ⟨-, aC, H⟩ := H
    ·replace H := iD H; obtain ⟨-, bC, H⟩ | ⟨-, bC, H⟩ := H
     ·replace H := iE H; obtain ⟨cC, dC, H⟩ | ⟨c9, cC, dC, H⟩ := H
      ·have i := mk0 H; clear H; have c : 0 ≤ (a : Int) := od; have d : a < (a0.size : Int) := od; have g := DD a0 a; replace c := eq_true c; replace d := eq_true d; go_wp2; go_roundg j
       case measure => have := b.out; omega
       case rel => exact ⟨(wrap64 (a + 1)), rfl, i, ⟨by have := b.out; omega⟩, dr⟩
      replace H := iE' H; obtain ⟨iC, l, m, H⟩ | ⟨l, m, H⟩ := H
      ·obtain rfl := sI H; have c : 0 ≤ (a : Int) := od; have d : a < (a0.size : Int) := od; have g := DD a0 a; replace c := eq_true c; replace d := eq_true d; go_wp2; go_ret; exact dn
      have i := mk0 H; clear H; have c : 0 ≤ (a : Int) := od; have d : a < (a0.size : Int) := od; have g := DD a0 a; replace c := eq_true c; replace d := eq_true d; go_wp2; go_roundg j
      case measure => have := b.out; omega
      case rel => exact ⟨(wrap64 (a + 1)), rfl, i, ⟨by have := b.out; omega⟩, dr⟩
     by_cases c11 : (bt a0 a) > 57; rotate_left
     ·rw [if_neg c11] at H; have n : decide (57 < (bt a0 a)) = false := decide_eq_false c11; clear c11; have i := mk0 H; clear H; have c : 0 ≤ (a : Int) := od; have d : a < (a0.size : Int) := od; have g := DD a0 a; replace c := eq_true c; replace d := eq_true d; go_wp2; go_roundg j
      case measure => have := b.out; omega
      case rel => exact ⟨(wrap64 (a + 1)), rfl, i, ⟨by have := b.out; omega⟩, dr⟩
     rw [if_pos c11] at H; have n : decide (57 < (bt a0 a)) = true := decide_eq_true c11; clear c11; replace H := iE H; obtain ⟨o, p, H⟩ | ⟨c12, o, p, H⟩ := H
     ·have i := mk0 H; clear H; have c : 0 ≤ (a : Int) := od; have d : a < (a0.size : Int) := od; have g := DD a0 a; replace c := eq_true c; replace d := eq_true d; go_wp2; go_roundg j
      case measure => have := b.out; omega
      case rel => exact ⟨(wrap64 (a + 1)), rfl, i, ⟨by have := b.out; omega⟩, dr⟩
     replace H := iE' H; obtain ⟨jC, q, s, H⟩ | ⟨q, s, H⟩ := H
     ·obtain rfl := sI H; have c : 0 ≤ (a : Int) := od; have d : a < (a0.size : Int) := od; have g := DD a0 a; replace c := eq_true c; replace d := eq_true d; go_wp2; go_ret; exact dn
     have i := mk0 H; clear H; have c : 0 ≤ (a : Int) := od; have d : a < (a0.size : Int) := od; have g := DD a0 a; replace c := eq_true c; replace d := eq_true d; go_wp2; go_roundg j
     case measure => have := b.out; omega
     case rel => exact ⟨(wrap64 (a + 1)), rfl, i, ⟨by have := b.out; omega⟩, dr⟩
    by_cases c14 : (bt a0 a) > 90; rotate_left
    ·rw [if_neg c14] at H; have u : decide (90 < (bt a0 a)) = false := decide_eq_false c14; clear c14; have i := mk0 H; clear H; have c : 0 ≤ (a : Int) := od; have d : a < (a0.size : Int) := od; have g := DD a0 a; replace c := eq_true c; replace d := eq_true d; go_wp2; go_roundg j
     case measure => have := b.out; omega
     case rel => exact ⟨(wrap64 (a + 1)), rfl, i, ⟨by have := b.out; omega⟩, dr⟩
    rw [if_pos c14] at H; have u : decide (90 < (bt a0 a)) = true := decide_eq_true c14; clear c14; replace H := iD H; obtain ⟨-, v, H⟩ | ⟨-, v, H⟩ := H
    ·replace H := iE H; obtain ⟨x, y, H⟩ | ⟨kC, x, y, H⟩ := H
     ·have i := mk0 H; clear H; have c : 0 ≤ (a : Int) := od; have d : a < (a0.size : Int) := od; have g := DD a0 a; replace c := eq_true c; replace d := eq_true d; go_wp2; go_roundg j
      case measure => have := b.out; omega
      case rel => exact ⟨(wrap64 (a + 1)), rfl, i, ⟨by have := b.out; omega⟩, dr⟩
     replace H := iE' H; obtain ⟨lC, z, B, H⟩ | ⟨z, B, H⟩ := H
     ·obtain rfl := sI H; have c : 0 ≤ (a : Int) := od; have d : a < (a0.size : Int) := od; have g := DD a0 a; replace c := eq_true c; replace d := eq_true d; go_wp2; go_ret; exact dn
     have i := mk0 H; clear H; have c : 0 ≤ (a : Int) := od; have d : a < (a0.size : Int) := od; have g := DD a0 a; replace c := eq_true c; replace d := eq_true d; go_wp2; go_roundg j
     case measure => have := b.out; omega
     case rel => exact ⟨(wrap64 (a + 1)), rfl, i, ⟨by have := b.out; omega⟩, dr⟩
    by_cases c18 : (bt a0 a) > 57; rotate_left
    ·rw [if_neg c18] at H; have D : decide (57 < (bt a0 a)) = false := decide_eq_false c18; clear c18; have i := mk0 H; clear H; have c : 0 ≤ (a : Int) := od; have d : a < (a0.size : Int) := od; have g := DD a0 a; replace c := eq_true c; replace d := eq_true d; go_wp2; go_roundg j
     case measure => have := b.out; omega
     case rel => exact ⟨(wrap64 (a + 1)), rfl, i, ⟨by have := b.out; omega⟩, dr⟩
    rw [if_pos c18] at H; have D : decide (57 < (bt a0 a)) = true := decide_eq_true c18; clear c18; replace H := iE H; obtain ⟨G, I, H⟩ | ⟨mC, G, I, H⟩ := H
    ·have i := mk0 H; clear H; have c : 0 ≤ (a : Int) := od; have d : a < (a0.size : Int) := od; have g := DD a0 a; replace c := eq_true c; replace d := eq_true d; go_wp2; go_roundg j
     case measure => have := b.out; omega
     case rel => exact ⟨(wrap64 (a + 1)), rfl, i, ⟨by have := b.out; omega⟩, dr⟩
    replace H := iE' H; obtain ⟨c20, J, L, H⟩ | ⟨J, L, H⟩ := H
    ·obtain rfl := sI H; have c : 0 ≤ (a : Int) := od; have d : a < (a0.size : Int) := od; have g := DD a0 a; replace c := eq_true c; replace d := eq_true d; go_wp2; go_ret; exact dn
    have i := mk0 H; clear H; have c : 0 ≤ (a : Int) := od; have d : a < (a0.size : Int) := od; have g := DD a0 a; replace c := eq_true c; replace d := eq_true d; go_wp2; go_roundg j
    case measure => have := b.out; omega
    case rel => exact ⟨(wrap64 (a + 1)), rfl, i, ⟨by have := b.out; omega⟩, dr⟩
   by_cases c21 : (bt a0 a) > 122; rotate_left
   ·rw [if_neg c21] at H; have O : decide (122 < (bt a0 a)) = false := decide_eq_false c21; clear c21; have i := mk0 H; clear H; have c : 0 ≤ (a : Int) := od; have d : a < (a0.size : Int) := od; have g := DD a0 a; replace c := eq_true c; replace d := eq_true d; go_wp2; go_roundg j
    case measure => have := b.out; omega
    case rel => exact ⟨(wrap64 (a + 1)), rfl, i, ⟨by have := b.out; omega⟩, dr⟩
   rw [if_pos c21] at H; have O : decide (122 < (bt a0 a)) = true := decide_eq_true c21; clear c21; replace H := iD H; obtain ⟨-, T, H⟩ | ⟨-, T, H⟩ := H
   ·replace H := iD H; obtain ⟨-, U, H⟩ | ⟨-, U, H⟩ := H
    ·replace H := iE H; obtain ⟨W, X, H⟩ | ⟨c24, W, X, H⟩ := H
     ·have i := mk0 H; clear H; have c : 0 ≤ (a : Int) := od; have d : a < (a0.size : Int) := od; have g := DD a0 a; replace c := eq_true c; replace d := eq_true d; go_wp2; go_roundg j
      case measure => have := b.out; omega
      case rel => exact ⟨(wrap64 (a + 1)), rfl, i, ⟨by have := b.out; omega⟩, dr⟩
     replace H := iE' H; obtain ⟨nC, Y, Z, H⟩ | ⟨Y, Z, H⟩ := H
     ·obtain rfl := sI H; have c : 0 ≤ (a : Int) := od; have d : a < (a0.size : Int) := od; have g := DD a0 a; replace c := eq_true c; replace d := eq_true d; go_wp2; go_ret; exact dn
     have i := mk0 H; clear H; have c : 0 ≤ (a : Int) := od; have d : a < (a0.size : Int) := od; have g := DD a0 a; replace c := eq_true c; replace d := eq_true d; go_wp2; go_roundg j
     case measure => have := b.out; omega
     case rel => exact ⟨(wrap64 (a + 1)), rfl, i, ⟨by have := b.out; omega⟩, dr⟩
    by_cases c26 : (bt a0 a) > 57; rotate_left
    ·rw [if_neg c26] at H; have aB : decide (57 < (bt a0 a)) = false := decide_eq_false c26; clear c26; have i := mk0 H; clear H; have c : 0 ≤ (a : Int) := od; have d : a < (a0.size : Int) := od; have g := DD a0 a; replace c := eq_true c; replace d := eq_true d; go_wp2; go_roundg j
     case measure => have := b.out; omega
     case rel => exact ⟨(wrap64 (a + 1)), rfl, i, ⟨by have := b.out; omega⟩, dr⟩
    rw [if_pos c26] at H; have aB : decide (57 < (bt a0 a)) = true := decide_eq_true c26; clear c26; replace H := iE H; obtain ⟨bB, cB, H⟩ | ⟨oC, bB, cB, H⟩ := H
    ·have i := mk0 H; clear H; have c : 0 ≤ (a : Int) := od; have d : a < (a0.size : Int) := od; have g := DD a0 a; replace c := eq_true c; replace d := eq_true d; go_wp2; go_roundg j
     case measure => have := b.out; omega
     case rel => exact ⟨(wrap64 (a + 1)), rfl, i, ⟨by have := b.out; omega⟩, dr⟩
    replace H := iE' H; obtain ⟨c28, dB, eB, H⟩ | ⟨dB, eB, H⟩ := H
    ·obtain rfl := sI H; have c : 0 ≤ (a : Int) := od; have d : a < (a0.size : Int) := od; have g := DD a0 a; replace c := eq_true c; replace d := eq_true d; go_wp2; go_ret; exact dn
    have i := mk0 H; clear H; have c : 0 ≤ (a : Int) := od; have d : a < (a0.size : Int) := od; have g := DD a0 a; replace c := eq_true c; replace d := eq_true d; go_wp2; go_roundg j
    case measure => have := b.out; omega
    case rel => exact ⟨(wrap64 (a + 1)), rfl, i, ⟨by have := b.out; omega⟩, dr⟩
   by_cases c29 : (bt a0 a) > 90; rotate_left
   ·rw [if_neg c29] at H; have fB : decide (90 < (bt a0 a)) = false := decide_eq_false c29; clear c29; have i := mk0 H; clear H; have c : 0 ≤ (a : Int) := od; have d : a < (a0.size : Int) := od; have g := DD a0 a; replace c := eq_true c; replace d := eq_true d; go_wp2; go_roundg j
    case measure => have := b.out; omega
    case rel => exact ⟨(wrap64 (a + 1)), rfl, i, ⟨by have := b.out; omega⟩, dr⟩
   rw [if_pos c29] at H; have fB : decide (90 < (bt a0 a)) = true := decide_eq_true c29; clear c29; replace H := iD H; obtain ⟨-, gB, H⟩ | ⟨-, gB, H⟩ := H
   ·replace H := iE H; obtain ⟨hB, jB, H⟩ | ⟨c31, hB, jB, H⟩ := H
    ·have i := mk0 H; clear H; have c : 0 ≤ (a : Int) := od; have d : a < (a0.size : Int) := od; have g := DD a0 a; replace c := eq_true c; replace d := eq_true d; go_wp2; go_roundg j
     case measure => have := b.out; omega
     case rel => exact ⟨(wrap64 (a + 1)), rfl, i, ⟨by have := b.out; omega⟩, dr⟩
    replace H := iE' H; obtain ⟨pC, kB, lB, H⟩ | ⟨kB, lB, H⟩ := H
    ·obtain rfl := sI H; have c : 0 ≤ (a : Int) := od; have d : a < (a0.size : Int) := od; have g := DD a0 a; replace c := eq_true c; replace d := eq_true d; go_wp2; go_ret; exact dn
    have i := mk0 H; clear H; have c : 0 ≤ (a : Int) := od; have d : a < (a0.size : Int) := od; have g := DD a0 a; replace c := eq_true c; replace d := eq_true d; go_wp2; go_roundg j
    case measure => have := b.out; omega
    case rel => exact ⟨(wrap64 (a + 1)), rfl, i, ⟨by have := b.out; omega⟩, dr⟩
   by_cases c33 : (bt a0 a) > 57; rotate_left
   ·rw [if_neg c33] at H; have mB : decide (57 < (bt a0 a)) = false := decide_eq_false c33; clear c33; have i := mk0 H; clear H; have c : 0 ≤ (a : Int) := od; have d : a < (a0.size : Int) := od; have g := DD a0 a; replace c := eq_true c; replace d := eq_true d; go_wp2; go_roundg j
    case measure => have := b.out; omega
    case rel => exact ⟨(wrap64 (a + 1)), rfl, i, ⟨by have := b.out; omega⟩, dr⟩
   rw [if_pos c33] at H; have mB : decide (57 < (bt a0 a)) = true := decide_eq_true c33; clear c33; replace H := iE H; obtain ⟨qB, sB, H⟩ | ⟨c34, qB, sB, H⟩ := H
   ·have i := mk0 H; clear H; have c : 0 ≤ (a : Int) := od; have d : a < (a0.size : Int) := od; have g := DD a0 a; replace c := eq_true c; replace d := eq_true d; go_wp2; go_roundg j
    case measure => have := b.out; omega
    case rel => exact ⟨(wrap64 (a + 1)), rfl, i, ⟨by have := b.out; omega⟩, dr⟩
   replace H := iE' H; obtain ⟨qC, tB, uB, H⟩ | ⟨tB, uB, H⟩ := H
   ·obtain rfl := sI H; have c : 0 ≤ (a : Int) := od; have d : a < (a0.size : Int) := od; have g := DD a0 a; replace c := eq_true c; replace d := eq_true d; go_wp2; go_ret; exact dn
   have i := mk0 H; clear H; have c : 0 ≤ (a : Int) := od; have d : a < (a0.size : Int) := od; have g := DD a0 a; replace c := eq_true c; replace d := eq_true d; go_wp2; go_roundg j
   case measure => have := b.out; omega
   case rel => exact ⟨(wrap64 (a + 1)), rfl, i, ⟨by have := b.out; omega⟩, dr⟩
def Da.f (a0 : Int) : Option (Bool) := if a0 ≥ 97 then (if a0 ≤ 122 then (some true) else (if a0 ≥ 65 then (some (decide (a0 ≤ 90))) else (some false))) else (if a0 ≥ 65 then (some (decide (a0 ≤ 90))) else (some false))
theorem Da.calls {a0 : Int} {r : Bool} {w : World} (h : Da.f a0 = some r) :
  Calls Try.prog 77 #[.int .u8 a0] w fun e w' => e = .returned (.bool r) ∧ Ar w w' := by
 have H := h; unfold Da.f at H
 clear h
 by_cases c2 : a0 ≥ 97
 rotate_left
 ·rw [if_neg c2] at H; have a : decide (97 ≤ a0) = false := decide_eq_false c2; clear c2; by_cases c5 : a0 ≥ 65
  ·rw [if_pos c5] at H; have d : decide (65 ≤ a0) = true := decide_eq_true c5; clear c5; obtain rfl := sI H; go_enter Try.func77, Try.ntmps77; go_wp2; go_ret; exact dn
  rw [if_neg c5] at H; have d : decide (65 ≤ a0) = false := decide_eq_false c5; clear c5; obtain rfl := sI H; go_enter Try.func77, Try.ntmps77; go_wp2; go_ret; exact dn
 rw [if_pos c2] at H; have a : decide (97 ≤ a0) = true := decide_eq_true c2; clear c2
 replace H := iD H; obtain ⟨-, b, H⟩ | ⟨-, b, H⟩ := H
 ·obtain rfl := sI H; go_enter Try.func77, Try.ntmps77; go_wp2; go_ret; exact dn
 by_cases c4 : a0 ≥ 65
 rotate_left
 ·rw [if_neg c4] at H; have c : decide (65 ≤ a0) = false := decide_eq_false c4; clear c4; obtain rfl := sI H; go_enter Try.func77, Try.ntmps77; go_wp2; go_ret; exact dn
 rw [if_pos c4] at H; have c : decide (65 ≤ a0) = true := decide_eq_true c4; clear c4; obtain rfl := sI H
 go_enter Try.func77, Try.ntmps77
 go_wp2
 go_ret
 exact dn
def Eh.f (a0 : Int) : Option (Bool) := if a0 ≥ 48 then (some (decide (a0 ≤ 57))) else (some false)
theorem Eh.calls {a0 : Int} {r : Bool} {w : World} (h : Eh.f a0 = some r) :
  Calls Try.prog 101 #[.int .u8 a0] w fun e w' => e = .returned (.bool r) ∧ Ar w w' := by
 have H := h; unfold Eh.f at H
 clear h
 by_cases c2 : a0 ≥ 48
 ·rw [if_pos c2] at H; have a : decide (48 ≤ a0) = true := decide_eq_true c2; clear c2; obtain rfl := sI H; go_enter Try.func101, Try.ntmps101; go_wp2; go_ret; exact dn
 rw [if_neg c2] at H; have a : decide (48 ≤ a0) = false := decide_eq_false c2; clear c2; obtain rfl := sI H
 go_enter Try.func101, Try.ntmps101
 go_wp2
 go_ret
 exact dn
def Ez.f (a0 : Int) : Option (Bool) := (Da.f a0).bind fun a => (if a = true then (some true) else ((Eh.f a0).bind fun t156 => (if t156 = true then (some true) else (some (a0 == 95)))))
theorem Ez.calls {a0 : Int} {r : Bool} {w : World} (h : Ez.f a0 = some r) :
  Calls Try.prog 102 #[.int .u8 a0] w fun e w' => e = .returned (.bool r) ∧ Ar w w' := by
 have H := h; unfold Ez.f at H
 clear h
 replace H := bS H; obtain ⟨d, b, H⟩ := H
 replace H := iB H; obtain ⟨rfl, H⟩ | ⟨rfl, H⟩ := H
 ·obtain rfl := sI H; go_enter Try.func102, Try.ntmps102; go_wp2_with ((with_reducible refine AJ (f := 77) rfl ?_); refine FM Try.func77 (Da.calls b.out) ?_; intro a); go_ret; exact dn
 replace H := bS H; obtain ⟨t156, c, H⟩ := H
 replace H := iB H; obtain ⟨rfl, H⟩ | ⟨rfl, H⟩ := H
 ·obtain rfl := sI H; go_enter Try.func102, Try.ntmps102; go_wp2_with (first | ((with_reducible refine AJ (f := 77) rfl ?_); refine FM Try.func77 (Da.calls b.out) ?_; intro a) | (go_at_call 101; refine (Eh.calls c.out).mono ?_; rintro e w' ⟨rfl, a, rfl⟩)); go_ret; exact dn
 obtain rfl := sI H
 go_enter Try.func102, Try.ntmps102
 go_wp2_with (first | ((with_reducible refine AJ (f := 77) rfl ?_); refine FM Try.func77 (Da.calls b.out) ?_; intro a) | (go_at_call 101; refine (Eh.calls c.out).mono ?_; rintro e w' ⟨rfl, a, rfl⟩))
 go_ret
 exact dn
def JL.f (a0 : Int) : Option (Bool) := if a0 = 48 then (some true) else (if a0 = 49 then (some true) else (if a0 = 120 then (some true) else (some (a0 == 122))))
theorem JL.calls {a0 : Int} {r : Bool} {w : World} (h : JL.f a0 = some r) :
  Calls Try.prog 103 #[.int .u8 a0] w fun e w' => e = .returned (.bool r) ∧ Ar w w' := by
 have H := h; unfold JL.f at H
 clear h
 replace H := iE H; obtain ⟨a, b, H⟩ | ⟨j, a, b, H⟩ := H
 ·obtain rfl := sI H; go_enter Try.func103, Try.ntmps103; go_wp2; go_ret; exact dn
 replace H := iE H; obtain ⟨c, d, H⟩ | ⟨k, c, d, H⟩ := H
 ·obtain rfl := sI H; go_enter Try.func103, Try.ntmps103; go_wp2; go_ret; exact dn
 replace H := iE' H; obtain ⟨c4, g, i, H⟩ | ⟨g, i, H⟩ := H
 ·obtain rfl := sI H; go_enter Try.func103, Try.ntmps103; go_wp2; go_ret; exact dn
 obtain rfl := sI H
 go_enter Try.func103, Try.ntmps103
 go_wp2
 go_ret
 exact dn
def Gm.f (a0 : Int) : Option (Bool) := if a0 ≥ 32 then (if a0 ≤ 126 then (some (a0 != 34)) else (some false)) else (some false)
theorem Gm.calls {a0 : Int} {r : Bool} {w : World} (h : Gm.f a0 = some r) :
  Calls Try.prog 104 #[.int .u8 a0] w fun e w' => e = .returned (.bool r) ∧ Ar w w' := by
 have H := h; unfold Gm.f at H
 clear h
 by_cases c2 : a0 ≥ 32
 rotate_left
 ·rw [if_neg c2] at H; have a : decide (32 ≤ a0) = false := decide_eq_false c2; clear c2; obtain rfl := sI H; go_enter Try.func104, Try.ntmps104; go_wp2; go_ret; exact dn
 rw [if_pos c2] at H; have a : decide (32 ≤ a0) = true := decide_eq_true c2; clear c2
 replace H := iD' H; obtain ⟨-, b, H⟩ | ⟨-, b, H⟩ := H
 ·obtain rfl := sI H; go_enter Try.func104, Try.ntmps104; go_wp2; go_ret; exact dn
 obtain rfl := sI H
 go_enter Try.func104, Try.ntmps104
 go_wp2
 go_ret
 exact dn
end Go.Proofs.Ytojankgmedccdaa.PIs
