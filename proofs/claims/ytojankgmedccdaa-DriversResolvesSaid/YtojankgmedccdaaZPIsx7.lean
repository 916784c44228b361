/- Part of the proof of LawDriversResolves: every definition and lemma is one that it names. -/
import Derived.Test.YtojankgmedccdaaZPIsx0
namespace Go.Proofs.Ytojankgmedccdaa.PIs
open Go.RowKit Own PTy Hand YtojankgmedccdaaW.PrintWords YtojankgmedccdaaW.PrintLast YtojankgmedccdaaW.PrintMore
attribute [local go_sem] max2_int min2_int max_two min_two max_three min_three max_four min_four
set_option linter.unusedVariables false
set_option linter.unusedSimpArgs false
def r04path.l0 : Nat → ByteArray → Int → Int → Option (Bool)
 | 0, _, _, _ => none
 | k + 1, x0, x6, x7 => if x7 < x6 then (if 0 ≤ x7 then (if x7 < (x0.size : Int) then (if (bt x0 x7) < 97 then (if (bt x0 x7) < 65 then (if (bt x0 x7) < 48 then (if (bt x0 x7) = 95 then (r04path.l0 k x0 x6 (wrap64 (x7 + 1))) else (if (bt x0 x7) = 46 then (r04path.l0 k x0 x6 (wrap64 (x7 + 1))) else (some false))) else (if (bt x0 x7) > 57 then (if (bt x0 x7) = 95 then (r04path.l0 k x0 x6 (wrap64 (x7 + 1))) else (if (bt x0 x7) = 46 then (r04path.l0 k x0 x6 (wrap64 (x7 + 1))) else (some false))) else (r04path.l0 k x0 x6 (wrap64 (x7 + 1))))) else (if (bt x0 x7) > 90 then (if (bt x0 x7) < 48 then (if (bt x0 x7) = 95 then (r04path.l0 k x0 x6 (wrap64 (x7 + 1))) else (if (bt x0 x7) = 46 then (r04path.l0 k x0 x6 (wrap64 (x7 + 1))) else (some false))) else (if (bt x0 x7) > 57 then (if (bt x0 x7) = 95 then (r04path.l0 k x0 x6 (wrap64 (x7 + 1))) else (if (bt x0 x7) = 46 then (r04path.l0 k x0 x6 (wrap64 (x7 + 1))) else (some false))) else (r04path.l0 k x0 x6 (wrap64 (x7 + 1))))) else (r04path.l0 k x0 x6 (wrap64 (x7 + 1))))) else (if (bt x0 x7) > 122 then (if (bt x0 x7) < 65 then (if (bt x0 x7) < 48 then (if (bt x0 x7) = 95 then (r04path.l0 k x0 x6 (wrap64 (x7 + 1))) else (if (bt x0 x7) = 46 then (r04path.l0 k x0 x6 (wrap64 (x7 + 1))) else (some false))) else (if (bt x0 x7) > 57 then (if (bt x0 x7) = 95 then (r04path.l0 k x0 x6 (wrap64 (x7 + 1))) else (if (bt x0 x7) = 46 then (r04path.l0 k x0 x6 (wrap64 (x7 + 1))) else (some false))) else (r04path.l0 k x0 x6 (wrap64 (x7 + 1))))) else (if (bt x0 x7) > 90 then (if (bt x0 x7) < 48 then (if (bt x0 x7) = 95 then (r04path.l0 k x0 x6 (wrap64 (x7 + 1))) else (if (bt x0 x7) = 46 then (r04path.l0 k x0 x6 (wrap64 (x7 + 1))) else (some false))) else (if (bt x0 x7) > 57 then (if (bt x0 x7) = 95 then (r04path.l0 k x0 x6 (wrap64 (x7 + 1))) else (if (bt x0 x7) = 46 then (r04path.l0 k x0 x6 (wrap64 (x7 + 1))) else (some false))) else (r04path.l0 k x0 x6 (wrap64 (x7 + 1))))) else (r04path.l0 k x0 x6 (wrap64 (x7 + 1))))) else (r04path.l0 k x0 x6 (wrap64 (x7 + 1))))) else (none)) else (none)) else (if (x0.size : Int) ≥ 1 then (some (decide ((x0.size : Int) ≤ 100))) else (some false))
def r04path.f (k : Nat) (a0 : ByteArray) : Option (Bool) := r04path.l0 k a0 (a0.size : Int) 0
theorem r04path.mono_l : ∀ k, (∀ y0 y1 y2, LeO (r04path.l0 k y0 y1 y2) (r04path.l0 (k + 1) y0 y1 y2))
 | 0 => fun _ _ _ r h => by simp [r04path.l0] at h
 | k + 1 => by
  have ih0 := r04path.mono_l k
  ·intro y0 y1 y2
   unfold r04path.l0
   repeat' first
   | (with_reducible exact ih0 _ _ _)
   | (with_reducible exact LeO.refl _)
   | (with_reducible exact LeO.none _)
   | (with_reducible refine LeO.ite ?_ ?_)
   | (with_reducible refine LeO.bind ?_ (fun _ => ?_))
   | exact ih0 _ _ _
   | exact LeO.none _
   | refine LeO.ite ?_ ?_
   | refine LeO.bind ?_ (fun _ => ?_)
theorem r04path.mono : ∀ a0 k, LeO (r04path.f k a0) (r04path.f (k + 1) a0) := by
 intro a0 k
 have ih0 := r04path.mono_l k
 unfold r04path.f
 repeat' first
   | (with_reducible exact ih0 _ _ _)
   | (with_reducible exact LeO.refl _)
   | (with_reducible exact LeO.none _)
   | (with_reducible refine LeO.ite ?_ ?_)
   | (with_reducible refine LeO.bind ?_ (fun _ => ?_))
   | exact ih0 _ _ _
   | exact LeO.none _
   | refine LeO.ite ?_ ?_
   | refine LeO.bind ?_ (fun _ => ?_)
set_option maxHeartbeats 8000000 in
set_option maxRecDepth 100000 in
theorem r04path.calls (k : Nat) (a0 : ByteArray) (r : Bool) (w : World) (h : r04path.f k a0 = some r) :
  Calls Try.prog 65 #[.string a0] w fun e w' => e = .returned (.bool r) ∧ Drawn0 w w' := by
 have H : (r04path.l0 k a0 (a0.size : Int) 0) = some r := h
 clear h
 have H' := mk0 H
 clear H
 go_enter Try.func65, Try.ntmps65
 go_wp2
 go_loopg [7] k (fun kq v7 w' => ∃ (x7_1 : Int), v7 = .int .i64 x7_1 ∧ Aside0 (r04path.l0 kq a0 (a0.size : Int) x7_1 = some r) ∧ Aside0 (kq ≤ k) ∧ Drawn0 w w')
 case atStart => exact ⟨(0), rfl, H', ⟨Nat.le_refl _⟩, dr⟩
 case round =>
  clear H'
  obtain ⟨x7_1, rfl, HA, HK1, ⟨m1, rfl⟩⟩ := hrel
  cases gk with
  | zero => exact absurd HA.out (by simp [r04path.l0])
  | succ k1 =>
   have H := HA.out; clear HA
   simp only [r04path.l0] at H
   replace H := iD' H; obtain ⟨-, c2b0, H⟩ | ⟨-, c2b0, H⟩ := H
   ·by_cases c36 : (a0.size : Int) ≥ 1
    ·rw [if_pos c36] at H
     have c36b0 : decide (1 ≤ (a0.size : Int)) = true := decide_eq_true c36
     have c36b1 : decide (1 ≤ a0.size) = true := decide_eq_true (by omega)
     clear c36; obtain rfl := sI H
     go_wp2
     go_ret
     exact dn
    rw [if_neg c36] at H; have c36b0 : decide (1 ≤ (a0.size : Int)) = false := decide_eq_false c36
    have c36b1 : decide (1 ≤ a0.size) = false := decide_eq_false (by omega)
    clear c36; obtain rfl := sI H
    go_wp2
    go_ret
    exact dn
   replace H := iN H; obtain ⟨-, c3b0, H⟩ := H
   replace H := iN H; obtain ⟨-, c4b0, H⟩ := H
   replace H := iD H; obtain ⟨-, c6b0, H⟩ | ⟨-, c6b0, H⟩ := H
   ·replace H := iD H; obtain ⟨-, c7b0, H⟩ | ⟨-, c7b0, H⟩ := H
    ·replace H := iD H; obtain ⟨-, c8b0, H⟩ | ⟨-, c8b0, H⟩ := H
     ·replace H := iE H; obtain ⟨c9b0, c9b1, H⟩ | ⟨c9, c9b0, c9b1, H⟩ := H
      ·have H' := mk0 H
       clear H
       have p5 : 0 ≤ (x7_1 : Int) := od
       have q5 : x7_1 < (a0.size : Int) := od
       have hx5 := bt_at a0 x7_1
       replace p5 := eq_true p5; replace q5 := eq_true q5
       go_wp2
       go_roundg k1
       case measure => have := HK1.out; omega
       case rel => exact ⟨(wrap64 (x7_1 + 1)), rfl, H', ⟨by have := HK1.out; omega⟩, dr⟩
      replace H := iE' H; obtain ⟨c10, c10b0, c10b1, H⟩ | ⟨c10b0, c10b1, H⟩ := H
      ·obtain rfl := sI H
       have p5 : 0 ≤ (x7_1 : Int) := od
       have q5 : x7_1 < (a0.size : Int) := od
       have hx5 := bt_at a0 x7_1
       replace p5 := eq_true p5; replace q5 := eq_true q5
       go_wp2
       go_ret
       exact dn
      have H' := mk0 H
      clear H
      have p5 : 0 ≤ (x7_1 : Int) := od
      have q5 : x7_1 < (a0.size : Int) := od
      have hx5 := bt_at a0 x7_1
      replace p5 := eq_true p5; replace q5 := eq_true q5
      go_wp2
      go_roundg k1
      case measure => have := HK1.out; omega
      case rel => exact ⟨(wrap64 (x7_1 + 1)), rfl, H', ⟨by have := HK1.out; omega⟩, dr⟩
     by_cases c11 : (bt a0 x7_1) > 57
     rotate_left
     ·rw [if_neg c11] at H
      have c11b0 : decide (57 < (bt a0 x7_1)) = false := decide_eq_false c11; clear c11
      have H' := mk0 H
      clear H
      have p5 : 0 ≤ (x7_1 : Int) := od
      have q5 : x7_1 < (a0.size : Int) := od
      have hx5 := bt_at a0 x7_1
      replace p5 := eq_true p5; replace q5 := eq_true q5
      go_wp2
      go_roundg k1
      case measure => have := HK1.out; omega
      case rel => exact ⟨(wrap64 (x7_1 + 1)), rfl, H', ⟨by have := HK1.out; omega⟩, dr⟩
     rw [if_pos c11] at H; have c11b0 : decide (57 < (bt a0 x7_1)) = true := decide_eq_true c11; clear c11
     replace H := iE H; obtain ⟨c12b0, c12b1, H⟩ | ⟨c12, c12b0, c12b1, H⟩ := H
     ·have H' := mk0 H
      clear H
      have p5 : 0 ≤ (x7_1 : Int) := od
      have q5 : x7_1 < (a0.size : Int) := od
      have hx5 := bt_at a0 x7_1
      replace p5 := eq_true p5; replace q5 := eq_true q5
      go_wp2
      go_roundg k1
      case measure => have := HK1.out; omega
      case rel => exact ⟨(wrap64 (x7_1 + 1)), rfl, H', ⟨by have := HK1.out; omega⟩, dr⟩
     replace H := iE' H; obtain ⟨c13, c13b0, c13b1, H⟩ | ⟨c13b0, c13b1, H⟩ := H
     ·obtain rfl := sI H
      have p5 : 0 ≤ (x7_1 : Int) := od
      have q5 : x7_1 < (a0.size : Int) := od
      have hx5 := bt_at a0 x7_1
      replace p5 := eq_true p5; replace q5 := eq_true q5
      go_wp2
      go_ret
      exact dn
     have H' := mk0 H
     clear H
     have p5 : 0 ≤ (x7_1 : Int) := od
     have q5 : x7_1 < (a0.size : Int) := od
     have hx5 := bt_at a0 x7_1
     replace p5 := eq_true p5; replace q5 := eq_true q5
     go_wp2
     go_roundg k1
     case measure => have := HK1.out; omega
     case rel => exact ⟨(wrap64 (x7_1 + 1)), rfl, H', ⟨by have := HK1.out; omega⟩, dr⟩
    by_cases c14 : (bt a0 x7_1) > 90
    rotate_left
    ·rw [if_neg c14] at H
     have c14b0 : decide (90 < (bt a0 x7_1)) = false := decide_eq_false c14; clear c14
     have H' := mk0 H
     clear H
     have p5 : 0 ≤ (x7_1 : Int) := od
     have q5 : x7_1 < (a0.size : Int) := od
     have hx5 := bt_at a0 x7_1
     replace p5 := eq_true p5; replace q5 := eq_true q5
     go_wp2
     go_roundg k1
     case measure => have := HK1.out; omega
     case rel => exact ⟨(wrap64 (x7_1 + 1)), rfl, H', ⟨by have := HK1.out; omega⟩, dr⟩
    rw [if_pos c14] at H; have c14b0 : decide (90 < (bt a0 x7_1)) = true := decide_eq_true c14; clear c14
    replace H := iD H; obtain ⟨-, c15b0, H⟩ | ⟨-, c15b0, H⟩ := H
    ·replace H := iE H; obtain ⟨c16b0, c16b1, H⟩ | ⟨c16, c16b0, c16b1, H⟩ := H
     ·have H' := mk0 H
      clear H
      have p5 : 0 ≤ (x7_1 : Int) := od
      have q5 : x7_1 < (a0.size : Int) := od
      have hx5 := bt_at a0 x7_1
      replace p5 := eq_true p5; replace q5 := eq_true q5
      go_wp2
      go_roundg k1
      case measure => have := HK1.out; omega
      case rel => exact ⟨(wrap64 (x7_1 + 1)), rfl, H', ⟨by have := HK1.out; omega⟩, dr⟩
     replace H := iE' H; obtain ⟨c17, c17b0, c17b1, H⟩ | ⟨c17b0, c17b1, H⟩ := H
     ·obtain rfl := sI H
      have p5 : 0 ≤ (x7_1 : Int) := od
      have q5 : x7_1 < (a0.size : Int) := od
      have hx5 := bt_at a0 x7_1
      replace p5 := eq_true p5; replace q5 := eq_true q5
      go_wp2
      go_ret
      exact dn
     have H' := mk0 H
     clear H
     have p5 : 0 ≤ (x7_1 : Int) := od
     have q5 : x7_1 < (a0.size : Int) := od
     have hx5 := bt_at a0 x7_1
     replace p5 := eq_true p5; replace q5 := eq_true q5
     go_wp2
     go_roundg k1
     case measure => have := HK1.out; omega
     case rel => exact ⟨(wrap64 (x7_1 + 1)), rfl, H', ⟨by have := HK1.out; omega⟩, dr⟩
    by_cases c18 : (bt a0 x7_1) > 57
    rotate_left
    ·rw [if_neg c18] at H
     have c18b0 : decide (57 < (bt a0 x7_1)) = false := decide_eq_false c18; clear c18
     have H' := mk0 H
     clear H
     have p5 : 0 ≤ (x7_1 : Int) := od
     have q5 : x7_1 < (a0.size : Int) := od
     have hx5 := bt_at a0 x7_1
     replace p5 := eq_true p5; replace q5 := eq_true q5
     go_wp2
     go_roundg k1
     case measure => have := HK1.out; omega
     case rel => exact ⟨(wrap64 (x7_1 + 1)), rfl, H', ⟨by have := HK1.out; omega⟩, dr⟩
    rw [if_pos c18] at H; have c18b0 : decide (57 < (bt a0 x7_1)) = true := decide_eq_true c18; clear c18
    replace H := iE H; obtain ⟨c19b0, c19b1, H⟩ | ⟨c19, c19b0, c19b1, H⟩ := H
    ·have H' := mk0 H
     clear H
     have p5 : 0 ≤ (x7_1 : Int) := od
     have q5 : x7_1 < (a0.size : Int) := od
     have hx5 := bt_at a0 x7_1
     replace p5 := eq_true p5; replace q5 := eq_true q5
     go_wp2
     go_roundg k1
     case measure => have := HK1.out; omega
     case rel => exact ⟨(wrap64 (x7_1 + 1)), rfl, H', ⟨by have := HK1.out; omega⟩, dr⟩
    replace H := iE' H; obtain ⟨c20, c20b0, c20b1, H⟩ | ⟨c20b0, c20b1, H⟩ := H
    ·obtain rfl := sI H
     have p5 : 0 ≤ (x7_1 : Int) := od
     have q5 : x7_1 < (a0.size : Int) := od
     have hx5 := bt_at a0 x7_1
     replace p5 := eq_true p5; replace q5 := eq_true q5
     go_wp2
     go_ret
     exact dn
    have H' := mk0 H
    clear H
    have p5 : 0 ≤ (x7_1 : Int) := od
    have q5 : x7_1 < (a0.size : Int) := od
    have hx5 := bt_at a0 x7_1
    replace p5 := eq_true p5; replace q5 := eq_true q5
    go_wp2
    go_roundg k1
    case measure => have := HK1.out; omega
    case rel => exact ⟨(wrap64 (x7_1 + 1)), rfl, H', ⟨by have := HK1.out; omega⟩, dr⟩
   by_cases c21 : (bt a0 x7_1) > 122
   rotate_left
   ·rw [if_neg c21] at H
    have c21b0 : decide (122 < (bt a0 x7_1)) = false := decide_eq_false c21; clear c21
    have H' := mk0 H
    clear H
    have p5 : 0 ≤ (x7_1 : Int) := od
    have q5 : x7_1 < (a0.size : Int) := od
    have hx5 := bt_at a0 x7_1
    replace p5 := eq_true p5; replace q5 := eq_true q5
    go_wp2
    go_roundg k1
    case measure => have := HK1.out; omega
    case rel => exact ⟨(wrap64 (x7_1 + 1)), rfl, H', ⟨by have := HK1.out; omega⟩, dr⟩
   rw [if_pos c21] at H; have c21b0 : decide (122 < (bt a0 x7_1)) = true := decide_eq_true c21; clear c21
   replace H := iD H; obtain ⟨-, c22b0, H⟩ | ⟨-, c22b0, H⟩ := H
   ·replace H := iD H; obtain ⟨-, c23b0, H⟩ | ⟨-, c23b0, H⟩ := H
    ·replace H := iE H; obtain ⟨c24b0, c24b1, H⟩ | ⟨c24, c24b0, c24b1, H⟩ := H
     ·have H' := mk0 H
      clear H
      have p5 : 0 ≤ (x7_1 : Int) := od
      have q5 : x7_1 < (a0.size : Int) := od
      have hx5 := bt_at a0 x7_1
      replace p5 := eq_true p5; replace q5 := eq_true q5
      go_wp2
      go_roundg k1
      case measure => have := HK1.out; omega
      case rel => exact ⟨(wrap64 (x7_1 + 1)), rfl, H', ⟨by have := HK1.out; omega⟩, dr⟩
     replace H := iE' H; obtain ⟨c25, c25b0, c25b1, H⟩ | ⟨c25b0, c25b1, H⟩ := H
     ·obtain rfl := sI H
      have p5 : 0 ≤ (x7_1 : Int) := od
      have q5 : x7_1 < (a0.size : Int) := od
      have hx5 := bt_at a0 x7_1
      replace p5 := eq_true p5; replace q5 := eq_true q5
      go_wp2
      go_ret
      exact dn
     have H' := mk0 H
     clear H
     have p5 : 0 ≤ (x7_1 : Int) := od
     have q5 : x7_1 < (a0.size : Int) := od
     have hx5 := bt_at a0 x7_1
     replace p5 := eq_true p5; replace q5 := eq_true q5
     go_wp2
     go_roundg k1
     case measure => have := HK1.out; omega
     case rel => exact ⟨(wrap64 (x7_1 + 1)), rfl, H', ⟨by have := HK1.out; omega⟩, dr⟩
    by_cases c26 : (bt a0 x7_1) > 57
    rotate_left
    ·rw [if_neg c26] at H
     have c26b0 : decide (57 < (bt a0 x7_1)) = false := decide_eq_false c26; clear c26
     have H' := mk0 H
     clear H
     have p5 : 0 ≤ (x7_1 : Int) := od
     have q5 : x7_1 < (a0.size : Int) := od
     have hx5 := bt_at a0 x7_1
     replace p5 := eq_true p5; replace q5 := eq_true q5
     go_wp2
     go_roundg k1
     case measure => have := HK1.out; omega
     case rel => exact ⟨(wrap64 (x7_1 + 1)), rfl, H', ⟨by have := HK1.out; omega⟩, dr⟩
    rw [if_pos c26] at H; have c26b0 : decide (57 < (bt a0 x7_1)) = true := decide_eq_true c26; clear c26
    replace H := iE H; obtain ⟨c27b0, c27b1, H⟩ | ⟨c27, c27b0, c27b1, H⟩ := H
    ·have H' := mk0 H
     clear H
     have p5 : 0 ≤ (x7_1 : Int) := od
     have q5 : x7_1 < (a0.size : Int) := od
     have hx5 := bt_at a0 x7_1
     replace p5 := eq_true p5; replace q5 := eq_true q5
     go_wp2
     go_roundg k1
     case measure => have := HK1.out; omega
     case rel => exact ⟨(wrap64 (x7_1 + 1)), rfl, H', ⟨by have := HK1.out; omega⟩, dr⟩
    replace H := iE' H; obtain ⟨c28, c28b0, c28b1, H⟩ | ⟨c28b0, c28b1, H⟩ := H
    ·obtain rfl := sI H
     have p5 : 0 ≤ (x7_1 : Int) := od
     have q5 : x7_1 < (a0.size : Int) := od
     have hx5 := bt_at a0 x7_1
     replace p5 := eq_true p5; replace q5 := eq_true q5
     go_wp2
     go_ret
     exact dn
    have H' := mk0 H
    clear H
    have p5 : 0 ≤ (x7_1 : Int) := od
    have q5 : x7_1 < (a0.size : Int) := od
    have hx5 := bt_at a0 x7_1
    replace p5 := eq_true p5; replace q5 := eq_true q5
    go_wp2
    go_roundg k1
    case measure => have := HK1.out; omega
    case rel => exact ⟨(wrap64 (x7_1 + 1)), rfl, H', ⟨by have := HK1.out; omega⟩, dr⟩
   by_cases c29 : (bt a0 x7_1) > 90
   rotate_left
   ·rw [if_neg c29] at H
    have c29b0 : decide (90 < (bt a0 x7_1)) = false := decide_eq_false c29; clear c29
    have H' := mk0 H
    clear H
    have p5 : 0 ≤ (x7_1 : Int) := od
    have q5 : x7_1 < (a0.size : Int) := od
    have hx5 := bt_at a0 x7_1
    replace p5 := eq_true p5; replace q5 := eq_true q5
    go_wp2
    go_roundg k1
    case measure => have := HK1.out; omega
    case rel => exact ⟨(wrap64 (x7_1 + 1)), rfl, H', ⟨by have := HK1.out; omega⟩, dr⟩
   rw [if_pos c29] at H; have c29b0 : decide (90 < (bt a0 x7_1)) = true := decide_eq_true c29; clear c29
   replace H := iD H; obtain ⟨-, c30b0, H⟩ | ⟨-, c30b0, H⟩ := H
   ·replace H := iE H; obtain ⟨c31b0, c31b1, H⟩ | ⟨c31, c31b0, c31b1, H⟩ := H
    ·have H' := mk0 H
     clear H
     have p5 : 0 ≤ (x7_1 : Int) := od
     have q5 : x7_1 < (a0.size : Int) := od
     have hx5 := bt_at a0 x7_1
     replace p5 := eq_true p5; replace q5 := eq_true q5
     go_wp2
     go_roundg k1
     case measure => have := HK1.out; omega
     case rel => exact ⟨(wrap64 (x7_1 + 1)), rfl, H', ⟨by have := HK1.out; omega⟩, dr⟩
    replace H := iE' H; obtain ⟨c32, c32b0, c32b1, H⟩ | ⟨c32b0, c32b1, H⟩ := H
    ·obtain rfl := sI H
     have p5 : 0 ≤ (x7_1 : Int) := od
     have q5 : x7_1 < (a0.size : Int) := od
     have hx5 := bt_at a0 x7_1
     replace p5 := eq_true p5; replace q5 := eq_true q5
     go_wp2
     go_ret
     exact dn
    have H' := mk0 H
    clear H
    have p5 : 0 ≤ (x7_1 : Int) := od
    have q5 : x7_1 < (a0.size : Int) := od
    have hx5 := bt_at a0 x7_1
    replace p5 := eq_true p5; replace q5 := eq_true q5
    go_wp2
    go_roundg k1
    case measure => have := HK1.out; omega
    case rel => exact ⟨(wrap64 (x7_1 + 1)), rfl, H', ⟨by have := HK1.out; omega⟩, dr⟩
   by_cases c33 : (bt a0 x7_1) > 57
   rotate_left
   ·rw [if_neg c33] at H
    have c33b0 : decide (57 < (bt a0 x7_1)) = false := decide_eq_false c33; clear c33
    have H' := mk0 H
    clear H
    have p5 : 0 ≤ (x7_1 : Int) := od
    have q5 : x7_1 < (a0.size : Int) := od
    have hx5 := bt_at a0 x7_1
    replace p5 := eq_true p5; replace q5 := eq_true q5
    go_wp2
    go_roundg k1
    case measure => have := HK1.out; omega
    case rel => exact ⟨(wrap64 (x7_1 + 1)), rfl, H', ⟨by have := HK1.out; omega⟩, dr⟩
   rw [if_pos c33] at H; have c33b0 : decide (57 < (bt a0 x7_1)) = true := decide_eq_true c33; clear c33
   replace H := iE H; obtain ⟨c34b0, c34b1, H⟩ | ⟨c34, c34b0, c34b1, H⟩ := H
   ·have H' := mk0 H
    clear H
    have p5 : 0 ≤ (x7_1 : Int) := od
    have q5 : x7_1 < (a0.size : Int) := od
    have hx5 := bt_at a0 x7_1
    replace p5 := eq_true p5; replace q5 := eq_true q5
    go_wp2
    go_roundg k1
    case measure => have := HK1.out; omega
    case rel => exact ⟨(wrap64 (x7_1 + 1)), rfl, H', ⟨by have := HK1.out; omega⟩, dr⟩
   replace H := iE' H; obtain ⟨c35, c35b0, c35b1, H⟩ | ⟨c35b0, c35b1, H⟩ := H
   ·obtain rfl := sI H
    have p5 : 0 ≤ (x7_1 : Int) := od
    have q5 : x7_1 < (a0.size : Int) := od
    have hx5 := bt_at a0 x7_1
    replace p5 := eq_true p5; replace q5 := eq_true q5
    go_wp2
    go_ret
    exact dn
   have H' := mk0 H
   clear H
   have p5 : 0 ≤ (x7_1 : Int) := od
   have q5 : x7_1 < (a0.size : Int) := od
   have hx5 := bt_at a0 x7_1
   replace p5 := eq_true p5; replace q5 := eq_true q5
   go_wp2
   go_roundg k1
   case measure => have := HK1.out; omega
   case rel => exact ⟨(wrap64 (x7_1 + 1)), rfl, H', ⟨by have := HK1.out; omega⟩, dr⟩
def r03letter.f (a0 : Int) : Option (Bool) := if a0 ≥ 97 then (if a0 ≤ 122 then (some true) else (if a0 ≥ 65 then (some (decide (a0 ≤ 90))) else (some false))) else (if a0 ≥ 65 then (some (decide (a0 ≤ 90))) else (some false))
set_option maxHeartbeats 8000000 in
set_option maxRecDepth 100000 in
theorem r03letter.calls (a0 : Int) (r : Bool) (w : World) (h : r03letter.f a0 = some r) :
  Calls Try.prog 77 #[.int .u8 a0] w fun e w' => e = .returned (.bool r) ∧ Drawn0 w w' := by
 have H := h; unfold r03letter.f at H
 clear h
 by_cases c2 : a0 ≥ 97
 rotate_left
 ·rw [if_neg c2] at H
  have c2b0 : decide (97 ≤ a0) = false := decide_eq_false c2; clear c2
  by_cases c5 : a0 ≥ 65
  ·rw [if_pos c5] at H
   have c5b0 : decide (65 ≤ a0) = true := decide_eq_true c5; clear c5; obtain rfl := sI H
   go_enter Try.func77, Try.ntmps77
   go_wp2
   go_ret
   exact dn
  rw [if_neg c5] at H; have c5b0 : decide (65 ≤ a0) = false := decide_eq_false c5; clear c5; obtain rfl := sI H
  go_enter Try.func77, Try.ntmps77
  go_wp2
  go_ret
  exact dn
 rw [if_pos c2] at H; have c2b0 : decide (97 ≤ a0) = true := decide_eq_true c2; clear c2
 replace H := iD H; obtain ⟨-, c3b0, H⟩ | ⟨-, c3b0, H⟩ := H
 ·obtain rfl := sI H
  go_enter Try.func77, Try.ntmps77
  go_wp2
  go_ret
  exact dn
 by_cases c4 : a0 ≥ 65
 rotate_left
 ·rw [if_neg c4] at H
  have c4b0 : decide (65 ≤ a0) = false := decide_eq_false c4; clear c4; obtain rfl := sI H
  go_enter Try.func77, Try.ntmps77
  go_wp2
  go_ret
  exact dn
 rw [if_pos c4] at H; have c4b0 : decide (65 ≤ a0) = true := decide_eq_true c4; clear c4; obtain rfl := sI H
 go_enter Try.func77, Try.ntmps77
 go_wp2
 go_ret
 exact dn
def r03digit.f (a0 : Int) : Option (Bool) := if a0 ≥ 48 then (some (decide (a0 ≤ 57))) else (some false)
set_option maxHeartbeats 8000000 in
set_option maxRecDepth 100000 in
theorem r03digit.calls (a0 : Int) (r : Bool) (w : World) (h : r03digit.f a0 = some r) :
  Calls Try.prog 101 #[.int .u8 a0] w fun e w' => e = .returned (.bool r) ∧ Drawn0 w w' := by
 have H := h; unfold r03digit.f at H
 clear h
 by_cases c2 : a0 ≥ 48
 ·rw [if_pos c2] at H
  have c2b0 : decide (48 ≤ a0) = true := decide_eq_true c2; clear c2; obtain rfl := sI H
  go_enter Try.func101, Try.ntmps101
  go_wp2
  go_ret
  exact dn
 rw [if_neg c2] at H; have c2b0 : decide (48 ≤ a0) = false := decide_eq_false c2; clear c2; obtain rfl := sI H
 go_enter Try.func101, Try.ntmps101
 go_wp2
 go_ret
 exact dn
def r03inner.f (a0 : Int) : Option (Bool) := (r03letter.f a0).bind fun t155 => (if t155 = true then (some true) else ((r03digit.f a0).bind fun t156 => (if t156 = true then (some true) else (some (a0 == 95)))))
set_option maxHeartbeats 8000000 in
set_option maxRecDepth 100000 in
theorem r03inner.calls (a0 : Int) (r : Bool) (w : World) (h : r03inner.f a0 = some r) :
  Calls Try.prog 102 #[.int .u8 a0] w fun e w' => e = .returned (.bool r) ∧ Drawn0 w w' := by
 have H := h; unfold r03inner.f at H
 clear h
 replace H := bS H; obtain ⟨t155, A2, H⟩ := H
 replace H := iB H; obtain ⟨rfl, H⟩ | ⟨rfl, H⟩ := H
 ·obtain rfl := sI H
  go_enter Try.func102, Try.ntmps102
  go_wp2_with ((with_reducible refine gate_callee (f := 77) rfl ?_); refine goD (some 4) rfl rfl Try.func77 (by kernel_rfl) rfl #[.int .u8 a0] rfl rfl (r03letter.calls a0 true _ A2.out) ?_; intro nd)
  go_ret
  exact dn
 replace H := bS H; obtain ⟨t156, A4, H⟩ := H
 replace H := iB H; obtain ⟨rfl, H⟩ | ⟨rfl, H⟩ := H
 ·obtain rfl := sI H
  go_enter Try.func102, Try.ntmps102
  go_wp2_with (first | ((with_reducible refine gate_callee (f := 77) rfl ?_); refine goD (some 4) rfl rfl Try.func77 (by kernel_rfl) rfl #[.int .u8 a0] rfl rfl (r03letter.calls a0 false _ A2.out) ?_; intro nd) | (go_at_call 101; refine (r03digit.calls a0 true _ A4.out).mono ?_; rintro e w' ⟨rfl, ⟨nd, rfl⟩⟩))
  go_ret
  exact dn
 obtain rfl := sI H
 go_enter Try.func102, Try.ntmps102
 go_wp2_with (first | ((with_reducible refine gate_callee (f := 77) rfl ?_); refine goD (some 4) rfl rfl Try.func77 (by kernel_rfl) rfl #[.int .u8 a0] rfl rfl (r03letter.calls a0 false _ A2.out) ?_; intro nd) | (go_at_call 101; refine (r03digit.calls a0 false _ A4.out).mono ?_; rintro e w' ⟨rfl, ⟨nd, rfl⟩⟩))
 go_ret
 exact dn
def r03bit.f (a0 : Int) : Option (Bool) := if a0 = 48 then (some true) else (if a0 = 49 then (some true) else (if a0 = 120 then (some true) else (some (a0 == 122))))
set_option maxHeartbeats 8000000 in
set_option maxRecDepth 100000 in
theorem r03bit.calls (a0 : Int) (r : Bool) (w : World) (h : r03bit.f a0 = some r) :
  Calls Try.prog 103 #[.int .u8 a0] w fun e w' => e = .returned (.bool r) ∧ Drawn0 w w' := by
 have H := h; unfold r03bit.f at H
 clear h
 replace H := iE H; obtain ⟨c2b0, c2b1, H⟩ | ⟨c2, c2b0, c2b1, H⟩ := H
 ·obtain rfl := sI H
  go_enter Try.func103, Try.ntmps103
  go_wp2
  go_ret
  exact dn
 replace H := iE H; obtain ⟨c3b0, c3b1, H⟩ | ⟨c3, c3b0, c3b1, H⟩ := H
 ·obtain rfl := sI H
  go_enter Try.func103, Try.ntmps103
  go_wp2
  go_ret
  exact dn
 replace H := iE' H; obtain ⟨c4, c4b0, c4b1, H⟩ | ⟨c4b0, c4b1, H⟩ := H
 ·obtain rfl := sI H
  go_enter Try.func103, Try.ntmps103
  go_wp2
  go_ret
  exact dn
 obtain rfl := sI H
 go_enter Try.func103, Try.ntmps103
 go_wp2
 go_ret
 exact dn
def r03plain.f (a0 : Int) : Option (Bool) := if a0 ≥ 32 then (if a0 ≤ 126 then (some (a0 != 34)) else (some false)) else (some false)
set_option maxHeartbeats 8000000 in
set_option maxRecDepth 100000 in
theorem r03plain.calls (a0 : Int) (r : Bool) (w : World) (h : r03plain.f a0 = some r) :
  Calls Try.prog 104 #[.int .u8 a0] w fun e w' => e = .returned (.bool r) ∧ Drawn0 w w' := by
 have H := h; unfold r03plain.f at H
 clear h
 by_cases c2 : a0 ≥ 32
 rotate_left
 ·rw [if_neg c2] at H
  have c2b0 : decide (32 ≤ a0) = false := decide_eq_false c2; clear c2; obtain rfl := sI H
  go_enter Try.func104, Try.ntmps104
  go_wp2
  go_ret
  exact dn
 rw [if_pos c2] at H; have c2b0 : decide (32 ≤ a0) = true := decide_eq_true c2; clear c2
 replace H := iD' H; obtain ⟨-, c3b0, H⟩ | ⟨-, c3b0, H⟩ := H
 ·obtain rfl := sI H
  go_enter Try.func104, Try.ntmps104
  go_wp2
  go_ret
  exact dn
 obtain rfl := sI H
 go_enter Try.func104, Try.ntmps104
 go_wp2
 go_ret
 exact dn
end Go.Proofs.Ytojankgmedccdaa.PIs
