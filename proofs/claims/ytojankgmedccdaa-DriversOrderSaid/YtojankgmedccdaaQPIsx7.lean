/- Part of the proof of LawDriversOrder: every definition and lemma is one that it names. -/
import Derived.Test.YtojankgmedccdaaQPIsx0
namespace Go.Proofs.Ytojankgmedccdaa.PIs
open Go.RowKit Own PTy Hand YtojankgmedccdaaW.PrintWords YtojankgmedccdaaW.PrintLast YtojankgmedccdaaW.PrintMore
attribute [local go_sem] max2_int min2_int max_two min_two max_three min_three max_four min_four
set_option linter.unusedVariables false
set_option linter.unusedSimpArgs false
def r03letter.f (a0 : Int) : Option (Bool) := if a0 ≥ 97 then (if a0 ≤ 122 then (some true) else (if a0 ≥ 65 then (some (decide (a0 ≤ 90))) else (some false))) else (if a0 ≥ 65 then (some (decide (a0 ≤ 90))) else (some false))
set_option maxHeartbeats 8000000 in
set_option maxRecDepth 100000 in
theorem r03letter.calls (a0 : Int) (r : Bool) (w : World) (h : r03letter.f a0 = some r) :
  Calls Try.prog 77 #[.int .u8 a0] w fun e w' => e = .returned (.bool r) ∧ Drawn0 w w' := by
 have H := h; unfold r03letter.f at H
 clear h
 by_cases c2 : a0 ≥ 97
 rotate_left
 ·rw [if_neg c2] at H
  have c2b0 : decide (97 ≤ a0) = false := decide_eq_false c2; clear c2
  by_cases c5 : a0 ≥ 65
  ·rw [if_pos c5] at H
   have c5b0 : decide (65 ≤ a0) = true := decide_eq_true c5; clear c5; obtain rfl := sI H
   go_enter Try.func77, Try.ntmps77
   go_wp2
   go_ret
   exact dn
  rw [if_neg c5] at H; have c5b0 : decide (65 ≤ a0) = false := decide_eq_false c5; clear c5; obtain rfl := sI H
  go_enter Try.func77, Try.ntmps77
  go_wp2
  go_ret
  exact dn
 rw [if_pos c2] at H; have c2b0 : decide (97 ≤ a0) = true := decide_eq_true c2; clear c2
 replace H := iD H; obtain ⟨-, c3b0, H⟩ | ⟨-, c3b0, H⟩ := H
 ·obtain rfl := sI H
  go_enter Try.func77, Try.ntmps77
  go_wp2
  go_ret
  exact dn
 by_cases c4 : a0 ≥ 65
 rotate_left
 ·rw [if_neg c4] at H
  have c4b0 : decide (65 ≤ a0) = false := decide_eq_false c4; clear c4; obtain rfl := sI H
  go_enter Try.func77, Try.ntmps77
  go_wp2
  go_ret
  exact dn
 rw [if_pos c4] at H; have c4b0 : decide (65 ≤ a0) = true := decide_eq_true c4; clear c4; obtain rfl := sI H
 go_enter Try.func77, Try.ntmps77
 go_wp2
 go_ret
 exact dn
def r03digit.f (a0 : Int) : Option (Bool) := if a0 ≥ 48 then (some (decide (a0 ≤ 57))) else (some false)
set_option maxHeartbeats 8000000 in
set_option maxRecDepth 100000 in
theorem r03digit.calls (a0 : Int) (r : Bool) (w : World) (h : r03digit.f a0 = some r) :
  Calls Try.prog 101 #[.int .u8 a0] w fun e w' => e = .returned (.bool r) ∧ Drawn0 w w' := by
 have H := h; unfold r03digit.f at H
 clear h
 by_cases c2 : a0 ≥ 48
 ·rw [if_pos c2] at H
  have c2b0 : decide (48 ≤ a0) = true := decide_eq_true c2; clear c2; obtain rfl := sI H
  go_enter Try.func101, Try.ntmps101
  go_wp2
  go_ret
  exact dn
 rw [if_neg c2] at H; have c2b0 : decide (48 ≤ a0) = false := decide_eq_false c2; clear c2; obtain rfl := sI H
 go_enter Try.func101, Try.ntmps101
 go_wp2
 go_ret
 exact dn
def r03inner.f (a0 : Int) : Option (Bool) := (r03letter.f a0).bind fun t155 => (if t155 = true then (some true) else ((r03digit.f a0).bind fun t156 => (if t156 = true then (some true) else (some (a0 == 95)))))
set_option maxHeartbeats 8000000 in
set_option maxRecDepth 100000 in
theorem r03inner.calls (a0 : Int) (r : Bool) (w : World) (h : r03inner.f a0 = some r) :
  Calls Try.prog 102 #[.int .u8 a0] w fun e w' => e = .returned (.bool r) ∧ Drawn0 w w' := by
 have H := h; unfold r03inner.f at H
 clear h
 replace H := bS H; obtain ⟨t155, A2, H⟩ := H
 replace H := iB H; obtain ⟨rfl, H⟩ | ⟨rfl, H⟩ := H
 ·obtain rfl := sI H
  go_enter Try.func102, Try.ntmps102
  go_wp2_with ((with_reducible refine gate_callee (f := 77) rfl ?_); refine goD (some 4) rfl rfl Try.func77 (by kernel_rfl) rfl #[.int .u8 a0] rfl rfl (r03letter.calls a0 true _ A2.out) ?_; intro nd)
  go_ret
  exact dn
 replace H := bS H; obtain ⟨t156, A4, H⟩ := H
 replace H := iB H; obtain ⟨rfl, H⟩ | ⟨rfl, H⟩ := H
 ·obtain rfl := sI H
  go_enter Try.func102, Try.ntmps102
  go_wp2_with (first | ((with_reducible refine gate_callee (f := 77) rfl ?_); refine goD (some 4) rfl rfl Try.func77 (by kernel_rfl) rfl #[.int .u8 a0] rfl rfl (r03letter.calls a0 false _ A2.out) ?_; intro nd) | (go_at_call 101; refine (r03digit.calls a0 true _ A4.out).mono ?_; rintro e w' ⟨rfl, ⟨nd, rfl⟩⟩))
  go_ret
  exact dn
 obtain rfl := sI H
 go_enter Try.func102, Try.ntmps102
 go_wp2_with (first | ((with_reducible refine gate_callee (f := 77) rfl ?_); refine goD (some 4) rfl rfl Try.func77 (by kernel_rfl) rfl #[.int .u8 a0] rfl rfl (r03letter.calls a0 false _ A2.out) ?_; intro nd) | (go_at_call 101; refine (r03digit.calls a0 false _ A4.out).mono ?_; rintro e w' ⟨rfl, ⟨nd, rfl⟩⟩))
 go_ret
 exact dn
end Go.Proofs.Ytojankgmedccdaa.PIs
