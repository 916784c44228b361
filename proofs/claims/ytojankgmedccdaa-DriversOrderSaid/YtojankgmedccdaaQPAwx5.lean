/- Part of the proof of LawDriversOrder: every definition and lemma is one that it names. -/
import Derived.Test.YtojankgmedccdaaQPAwx0
namespace Go.Proofs.Ytojankgmedccdaa.PAw
open Go.RowKit Own PTy Hand PIs YtojankgmedccdaaW.PrintWords YtojankgmedccdaaW.PrintLast YtojankgmedccdaaW.PrintMore
attribute [local go_sem] max2_int min2_int max_two min_two max_three min_three max_four min_four
set_option linter.unusedVariables false
set_option linter.unusedSimpArgs false
def drivers_rising.l0 : Nat → Int → List Int → Int → Int → Option (Bool)
 | 0, _, _, _, _ => none
 | k + 1, x3, x6, x7, x8 => if x8 < x7 then (if 0 ≤ x8 then (if x8 < (x6.length : Int) then (if (rd x6 x8) ≤ x3 then (some false) else (if (rd x6 x8) > 1000000 then (some false) else (drivers_rising.l0 k (rd x6 x8) x6 x7 (wrap64 (x8 + 1))))) else (none)) else (none)) else (some true)
def drivers_rising.f (k : Nat) (l0 : List Int) : Option (Bool) := drivers_rising.l0 k (-1) l0 (l0.length : Int) 0
theorem drivers_rising.mono_l : ∀ k, (∀ y0 y1 y2 y3, LeO (drivers_rising.l0 k y0 y1 y2 y3) (drivers_rising.l0 (k + 1) y0 y1 y2 y3))
 | 0 => fun _ _ _ _ r h => by simp [drivers_rising.l0] at h
 | k + 1 => by
  have ih0 := drivers_rising.mono_l k
  ·intro y0 y1 y2 y3
   unfold drivers_rising.l0
   repeat' first
   | (with_reducible exact ih0 _ _ _ _)
   | (with_reducible exact LeO.refl _)
   | (with_reducible exact LeO.none _)
   | (with_reducible refine LeO.ite ?_ ?_)
   | (with_reducible refine LeO.bind ?_ (fun _ => ?_))
   | exact ih0 _ _ _ _
   | exact LeO.none _
   | refine LeO.ite ?_ ?_
   | refine LeO.bind ?_ (fun _ => ?_)
theorem drivers_rising.mono : ∀ a0 k, LeO (drivers_rising.f k a0) (drivers_rising.f (k + 1) a0) := by
 intro a0 k
 have ih0 := drivers_rising.mono_l k
 unfold drivers_rising.f
 repeat' first
   | (with_reducible exact ih0 _ _ _ _)
   | (with_reducible exact LeO.refl _)
   | (with_reducible exact LeO.none _)
   | (with_reducible refine LeO.ite ?_ ?_)
   | (with_reducible refine LeO.bind ?_ (fun _ => ?_))
   | exact ih0 _ _ _ _
   | exact LeO.none _
   | refine LeO.ite ?_ ?_
   | refine LeO.bind ?_ (fun _ => ?_)
set_option maxHeartbeats 8000000 in
set_option maxRecDepth 100000 in
theorem drivers_rising.calls (k : Nat) (A0 : Option Addr) (c0 : Nat) (l0 : List Int) (r : Bool) (w : World) (hr0 : Kd.C (Kd.int .i64) w A0 l0.length l0) (hc0 : l0.length ≤ c0) (h : drivers_rising.f k l0 = some r) :
  Calls Try.prog 59 #[.slice A0 l0.length c0] w fun e w' => e = .returned (.bool r) ∧ Drawn0 w w' := by
 have HR0 := mk0 hr0; have HC0 := mk0 hc0; clear hr0 hc0
 have H : (drivers_rising.l0 k (-1) l0 (l0.length : Int) 0) = some r := h
 clear h
 have H' := mk0 H
 clear H
 go_enter Try.func59, Try.ntmps59
 go_wp2
 go_loopg [3, 8] k (fun kq v3 v8 w' => ∃ (x3_1 : Int) (x8_1 : Int), v3 = .int .i64 x3_1 ∧ v8 = .int .i64 x8_1 ∧ Aside0 (drivers_rising.l0 kq x3_1 l0 (l0.length : Int) x8_1 = some r) ∧ Aside0 (kq ≤ k) ∧ Drawn0 w w')
 case atStart => exact ⟨((-1)), (0), rfl, rfl, H', ⟨Nat.le_refl _⟩, dr⟩
 case round =>
  clear H'
  obtain ⟨x3_1, x8_1, rfl, rfl, HA, HK1, ⟨m1, rfl⟩⟩ := hrel
  cases gk with
  | zero => exact absurd HA.out (by simp [drivers_rising.l0])
  | succ k1 =>
   have H := HA.out; clear HA
   simp only [drivers_rising.l0] at H
   replace H := iD' H; obtain ⟨-, c2b0, H⟩ | ⟨-, c2b0, H⟩ := H
   ·obtain rfl := sI H
    go_wp2
    go_ret
    exact dn
   replace H := iN H; obtain ⟨-, c3b0, H⟩ := H
   replace H := iN H; obtain ⟨-, c4b0, H⟩ := H
   replace H := iD H; obtain ⟨-, c5b0, H⟩ | ⟨-, c5b0, H⟩ := H
   ·obtain rfl := sI H
    have p211 : 0 ≤ (x8_1 : Int) := od
    have q211 : x8_1 < (l0.length : Int) := od
    obtain ⟨ad211, e211, hx211_0⟩ := Kd.at_int HR0.out x8_1 p211 q211
    cases e211; replace p211 := eq_true p211; replace q211 := eq_true q211
    go_wp2
    go_ret
    exact dn
   by_cases c6 : (rd l0 x8_1) > 1000000
   ·rw [if_pos c6] at H
    have c6b0 : decide (1000000 < (rd l0 x8_1)) = true := decide_eq_true c6; clear c6; obtain rfl := sI H
    have p211 : 0 ≤ (x8_1 : Int) := od
    have q211 : x8_1 < (l0.length : Int) := od
    obtain ⟨ad211, e211, hx211_0⟩ := Kd.at_int HR0.out x8_1 p211 q211
    cases e211; replace p211 := eq_true p211; replace q211 := eq_true q211
    go_wp2
    go_ret
    exact dn
   rw [if_neg c6] at H; have c6b0 : decide (1000000 < (rd l0 x8_1)) = false := decide_eq_false c6; clear c6
   have H' := mk0 H
   clear H
   have p211 : 0 ≤ (x8_1 : Int) := od
   have q211 : x8_1 < (l0.length : Int) := od
   obtain ⟨ad211, e211, hx211_0⟩ := Kd.at_int HR0.out x8_1 p211 q211
   cases e211; replace p211 := eq_true p211; replace q211 := eq_true q211
   go_wp2
   go_roundg k1
   case measure => have := HK1.out; omega
   case rel => exact ⟨(rd l0 x8_1), (wrap64 (x8_1 + 1)), rfl, rfl, H', ⟨by have := HK1.out; omega⟩, dr⟩
end Go.Proofs.Ytojankgmedccdaa.PAw
