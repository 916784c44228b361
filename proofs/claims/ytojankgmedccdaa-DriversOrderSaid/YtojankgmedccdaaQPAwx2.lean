/- Part of the proof of LawDriversOrder: every definition and lemma is one that it names. -/
import Derived.Test.YtojankgmedccdaaQPAwx0
namespace Go.Proofs.Ytojankgmedccdaa.PAw
open Go.RowKit Own PTy Hand PIs YtojankgmedccdaaW.PrintWords YtojankgmedccdaaW.PrintLast YtojankgmedccdaaW.PrintMore
attribute [local go_sem] max2_int min2_int max_two min_two max_three min_three max_four min_four
set_option linter.unusedVariables false
set_option linter.unusedSimpArgs false
def logic_isBit.f (a0 : Int) : Option (Bool) := some (decide (a0 ≤ 3))
set_option maxHeartbeats 8000000 in
set_option maxRecDepth 100000 in
theorem logic_isBit.calls (a0 : Int) (r : Bool) (w : World) (h : logic_isBit.f a0 = some r) :
  Calls Try.prog 69 #[.int .u8 a0] w fun e w' => e = .returned (.bool r) ∧ Drawn0 w w' := by
 have H : (some (decide (a0 ≤ 3))) = some r := h
 clear h; obtain rfl := sI H
 go_enter Try.func69, Try.ntmps69
 go_wp2
 go_ret
 exact dn
def logic_both.j0 : Nat → Int → Int → Bool → Option (Int)
 | 0, _, _, _ => none
 | k + 1, x0, x1, x5 => if x5 = true then (some x0) else (if x0 = 3 then (some x1) else (some 2))
def logic_both.f (k : Nat) (a0 : Int) (a1 : Int) : Option (Int) := if a0 = a1 then (logic_both.j0 k a0 a1 (a0 == a1)) else (logic_both.j0 k a0 a1 (a1 == 3))
theorem logic_both.mono_l : ∀ k, (∀ y0 y1 y2, LeO (logic_both.j0 k y0 y1 y2) (logic_both.j0 (k + 1) y0 y1 y2))
 | 0 => fun _ _ _ r h => by simp [logic_both.j0] at h
 | k + 1 => by
  have ih0 := logic_both.mono_l k
  ·intro y0 y1 y2
   unfold logic_both.j0
   repeat' first
   | (with_reducible exact ih0 _ _ _)
   | (with_reducible exact LeO.refl _)
   | (with_reducible exact LeO.none _)
   | (with_reducible refine LeO.ite ?_ ?_)
   | (with_reducible refine LeO.bind ?_ (fun _ => ?_))
   | exact ih0 _ _ _
   | exact LeO.none _
   | refine LeO.ite ?_ ?_
   | refine LeO.bind ?_ (fun _ => ?_)
theorem logic_both.mono : ∀ a0 a1 k, LeO (logic_both.f k a0 a1) (logic_both.f (k + 1) a0 a1) := by
 intro a0 a1 k
 have ih0 := logic_both.mono_l k
 unfold logic_both.f
 repeat' first
   | (with_reducible exact ih0 _ _ _)
   | (with_reducible exact LeO.refl _)
   | (with_reducible exact LeO.none _)
   | (with_reducible refine LeO.ite ?_ ?_)
   | (with_reducible refine LeO.bind ?_ (fun _ => ?_))
   | exact ih0 _ _ _
   | exact LeO.none _
   | refine LeO.ite ?_ ?_
   | refine LeO.bind ?_ (fun _ => ?_)
set_option maxHeartbeats 8000000 in
set_option maxRecDepth 100000 in
theorem logic_both.calls (k : Nat) (a0 : Int) (a1 : Int) (r : Int) (w : World) (h : logic_both.f k a0 a1 = some r) :
  Calls Try.prog 70 #[.int .u8 a0, .int .u8 a1] w fun e w' => e = .returned (.int .u8 r) ∧ Drawn0 w w' := by
 have H := h; unfold logic_both.f at H
 clear h; have HC3 := mk0 H; clear H
 go_enter Try.func70, Try.ntmps70
 go_upto_if 5 with (fail)
 go_cut [5] (fun v5 wc => ∃ (kq : Nat) (x5_2 : Bool), v5 = .bool x5_2 ∧ Aside0 (logic_both.j0 kq a0 a1 x5_2 = some r) ∧ Aside0 (kq ≤ k) ∧ Drawn0 w wc)
 case first =>
  have H := HC3.out; clear HC3
  replace H := iE' H; obtain ⟨c4, c4b0, c4b1, H⟩ | ⟨c4b0, c4b1, H⟩ := H
  ·(first | rw [c4b0] | (simp only [i64_w, i32_w]; rw [c4b0]) | skip)
   have H' := mk0 H
   clear H
   go_wp2
   go_meet
   case rel => exact ⟨_, ((a1 == 3)), rfl, H', ⟨by omega⟩, dr⟩
  (first | rw [c4b0] | (simp only [i64_w, i32_w]; rw [c4b0]) | skip)
  have H' := mk0 H
  clear H
  go_wp2
  go_meet
  case rel => exact ⟨_, ((a0 == a1)), (by first | rfl | (simp; done) | (simp [*]; done)), H', ⟨by omega⟩, dr⟩
 case rest =>
  clear HC3
  obtain ⟨kq, x5_2, rfl, HA, HJ2, ⟨mc2, rfl⟩⟩ := hcut
  cases kq with
  | zero => exact absurd HA.out (by simp [logic_both.j0])
  | succ kj2 =>
   have H := HA.out; clear HA
   simp only [logic_both.j0] at H
   replace H := iB H; obtain ⟨rfl, H⟩ | ⟨rfl, H⟩ := H
   ·obtain rfl := sI H
    go_wp2
    go_ret
    exact dn
   replace H := iE' H; obtain ⟨c6, c6b0, c6b1, H⟩ | ⟨c6b0, c6b1, H⟩ := H
   ·obtain rfl := sI H
    go_wp2
    go_ret
    exact dn
   obtain rfl := sI H
   go_wp2
   go_ret
   exact dn
def logic_Resolve.l0 : Nat → Int → List Int → Int → Int → Option (Int × Int)
 | 0, _, _, _, _ => none
 | k + 1, x4, x7, x8, x9 => if x9 < x8 then (if 0 ≤ x9 then (if x9 < (x7.length : Int) then ((logic_isBit.f (rd x7 x9)).bind fun t152 => (if t152 = true then ((logic_both.f k x4 (rd x7 x9)).bind fun t153 => (logic_Resolve.l0 k t153 x7 x8 (wrap64 (x9 + 1)))) else (some (0, 2)))) else (none)) else (none)) else (some (x4, 0))
def logic_Resolve.f (k : Nat) (l0 : List Int) : Option (Int × Int) := logic_Resolve.l0 k 3 l0 (l0.length : Int) 0
theorem logic_Resolve.mono_l : ∀ k, (∀ y0 y1 y2 y3, LeO (logic_Resolve.l0 k y0 y1 y2 y3) (logic_Resolve.l0 (k + 1) y0 y1 y2 y3))
 | 0 => fun _ _ _ _ r h => by simp [logic_Resolve.l0] at h
 | k + 1 => by
  have ih0 := logic_Resolve.mono_l k
  ·intro y0 y1 y2 y3
   unfold logic_Resolve.l0
   repeat' first
   | (with_reducible exact ih0 _ _ _ _)
   | (with_reducible exact logic_both.mono _ _ _)
   | (with_reducible exact LeO.refl _)
   | (with_reducible exact LeO.none _)
   | (with_reducible refine LeO.ite ?_ ?_)
   | (with_reducible refine LeO.bind ?_ (fun _ => ?_))
   | exact ih0 _ _ _ _
   | exact logic_both.mono _ _ _
   | exact LeO.none _
   | refine LeO.ite ?_ ?_
   | refine LeO.bind ?_ (fun _ => ?_)
theorem logic_Resolve.mono : ∀ a0 k, LeO (logic_Resolve.f k a0) (logic_Resolve.f (k + 1) a0) := by
 intro a0 k
 have ih0 := logic_Resolve.mono_l k
 unfold logic_Resolve.f
 repeat' first
   | (with_reducible exact ih0 _ _ _ _)
   | (with_reducible exact logic_both.mono _ _ _)
   | (with_reducible exact LeO.refl _)
   | (with_reducible exact LeO.none _)
   | (with_reducible refine LeO.ite ?_ ?_)
   | (with_reducible refine LeO.bind ?_ (fun _ => ?_))
   | exact ih0 _ _ _ _
   | exact logic_both.mono _ _ _
   | exact LeO.none _
   | refine LeO.ite ?_ ?_
   | refine LeO.bind ?_ (fun _ => ?_)
set_option maxHeartbeats 8000000 in
set_option maxRecDepth 100000 in
theorem logic_Resolve.calls (k : Nat) (A0 : Option Addr) (c0 : Nat) (l0 : List Int) (r1 : Int) (r2 : Int) (w : World) (hr0 : Kd.C (Kd.int .u8) w A0 l0.length l0) (hc0 : l0.length ≤ c0) (h : logic_Resolve.f k l0 = some (r1, r2)) :
  Calls Try.prog 53 #[.slice A0 l0.length c0] w fun e w' => e = .returned (.tuple #[.int .u8 r1, .int .i64 r2]) ∧ Drawn0 w w' := by
 have HR0 := mk0 hr0; have HC0 := mk0 hc0; clear hr0 hc0
 have H := h; unfold logic_Resolve.f at H
 clear h
 have H' := mk0 H
 clear H
 go_enter Try.func53, Try.ntmps53
 go_wp2
 go_loopg [4, 9] k (fun kq v4 v9 w' => ∃ (x4_1 : Int) (x9_1 : Int), v4 = .int .u8 x4_1 ∧ v9 = .int .i64 x9_1 ∧ Aside0 (logic_Resolve.l0 kq x4_1 l0 (l0.length : Int) x9_1 = some (r1, r2)) ∧ Aside0 (kq ≤ k) ∧ Drawn0 w w')
 case atStart => exact ⟨(3), (0), rfl, rfl, H', ⟨Nat.le_refl _⟩, dr⟩
 case round =>
  clear H'
  obtain ⟨x4_1, x9_1, rfl, rfl, HA, HK1, ⟨m1, rfl⟩⟩ := hrel
  cases gk with
  | zero => exact absurd HA.out (by simp [logic_Resolve.l0])
  | succ k1 =>
   have H := HA.out; clear HA
   simp only [logic_Resolve.l0] at H
   replace H := iD' H; obtain ⟨-, c2b0, H⟩ | ⟨-, c2b0, H⟩ := H
   ·simp only [Option.some.injEq, Prod.mk.injEq] at H
    obtain ⟨rfl, rfl⟩ := H
    go_wp2
    go_ret2
    exact dn
   replace H := iN H; obtain ⟨-, c3b0, H⟩ := H
   replace H := iN H; obtain ⟨-, c4b0, H⟩ := H
   replace H := bS H; obtain ⟨t152, A5, H⟩ := H
   replace H := iB' H; obtain ⟨rfl, H⟩ | ⟨rfl, H⟩ := H
   ·simp only [Option.some.injEq, Prod.mk.injEq] at H
    obtain ⟨rfl, rfl⟩ := H
    have p151 : 0 ≤ (x9_1 : Int) := od
    have q151 : x9_1 < (l0.length : Int) := od
    obtain ⟨ad151, e151, hx151_0⟩ := Kd.at_int HR0.out x9_1 p151 q151
    cases e151; replace p151 := eq_true p151; replace q151 := eq_true q151
    go_wp2_with ((with_reducible refine gate_callee (f := 69) rfl ?_); refine goD (some 14) rfl rfl Try.func69 (by kernel_rfl) rfl #[.int .u8 (rd l0 x9_1)] rfl rfl (logic_isBit.calls (rd l0 x9_1) false _ A5.out) ?_; intro nd)
    go_ret2
    exact dn
   replace H := bS H; obtain ⟨t153, A7, H⟩ := H
   have H' := mk0 H
   clear H
   have p151 : 0 ≤ (x9_1 : Int) := od
   have q151 : x9_1 < (l0.length : Int) := od
   obtain ⟨ad151, e151, hx151_0⟩ := Kd.at_int HR0.out x9_1 p151 q151
   cases e151; replace p151 := eq_true p151; replace q151 := eq_true q151
   go_wp2_with (first | ((with_reducible refine gate_callee (f := 69) rfl ?_); refine goD (some 14) rfl rfl Try.func69 (by kernel_rfl) rfl #[.int .u8 (rd l0 x9_1)] rfl rfl (logic_isBit.calls (rd l0 x9_1) true _ A5.out) ?_; intro nd) | ((with_reducible refine gate_callee (f := 70) rfl ?_); refine goD (some 18) rfl rfl Try.func70 (by kernel_rfl) rfl #[.int .u8 x4_1, .int .u8 (rd l0 x9_1)] rfl rfl (logic_both.calls k1 x4_1 (rd l0 x9_1) t153 _ A7.out) ?_; intro nd))
   go_roundg k1
   case measure => have := HK1.out; omega
   case rel => exact ⟨(t153), (wrap64 (x9_1 + 1)), rfl, rfl, H', ⟨by have := HK1.out; omega⟩, dr⟩
end Go.Proofs.Ytojankgmedccdaa.PAw
