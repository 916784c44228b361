/- Part of the proof of LawDriversOrder: every definition and lemma is one that it names. -/
import Derived.Test.YtojankgmedccdaaQPIsx0
import Derived.Test.YtojankgmedccdaaQPIsx3
import Derived.Test.YtojankgmedccdaaQPIsx5
namespace Go.Proofs.Ytojankgmedccdaa.PIs
open Go.RowKit Own PTy Hand YtojankgmedccdaaW.PrintWords YtojankgmedccdaaW.PrintLast YtojankgmedccdaaW.PrintMore
attribute [local go_sem] max2_int min2_int max_two min_two max_three min_three max_four min_four
set_option linter.unusedVariables false
set_option linter.unusedSimpArgs false
mutual
def types_Valid.j0 : Nat → Int → Bool → Int → Int → ByteArray → List ByteArray → List (S26) → Option (Bool)
 | 0, _, _, _, _, _, _, _ => none
 | k + 1, x4, x5, x142000, x142001, x142002, x142003, x142004 => if x5 = true then ((types_plain.f x142000 x142001 x142002 x142003 x142004 false false false).bind fun t142 => (some t142)) else (if x4 = 4 then ((types_plain.f x142000 x142001 x142002 x142003 x142004 true false false).bind fun t143 => (if t143 = true then (if x142001 ≥ 1 then (some (decide (x142001 ≤ 64))) else (some false)) else (some false))) else (if x4 = 5 then ((types_plain.f x142000 x142001 x142002 x142003 x142004 false true false).bind fun t144 => (if t144 = true then ((types_isEnum.f k x142000 x142001 x142002 x142003 x142004).bind fun t145 => (some t145)) else (some false))) else (if x4 = 6 then ((types_plain.f x142000 x142001 x142002 x142003 x142004 true false true).bind fun t146 => (if t146 = true then (if x142001 ≥ 1 then (if x142001 ≤ 64 then (if (x142004.length : Int) = 1 then (if 0 < (x142004.length : Int) then (if ((rd_T26 x142004 0).f0) = 6 then (some false) else ((types_Valid.f k ((rd_T26 x142004 0).f0) ((rd_T26 x142004 0).f1) ((rd_T26 x142004 0).f2) ((rd_T26 x142004 0).f3) ((rd_T26 x142004 0).f4)).bind fun t149 => (some t149))) else (none)) else (some false)) else (some false)) else (some false)) else (some false))) else (some false))))
def types_Valid.f : Nat → Int → Int → ByteArray → List ByteArray → List (S26) → Option (Bool)
 | 0, _, _, _, _, _ => none
 | k + 1, a0_0, a0_1, a0_2, l0_3, l0_4 => if a0_0 = 1 then (types_Valid.j0 k a0_0 (a0_0 == 1) a0_0 a0_1 a0_2 l0_3 l0_4) else (if a0_0 = 2 then (types_Valid.j0 k a0_0 (a0_0 == 2) a0_0 a0_1 a0_2 l0_3 l0_4) else (types_Valid.j0 k a0_0 (a0_0 == 3) a0_0 a0_1 a0_2 l0_3 l0_4))
end
theorem types_Valid.mono_l : ∀ k, (∀ y0 y1 y2 y3 y4, LeO (types_Valid.f k y0 y1 y2 y3 y4) (types_Valid.f (k + 1) y0 y1 y2 y3 y4)) ∧ (∀ y0 y1 y2 y3 y4 y5 y6, LeO (types_Valid.j0 k y0 y1 y2 y3 y4 y5 y6) (types_Valid.j0 (k + 1) y0 y1 y2 y3 y4 y5 y6))
 | 0 => ⟨fun _ _ _ _ _ r h => by simp [types_Valid.f] at h, fun _ _ _ _ _ _ _ r h => by simp [types_Valid.j0] at h⟩
 | k + 1 => by
  obtain ⟨ih0, ih1⟩ := types_Valid.mono_l k
  refine ⟨?_, ?_⟩ <;> intros <;> (first | unfold types_Valid.f | unfold types_Valid.j0) <;> repeat' first | (with_reducible first | apply ih0 | apply ih1 | apply types_isEnum.mono | apply LeO.refl | apply LeO.none | refine LeO.ite ?_ ?_ | refine LeO.bind ?_ (fun _ => ?_)) | apply ih0 | apply ih1 | apply types_isEnum.mono | apply LeO.none | refine LeO.ite ?_ ?_ | refine LeO.bind ?_ (fun _ => ?_)
theorem types_Valid.mono : ∀ a0 a1 a2 a3 a4 k, LeO (types_Valid.f k a0 a1 a2 a3 a4) (types_Valid.f (k + 1) a0 a1 a2 a3 a4) := by
 intro a0 a1 a2 a3 a4 k
 obtain ⟨ih0, ih1⟩ := types_Valid.mono_l k
 exact ih0 a0 a1 a2 a3 a4
set_option maxHeartbeats 8000000 in
set_option maxRecDepth 100000 in
theorem types_Valid.calls (k : Nat) : ∀ (a0_0 : Int) (a0_1 : Int) (a0_2 : ByteArray) (A0_3 : Option Addr) (c0_3 : Nat) (l0_3 : List ByteArray) (A0_4 : Option Addr) (c0_4 : Nat) (l0_4 : List (S26)) (r : Bool) (w : World) (hG : Glob w) (hr0_3 : Kd.C Kd.string w A0_3 l0_3.length l0_3) (hc0_3 : l0_3.length ≤ c0_3) (hr0_4 : Kd.C k26 w A0_4 l0_4.length l0_4) (hc0_4 : l0_4.length ≤ c0_4) (h : types_Valid.f k a0_0 a0_1 a0_2 l0_3 l0_4 = some r),
  Calls Try.prog 43 #[.agg #[.int .i64 a0_0, .int .i64 a0_1, .string a0_2, .slice A0_3 l0_3.length c0_3, .slice A0_4 l0_4.length c0_4]] w fun e w' => e = .returned (.bool r) ∧ Below w.heap.size w w' := by
 induction k using Nat.strongRecOn with
 | _ k ih =>
 intro a0_0 a0_1 a0_2 A0_3 c0_3 l0_3 A0_4 c0_4 l0_4 r w hG hr0_3 hc0_3 hr0_4 hc0_4 h
 cases k with
 | zero => exact absurd h (by simp [types_Valid.f])
 | succ k =>
 simp only [types_Valid.f] at h
 have HG := mk0 hG; clear hG
 have hu26 := Try.underlying26
 have HR0_3 := mk0 hr0_3; have HC0_3 := mk0 hc0_3; clear hr0_3 hc0_3; have HR0_4 := mk0 hr0_4; have HC0_4 := mk0 hc0_4; clear hr0_4 hc0_4
 have HB := mk0 (Below.refl w.heap.size w)
 have H := h; unfold types_Valid.f at H
 clear h; have HC2 := mk0 H; clear H
 go_enter Try.func43, Try.ntmps43
 go_upto_if 5 with ((with_reducible refine box_event rfl (N := 1) rfl (cs := #[.int .i64 a0_0, .int .i64 a0_1, .string a0_2, .slice A0_3 l0_3.length c0_3, .slice A0_4 l0_4.length c0_4]) (t := 26) ?hr ?_); (case hr => first | (go_simp; done) | (go_simp; rfl)); intro gb141 hg w3 hbox hb; have BK141 := mk0 (hbox); have GE141 := bs (be HB) hg; replace HB := kh HB hb; clear hb hbox hg; have z4 := cells5 BK141.out)
 (try simp only [Act.put, List.setIfInBounds_toArray, List.set_cons_zero, List.set_cons_succ])
 go_cut [5] (fun v5 wc => ∃ (kq : Nat) (x5_1 : Bool), v5 = .bool x5_1 ∧ Aside0 (types_Valid.j0 kq a0_0 x5_1 a0_0 a0_1 a0_2 l0_3 l0_4 = some r) ∧ Aside0 (kq ≤ k) ∧ Aside0 (wc.heap[gb141]? = some (.cells #[.int .i64 a0_0, .int .i64 a0_1, .string a0_2, (.slice A0_3 l0_3.length c0_3), (.slice A0_4 l0_4.length c0_4)] 26 (0, 0))) ∧ Aside0 (Below w.heap.size w wc))
 case first =>
  have H := HC2.out; clear HC2
  replace H := iE H; obtain ⟨c5b0, c5b1, H⟩ | ⟨c5, c5b0, c5b1, H⟩ := H
  ·(first | rw [c5b0] | (simp only [i64_w, i32_w]; rw [c5b0]) | skip)
   have H' := mk0 H
   clear H
   go_wp2
   go_meet
   case rel => exact ⟨_, ((a0_0 == 1)), (by first | rfl | (simp; done) | (simp [*]; done)), H', ⟨by omega⟩, ⟨bu BK141⟩, ⟨be1 HB GE141⟩⟩
  (first | rw [c5b0] | (simp only [i64_w, i32_w]; rw [c5b0]) | skip)
  replace H := iE' H; obtain ⟨c6, c6b0, c6b1, H⟩ | ⟨c6b0, c6b1, H⟩ := H
  ·have H' := mk0 H
   clear H
   go_wp2
   go_meet
   case rel => exact ⟨_, ((a0_0 == 3)), rfl, H', ⟨by omega⟩, ⟨bu BK141⟩, ⟨be1 HB GE141⟩⟩
  have H' := mk0 H
  clear H
  go_wp2
  go_meet
  case rel => exact ⟨_, ((a0_0 == 2)), (by first | rfl | (simp; done) | (simp [*]; done)), H', ⟨by omega⟩, ⟨bu BK141⟩, ⟨be1 HB GE141⟩⟩
 case rest =>
  clear HC2
  obtain ⟨kq, x5_1, rfl, HA, HJ1, BK141, HB⟩ := hcut
  cases kq with
  | zero => exact absurd HA.out (by simp [types_Valid.j0])
  | succ kj1 =>
   have H := HA.out; clear HA
   simp only [types_Valid.j0] at H
   replace H := iB H; obtain ⟨rfl, H⟩ | ⟨rfl, H⟩ := H
   ·replace H := bS H; obtain ⟨t142, A8, H⟩ := H; obtain rfl := sI H
    have z9 := cells5 BK141.out
    go_wp2_with ((with_reducible refine gate_callee (f := 63) rfl ?_); refine goB (some 10) rfl rfl Try.func63 (by kernel_rfl) rfl #[.agg #[.int .i64 a0_0, .int .i64 a0_1, .string a0_2, .slice A0_3 l0_3.length c0_3, .slice A0_4 l0_4.length c0_4], .bool false, .bool false, .bool false] rfl rfl (types_plain.calls a0_0 a0_1 a0_2 _ _ l0_3 _ _ l0_4 false false false t142 _ (cu HR0_3 HB) HC0_3.out (cu HR0_4 HB) HC0_4.out A8.out) ?_; intro w10 hb; replace BK141 := kb BK141 hb; replace HB := kh1 HB GE141 hb)
    go_ret
    exact ⟨rfl, be1 HB GE141⟩
   replace H := iE H; obtain ⟨c11b0, c11b1, H⟩ | ⟨c11, c11b0, c11b1, H⟩ := H
   ·replace H := bS H; obtain ⟨t143, A12, H⟩ := H
    replace H := iB' H; obtain ⟨rfl, H⟩ | ⟨rfl, H⟩ := H
    ·obtain rfl := sI H
     have z21 := cells5 BK141.out
     go_wp2_with ((with_reducible refine gate_callee (f := 63) rfl ?_); refine goB (some 14) rfl rfl Try.func63 (by kernel_rfl) rfl #[.agg #[.int .i64 a0_0, .int .i64 a0_1, .string a0_2, .slice A0_3 l0_3.length c0_3, .slice A0_4 l0_4.length c0_4], .bool true, .bool false, .bool false] rfl rfl (types_plain.calls a0_0 a0_1 a0_2 _ _ l0_3 _ _ l0_4 true false false false _ (cu HR0_3 HB) HC0_3.out (cu HR0_4 HB) HC0_4.out A12.out) ?_; intro w22 hb; replace BK141 := kb BK141 hb; replace HB := kh1 HB GE141 hb)
     go_ret
     exact ⟨rfl, be1 HB GE141⟩
    by_cases c14 : a0_1 ≥ 1
    rotate_left
    ·rw [if_neg c14] at H
     have c14b0 : decide (1 ≤ a0_1) = false := decide_eq_false c14; clear c14; obtain rfl := sI H
     have z18 := cells5 BK141.out
     go_wp2_with ((with_reducible refine gate_callee (f := 63) rfl ?_); refine goB (some 14) rfl rfl Try.func63 (by kernel_rfl) rfl #[.agg #[.int .i64 a0_0, .int .i64 a0_1, .string a0_2, .slice A0_3 l0_3.length c0_3, .slice A0_4 l0_4.length c0_4], .bool true, .bool false, .bool false] rfl rfl (types_plain.calls a0_0 a0_1 a0_2 _ _ l0_3 _ _ l0_4 true false false true _ (cu HR0_3 HB) HC0_3.out (cu HR0_4 HB) HC0_4.out A12.out) ?_; intro w19 hb; replace BK141 := kb BK141 hb; replace HB := kh1 HB GE141 hb; have z20 := cells5 BK141.out)
     go_ret
     exact ⟨rfl, be1 HB GE141⟩
    rw [if_pos c14] at H; have c14b0 : decide (1 ≤ a0_1) = true := decide_eq_true c14; clear c14; obtain rfl := sI H
    have z15 := cells5 BK141.out
    go_wp2_with ((with_reducible refine gate_callee (f := 63) rfl ?_); refine goB (some 14) rfl rfl Try.func63 (by kernel_rfl) rfl #[.agg #[.int .i64 a0_0, .int .i64 a0_1, .string a0_2, .slice A0_3 l0_3.length c0_3, .slice A0_4 l0_4.length c0_4], .bool true, .bool false, .bool false] rfl rfl (types_plain.calls a0_0 a0_1 a0_2 _ _ l0_3 _ _ l0_4 true false false true _ (cu HR0_3 HB) HC0_3.out (cu HR0_4 HB) HC0_4.out A12.out) ?_; intro w16 hb; replace BK141 := kb BK141 hb; replace HB := kh1 HB GE141 hb; have z17 := cells5 BK141.out)
    go_ret
    exact ⟨rfl, be1 HB GE141⟩
   replace H := iE H; obtain ⟨c23b0, c23b1, H⟩ | ⟨c23, c23b0, c23b1, H⟩ := H
   ·replace H := bS H; obtain ⟨t144, A24, H⟩ := H
    replace H := iB' H; obtain ⟨rfl, H⟩ | ⟨rfl, H⟩ := H
    ·obtain rfl := sI H
     have z31 := cells5 BK141.out
     go_wp2_with ((with_reducible refine gate_callee (f := 63) rfl ?_); refine goB (some 28) rfl rfl Try.func63 (by kernel_rfl) rfl #[.agg #[.int .i64 a0_0, .int .i64 a0_1, .string a0_2, .slice A0_3 l0_3.length c0_3, .slice A0_4 l0_4.length c0_4], .bool false, .bool true, .bool false] rfl rfl (types_plain.calls a0_0 a0_1 a0_2 _ _ l0_3 _ _ l0_4 false true false false _ (cu HR0_3 HB) HC0_3.out (cu HR0_4 HB) HC0_4.out A24.out) ?_; intro w32 hb; replace BK141 := kb BK141 hb; replace HB := kh1 HB GE141 hb)
     go_ret
     exact ⟨rfl, be1 HB GE141⟩
    replace H := bS H; obtain ⟨t145, A26, H⟩ := H; obtain rfl := sI H
    have z27 := cells5 BK141.out
    go_wp2_with (first | ((with_reducible refine gate_callee (f := 63) rfl ?_); refine goB (some 28) rfl rfl Try.func63 (by kernel_rfl) rfl #[.agg #[.int .i64 a0_0, .int .i64 a0_1, .string a0_2, .slice A0_3 l0_3.length c0_3, .slice A0_4 l0_4.length c0_4], .bool false, .bool true, .bool false] rfl rfl (types_plain.calls a0_0 a0_1 a0_2 _ _ l0_3 _ _ l0_4 false true false true _ (cu HR0_3 HB) HC0_3.out (cu HR0_4 HB) HC0_4.out A24.out) ?_; intro w28 hb; replace BK141 := kb BK141 hb; replace HB := kh1 HB GE141 hb; have z29 := cells5 BK141.out) | (go_at_call 64; refine (types_isEnum.calls kj1 a0_0 a0_1 a0_2 _ _ l0_3 _ _ l0_4 t145 _ (glob_below HG.out (be1 HB GE141)) (cu HR0_3 HB) HC0_3.out (cu HR0_4 HB) HC0_4.out A26.out).mono ?_; rintro e w30 ⟨rfl, hb⟩; replace BK141 := kb BK141 hb; replace HB := kh1 HB GE141 hb))
    go_ret
    exact ⟨rfl, be1 HB GE141⟩
   replace H := iE' H; obtain ⟨c33, c33b0, c33b1, H⟩ | ⟨c33b0, c33b1, H⟩ := H
   ·obtain rfl := sI H
    go_wp2
    go_ret
    exact ⟨rfl, be1 HB GE141⟩
   replace H := bS H; obtain ⟨t146, A34, H⟩ := H
   replace H := iB' H; obtain ⟨rfl, H⟩ | ⟨rfl, H⟩ := H
   ·obtain rfl := sI H
    have z58 := cells5 BK141.out
    go_wp2_with ((with_reducible refine gate_callee (f := 63) rfl ?_); refine goB (some 36) rfl rfl Try.func63 (by kernel_rfl) rfl #[.agg #[.int .i64 a0_0, .int .i64 a0_1, .string a0_2, .slice A0_3 l0_3.length c0_3, .slice A0_4 l0_4.length c0_4], .bool true, .bool false, .bool true] rfl rfl (types_plain.calls a0_0 a0_1 a0_2 _ _ l0_3 _ _ l0_4 true false true false _ (cu HR0_3 HB) HC0_3.out (cu HR0_4 HB) HC0_4.out A34.out) ?_; intro w59 hb; replace BK141 := kb BK141 hb; replace HB := kh1 HB GE141 hb)
    go_ret
    exact ⟨rfl, be1 HB GE141⟩
   by_cases c36 : a0_1 ≥ 1
   rotate_left
   ·rw [if_neg c36] at H
    have c36b0 : decide (1 ≤ a0_1) = false := decide_eq_false c36; clear c36; obtain rfl := sI H
    have z55 := cells5 BK141.out
    go_wp2_with ((with_reducible refine gate_callee (f := 63) rfl ?_); refine goB (some 36) rfl rfl Try.func63 (by kernel_rfl) rfl #[.agg #[.int .i64 a0_0, .int .i64 a0_1, .string a0_2, .slice A0_3 l0_3.length c0_3, .slice A0_4 l0_4.length c0_4], .bool true, .bool false, .bool true] rfl rfl (types_plain.calls a0_0 a0_1 a0_2 _ _ l0_3 _ _ l0_4 true false true true _ (cu HR0_3 HB) HC0_3.out (cu HR0_4 HB) HC0_4.out A34.out) ?_; intro w56 hb; replace BK141 := kb BK141 hb; replace HB := kh1 HB GE141 hb; have z57 := cells5 BK141.out)
    go_ret
    exact ⟨rfl, be1 HB GE141⟩
   rw [if_pos c36] at H; have c36b0 : decide (1 ≤ a0_1) = true := decide_eq_true c36; clear c36
   replace H := iD' H; obtain ⟨-, c37b0, H⟩ | ⟨-, c37b0, H⟩ := H
   ·obtain rfl := sI H
    have z52 := cells5 BK141.out
    go_wp2_with ((with_reducible refine gate_callee (f := 63) rfl ?_); refine goB (some 36) rfl rfl Try.func63 (by kernel_rfl) rfl #[.agg #[.int .i64 a0_0, .int .i64 a0_1, .string a0_2, .slice A0_3 l0_3.length c0_3, .slice A0_4 l0_4.length c0_4], .bool true, .bool false, .bool true] rfl rfl (types_plain.calls a0_0 a0_1 a0_2 _ _ l0_3 _ _ l0_4 true false true true _ (cu HR0_3 HB) HC0_3.out (cu HR0_4 HB) HC0_4.out A34.out) ?_; intro w53 hb; replace BK141 := kb BK141 hb; replace HB := kh1 HB GE141 hb; have z54 := cells5 BK141.out)
    go_ret
    exact ⟨rfl, be1 HB GE141⟩
   replace H := iE' H; obtain ⟨c38, c38b0, c38b1, H⟩ | ⟨c38b0, c38b1, H⟩ := H
   ·obtain rfl := sI H
    have z49 := cells5 BK141.out
    go_wp2_with ((with_reducible refine gate_callee (f := 63) rfl ?_); refine goB (some 36) rfl rfl Try.func63 (by kernel_rfl) rfl #[.agg #[.int .i64 a0_0, .int .i64 a0_1, .string a0_2, .slice A0_3 l0_3.length c0_3, .slice A0_4 l0_4.length c0_4], .bool true, .bool false, .bool true] rfl rfl (types_plain.calls a0_0 a0_1 a0_2 _ _ l0_3 _ _ l0_4 true false true true _ (cu HR0_3 HB) HC0_3.out (cu HR0_4 HB) HC0_4.out A34.out) ?_; intro w50 hb; replace BK141 := kb BK141 hb; replace HB := kh1 HB GE141 hb; have z51 := cells5 BK141.out)
    go_ret
    exact ⟨rfl, be1 HB GE141⟩
   replace H := iN H; obtain ⟨c39, c39b0, H⟩ := H
   have c39b1 : decide (0 < l0_4.length) = true := decide_eq_true (by omega)
   clear c39
   replace H := iE H; obtain ⟨c40b0, c40b1, H⟩ | ⟨c40, c40b0, c40b1, H⟩ := H
   ·obtain rfl := sI H
    have z41 := cells5 BK141.out
    go_wp2_with ((with_reducible refine gate_callee (f := 63) rfl ?_); refine goB (some 36) rfl rfl Try.func63 (by kernel_rfl) rfl #[.agg #[.int .i64 a0_0, .int .i64 a0_1, .string a0_2, .slice A0_3 l0_3.length c0_3, .slice A0_4 l0_4.length c0_4], .bool true, .bool false, .bool true] rfl rfl (types_plain.calls a0_0 a0_1 a0_2 _ _ l0_3 _ _ l0_4 true false true true _ (cu HR0_3 HB) HC0_3.out (cu HR0_4 HB) HC0_4.out A34.out) ?_; intro w42 hb; replace BK141 := kb BK141 hb; replace HB := kh1 HB GE141 hb; have z43 := cells5 BK141.out; have p147 : 0 ≤ (0 : Int) := (by omega); have q147 : 0 < (l0_4.length : Int) := of_decide_eq_true (by assumption); obtain ⟨ad147, A147_3, c147_3, A147_4, c147_4, e147, hx147_0, hx147_1, hx147_2, hx147_3, hx147_4, hl147_3, hi147_3, hl147_4, hi147_4⟩ := at_T26 HR0_4.out 0 p147 q147; cases e147; have qi147 : (0 < l0_4.length) = True := eq_true (by omega); (try rw [show ((0 : Int)).toNat = 0 from rfl] at hx147_0); (try rw [show 0 * 5 = 0 from rfl] at hx147_0); (try rw [Addr.add_zero'] at hx147_0); (try rw [show ((0 : Int)).toNat = 0 from rfl] at hx147_1); (try rw [show 0 * 5 = 0 from rfl] at hx147_1); (try rw [Addr.add_zero'] at hx147_1); (try rw [show ((0 : Int)).toNat = 0 from rfl] at hx147_2); (try rw [show 0 * 5 = 0 from rfl] at hx147_2); (try rw [Addr.add_zero'] at hx147_2); (try rw [show ((0 : Int)).toNat = 0 from rfl] at hx147_3); (try rw [show 0 * 5 = 0 from rfl] at hx147_3); (try rw [Addr.add_zero'] at hx147_3); (try rw [show ((0 : Int)).toNat = 0 from rfl] at hx147_4); (try rw [show 0 * 5 = 0 from rfl] at hx147_4); (try rw [Addr.add_zero'] at hx147_4); replace hx147_0 := keepc HB.out hx147_0; replace hx147_1 := keepc HB.out hx147_1; replace hx147_2 := keepc HB.out hx147_2; replace hx147_3 := keepc HB.out hx147_3; replace hx147_4 := keepc HB.out hx147_4; have HR147_3 := mk0 hi147_3; have HC147_3 := mk0 hl147_3; clear hi147_3 hl147_3; have HR147_4 := mk0 hi147_4; have HC147_4 := mk0 hl147_4; clear hi147_4 hl147_4; replace p147 := eq_true p147; replace q147 := eq_true q147)
    go_ret
    exact ⟨rfl, be1 HB GE141⟩
   replace H := bS H; obtain ⟨t149, A44, H⟩ := H; obtain rfl := sI H
   have z45 := cells5 BK141.out
   go_wp2_with (first | ((with_reducible refine gate_callee (f := 63) rfl ?_); refine goB (some 36) rfl rfl Try.func63 (by kernel_rfl) rfl #[.agg #[.int .i64 a0_0, .int .i64 a0_1, .string a0_2, .slice A0_3 l0_3.length c0_3, .slice A0_4 l0_4.length c0_4], .bool true, .bool false, .bool true] rfl rfl (types_plain.calls a0_0 a0_1 a0_2 _ _ l0_3 _ _ l0_4 true false true true _ (cu HR0_3 HB) HC0_3.out (cu HR0_4 HB) HC0_4.out A34.out) ?_; intro w46 hb; replace BK141 := kb BK141 hb; replace HB := kh1 HB GE141 hb; have z47 := cells5 BK141.out; have p147 : 0 ≤ (0 : Int) := (by omega); have q147 : 0 < (l0_4.length : Int) := of_decide_eq_true (by assumption); obtain ⟨ad147, A147_3, c147_3, A147_4, c147_4, e147, hx147_0, hx147_1, hx147_2, hx147_3, hx147_4, hl147_3, hi147_3, hl147_4, hi147_4⟩ := at_T26 HR0_4.out 0 p147 q147; cases e147; have qi147 : (0 < l0_4.length) = True := eq_true (by omega); (try rw [show ((0 : Int)).toNat = 0 from rfl] at hx147_0); (try rw [show 0 * 5 = 0 from rfl] at hx147_0); (try rw [Addr.add_zero'] at hx147_0); (try rw [show ((0 : Int)).toNat = 0 from rfl] at hx147_1); (try rw [show 0 * 5 = 0 from rfl] at hx147_1); (try rw [Addr.add_zero'] at hx147_1); (try rw [show ((0 : Int)).toNat = 0 from rfl] at hx147_2); (try rw [show 0 * 5 = 0 from rfl] at hx147_2); (try rw [Addr.add_zero'] at hx147_2); (try rw [show ((0 : Int)).toNat = 0 from rfl] at hx147_3); (try rw [show 0 * 5 = 0 from rfl] at hx147_3); (try rw [Addr.add_zero'] at hx147_3); (try rw [show ((0 : Int)).toNat = 0 from rfl] at hx147_4); (try rw [show 0 * 5 = 0 from rfl] at hx147_4); (try rw [Addr.add_zero'] at hx147_4); replace hx147_0 := keepc HB.out hx147_0; replace hx147_1 := keepc HB.out hx147_1; replace hx147_2 := keepc HB.out hx147_2; replace hx147_3 := keepc HB.out hx147_3; replace hx147_4 := keepc HB.out hx147_4; have HR147_3 := mk0 hi147_3; have HC147_3 := mk0 hl147_3; clear hi147_3 hl147_3; have HR147_4 := mk0 hi147_4; have HC147_4 := mk0 hl147_4; clear hi147_4 hl147_4; replace p147 := eq_true p147; replace q147 := eq_true q147; have p148 : 0 ≤ (0 : Int) := (by omega); have q148 : 0 < (l0_4.length : Int) := of_decide_eq_true (by assumption); obtain ⟨ad148, A148_3, c148_3, A148_4, c148_4, e148, hx148_0, hx148_1, hx148_2, hx148_3, hx148_4, hl148_3, hi148_3, hl148_4, hi148_4⟩ := at_T26 HR0_4.out 0 p148 q148; obtain rfl : ad147 = ad148 := (by injection e148); have qi148 : (0 < l0_4.length) = True := eq_true (by omega); (try rw [show ((0 : Int)).toNat = 0 from rfl] at hx148_0); (try rw [show 0 * 5 = 0 from rfl] at hx148_0); (try rw [Addr.add_zero'] at hx148_0); (try rw [show ((0 : Int)).toNat = 0 from rfl] at hx148_1); (try rw [show 0 * 5 = 0 from rfl] at hx148_1); (try rw [Addr.add_zero'] at hx148_1); (try rw [show ((0 : Int)).toNat = 0 from rfl] at hx148_2); (try rw [show 0 * 5 = 0 from rfl] at hx148_2); (try rw [Addr.add_zero'] at hx148_2); (try rw [show ((0 : Int)).toNat = 0 from rfl] at hx148_3); (try rw [show 0 * 5 = 0 from rfl] at hx148_3); (try rw [Addr.add_zero'] at hx148_3); (try rw [show ((0 : Int)).toNat = 0 from rfl] at hx148_4); (try rw [show 0 * 5 = 0 from rfl] at hx148_4); (try rw [Addr.add_zero'] at hx148_4); replace hx148_0 := keepc HB.out hx148_0; replace hx148_1 := keepc HB.out hx148_1; replace hx148_2 := keepc HB.out hx148_2; replace hx148_3 := keepc HB.out hx148_3; replace hx148_4 := keepc HB.out hx148_4; have HR148_3 := mk0 hi148_3; have HC148_3 := mk0 hl148_3; clear hi148_3 hl148_3; have HR148_4 := mk0 hi148_4; have HC148_4 := mk0 hl148_4; clear hi148_4 hl148_4; replace p148 := eq_true p148; replace q148 := eq_true q148; have ea_ := Option.some.inj (hx147_3.symm.trans hx148_3); injection ea_ with ea_ en_ ec_; subst ea_; subst ec_; clear en_; have ea_ := Option.some.inj (hx147_4.symm.trans hx148_4); injection ea_ with ea_ en_ ec_; subst ea_; subst ec_; clear en_) | (go_at_call 43; refine (ih kj1 (by have := HJ1.out; omega) ((rd_T26 l0_4 0).f0) ((rd_T26 l0_4 0).f1) ((rd_T26 l0_4 0).f2) _ _ ((rd_T26 l0_4 0).f3) _ _ ((rd_T26 l0_4 0).f4) t149 _ (glob_below HG.out (be1 HB GE141)) (cu HR148_3 HB) HC148_3.out (cu HR148_4 HB) HC148_4.out A44.out).mono ?_; rintro e w48 ⟨rfl, hb⟩; replace BK141 := kb BK141 hb; replace HB := kh1 HB GE141 hb))
   go_ret
   exact ⟨rfl, be1 HB GE141⟩
def drivers_Scalar.f (k : Nat) (a0_0 : Int) (a0_1 : Int) (a0_2 : ByteArray) (l0_3 : List ByteArray) (l0_4 : List (S26)) : Option (Bool) := if a0_0 = 1 then ((types_Valid.f k a0_0 a0_1 a0_2 l0_3 l0_4).bind fun t151 => (some t151)) else (if a0_0 = 2 then ((types_Valid.f k a0_0 a0_1 a0_2 l0_3 l0_4).bind fun t152 => (some t152)) else (if a0_0 = 3 then ((types_Valid.f k a0_0 a0_1 a0_2 l0_3 l0_4).bind fun t153 => (some t153)) else (if a0_0 = 5 then ((types_Valid.f k a0_0 a0_1 a0_2 l0_3 l0_4).bind fun t154 => (some t154)) else (some false))))
theorem drivers_Scalar.mono : ∀ a0 a1 a2 a3 a4 k, LeO (drivers_Scalar.f k a0 a1 a2 a3 a4) (drivers_Scalar.f (k + 1) a0 a1 a2 a3 a4) := by
 intro a0 a1 a2 a3 a4 k
 unfold drivers_Scalar.f
 repeat' first
   | (with_reducible exact types_Valid.mono _ _ _ _ _ _)
   | (with_reducible exact LeO.refl _)
   | (with_reducible exact LeO.none _)
   | (with_reducible refine LeO.ite ?_ ?_)
   | (with_reducible refine LeO.bind ?_ (fun _ => ?_))
   | exact types_Valid.mono _ _ _ _ _ _
   | exact LeO.none _
   | refine LeO.ite ?_ ?_
   | refine LeO.bind ?_ (fun _ => ?_)
set_option maxHeartbeats 8000000 in
set_option maxRecDepth 100000 in
theorem drivers_Scalar.calls (k : Nat) (a0_0 : Int) (a0_1 : Int) (a0_2 : ByteArray) (A0_3 : Option Addr) (c0_3 : Nat) (l0_3 : List ByteArray) (A0_4 : Option Addr) (c0_4 : Nat) (l0_4 : List (S26)) (r : Bool) (w : World) (hG : Glob w) (hr0_3 : Kd.C Kd.string w A0_3 l0_3.length l0_3) (hc0_3 : l0_3.length ≤ c0_3) (hr0_4 : Kd.C k26 w A0_4 l0_4.length l0_4) (hc0_4 : l0_4.length ≤ c0_4) (h : drivers_Scalar.f k a0_0 a0_1 a0_2 l0_3 l0_4 = some r) :
  Calls Try.prog 17 #[.agg #[.int .i64 a0_0, .int .i64 a0_1, .string a0_2, .slice A0_3 l0_3.length c0_3, .slice A0_4 l0_4.length c0_4]] w fun e w' => e = .returned (.bool r) ∧ Below w.heap.size w w' := by
 have HG := mk0 hG; clear hG
 have hu26 := Try.underlying26
 have HR0_3 := mk0 hr0_3; have HC0_3 := mk0 hc0_3; clear hr0_3 hc0_3; have HR0_4 := mk0 hr0_4; have HC0_4 := mk0 hc0_4; clear hr0_4 hc0_4
 have HB := mk0 (Below.refl w.heap.size w)
 have H := h; unfold drivers_Scalar.f at H
 clear h
 replace H := iE H; obtain ⟨c2b0, c2b1, H⟩ | ⟨c2, c2b0, c2b1, H⟩ := H
 ·replace H := bS H; obtain ⟨t151, A3, H⟩ := H; obtain rfl := sI H
  go_enter Try.func17, Try.ntmps17
  go_wp2_with (first | ((with_reducible refine box_event rfl (N := 1) rfl (cs := #[.int .i64 a0_0, .int .i64 a0_1, .string a0_2, .slice A0_3 l0_3.length c0_3, .slice A0_4 l0_4.length c0_4]) (t := 26) ?hr ?_); (case hr => first | (go_simp; done) | (go_simp; rfl)); intro gb150 hg w4 hbox hb; have BK150 := mk0 (hbox); have GE150 := bs (be HB) hg; replace HB := kh HB hb; clear hb hbox hg; have z5 := cells5 BK150.out) | ((with_reducible refine gate_callee (f := 43) rfl ?_); refine goB (some 11) rfl rfl Try.func43 (by kernel_rfl) rfl #[.agg #[.int .i64 a0_0, .int .i64 a0_1, .string a0_2, .slice A0_3 l0_3.length c0_3, .slice A0_4 l0_4.length c0_4]] rfl rfl (types_Valid.calls k a0_0 a0_1 a0_2 _ _ l0_3 _ _ l0_4 t151 _ (glob_below HG.out (be1 HB GE150)) (cu HR0_3 HB) HC0_3.out (cu HR0_4 HB) HC0_4.out A3.out) ?_; intro w6 hb; replace BK150 := kb BK150 hb; replace HB := kh1 HB GE150 hb))
  go_ret
  exact ⟨rfl, be1 HB GE150⟩
 replace H := iE H; obtain ⟨c7b0, c7b1, H⟩ | ⟨c7, c7b0, c7b1, H⟩ := H
 ·replace H := bS H; obtain ⟨t152, A8, H⟩ := H; obtain rfl := sI H
  go_enter Try.func17, Try.ntmps17
  go_wp2_with (first | ((with_reducible refine box_event rfl (N := 1) rfl (cs := #[.int .i64 a0_0, .int .i64 a0_1, .string a0_2, .slice A0_3 l0_3.length c0_3, .slice A0_4 l0_4.length c0_4]) (t := 26) ?hr ?_); (case hr => first | (go_simp; done) | (go_simp; rfl)); intro gb150 hg w9 hbox hb; have BK150 := mk0 (hbox); have GE150 := bs (be HB) hg; replace HB := kh HB hb; clear hb hbox hg; have z10 := cells5 BK150.out) | ((with_reducible refine gate_callee (f := 43) rfl ?_); refine goB (some 11) rfl rfl Try.func43 (by kernel_rfl) rfl #[.agg #[.int .i64 a0_0, .int .i64 a0_1, .string a0_2, .slice A0_3 l0_3.length c0_3, .slice A0_4 l0_4.length c0_4]] rfl rfl (types_Valid.calls k a0_0 a0_1 a0_2 _ _ l0_3 _ _ l0_4 t152 _ (glob_below HG.out (be1 HB GE150)) (cu HR0_3 HB) HC0_3.out (cu HR0_4 HB) HC0_4.out A8.out) ?_; intro w11 hb; replace BK150 := kb BK150 hb; replace HB := kh1 HB GE150 hb))
  go_ret
  exact ⟨rfl, be1 HB GE150⟩
 replace H := iE H; obtain ⟨c12b0, c12b1, H⟩ | ⟨c12, c12b0, c12b1, H⟩ := H
 ·replace H := bS H; obtain ⟨t153, A13, H⟩ := H; obtain rfl := sI H
  go_enter Try.func17, Try.ntmps17
  go_wp2_with (first | ((with_reducible refine box_event rfl (N := 1) rfl (cs := #[.int .i64 a0_0, .int .i64 a0_1, .string a0_2, .slice A0_3 l0_3.length c0_3, .slice A0_4 l0_4.length c0_4]) (t := 26) ?hr ?_); (case hr => first | (go_simp; done) | (go_simp; rfl)); intro gb150 hg w14 hbox hb; have BK150 := mk0 (hbox); have GE150 := bs (be HB) hg; replace HB := kh HB hb; clear hb hbox hg; have z15 := cells5 BK150.out) | ((with_reducible refine gate_callee (f := 43) rfl ?_); refine goB (some 11) rfl rfl Try.func43 (by kernel_rfl) rfl #[.agg #[.int .i64 a0_0, .int .i64 a0_1, .string a0_2, .slice A0_3 l0_3.length c0_3, .slice A0_4 l0_4.length c0_4]] rfl rfl (types_Valid.calls k a0_0 a0_1 a0_2 _ _ l0_3 _ _ l0_4 t153 _ (glob_below HG.out (be1 HB GE150)) (cu HR0_3 HB) HC0_3.out (cu HR0_4 HB) HC0_4.out A13.out) ?_; intro w16 hb; replace BK150 := kb BK150 hb; replace HB := kh1 HB GE150 hb))
  go_ret
  exact ⟨rfl, be1 HB GE150⟩
 replace H := iE' H; obtain ⟨c17, c17b0, c17b1, H⟩ | ⟨c17b0, c17b1, H⟩ := H
 ·obtain rfl := sI H
  go_enter Try.func17, Try.ntmps17
  go_wp2_with ((with_reducible refine box_event rfl (N := 1) rfl (cs := #[.int .i64 a0_0, .int .i64 a0_1, .string a0_2, .slice A0_3 l0_3.length c0_3, .slice A0_4 l0_4.length c0_4]) (t := 26) ?hr ?_); (case hr => first | (go_simp; done) | (go_simp; rfl)); intro gb150 hg w22 hbox hb; have BK150 := mk0 (hbox); have GE150 := bs (be HB) hg; replace HB := kh HB hb; clear hb hbox hg; have z23 := cells5 BK150.out)
  go_ret
  exact ⟨rfl, be1 HB GE150⟩
 replace H := bS H; obtain ⟨t154, A18, H⟩ := H; obtain rfl := sI H
 go_enter Try.func17, Try.ntmps17
 go_wp2_with (first | ((with_reducible refine box_event rfl (N := 1) rfl (cs := #[.int .i64 a0_0, .int .i64 a0_1, .string a0_2, .slice A0_3 l0_3.length c0_3, .slice A0_4 l0_4.length c0_4]) (t := 26) ?hr ?_); (case hr => first | (go_simp; done) | (go_simp; rfl)); intro gb150 hg w19 hbox hb; have BK150 := mk0 (hbox); have GE150 := bs (be HB) hg; replace HB := kh HB hb; clear hb hbox hg; have z20 := cells5 BK150.out) | ((with_reducible refine gate_callee (f := 43) rfl ?_); refine goB (some 11) rfl rfl Try.func43 (by kernel_rfl) rfl #[.agg #[.int .i64 a0_0, .int .i64 a0_1, .string a0_2, .slice A0_3 l0_3.length c0_3, .slice A0_4 l0_4.length c0_4]] rfl rfl (types_Valid.calls k a0_0 a0_1 a0_2 _ _ l0_3 _ _ l0_4 t154 _ (glob_below HG.out (be1 HB GE150)) (cu HR0_3 HB) HC0_3.out (cu HR0_4 HB) HC0_4.out A18.out) ?_; intro w21 hb; replace BK150 := kb BK150 hb; replace HB := kh1 HB GE150 hb))
 go_ret
 exact ⟨rfl, be1 HB GE150⟩
end Go.Proofs.Ytojankgmedccdaa.PIs
