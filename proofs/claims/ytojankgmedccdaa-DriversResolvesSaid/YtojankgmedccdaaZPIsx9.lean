/- Part of the proof of LawDriversResolves: every definition and lemma is one that it names. -/
import Derived.Test.YtojankgmedccdaaZPIsx0
import Derived.Test.YtojankgmedccdaaZPIsx7
import Derived.Test.YtojankgmedccdaaZPIsx8
namespace Go.Proofs.Ytojankgmedccdaa.PIs
open Go.RowKit Own PTy Hand YtojankgmedccdaaW.PrintWords YtojankgmedccdaaW.PrintLast YtojankgmedccdaaW.PrintMore
attribute [local go_sem] max2_int min2_int max_two min_two max_three min_three max_four min_four
set_option linter.unusedVariables false
set_option linter.unusedSimpArgs false
mutual
def r04Valid.j0 : Nat → Bool → Int → Int → ByteArray → List ByteArray → List (S26) → Option (Bool)
 | 0, _, _, _, _, _, _ => none
 | k + 1, x3, x174000, x174001, x174002, x174003, x174004 => if x174000 = 1 then (r04Valid.j1 k x3 x174000 (x174000 == 1) x174000 x174001 x174002 x174003 x174004) else (if x174000 = 2 then (r04Valid.j1 k x3 x174000 (x174000 == 2) x174000 x174001 x174002 x174003 x174004) else (r04Valid.j1 k x3 x174000 (x174000 == 3) x174000 x174001 x174002 x174003 x174004))
def r04Valid.j1 : Nat → Bool → Int → Bool → Int → Int → ByteArray → List ByteArray → List (S26) → Option (Bool)
 | 0, _, _, _, _, _, _, _, _ => none
 | k + 1, x3, x17, x18, x174000, x174001, x174002, x174003, x174004 => if x18 = true then (if x174001 = 0 then (if x3 = true then (some ((x174004.length : Int) == 0)) else (some false)) else (some false)) else (if x17 = 4 then (if x174001 ≥ 1 then (if x174001 ≤ 64 then (if x3 = true then (some ((x174004.length : Int) == 0)) else (some false)) else (some false)) else (some false)) else (if x17 = 6 then (if x174001 ≥ 1 then (if x174001 ≤ 64 then (if x3 = true then (if (x174004.length : Int) = 1 then (if 0 < (x174004.length : Int) then (if ((rd_T26 x174004 0).f0) = 6 then (some false) else ((r04Valid.f k ((rd_T26 x174004 0).f0) ((rd_T26 x174004 0).f1) ((rd_T26 x174004 0).f2) ((rd_T26 x174004 0).f3) ((rd_T26 x174004 0).f4)).bind fun t176 => (some t176))) else (none)) else (some false)) else (some false)) else (some false)) else (some false)) else (if x17 = 5 then (if x174001 = 0 then (if (x174004.length : Int) = 0 then ((r04path.f k x174002).bind fun t177 => (if t177 = true then (if (x174003.length : Int) < 1 then (r04Valid.j2 k true x174000 x174001 x174002 x174003 x174004) else (r04Valid.j2 k (decide ((x174003.length : Int) > 16)) x174000 x174001 x174002 x174003 x174004)) else (r04Valid.j2 k true x174000 x174001 x174002 x174003 x174004))) else (r04Valid.j2 k true x174000 x174001 x174002 x174003 x174004)) else (r04Valid.j2 k true x174000 x174001 x174002 x174003 x174004)) else (some false))))
def r04Valid.j2 : Nat → Bool → Int → Int → ByteArray → List ByteArray → List (S26) → Option (Bool)
 | 0, _, _, _, _, _, _ => none
 | k + 1, x115, x174000, x174001, x174002, x174003, x174004 => if x115 = true then (some false) else (r04Valid.l0 k x174003 (x174003.length : Int) 0 x174000 x174001 x174002 x174003 x174004)
def r04Valid.l0 : Nat → List ByteArray → Int → Int → Int → Int → ByteArray → List ByteArray → List (S26) → Option (Bool)
 | 0, _, _, _, _, _, _, _, _ => none
 | k + 1, x117, x118, x119, x174000, x174001, x174002, x174003, x174004 => if x119 < x118 then (if 0 ≤ x119 then (if x119 < (x117.length : Int) then ((r03IsName.f k (rdOf ByteArray.empty x117 x119)).bind fun t179 => (if t179 = true then (r04Valid.l1 k (rdOf ByteArray.empty x117 x119) x117 x118 x119 x119 0 x174000 x174001 x174002 x174003 x174004) else (some false))) else (none)) else (none)) else (some true)
def r04Valid.l1 : Nat → ByteArray → List ByteArray → Int → Int → Int → Int → Int → Int → ByteArray → List ByteArray → List (S26) → Option (Bool)
 | 0, _, _, _, _, _, _, _, _, _, _, _ => none
 | k + 1, x5, x117, x118, x119, x127, x128, x174000, x174001, x174002, x174003, x174004 => if x128 < x127 then (if 0 ≤ x128 then (if x128 < (x174003.length : Int) then (if (rdOf ByteArray.empty x174003 x128).toList = x5.toList then (some false) else (r04Valid.l1 k x5 x117 x118 x119 x127 (wrap64 (x128 + 1)) x174000 x174001 x174002 x174003 x174004)) else (none)) else (none)) else (r04Valid.l0 k x117 x118 (wrap64 (x119 + 1)) x174000 x174001 x174002 x174003 x174004)
def r04Valid.f : Nat → Int → Int → ByteArray → List ByteArray → List (S26) → Option (Bool)
 | 0, _, _, _, _, _ => none
 | k + 1, a0_0, a0_1, a0_2, l0_3, l0_4 => if a0_2.toList = ([] : List UInt8) then (r04Valid.j0 k ((l0_3.length : Int) == 0) a0_0 a0_1 a0_2 l0_3 l0_4) else (r04Valid.j0 k false a0_0 a0_1 a0_2 l0_3 l0_4)
end
theorem r04Valid.mono_l : ∀ k, (∀ y0 y1 y2 y3 y4, LeO (r04Valid.f k y0 y1 y2 y3 y4) (r04Valid.f (k + 1) y0 y1 y2 y3 y4)) ∧ (∀ y0 y1 y2 y3 y4 y5, LeO (r04Valid.j0 k y0 y1 y2 y3 y4 y5) (r04Valid.j0 (k + 1) y0 y1 y2 y3 y4 y5)) ∧ (∀ y0 y1 y2 y3 y4 y5 y6 y7, LeO (r04Valid.j1 k y0 y1 y2 y3 y4 y5 y6 y7) (r04Valid.j1 (k + 1) y0 y1 y2 y3 y4 y5 y6 y7)) ∧ (∀ y0 y1 y2 y3 y4 y5, LeO (r04Valid.j2 k y0 y1 y2 y3 y4 y5) (r04Valid.j2 (k + 1) y0 y1 y2 y3 y4 y5)) ∧ (∀ y0 y1 y2 y3 y4 y5 y6 y7, LeO (r04Valid.l0 k y0 y1 y2 y3 y4 y5 y6 y7) (r04Valid.l0 (k + 1) y0 y1 y2 y3 y4 y5 y6 y7)) ∧ (∀ y0 y1 y2 y3 y4 y5 y6 y7 y8 y9 y10, LeO (r04Valid.l1 k y0 y1 y2 y3 y4 y5 y6 y7 y8 y9 y10) (r04Valid.l1 (k + 1) y0 y1 y2 y3 y4 y5 y6 y7 y8 y9 y10))
 | 0 => ⟨fun _ _ _ _ _ r h => by simp [r04Valid.f] at h, fun _ _ _ _ _ _ r h => by simp [r04Valid.j0] at h, fun _ _ _ _ _ _ _ _ r h => by simp [r04Valid.j1] at h, fun _ _ _ _ _ _ r h => by simp [r04Valid.j2] at h, fun _ _ _ _ _ _ _ _ r h => by simp [r04Valid.l0] at h, fun _ _ _ _ _ _ _ _ _ _ _ r h => by simp [r04Valid.l1] at h⟩
 | k + 1 => by
  obtain ⟨ih0, ih1, ih2, ih3, ih4, ih5⟩ := r04Valid.mono_l k
  refine ⟨?_, ?_, ?_, ?_, ?_, ?_⟩ <;> intros <;> (first | unfold r04Valid.f | unfold r04Valid.j0 | unfold r04Valid.j1 | unfold r04Valid.j2 | unfold r04Valid.l0 | unfold r04Valid.l1) <;> repeat' first | (with_reducible first | apply ih0 | apply ih1 | apply ih2 | apply ih3 | apply ih4 | apply ih5 | apply r03IsName.mono | apply r04path.mono | apply LeO.refl | apply LeO.none | refine LeO.ite ?_ ?_ | refine LeO.bind ?_ (fun _ => ?_)) | apply ih0 | apply ih1 | apply ih2 | apply ih3 | apply ih4 | apply ih5 | apply r03IsName.mono | apply r04path.mono | apply LeO.none | refine LeO.ite ?_ ?_ | refine LeO.bind ?_ (fun _ => ?_)
theorem r04Valid.mono : ∀ a0 a1 a2 a3 a4 k, LeO (r04Valid.f k a0 a1 a2 a3 a4) (r04Valid.f (k + 1) a0 a1 a2 a3 a4) := by
 intro a0 a1 a2 a3 a4 k
 obtain ⟨ih0, ih1, ih2, ih3, ih4, ih5⟩ := r04Valid.mono_l k
 exact ih0 a0 a1 a2 a3 a4
set_option maxHeartbeats 8000000 in
set_option maxRecDepth 100000 in
theorem r04Valid.calls (k : Nat) : ∀ (a0_0 : Int) (a0_1 : Int) (a0_2 : ByteArray) (A0_3 : Option Addr) (c0_3 : Nat) (l0_3 : List ByteArray) (A0_4 : Option Addr) (c0_4 : Nat) (l0_4 : List (S26)) (r : Bool) (w : World) (hr0_3 : Kd.C Kd.string w A0_3 l0_3.length l0_3) (hc0_3 : l0_3.length ≤ c0_3) (hr0_4 : Kd.C k26 w A0_4 l0_4.length l0_4) (hc0_4 : l0_4.length ≤ c0_4) (h : r04Valid.f k a0_0 a0_1 a0_2 l0_3 l0_4 = some r),
  Calls Try.prog 44 #[.agg #[.int .i64 a0_0, .int .i64 a0_1, .string a0_2, .slice A0_3 l0_3.length c0_3, .slice A0_4 l0_4.length c0_4]] w fun e w' => e = .returned (.bool r) ∧ Below w.heap.size w w' := by
 induction k using Nat.strongRecOn with
 | _ k ih =>
 intro a0_0 a0_1 a0_2 A0_3 c0_3 l0_3 A0_4 c0_4 l0_4 r w hr0_3 hc0_3 hr0_4 hc0_4 h
 cases k with
 | zero => exact absurd h (by simp [r04Valid.f])
 | succ k =>
 simp only [r04Valid.f] at h
 have hu26 := Try.underlying26
 have HR0_3 := mk0 hr0_3; have HC0_3 := mk0 hc0_3; clear hr0_3 hc0_3; have HR0_4 := mk0 hr0_4; have HC0_4 := mk0 hc0_4; clear hr0_4 hc0_4
 have HB := mk0 (Below.refl w.heap.size w)
 have H := h; unfold r04Valid.f at H
 clear h; have HC2 := mk0 H; clear H
 go_enter Try.func44, Try.ntmps44
 go_upto_region 1 with ((with_reducible refine box_event rfl (N := 1) rfl (cs := #[.int .i64 a0_0, .int .i64 a0_1, .string a0_2, .slice A0_3 l0_3.length c0_3, .slice A0_4 l0_4.length c0_4]) (t := 26) ?hr ?_); (case hr => first | (go_simp; done) | (go_simp; rfl)); intro gb173 hg w3 hbox hb; have BK173 := mk0 (hbox); have GE173 := bs (be HB) hg; replace HB := kh HB hb; clear hb hbox hg)
 (try simp only [Act.put, List.setIfInBounds_toArray, List.set_cons_zero, List.set_cons_succ])
 go_cut [3] (fun v3 wc => ∃ (kq : Nat) (x3_1 : Bool), v3 = .bool x3_1 ∧ Aside0 (r04Valid.j0 kq x3_1 a0_0 a0_1 a0_2 l0_3 l0_4 = some r) ∧ Aside0 (kq ≤ k) ∧ Aside0 (wc.heap[gb173]? = some (.cells #[.int .i64 a0_0, .int .i64 a0_1, .string a0_2, (.slice A0_3 l0_3.length c0_3), (.slice A0_4 l0_4.length c0_4)] 26 (0, 0))) ∧ Aside0 (Below w.heap.size w wc))
 case first =>
  have H := HC2.out; clear HC2
  replace H := iE' H; obtain ⟨c4, c4b0, c4b1, H⟩ | ⟨c4b0, c4b1, H⟩ := H
  ·(first | rw [c4b0] | (simp only [i64_w, i32_w]; rw [c4b0]) | skip)
   have H' := mk0 H
   clear H
   have z6 := cells5 BK173.out
   go_wp2
   go_meet
   case rel => exact ⟨_, (false), rfl, H', ⟨by omega⟩, ⟨bu BK173⟩, ⟨be1 HB GE173⟩⟩
  (first | rw [c4b0] | (simp only [i64_w, i32_w]; rw [c4b0]) | skip)
  have H' := mk0 H
  clear H
  have z5 := cells5 BK173.out
  go_wp2
  go_meet
  case rel => exact ⟨_, (((l0_3.length : Int) == 0)), rfl, H', ⟨by omega⟩, ⟨bu BK173⟩, ⟨be1 HB GE173⟩⟩
 case rest =>
  clear HC2
  obtain ⟨kq, x3_1, rfl, HA, HJ1, BK173, HB⟩ := hcut
  cases kq with
  | zero => exact absurd HA.out (by simp [r04Valid.j0])
  | succ kj1 =>
   have H := HA.out; clear HA
   simp only [r04Valid.j0] at H
   have HC7 := mk0 H; clear H
   have z8 := cells5 BK173.out
   go_upto_if 18 with (fail)
   go_cut [18] (fun v18 wc => ∃ (kq : Nat) (x18_6 : Bool), v18 = .bool x18_6 ∧ Aside0 (r04Valid.j1 kq x3_1 a0_0 x18_6 a0_0 a0_1 a0_2 l0_3 l0_4 = some r) ∧ Aside0 (kq ≤ kj1) ∧ Aside0 (wc.heap[gb173]? = some (.cells #[.int .i64 a0_0, .int .i64 a0_1, .string a0_2, (.slice A0_3 l0_3.length c0_3), (.slice A0_4 l0_4.length c0_4)] 26 (0, 0))) ∧ Aside0 (Below w.heap.size w wc))
   case first =>
    have H := HC7.out; clear HC7
    replace H := iE H; obtain ⟨c9b0, c9b1, H⟩ | ⟨c9, c9b0, c9b1, H⟩ := H
    ·(first | rw [c9b0] | (simp only [i64_w, i32_w]; rw [c9b0]) | skip)
     have H' := mk0 H
     clear H
     go_wp2
     go_meet
     case rel => exact ⟨_, ((a0_0 == 1)), (by first | rfl | (simp; done) | (simp [*]; done)), H', ⟨by have := HJ1.out; omega⟩, ⟨bu BK173⟩, ⟨be1 HB GE173⟩⟩
    (first | rw [c9b0] | (simp only [i64_w, i32_w]; rw [c9b0]) | skip)
    replace H := iE' H; obtain ⟨c10, c10b0, c10b1, H⟩ | ⟨c10b0, c10b1, H⟩ := H
    ·have H' := mk0 H
     clear H
     go_wp2
     go_meet
     case rel => exact ⟨_, ((a0_0 == 3)), rfl, H', ⟨by have := HJ1.out; omega⟩, ⟨bu BK173⟩, ⟨be1 HB GE173⟩⟩
    have H' := mk0 H
    clear H
    go_wp2
    go_meet
    case rel => exact ⟨_, ((a0_0 == 2)), (by first | rfl | (simp; done) | (simp [*]; done)), H', ⟨by have := HJ1.out; omega⟩, ⟨bu BK173⟩, ⟨be1 HB GE173⟩⟩
   case rest =>
    clear HC7
    obtain ⟨kq, x18_6, rfl, HA, HJ6, BK173, HB⟩ := hcut
    cases kq with
    | zero => exact absurd HA.out (by simp [r04Valid.j1])
    | succ kj6 =>
     have H := HA.out; clear HA
     simp only [r04Valid.j1] at H
     replace H := iB H; obtain ⟨rfl, H⟩ | ⟨rfl, H⟩ := H
     ·replace H := iE' H; obtain ⟨c12, c12b0, c12b1, H⟩ | ⟨c12b0, c12b1, H⟩ := H
      ·obtain rfl := sI H
       have z16 := cells5 BK173.out
       go_wp2
       go_ret
       exact ⟨rfl, be1 HB GE173⟩
      replace H := iB H; obtain ⟨rfl, H⟩ | ⟨rfl, H⟩ := H
      ·obtain rfl := sI H
       have z14 := cells5 BK173.out
       go_wp2
       go_ret
       exact ⟨rfl, be1 HB GE173⟩
      obtain rfl := sI H
      have z15 := cells5 BK173.out
      go_wp2
      go_ret
      exact ⟨rfl, be1 HB GE173⟩
     replace H := iE H; obtain ⟨c17b0, c17b1, H⟩ | ⟨c17, c17b0, c17b1, H⟩ := H
     ·by_cases c18 : a0_1 ≥ 1
      rotate_left
      ·rw [if_neg c18] at H
       have c18b0 : decide (1 ≤ a0_1) = false := decide_eq_false c18; clear c18; obtain rfl := sI H
       have z24 := cells5 BK173.out
       go_wp2
       go_ret
       exact ⟨rfl, be1 HB GE173⟩
      rw [if_pos c18] at H; have c18b0 : decide (1 ≤ a0_1) = true := decide_eq_true c18; clear c18
      replace H := iD' H; obtain ⟨-, c19b0, H⟩ | ⟨-, c19b0, H⟩ := H
      ·obtain rfl := sI H
       have z23 := cells5 BK173.out
       go_wp2
       go_ret
       exact ⟨rfl, be1 HB GE173⟩
      replace H := iB H; obtain ⟨rfl, H⟩ | ⟨rfl, H⟩ := H
      ·obtain rfl := sI H
       have z21 := cells5 BK173.out
       go_wp2
       go_ret
       exact ⟨rfl, be1 HB GE173⟩
      obtain rfl := sI H
      have z22 := cells5 BK173.out
      go_wp2
      go_ret
      exact ⟨rfl, be1 HB GE173⟩
     replace H := iE H; obtain ⟨c25b0, c25b1, H⟩ | ⟨c25, c25b0, c25b1, H⟩ := H
     ·by_cases c26 : a0_1 ≥ 1
      rotate_left
      ·rw [if_neg c26] at H
       have c26b0 : decide (1 ≤ a0_1) = false := decide_eq_false c26; clear c26; obtain rfl := sI H
       have z39 := cells5 BK173.out
       go_wp2
       go_ret
       exact ⟨rfl, be1 HB GE173⟩
      rw [if_pos c26] at H; have c26b0 : decide (1 ≤ a0_1) = true := decide_eq_true c26; clear c26
      replace H := iD' H; obtain ⟨-, c27b0, H⟩ | ⟨-, c27b0, H⟩ := H
      ·obtain rfl := sI H
       have z38 := cells5 BK173.out
       go_wp2
       go_ret
       exact ⟨rfl, be1 HB GE173⟩
      replace H := iB' H; obtain ⟨rfl, H⟩ | ⟨rfl, H⟩ := H
      ·obtain rfl := sI H
       have z37 := cells5 BK173.out
       go_wp2
       go_ret
       exact ⟨rfl, be1 HB GE173⟩
      replace H := iE' H; obtain ⟨c29, c29b0, c29b1, H⟩ | ⟨c29b0, c29b1, H⟩ := H
      ·obtain rfl := sI H
       have z36 := cells5 BK173.out
       go_wp2
       go_ret
       exact ⟨rfl, be1 HB GE173⟩
      replace H := iN H; obtain ⟨c30, c30b0, H⟩ := H
      have c30b1 : decide (0 < l0_4.length) = true := decide_eq_true (by omega)
      clear c30
      replace H := iE H; obtain ⟨c31b0, c31b1, H⟩ | ⟨c31, c31b0, c31b1, H⟩ := H
      ·obtain rfl := sI H
       have z32 := cells5 BK173.out
       have p174 : 0 ≤ (0 : Int) := (by omega)
       have q174 : 0 < (l0_4.length : Int) := od
       obtain ⟨ad174, A174_3, c174_3, A174_4, c174_4, e174, hx174_0, hx174_1, hx174_2, hx174_3, hx174_4, hl174_3, hi174_3, hl174_4, hi174_4⟩ := at_T26 HR0_4.out 0 p174 q174
       cases e174
       have qi174 : (0 < l0_4.length) = True := eq_true (by omega)
       (try rw [show ((0 : Int)).toNat = 0 from rfl] at hx174_0)
       (try rw [show 0 * 5 = 0 from rfl] at hx174_0)
       (try rw [Addr.add_zero'] at hx174_0)
       (try rw [show ((0 : Int)).toNat = 0 from rfl] at hx174_1)
       (try rw [show 0 * 5 = 0 from rfl] at hx174_1)
       (try rw [Addr.add_zero'] at hx174_1)
       (try rw [show ((0 : Int)).toNat = 0 from rfl] at hx174_2)
       (try rw [show 0 * 5 = 0 from rfl] at hx174_2)
       (try rw [Addr.add_zero'] at hx174_2)
       (try rw [show ((0 : Int)).toNat = 0 from rfl] at hx174_3)
       (try rw [show 0 * 5 = 0 from rfl] at hx174_3)
       (try rw [Addr.add_zero'] at hx174_3)
       (try rw [show ((0 : Int)).toNat = 0 from rfl] at hx174_4)
       (try rw [show 0 * 5 = 0 from rfl] at hx174_4)
       (try rw [Addr.add_zero'] at hx174_4)
       replace hx174_0 := keepc HB.out hx174_0
       replace hx174_1 := keepc HB.out hx174_1
       replace hx174_2 := keepc HB.out hx174_2
       replace hx174_3 := keepc HB.out hx174_3
       replace hx174_4 := keepc HB.out hx174_4
       have HR174_3 := mk0 hi174_3; have HC174_3 := mk0 hl174_3; clear hi174_3 hl174_3; have HR174_4 := mk0 hi174_4; have HC174_4 := mk0 hl174_4; clear hi174_4 hl174_4; replace p174 := eq_true p174; replace q174 := eq_true q174
       go_wp2
       go_ret
       exact ⟨rfl, be1 HB GE173⟩
      replace H := bS H; obtain ⟨t176, A33, H⟩ := H; obtain rfl := sI H
      have z34 := cells5 BK173.out
      have p174 : 0 ≤ (0 : Int) := (by omega)
      have q174 : 0 < (l0_4.length : Int) := od
      obtain ⟨ad174, A174_3, c174_3, A174_4, c174_4, e174, hx174_0, hx174_1, hx174_2, hx174_3, hx174_4, hl174_3, hi174_3, hl174_4, hi174_4⟩ := at_T26 HR0_4.out 0 p174 q174
      cases e174
      have qi174 : (0 < l0_4.length) = True := eq_true (by omega)
      (try rw [show ((0 : Int)).toNat = 0 from rfl] at hx174_0)
      (try rw [show 0 * 5 = 0 from rfl] at hx174_0)
      (try rw [Addr.add_zero'] at hx174_0)
      (try rw [show ((0 : Int)).toNat = 0 from rfl] at hx174_1)
      (try rw [show 0 * 5 = 0 from rfl] at hx174_1)
      (try rw [Addr.add_zero'] at hx174_1)
      (try rw [show ((0 : Int)).toNat = 0 from rfl] at hx174_2)
      (try rw [show 0 * 5 = 0 from rfl] at hx174_2)
      (try rw [Addr.add_zero'] at hx174_2)
      (try rw [show ((0 : Int)).toNat = 0 from rfl] at hx174_3)
      (try rw [show 0 * 5 = 0 from rfl] at hx174_3)
      (try rw [Addr.add_zero'] at hx174_3)
      (try rw [show ((0 : Int)).toNat = 0 from rfl] at hx174_4)
      (try rw [show 0 * 5 = 0 from rfl] at hx174_4)
      (try rw [Addr.add_zero'] at hx174_4)
      replace hx174_0 := keepc HB.out hx174_0
      replace hx174_1 := keepc HB.out hx174_1
      replace hx174_2 := keepc HB.out hx174_2
      replace hx174_3 := keepc HB.out hx174_3
      replace hx174_4 := keepc HB.out hx174_4
      have HR174_3 := mk0 hi174_3; have HC174_3 := mk0 hl174_3; clear hi174_3 hl174_3; have HR174_4 := mk0 hi174_4; have HC174_4 := mk0 hl174_4; clear hi174_4 hl174_4; replace p174 := eq_true p174; replace q174 := eq_true q174
      have p175 : 0 ≤ (0 : Int) := (by omega)
      have q175 : 0 < (l0_4.length : Int) := od
      obtain ⟨ad175, A175_3, c175_3, A175_4, c175_4, e175, hx175_0, hx175_1, hx175_2, hx175_3, hx175_4, hl175_3, hi175_3, hl175_4, hi175_4⟩ := at_T26 HR0_4.out 0 p175 q175
      obtain rfl : ad174 = ad175 := (by injection e175)
      have qi175 : (0 < l0_4.length) = True := eq_true (by omega)
      (try rw [show ((0 : Int)).toNat = 0 from rfl] at hx175_0)
      (try rw [show 0 * 5 = 0 from rfl] at hx175_0)
      (try rw [Addr.add_zero'] at hx175_0)
      (try rw [show ((0 : Int)).toNat = 0 from rfl] at hx175_1)
      (try rw [show 0 * 5 = 0 from rfl] at hx175_1)
      (try rw [Addr.add_zero'] at hx175_1)
      (try rw [show ((0 : Int)).toNat = 0 from rfl] at hx175_2)
      (try rw [show 0 * 5 = 0 from rfl] at hx175_2)
      (try rw [Addr.add_zero'] at hx175_2)
      (try rw [show ((0 : Int)).toNat = 0 from rfl] at hx175_3)
      (try rw [show 0 * 5 = 0 from rfl] at hx175_3)
      (try rw [Addr.add_zero'] at hx175_3)
      (try rw [show ((0 : Int)).toNat = 0 from rfl] at hx175_4)
      (try rw [show 0 * 5 = 0 from rfl] at hx175_4)
      (try rw [Addr.add_zero'] at hx175_4)
      replace hx175_0 := keepc HB.out hx175_0
      replace hx175_1 := keepc HB.out hx175_1
      replace hx175_2 := keepc HB.out hx175_2
      replace hx175_3 := keepc HB.out hx175_3
      replace hx175_4 := keepc HB.out hx175_4
      have HR175_3 := mk0 hi175_3; have HC175_3 := mk0 hl175_3; clear hi175_3 hl175_3; have HR175_4 := mk0 hi175_4; have HC175_4 := mk0 hl175_4; clear hi175_4 hl175_4; replace p175 := eq_true p175; replace q175 := eq_true q175
      have ea_ := Option.some.inj (hx174_3.symm.trans hx175_3)
      injection ea_ with ea_ en_ ec_
      subst ea_; subst ec_; clear en_
      have ea_ := Option.some.inj (hx174_4.symm.trans hx175_4)
      injection ea_ with ea_ en_ ec_
      subst ea_; subst ec_; clear en_
      go_wp2_with (go_at_call 44; refine (ih kj6 (by have := HJ1.out; have := HJ6.out; omega) ((rd_T26 l0_4 0).f0) ((rd_T26 l0_4 0).f1) ((rd_T26 l0_4 0).f2) _ _ ((rd_T26 l0_4 0).f3) _ _ ((rd_T26 l0_4 0).f4) t176 _ (cu HR175_3 HB) HC175_3.out (cu HR175_4 HB) HC175_4.out A33.out).mono ?_; rintro e w35 ⟨rfl, hb⟩; replace BK173 := kb BK173 hb; replace HB := kh1 HB GE173 hb)
      go_ret
      exact ⟨rfl, be1 HB GE173⟩
     replace H := iE' H; obtain ⟨c40, c40b0, c40b1, H⟩ | ⟨c40b0, c40b1, H⟩ := H
     ·obtain rfl := sI H
      go_wp2
      go_ret
      exact ⟨rfl, be1 HB GE173⟩
     have HC41 := mk0 H; clear H
     go_upto_region 12 with (fail)
     go_cut [115] (fun v115 wc => ∃ (kq : Nat) (x115_40 : Bool), v115 = .bool x115_40 ∧ Aside0 (r04Valid.j2 kq x115_40 a0_0 a0_1 a0_2 l0_3 l0_4 = some r) ∧ Aside0 (kq ≤ kj6) ∧ Aside0 (wc.heap[gb173]? = some (.cells #[.int .i64 a0_0, .int .i64 a0_1, .string a0_2, (.slice A0_3 l0_3.length c0_3), (.slice A0_4 l0_4.length c0_4)] 26 (0, 0))) ∧ Aside0 (Below w.heap.size w wc))
     case first =>
      have H := HC41.out; clear HC41
      replace H := iE' H; obtain ⟨c42, c42b0, c42b1, H⟩ | ⟨c42b0, c42b1, H⟩ := H
      ·(first | rw [c42b0] | (simp only [i64_w, i32_w]; rw [c42b0]) | skip)
       have H' := mk0 H
       clear H
       have z51 := cells5 BK173.out
       go_wp2
       go_meet
       case rel => exact ⟨_, (true), rfl, H', ⟨by have := HJ1.out; have := HJ6.out; first | omega | exact Nat.le_refl _⟩, ⟨bu BK173⟩, ⟨be1 HB GE173⟩⟩
      (first | rw [c42b0] | (simp only [i64_w, i32_w]; rw [c42b0]) | skip)
      replace H := iE' H; obtain ⟨c43, c43b0, c43b1, H⟩ | ⟨c43b0, c43b1, H⟩ := H
      ·have c43b2 : ¬ (l0_4 = []) := fun h_ => c43 (by rw [h_]; rfl)
       have H' := mk0 H
       clear H
       have z50 := cells5 BK173.out
       go_wp2
       go_meet
       case rel => exact ⟨_, (true), rfl, H', ⟨by have := HJ1.out; have := HJ6.out; first | omega | exact Nat.le_refl _⟩, ⟨bu BK173⟩, ⟨be1 HB GE173⟩⟩
      replace H := bS H; obtain ⟨t177, A44, H⟩ := H
      replace H := iB' H; obtain ⟨rfl, H⟩ | ⟨rfl, H⟩ := H
      ·have H' := mk0 H
       clear H
       have z49 := cells5 BK173.out
       go_wp2_with (go_at_call 65; refine (r04path.calls kj6 a0_2 false _ A44.out).mono ?_; rintro e w' ⟨rfl, ⟨nd, rfl⟩⟩)
       go_meet
       case rel => exact ⟨_, (true), rfl, H', ⟨by have := HJ1.out; have := HJ6.out; first | omega | exact Nat.le_refl _⟩, ⟨bu BK173⟩, ⟨be1 HB GE173⟩⟩
      replace H := iD' H; obtain ⟨c46, c46b0, H⟩ | ⟨c46, c46b0, H⟩ := H
      ·have c46b1 : decide (l0_3.length < 1) = false := decide_eq_false (by omega); clear c46
       have H' := mk0 H
       clear H
       have z48 := cells5 BK173.out
       go_wp2_with (go_at_call 65; refine (r04path.calls kj6 a0_2 true _ A44.out).mono ?_; rintro e w' ⟨rfl, ⟨nd, rfl⟩⟩)
       go_meet
       case rel => exact ⟨_, (decide ((l0_3.length : Int) > 16)), rfl, H', ⟨by have := HJ1.out; have := HJ6.out; first | omega | exact Nat.le_refl _⟩, ⟨bu BK173⟩, ⟨be1 HB GE173⟩⟩
      have c46b1 : decide (l0_3.length < 1) = true := decide_eq_true (by omega)
      clear c46
      have H' := mk0 H
      clear H
      have z47 := cells5 BK173.out
      go_wp2_with (go_at_call 65; refine (r04path.calls kj6 a0_2 true _ A44.out).mono ?_; rintro e w' ⟨rfl, ⟨nd, rfl⟩⟩)
      go_meet
      case rel => exact ⟨_, (true), rfl, H', ⟨by have := HJ1.out; have := HJ6.out; first | omega | exact Nat.le_refl _⟩, ⟨bu BK173⟩, ⟨be1 HB GE173⟩⟩
     case rest =>
      clear HC41; try clear c17; try clear c17b0; try clear c17b1; try clear c25; try clear c25b0; try clear c25b1; try clear c40; try clear c40b0; try clear c40b1
      obtain ⟨kq, x115_40, rfl, HA, HJ40, BK173, HB⟩ := hcut
      cases kq with
      | zero => exact absurd HA.out (by simp [r04Valid.j2])
      | succ kj40 =>
       have H := HA.out; clear HA
       simp only [r04Valid.j2] at H
       replace H := iB H; obtain ⟨rfl, H⟩ | ⟨rfl, H⟩ := H
       ·obtain rfl := sI H
        go_wp2
        go_ret
        exact ⟨rfl, be1 HB GE173⟩
       have H' := mk0 H
       clear H
       have z53 := cells5 BK173.out
       go_wp2
       go_loopg [119] kj40 (fun kq v119 w' => ∃ (x119_4 : Int), v119 = .int .i64 x119_4 ∧ Aside0 (r04Valid.l0 kq l0_3 (l0_3.length : Int) x119_4 a0_0 a0_1 a0_2 l0_3 l0_4 = some r) ∧ Aside0 (kq ≤ kj40) ∧ Aside0 (w'.heap[gb173]? = some (.cells #[.int .i64 a0_0, .int .i64 a0_1, .string a0_2, (.slice A0_3 l0_3.length c0_3), (.slice A0_4 l0_4.length c0_4)] 26 (0, 0))) ∧ Aside0 (Below w.heap.size w w'))
       case atStart => exact ⟨(0), rfl, H', ⟨Nat.le_refl _⟩, ⟨bu BK173⟩, ⟨be1 HB GE173⟩⟩
       case round =>
        clear H'
        try clear c17; try clear c17b0; try clear c17b1; try clear c25; try clear c25b0; try clear c25b1; try clear c40; try clear c40b0; try clear c40b1
        obtain ⟨x119_4, rfl, HA, HK4, BK173, HB⟩ := hrel
        cases gk with
        | zero => exact absurd HA.out (by simp [r04Valid.l0])
        | succ k4 =>
         have H := HA.out; clear HA
         simp only [r04Valid.l0] at H
         replace H := iD' H; obtain ⟨-, c54b0, H⟩ | ⟨-, c54b0, H⟩ := H
         ·obtain rfl := sI H
          go_wp2
          go_ret
          exact ⟨rfl, be1 HB GE173⟩
         replace H := iN H; obtain ⟨-, c55b0, H⟩ := H
         replace H := iN H; obtain ⟨-, c56b0, H⟩ := H
         replace H := bS H; obtain ⟨t179, A57, H⟩ := H
         replace H := iB' H; obtain ⟨rfl, H⟩ | ⟨rfl, H⟩ := H
         ·obtain rfl := sI H
          have p178 : 0 ≤ (x119_4 : Int) := od
          have q178 : x119_4 < (l0_3.length : Int) := od
          obtain ⟨ad178, e178, hx178_0⟩ := Kd.at_string HR0_3.out x119_4 p178 q178
          cases e178
          replace hx178_0 := keepc HB.out hx178_0
          replace p178 := eq_true p178; replace q178 := eq_true q178
          go_wp2_with ((with_reducible refine gate_callee (f := 66) rfl ?_); refine goB (some 125) rfl rfl Try.func66 (by kernel_rfl) rfl #[.string (rdOf ByteArray.empty l0_3 x119_4)] rfl rfl (r03IsName.calls k4 (rdOf ByteArray.empty l0_3 x119_4) false _ A57.out) ?_; intro w66 hb; replace BK173 := kb BK173 hb; replace HB := kh1 HB GE173 hb)
          go_ret
          exact ⟨rfl, be1 HB GE173⟩
         have H' := mk0 H
         clear H
         have p178 : 0 ≤ (x119_4 : Int) := od
         have q178 : x119_4 < (l0_3.length : Int) := od
         obtain ⟨ad178, e178, hx178_0⟩ := Kd.at_string HR0_3.out x119_4 p178 q178
         cases e178
         replace hx178_0 := keepc HB.out hx178_0
         replace p178 := eq_true p178; replace q178 := eq_true q178
         go_wp2_with ((with_reducible refine gate_callee (f := 66) rfl ?_); refine goB (some 125) rfl rfl Try.func66 (by kernel_rfl) rfl #[.string (rdOf ByteArray.empty l0_3 x119_4)] rfl rfl (r03IsName.calls k4 (rdOf ByteArray.empty l0_3 x119_4) true _ A57.out) ?_; intro w59 hb; replace BK173 := kb BK173 hb; replace HB := kh1 HB GE173 hb)
         go_loopg [128] k4 (fun kq v128 w' => ∃ (x128_5 : Int), v128 = .int .i64 x128_5 ∧ Aside0 (r04Valid.l1 kq (rdOf ByteArray.empty l0_3 x119_4) l0_3 (l0_3.length : Int) x119_4 x119_4 x128_5 a0_0 a0_1 a0_2 l0_3 l0_4 = some r) ∧ Aside0 (kq ≤ k4) ∧ Aside0 (w'.heap[gb173]? = some (.cells #[.int .i64 a0_0, .int .i64 a0_1, .string a0_2, (.slice (some ad178) l0_3.length c0_3), (.slice A0_4 l0_4.length c0_4)] 26 (0, 0))) ∧ Aside0 (Below w.heap.size w w'))
         case atStart => exact ⟨(0), rfl, H', ⟨Nat.le_refl _⟩, ⟨bu BK173⟩, ⟨be1 HB GE173⟩⟩
         case round =>
          clear H'
          try clear c17; try clear c17b0; try clear c17b1; try clear c25; try clear c25b0; try clear c25b1; try clear c40; try clear c40b0; try clear c40b1; try clear c54b0; try clear c55b0; try clear c56b0; try clear hx178_0; try clear p178; try clear q178
          obtain ⟨x128_5, rfl, HA, HK5, BK173, HB⟩ := hrel
          cases gk with
          | zero => exact absurd HA.out (by simp [r04Valid.l1])
          | succ k5 =>
           have H := HA.out; clear HA
           simp only [r04Valid.l1] at H
           replace H := iD' H; obtain ⟨-, c60b0, H⟩ | ⟨-, c60b0, H⟩ := H
           ·have H' := mk0 H
            clear H
            go_wp2
            go_roundg k5
            case measure => have := HJ1.out; have := HJ6.out; have := HJ40.out; have := HK4.out; have := HK5.out; omega
            case rel => exact ⟨(wrap64 (x119_4 + 1)), rfl, H', ⟨by have := HJ1.out; have := HJ6.out; have := HJ40.out; have := HK4.out; have := HK5.out; omega⟩, ⟨bu BK173⟩, ⟨be1 HB GE173⟩⟩
           replace H := iN H; obtain ⟨-, c61b0, H⟩ := H
           replace H := iN H; obtain ⟨-, c62b0, H⟩ := H
           replace H := iE H; obtain ⟨c63b0, c63b1, H⟩ | ⟨c63, c63b0, c63b1, H⟩ := H
           ·obtain rfl := sI H
            have z64 := cells5 BK173.out
            have p180 : 0 ≤ (x128_5 : Int) := od
            have q180 : x128_5 < (l0_3.length : Int) := od
            obtain ⟨ad180, e180, hx180_0⟩ := Kd.at_string HR0_3.out x128_5 p180 q180
            obtain rfl : ad178 = ad180 := (by injection e180)
            replace hx180_0 := keepc HB.out hx180_0
            replace p180 := eq_true p180; replace q180 := eq_true q180
            go_wp2
            go_ret
            exact ⟨rfl, be1 HB GE173⟩
           have H' := mk0 H
           clear H
           have z65 := cells5 BK173.out
           have p180 : 0 ≤ (x128_5 : Int) := od
           have q180 : x128_5 < (l0_3.length : Int) := od
           obtain ⟨ad180, e180, hx180_0⟩ := Kd.at_string HR0_3.out x128_5 p180 q180
           obtain rfl : ad178 = ad180 := (by injection e180)
           replace hx180_0 := keepc HB.out hx180_0
           replace p180 := eq_true p180; replace q180 := eq_true q180
           go_wp2
           go_roundg k5
           case measure => have := HJ1.out; have := HJ6.out; have := HJ40.out; have := HK4.out; have := HK5.out; omega
           case rel => exact ⟨(wrap64 (x128_5 + 1)), rfl, H', ⟨by have := HJ1.out; have := HJ6.out; have := HJ40.out; have := HK4.out; have := HK5.out; omega⟩, ⟨bu BK173⟩, ⟨be1 HB GE173⟩⟩
end Go.Proofs.Ytojankgmedccdaa.PIs
