/- Part of the proof of LawDriversOrder: every definition and lemma is one that it names. -/
import Derived.Test.YtojankgmedccdaaQPIsx0
import Derived.Test.YtojankgmedccdaaQPIsx1
namespace Go.Proofs.Ytojankgmedccdaa.PIs
open Go.RowKit Own PTy Hand YtojankgmedccdaaW.PrintWords YtojankgmedccdaaW.PrintLast YtojankgmedccdaaW.PrintMore
attribute [local go_sem] max2_int min2_int max_two min_two max_three min_three max_four min_four
set_option linter.unusedVariables false
set_option linter.unusedSimpArgs false
mutual
def r04Small.j0 : Nat → List (S30) → Bool → Int → Int → ByteArray → List ByteArray → List (S26) → Option (Bool)
 | 0, _, _, _, _, _, _, _ => none
 | k + 1, x1, x26, x106000, x106001, x106002, x106003, x106004 => if x26 = true then (some false) else (r04Small.l0 k x1 x106003 (x106003.length : Int) 0 x106000 x106001 x106002 x106003 x106004)
def r04Small.l0 : Nat → List (S30) → List ByteArray → Int → Int → Int → Int → ByteArray → List ByteArray → List (S26) → Option (Bool)
 | 0, _, _, _, _, _, _, _, _, _ => none
 | k + 1, x1, x28, x29, x30, x106000, x106001, x106002, x106003, x106004 => if x30 < x29 then (if 0 ≤ x30 then (if x30 < (x28.length : Int) then (if ((rdOf ByteArray.empty x28 x30).size : Int) > 100 then (some false) else (r04Small.l0 k x1 x28 x29 (wrap64 (x30 + 1)) x106000 x106001 x106002 x106003 x106004)) else (none)) else (none)) else (r04Small.l1 k x1 x106004 (x106004.length : Int) 0)
def r04Small.l1 : Nat → List (S30) → List (S26) → Int → Int → Option (Bool)
 | 0, _, _, _, _ => none
 | k + 1, x1, x39, x40, x41 => if x41 < x40 then (if 0 ≤ x41 then (if x41 < (x39.length : Int) then (if (((rd_T26 x39 x41).f4).length : Int) > 2 then (some false) else ((r04Small.f k ((rd_T26 x39 x41).f0) ((rd_T26 x39 x41).f1) ((rd_T26 x39 x41).f2) ((rd_T26 x39 x41).f3) ((rd_T26 x39 x41).f4) ([] : List (S30))).bind fun t109 => (if t109 = true then (r04Small.l1 k x1 x39 x40 (wrap64 (x41 + 1))) else (some false)))) else (none)) else (none)) else (r04Small.l2 k x1 (x1.length : Int) 0)
def r04Small.l2 : Nat → List (S30) → Int → Int → Option (Bool)
 | 0, _, _, _ => none
 | k + 1, x55, x56, x57 => if x57 < x56 then (if 0 ≤ x57 then (if x57 < (x55.length : Int) then ((r04parts.f k ((rd_T30 x55 x57).f0) ((rd_T30 x55 x57).f1) ((rd_T30 x55 x57).f2) ((rd_T30 x55 x57).f3) 9000).bind fun t112 => (if t112 < 0 then (some false) else (r04Small.l2 k x55 x56 (wrap64 (x57 + 1))))) else (none)) else (none)) else (some true)
def r04Small.f : Nat → Int → Int → ByteArray → List ByteArray → List (S26) → List (S30) → Option (Bool)
 | 0, _, _, _, _, _, _ => none
 | k + 1, a0_0, a0_1, a0_2, l0_3, l0_4, l1 => if (a0_2.size : Int) > 300 then (r04Small.j0 k l1 true a0_0 a0_1 a0_2 l0_3 l0_4) else (if (l0_3.length : Int) > 40 then (r04Small.j0 k l1 true a0_0 a0_1 a0_2 l0_3 l0_4) else (r04Small.j0 k l1 (decide ((l0_4.length : Int) > 3)) a0_0 a0_1 a0_2 l0_3 l0_4))
end
theorem r04Small.mono_l : ∀ k, (∀ y0 y1 y2 y3 y4 y5, LeO (r04Small.f k y0 y1 y2 y3 y4 y5) (r04Small.f (k + 1) y0 y1 y2 y3 y4 y5)) ∧ (∀ y0 y1 y2 y3 y4 y5 y6, LeO (r04Small.j0 k y0 y1 y2 y3 y4 y5 y6) (r04Small.j0 (k + 1) y0 y1 y2 y3 y4 y5 y6)) ∧ (∀ y0 y1 y2 y3 y4 y5 y6 y7 y8, LeO (r04Small.l0 k y0 y1 y2 y3 y4 y5 y6 y7 y8) (r04Small.l0 (k + 1) y0 y1 y2 y3 y4 y5 y6 y7 y8)) ∧ (∀ y0 y1 y2 y3, LeO (r04Small.l1 k y0 y1 y2 y3) (r04Small.l1 (k + 1) y0 y1 y2 y3)) ∧ (∀ y0 y1 y2, LeO (r04Small.l2 k y0 y1 y2) (r04Small.l2 (k + 1) y0 y1 y2))
 | 0 => ⟨fun _ _ _ _ _ _ r h => by simp [r04Small.f] at h, fun _ _ _ _ _ _ _ r h => by simp [r04Small.j0] at h, fun _ _ _ _ _ _ _ _ _ r h => by simp [r04Small.l0] at h, fun _ _ _ _ r h => by simp [r04Small.l1] at h, fun _ _ _ r h => by simp [r04Small.l2] at h⟩
 | k + 1 => by
  obtain ⟨ih0, ih1, ih2, ih3, ih4⟩ := r04Small.mono_l k
  refine ⟨?_, ?_, ?_, ?_, ?_⟩ <;> intros <;> (first | unfold r04Small.f | unfold r04Small.j0 | unfold r04Small.l0 | unfold r04Small.l1 | unfold r04Small.l2) <;> repeat' first | (with_reducible first | apply ih0 | apply ih1 | apply ih2 | apply ih3 | apply ih4 | apply r04parts.mono | apply LeO.refl | apply LeO.none | refine LeO.ite ?_ ?_ | refine LeO.bind ?_ (fun _ => ?_)) | apply ih0 | apply ih1 | apply ih2 | apply ih3 | apply ih4 | apply r04parts.mono | apply LeO.none | refine LeO.ite ?_ ?_ | refine LeO.bind ?_ (fun _ => ?_)
theorem r04Small.mono : ∀ a0 a1 a2 a3 a4 a5 k, LeO (r04Small.f k a0 a1 a2 a3 a4 a5) (r04Small.f (k + 1) a0 a1 a2 a3 a4 a5) := by
 intro a0 a1 a2 a3 a4 a5 k
 obtain ⟨ih0, ih1, ih2, ih3, ih4⟩ := r04Small.mono_l k
 exact ih0 a0 a1 a2 a3 a4 a5
set_option maxHeartbeats 8000000 in
set_option maxRecDepth 100000 in
theorem r04Small.calls (k : Nat) : ∀ (a0_0 : Int) (a0_1 : Int) (a0_2 : ByteArray) (A0_3 : Option Addr) (c0_3 : Nat) (l0_3 : List ByteArray) (A0_4 : Option Addr) (c0_4 : Nat) (l0_4 : List (S26)) (A1 : Option Addr) (c1 : Nat) (l1 : List (S30)) (r : Bool) (w : World) (hr0_3 : Kd.C Kd.string w A0_3 l0_3.length l0_3) (hc0_3 : l0_3.length ≤ c0_3) (hr0_4 : Kd.C k26 w A0_4 l0_4.length l0_4) (hc0_4 : l0_4.length ≤ c0_4) (hr1 : Kd.C k30 w A1 l1.length l1) (hc1 : l1.length ≤ c1) (h : r04Small.f k a0_0 a0_1 a0_2 l0_3 l0_4 l1 = some r),
  Calls Try.prog 42 #[.agg #[.int .i64 a0_0, .int .i64 a0_1, .string a0_2, .slice A0_3 l0_3.length c0_3, .slice A0_4 l0_4.length c0_4], .slice A1 l1.length c1] w fun e w' => e = .returned (.bool r) ∧ Below w.heap.size w w' := by
 induction k using Nat.strongRecOn with
 | _ k ih =>
 intro a0_0 a0_1 a0_2 A0_3 c0_3 l0_3 A0_4 c0_4 l0_4 A1 c1 l1 r w hr0_3 hc0_3 hr0_4 hc0_4 hr1 hc1 h
 cases k with
 | zero => exact absurd h (by simp [r04Small.f])
 | succ k =>
 simp only [r04Small.f] at h
 have hu26 := Try.underlying26
 have hu30 := Try.underlying30
 have HR0_3 := mk0 hr0_3; have HC0_3 := mk0 hc0_3; clear hr0_3 hc0_3; have HR0_4 := mk0 hr0_4; have HC0_4 := mk0 hc0_4; clear hr0_4 hc0_4; have HR1 := mk0 hr1; have HC1 := mk0 hc1; clear hr1 hc1
 have HB := mk0 (Below.refl w.heap.size w)
 have H := h; unfold r04Small.f at H
 clear h; have HC3 := mk0 H; clear H
 go_enter Try.func42, Try.ntmps42
 go_upto_region 1 with ((with_reducible refine box_event rfl (N := 2) rfl (cs := #[.int .i64 a0_0, .int .i64 a0_1, .string a0_2, .slice A0_3 l0_3.length c0_3, .slice A0_4 l0_4.length c0_4]) (t := 26) ?hr ?_); (case hr => first | (go_simp; done) | (go_simp; rfl)); intro gb105 hg w4 hbox hb; have BK105 := mk0 (hbox); have GE105 := bs (be HB) hg; replace HB := kh HB hb; clear hb hbox hg)
 (try simp only [Act.put, List.setIfInBounds_toArray, List.set_cons_zero, List.set_cons_succ])
 go_cut [26] (fun v26 wc => ∃ (kq : Nat) (x26_2 : Bool), v26 = .bool x26_2 ∧ Aside0 (r04Small.j0 kq l1 x26_2 a0_0 a0_1 a0_2 l0_3 l0_4 = some r) ∧ Aside0 (kq ≤ k) ∧ Aside0 (wc.heap[gb105]? = some (.cells #[.int .i64 a0_0, .int .i64 a0_1, .string a0_2, (.slice A0_3 l0_3.length c0_3), (.slice A0_4 l0_4.length c0_4)] 26 (0, 0))) ∧ Aside0 (Below w.heap.size w wc))
 case first =>
  have H := HC3.out; clear HC3
  by_cases c5 : (a0_2.size : Int) > 300
  ·rw [if_pos c5] at H
   have c5b0 : decide (300 < (a0_2.size : Int)) = true := decide_eq_true c5
   have c5b1 : decide (300 < a0_2.size) = true := decide_eq_true (by omega)
   clear c5
   (first | rw [c5b0] | (simp only [i64_w, i32_w]; rw [c5b0]) | skip)
   have H' := mk0 H
   clear H
   have z6 := cells5 BK105.out
   go_wp2
   go_meet
   case rel => exact ⟨_, (true), rfl, H', ⟨by omega⟩, ⟨bu BK105⟩, ⟨be1 HB GE105⟩⟩
  rw [if_neg c5] at H; have c5b0 : decide (300 < (a0_2.size : Int)) = false := decide_eq_false c5
  have c5b1 : decide (300 < a0_2.size) = false := decide_eq_false (by omega)
  clear c5
  (first | rw [c5b0] | (simp only [i64_w, i32_w]; rw [c5b0]) | skip)
  by_cases c7 : (l0_3.length : Int) > 40
  rotate_left
  ·rw [if_neg c7] at H
   have c7b0 : decide (40 < (l0_3.length : Int)) = false := decide_eq_false c7
   have c7b1 : decide (40 < l0_3.length) = false := decide_eq_false (by omega)
   clear c7
   have H' := mk0 H
   clear H
   have z9 := cells5 BK105.out
   go_wp2
   go_meet
   case rel => exact ⟨_, (decide ((l0_4.length : Int) > 3)), rfl, H', ⟨by omega⟩, ⟨bu BK105⟩, ⟨be1 HB GE105⟩⟩
  rw [if_pos c7] at H; have c7b0 : decide (40 < (l0_3.length : Int)) = true := decide_eq_true c7
  have c7b1 : decide (40 < l0_3.length) = true := decide_eq_true (by omega)
  clear c7
  have H' := mk0 H
  clear H
  have z8 := cells5 BK105.out
  go_wp2
  go_meet
  case rel => exact ⟨_, (true), rfl, H', ⟨by omega⟩, ⟨bu BK105⟩, ⟨be1 HB GE105⟩⟩
 case rest =>
  clear HC3; try clear c1
  obtain ⟨kq, x26_2, rfl, HA, HJ2, BK105, HB⟩ := hcut
  cases kq with
  | zero => exact absurd HA.out (by simp [r04Small.j0])
  | succ kj2 =>
   have H := HA.out; clear HA
   simp only [r04Small.j0] at H
   replace H := iB H; obtain ⟨rfl, H⟩ | ⟨rfl, H⟩ := H
   ·obtain rfl := sI H
    go_wp2
    go_ret
    exact ⟨rfl, be1 HB GE105⟩
   have H' := mk0 H
   clear H
   have z11 := cells5 BK105.out
   go_wp2
   go_loopg [30] kj2 (fun kq v30 w' => ∃ (x30_2 : Int), v30 = .int .i64 x30_2 ∧ Aside0 (r04Small.l0 kq l1 l0_3 (l0_3.length : Int) x30_2 a0_0 a0_1 a0_2 l0_3 l0_4 = some r) ∧ Aside0 (kq ≤ kj2) ∧ Aside0 (w'.heap[gb105]? = some (.cells #[.int .i64 a0_0, .int .i64 a0_1, .string a0_2, (.slice A0_3 l0_3.length c0_3), (.slice A0_4 l0_4.length c0_4)] 26 (0, 0))) ∧ Aside0 (Below w.heap.size w w'))
   case atStart => exact ⟨(0), rfl, H', ⟨Nat.le_refl _⟩, ⟨bu BK105⟩, ⟨be1 HB GE105⟩⟩
   case round =>
    clear H'
    try clear c1
    obtain ⟨x30_2, rfl, HA, HK2, BK105, HB⟩ := hrel
    cases gk with
    | zero => exact absurd HA.out (by simp [r04Small.l0])
    | succ k2 =>
     have H := HA.out; clear HA
     simp only [r04Small.l0] at H
     replace H := iD H; obtain ⟨-, c12b0, H⟩ | ⟨-, c12b0, H⟩ := H
     ·replace H := iN H; obtain ⟨-, c13b0, H⟩ := H
      replace H := iN H; obtain ⟨-, c14b0, H⟩ := H
      by_cases c15 : ((rdOf ByteArray.empty l0_3 x30_2).size : Int) > 100
      ·rw [if_pos c15] at H
       have c15b0 : decide (100 < ((rdOf ByteArray.empty l0_3 x30_2).size : Int)) = true := decide_eq_true c15
       have c15b1 : decide (100 < (rdOf ByteArray.empty l0_3 x30_2).size) = true := decide_eq_true (by omega)
       clear c15; obtain rfl := sI H
       have p106 : 0 ≤ (x30_2 : Int) := od
       have q106 : x30_2 < (l0_3.length : Int) := od
       obtain ⟨ad106, e106, hx106_0⟩ := Kd.at_string HR0_3.out x30_2 p106 q106
       cases e106
       replace hx106_0 := keepc HB.out hx106_0
       replace p106 := eq_true p106; replace q106 := eq_true q106
       go_wp2
       go_ret
       exact ⟨rfl, be1 HB GE105⟩
      rw [if_neg c15] at H; have c15b0 : decide (100 < ((rdOf ByteArray.empty l0_3 x30_2).size : Int)) = false := decide_eq_false c15
      have c15b1 : decide (100 < (rdOf ByteArray.empty l0_3 x30_2).size) = false := decide_eq_false (by omega)
      clear c15
      have H' := mk0 H
      clear H
      have p106 : 0 ≤ (x30_2 : Int) := od
      have q106 : x30_2 < (l0_3.length : Int) := od
      obtain ⟨ad106, e106, hx106_0⟩ := Kd.at_string HR0_3.out x30_2 p106 q106
      cases e106
      replace hx106_0 := keepc HB.out hx106_0
      replace p106 := eq_true p106; replace q106 := eq_true q106
      go_wp2
      go_roundg k2
      case measure => have := HJ2.out; have := HK2.out; omega
      case rel => exact ⟨(wrap64 (x30_2 + 1)), rfl, H', ⟨by have := HJ2.out; have := HK2.out; omega⟩, ⟨bu BK105⟩, ⟨be1 HB GE105⟩⟩
     have H' := mk0 H
     clear H
     have z16 := cells5 BK105.out
     go_wp2
     go_loopg [41] k2 (fun kq v41 w' => ∃ (x41_3 : Int), v41 = .int .i64 x41_3 ∧ Aside0 (r04Small.l1 kq l1 l0_4 (l0_4.length : Int) x41_3 = some r) ∧ Aside0 (kq ≤ k2) ∧ Aside0 (w'.heap[gb105]? = some (.cells #[.int .i64 a0_0, .int .i64 a0_1, .string a0_2, (.slice A0_3 l0_3.length c0_3), (.slice A0_4 l0_4.length c0_4)] 26 (0, 0))) ∧ Aside0 (Below w.heap.size w w'))
     case atStart => exact ⟨(0), rfl, H', ⟨Nat.le_refl _⟩, ⟨bu BK105⟩, ⟨be1 HB GE105⟩⟩
     case round =>
      clear H'
      try clear c1; try clear c12b0
      obtain ⟨x41_3, rfl, HA, HK3, BK105, HB⟩ := hrel
      cases gk with
      | zero => exact absurd HA.out (by simp [r04Small.l1])
      | succ k3 =>
       have H := HA.out; clear HA
       simp only [r04Small.l1] at H
       replace H := iD' H; obtain ⟨-, c17b0, H⟩ | ⟨-, c17b0, H⟩ := H
       ·have H' := mk0 H
        clear H
        go_wp2
        go_loopg [57] k3 (fun kq v57 w' => ∃ (x57_4 : Int), v57 = .int .i64 x57_4 ∧ Aside0 (r04Small.l2 kq l1 (l1.length : Int) x57_4 = some r) ∧ Aside0 (kq ≤ k3) ∧ Aside0 (w'.heap[gb105]? = some (.cells #[.int .i64 a0_0, .int .i64 a0_1, .string a0_2, (.slice A0_3 l0_3.length c0_3), (.slice A0_4 l0_4.length c0_4)] 26 (0, 0))) ∧ Aside0 (Below w.heap.size w w'))
        case atStart => exact ⟨(0), rfl, H', ⟨Nat.le_refl _⟩, ⟨bu BK105⟩, ⟨be1 HB GE105⟩⟩
        case round =>
         clear H'
         try clear c1; try clear c12b0; try clear c17b0
         obtain ⟨x57_4, rfl, HA, HK4, BK105, HB⟩ := hrel
         cases gk with
         | zero => exact absurd HA.out (by simp [r04Small.l2])
         | succ k4 =>
          have H := HA.out; clear HA
          simp only [r04Small.l2] at H
          replace H := iD' H; obtain ⟨-, c34b0, H⟩ | ⟨-, c34b0, H⟩ := H
          ·obtain rfl := sI H
           go_wp2
           go_ret
           exact ⟨rfl, be1 HB GE105⟩
          replace H := iN H; obtain ⟨-, c35b0, H⟩ := H
          replace H := iN H; obtain ⟨-, c36b0, H⟩ := H
          replace H := bS H; obtain ⟨t112, A37, H⟩ := H
          replace H := iD H; obtain ⟨-, c38b0, H⟩ | ⟨-, c38b0, H⟩ := H
          ·obtain rfl := sI H
           have p110 : 0 ≤ (x57_4 : Int) := od
           have q110 : x57_4 < (l1.length : Int) := od
           obtain ⟨ad110, A110_2, c110_2, A110_3, c110_3, e110, hx110_0, hx110_1, hx110_2, hx110_3, hl110_2, hi110_2, hl110_3, hi110_3⟩ := at_T30 HR1.out x57_4 p110 q110
           cases e110
           replace hx110_0 := keepc HB.out hx110_0
           replace hx110_1 := keepc HB.out hx110_1
           replace hx110_2 := keepc HB.out hx110_2
           replace hx110_3 := keepc HB.out hx110_3
           have HR110_2 := mk0 hi110_2; have HC110_2 := mk0 hl110_2; clear hi110_2 hl110_2; have HR110_3 := mk0 hi110_3; have HC110_3 := mk0 hl110_3; clear hi110_3 hl110_3; replace p110 := eq_true p110; replace q110 := eq_true q110
           go_wp2_with (first | ((with_reducible refine box_event rfl (N := 10) rfl (cs := #[.int .i64 0, .int .i64 0, .slice none 0 0, .slice none 0 0]) (t := 30) ?hr ?_); (case hr => first | (go_simp; done) | (go_simp; rfl)); intro gb111 hg w39 hbox hb; have BK111 := mk0 (hbox); have GE111 := bs (be1 HB GE105) hg; replace HB := kh1 HB GE105 hb; have NB105_111 := nb1 (bu BK105) hg; have NB111_105 := nb2 (bu BK105) hg; replace BK105 := kb BK105 hb; clear hb hbox hg; have hnb40 := NB111_105.out; have hnc40 := NB105_111.out; have z41 := cells4 BK111.out) | ((with_reducible refine gate_callee (f := 62) rfl ?_); refine goB (some 62) rfl rfl Try.func62 (by kernel_rfl) rfl #[.agg #[.int .i64 ((rd_T30 l1 x57_4).f0), .int .i64 ((rd_T30 l1 x57_4).f1), .slice A110_2 ((rd_T30 l1 x57_4).f2).length c110_2, .slice A110_3 ((rd_T30 l1 x57_4).f3).length c110_3], .int .i64 9000] rfl rfl (r04parts.calls k4 ((rd_T30 l1 x57_4).f0) ((rd_T30 l1 x57_4).f1) _ _ ((rd_T30 l1 x57_4).f2) _ _ ((rd_T30 l1 x57_4).f3) 9000 t112 _ (Kd.C_below HR110_2.out (be2 HB GE105 GE111)) HC110_2.out (Kd.C_below HR110_3.out (be2 HB GE105 GE111)) HC110_3.out A37.out) ?_; intro w42 hb; replace BK105 := kF NB105_111 BK105 hb; replace BK111 := mk0 (blk_below (g := gb111) (o := .cells #[.int .i64 ((rd_T30 l1 x57_4).f0), .int .i64 ((rd_T30 l1 x57_4).f1), .slice A110_2 ((rd_T30 l1 x57_4).f2).length c110_2, .slice A110_3 ((rd_T30 l1 x57_4).f3).length c110_3] 30 (0, 0)) (pB BK111) hb); replace HB := kh2 HB GE105 GE111 hb))
           go_ret
           exact ⟨rfl, be2 HB GE105 GE111⟩
          have H' := mk0 H
          clear H
          have p110 : 0 ≤ (x57_4 : Int) := od
          have q110 : x57_4 < (l1.length : Int) := od
          obtain ⟨ad110, A110_2, c110_2, A110_3, c110_3, e110, hx110_0, hx110_1, hx110_2, hx110_3, hl110_2, hi110_2, hl110_3, hi110_3⟩ := at_T30 HR1.out x57_4 p110 q110
          cases e110
          replace hx110_0 := keepc HB.out hx110_0
          replace hx110_1 := keepc HB.out hx110_1
          replace hx110_2 := keepc HB.out hx110_2
          replace hx110_3 := keepc HB.out hx110_3
          have HR110_2 := mk0 hi110_2; have HC110_2 := mk0 hl110_2; clear hi110_2 hl110_2; have HR110_3 := mk0 hi110_3; have HC110_3 := mk0 hl110_3; clear hi110_3 hl110_3; replace p110 := eq_true p110; replace q110 := eq_true q110
          go_wp2_with (first | ((with_reducible refine box_event rfl (N := 10) rfl (cs := #[.int .i64 0, .int .i64 0, .slice none 0 0, .slice none 0 0]) (t := 30) ?hr ?_); (case hr => first | (go_simp; done) | (go_simp; rfl)); intro gb111 hg w43 hbox hb; have BK111 := mk0 (hbox); have GE111 := bs (be1 HB GE105) hg; replace HB := kh1 HB GE105 hb; have NB105_111 := nb1 (bu BK105) hg; have NB111_105 := nb2 (bu BK105) hg; replace BK105 := kb BK105 hb; clear hb hbox hg; have hnb44 := NB111_105.out; have hnc44 := NB105_111.out; have z45 := cells4 BK111.out) | ((with_reducible refine gate_callee (f := 62) rfl ?_); refine goB (some 62) rfl rfl Try.func62 (by kernel_rfl) rfl #[.agg #[.int .i64 ((rd_T30 l1 x57_4).f0), .int .i64 ((rd_T30 l1 x57_4).f1), .slice A110_2 ((rd_T30 l1 x57_4).f2).length c110_2, .slice A110_3 ((rd_T30 l1 x57_4).f3).length c110_3], .int .i64 9000] rfl rfl (r04parts.calls k4 ((rd_T30 l1 x57_4).f0) ((rd_T30 l1 x57_4).f1) _ _ ((rd_T30 l1 x57_4).f2) _ _ ((rd_T30 l1 x57_4).f3) 9000 t112 _ (Kd.C_below HR110_2.out (be2 HB GE105 GE111)) HC110_2.out (Kd.C_below HR110_3.out (be2 HB GE105 GE111)) HC110_3.out A37.out) ?_; intro w46 hb; replace BK105 := kF NB105_111 BK105 hb; replace BK111 := mk0 (blk_below (g := gb111) (o := .cells #[.int .i64 ((rd_T30 l1 x57_4).f0), .int .i64 ((rd_T30 l1 x57_4).f1), .slice A110_2 ((rd_T30 l1 x57_4).f2).length c110_2, .slice A110_3 ((rd_T30 l1 x57_4).f3).length c110_3] 30 (0, 0)) (pB BK111) hb); replace HB := kh2 HB GE105 GE111 hb))
          go_roundg k4
          case measure => have := HJ2.out; have := HK2.out; have := HK3.out; have := HK4.out; omega
          case rel => exact ⟨(wrap64 (x57_4 + 1)), rfl, H', ⟨by have := HJ2.out; have := HK2.out; have := HK3.out; have := HK4.out; omega⟩, ⟨bu BK105⟩, ⟨be2 HB GE105 GE111⟩⟩
       replace H := iN H; obtain ⟨-, c18b0, H⟩ := H
       replace H := iN H; obtain ⟨-, c19b0, H⟩ := H
       by_cases c20 : (((rd_T26 l0_4 x41_3).f4).length : Int) > 2
       ·rw [if_pos c20] at H
        have c20b0 : decide (2 < (((rd_T26 l0_4 x41_3).f4).length : Int)) = true := decide_eq_true c20
        have c20b1 : decide (2 < ((rd_T26 l0_4 x41_3).f4).length) = true := decide_eq_true (by omega)
        clear c20; obtain rfl := sI H
        have p107 : 0 ≤ (x41_3 : Int) := od
        have q107 : x41_3 < (l0_4.length : Int) := od
        obtain ⟨ad107, A107_3, c107_3, A107_4, c107_4, e107, hx107_0, hx107_1, hx107_2, hx107_3, hx107_4, hl107_3, hi107_3, hl107_4, hi107_4⟩ := at_T26 HR0_4.out x41_3 p107 q107
        cases e107
        replace hx107_0 := keepc HB.out hx107_0
        replace hx107_1 := keepc HB.out hx107_1
        replace hx107_2 := keepc HB.out hx107_2
        replace hx107_3 := keepc HB.out hx107_3
        replace hx107_4 := keepc HB.out hx107_4
        have HR107_3 := mk0 hi107_3; have HC107_3 := mk0 hl107_3; clear hi107_3 hl107_3; have HR107_4 := mk0 hi107_4; have HC107_4 := mk0 hl107_4; clear hi107_4 hl107_4; replace p107 := eq_true p107; replace q107 := eq_true q107
        go_wp2_with ((with_reducible refine box_event rfl (N := 8) rfl (cs := #[.int .i64 0, .int .i64 0, .string (⟨#[]⟩ : ByteArray), .slice none 0 0, .slice none 0 0]) (t := 26) ?hr ?_); (case hr => first | (go_simp; done) | (go_simp; rfl)); intro gb108 hg w21 hbox hb; have BK108 := mk0 (hbox); have GE108 := bs (be1 HB GE105) hg; replace HB := kh1 HB GE105 hb; have NB105_108 := nb1 (bu BK105) hg; have NB108_105 := nb2 (bu BK105) hg; replace BK105 := kb BK105 hb; clear hb hbox hg; have hnb22 := NB108_105.out; have hnc22 := NB105_108.out; have z23 := cells5 BK108.out)
        go_ret
        exact ⟨rfl, be2 HB GE105 GE108⟩
       rw [if_neg c20] at H; have c20b0 : decide (2 < (((rd_T26 l0_4 x41_3).f4).length : Int)) = false := decide_eq_false c20
       have c20b1 : decide (2 < ((rd_T26 l0_4 x41_3).f4).length) = false := decide_eq_false (by omega)
       clear c20
       replace H := bS H; obtain ⟨t109, A24, H⟩ := H
       replace H := iB' H; obtain ⟨rfl, H⟩ | ⟨rfl, H⟩ := H
       ·obtain rfl := sI H
        have p107 : 0 ≤ (x41_3 : Int) := od
        have q107 : x41_3 < (l0_4.length : Int) := od
        obtain ⟨ad107, A107_3, c107_3, A107_4, c107_4, e107, hx107_0, hx107_1, hx107_2, hx107_3, hx107_4, hl107_3, hi107_3, hl107_4, hi107_4⟩ := at_T26 HR0_4.out x41_3 p107 q107
        cases e107
        replace hx107_0 := keepc HB.out hx107_0
        replace hx107_1 := keepc HB.out hx107_1
        replace hx107_2 := keepc HB.out hx107_2
        replace hx107_3 := keepc HB.out hx107_3
        replace hx107_4 := keepc HB.out hx107_4
        have HR107_3 := mk0 hi107_3; have HC107_3 := mk0 hl107_3; clear hi107_3 hl107_3; have HR107_4 := mk0 hi107_4; have HC107_4 := mk0 hl107_4; clear hi107_4 hl107_4; replace p107 := eq_true p107; replace q107 := eq_true q107
        go_wp2_with (first | ((with_reducible refine box_event rfl (N := 8) rfl (cs := #[.int .i64 0, .int .i64 0, .string (⟨#[]⟩ : ByteArray), .slice none 0 0, .slice none 0 0]) (t := 26) ?hr ?_); (case hr => first | (go_simp; done) | (go_simp; rfl)); intro gb108 hg w30 hbox hb; have BK108 := mk0 (hbox); have GE108 := bs (be1 HB GE105) hg; replace HB := kh1 HB GE105 hb; have NB105_108 := nb1 (bu BK105) hg; have NB108_105 := nb2 (bu BK105) hg; replace BK105 := kb BK105 hb; clear hb hbox hg; have hnb31 := NB108_105.out; have hnc31 := NB105_108.out; have z32 := cells5 BK108.out) | (go_at_call 42; (refine (ih k3 (by have := HJ2.out; have := HK2.out; have := HK3.out; omega) ((rd_T26 l0_4 x41_3).f0) ((rd_T26 l0_4 x41_3).f1) ((rd_T26 l0_4 x41_3).f2) _ _ ((rd_T26 l0_4 x41_3).f3) _ _ ((rd_T26 l0_4 x41_3).f4) _ _ ([] : List (S30)) false _ ?side1 ?side2 ?side3 ?side4 ?side5 ?side6 A24.out).mono ?_); (case side1 => exact Kd.C_below HR107_3.out (be2 HB GE105 GE108)); (case side2 => exact HC107_3.out); (case side3 => exact Kd.C_below HR107_4.out (be2 HB GE105 GE108)); (case side4 => exact HC107_4.out); (case side5 => exact Kd.C_nil _ _); (case side6 => exact Nat.le_refl _); rintro e w33 ⟨rfl, hb⟩; replace BK105 := kF NB105_108 BK105 hb; replace BK108 := mk0 (blk_below (g := gb108) (o := .cells #[.int .i64 ((rd_T26 l0_4 x41_3).f0), .int .i64 ((rd_T26 l0_4 x41_3).f1), .string ((rd_T26 l0_4 x41_3).f2), .slice A107_3 ((rd_T26 l0_4 x41_3).f3).length c107_3, .slice A107_4 ((rd_T26 l0_4 x41_3).f4).length c107_4] 26 (0, 0)) (by refine blk_pl ?_; refine blk_put (cs := #[.int .i64 ((rd_T26 l0_4 x41_3).f0), .int .i64 ((rd_T26 l0_4 x41_3).f1), .string ((rd_T26 l0_4 x41_3).f2), .slice A107_3 ((rd_T26 l0_4 x41_3).f3).length c107_3, .slice none 0 0]) ?_ 4 _ rfl; refine blk_pl ?_; refine blk_put (cs := #[.int .i64 ((rd_T26 l0_4 x41_3).f0), .int .i64 ((rd_T26 l0_4 x41_3).f1), .string ((rd_T26 l0_4 x41_3).f2), .slice none 0 0, .slice none 0 0]) ?_ 3 _ rfl; refine blk_pl ?_; refine blk_put (cs := #[.int .i64 ((rd_T26 l0_4 x41_3).f0), .int .i64 ((rd_T26 l0_4 x41_3).f1), .string (⟨#[]⟩ : ByteArray), .slice none 0 0, .slice none 0 0]) ?_ 2 _ rfl; refine blk_pl ?_; refine blk_put (cs := #[.int .i64 ((rd_T26 l0_4 x41_3).f0), .int .i64 0, .string (⟨#[]⟩ : ByteArray), .slice none 0 0, .slice none 0 0]) ?_ 1 _ rfl; refine blk_pl ?_; refine blk_put (cs := #[.int .i64 0, .int .i64 0, .string (⟨#[]⟩ : ByteArray), .slice none 0 0, .slice none 0 0]) ?_ 0 _ rfl; refine blk_pl ?_; exact BK108.out) hb); replace HB := kh2 HB GE105 GE108 hb))
        go_ret
        exact ⟨rfl, be2 HB GE105 GE108⟩
       have H' := mk0 H
       clear H
       have p107 : 0 ≤ (x41_3 : Int) := od
       have q107 : x41_3 < (l0_4.length : Int) := od
       obtain ⟨ad107, A107_3, c107_3, A107_4, c107_4, e107, hx107_0, hx107_1, hx107_2, hx107_3, hx107_4, hl107_3, hi107_3, hl107_4, hi107_4⟩ := at_T26 HR0_4.out x41_3 p107 q107
       cases e107
       replace hx107_0 := keepc HB.out hx107_0
       replace hx107_1 := keepc HB.out hx107_1
       replace hx107_2 := keepc HB.out hx107_2
       replace hx107_3 := keepc HB.out hx107_3
       replace hx107_4 := keepc HB.out hx107_4
       have HR107_3 := mk0 hi107_3; have HC107_3 := mk0 hl107_3; clear hi107_3 hl107_3; have HR107_4 := mk0 hi107_4; have HC107_4 := mk0 hl107_4; clear hi107_4 hl107_4; replace p107 := eq_true p107; replace q107 := eq_true q107
       go_wp2_with (first | ((with_reducible refine box_event rfl (N := 8) rfl (cs := #[.int .i64 0, .int .i64 0, .string (⟨#[]⟩ : ByteArray), .slice none 0 0, .slice none 0 0]) (t := 26) ?hr ?_); (case hr => first | (go_simp; done) | (go_simp; rfl)); intro gb108 hg w26 hbox hb; have BK108 := mk0 (hbox); have GE108 := bs (be1 HB GE105) hg; replace HB := kh1 HB GE105 hb; have NB105_108 := nb1 (bu BK105) hg; have NB108_105 := nb2 (bu BK105) hg; replace BK105 := kb BK105 hb; clear hb hbox hg; have hnb27 := NB108_105.out; have hnc27 := NB105_108.out; have z28 := cells5 BK108.out) | (go_at_call 42; (refine (ih k3 (by have := HJ2.out; have := HK2.out; have := HK3.out; omega) ((rd_T26 l0_4 x41_3).f0) ((rd_T26 l0_4 x41_3).f1) ((rd_T26 l0_4 x41_3).f2) _ _ ((rd_T26 l0_4 x41_3).f3) _ _ ((rd_T26 l0_4 x41_3).f4) _ _ ([] : List (S30)) true _ ?side1 ?side2 ?side3 ?side4 ?side5 ?side6 A24.out).mono ?_); (case side1 => exact Kd.C_below HR107_3.out (be2 HB GE105 GE108)); (case side2 => exact HC107_3.out); (case side3 => exact Kd.C_below HR107_4.out (be2 HB GE105 GE108)); (case side4 => exact HC107_4.out); (case side5 => exact Kd.C_nil _ _); (case side6 => exact Nat.le_refl _); rintro e w29 ⟨rfl, hb⟩; replace BK105 := kF NB105_108 BK105 hb; replace BK108 := mk0 (blk_below (g := gb108) (o := .cells #[.int .i64 ((rd_T26 l0_4 x41_3).f0), .int .i64 ((rd_T26 l0_4 x41_3).f1), .string ((rd_T26 l0_4 x41_3).f2), .slice A107_3 ((rd_T26 l0_4 x41_3).f3).length c107_3, .slice A107_4 ((rd_T26 l0_4 x41_3).f4).length c107_4] 26 (0, 0)) (by refine blk_pl ?_; refine blk_put (cs := #[.int .i64 ((rd_T26 l0_4 x41_3).f0), .int .i64 ((rd_T26 l0_4 x41_3).f1), .string ((rd_T26 l0_4 x41_3).f2), .slice A107_3 ((rd_T26 l0_4 x41_3).f3).length c107_3, .slice none 0 0]) ?_ 4 _ rfl; refine blk_pl ?_; refine blk_put (cs := #[.int .i64 ((rd_T26 l0_4 x41_3).f0), .int .i64 ((rd_T26 l0_4 x41_3).f1), .string ((rd_T26 l0_4 x41_3).f2), .slice none 0 0, .slice none 0 0]) ?_ 3 _ rfl; refine blk_pl ?_; refine blk_put (cs := #[.int .i64 ((rd_T26 l0_4 x41_3).f0), .int .i64 ((rd_T26 l0_4 x41_3).f1), .string (⟨#[]⟩ : ByteArray), .slice none 0 0, .slice none 0 0]) ?_ 2 _ rfl; refine blk_pl ?_; refine blk_put (cs := #[.int .i64 ((rd_T26 l0_4 x41_3).f0), .int .i64 0, .string (⟨#[]⟩ : ByteArray), .slice none 0 0, .slice none 0 0]) ?_ 1 _ rfl; refine blk_pl ?_; refine blk_put (cs := #[.int .i64 0, .int .i64 0, .string (⟨#[]⟩ : ByteArray), .slice none 0 0, .slice none 0 0]) ?_ 0 _ rfl; refine blk_pl ?_; exact BK108.out) hb); replace HB := kh2 HB GE105 GE108 hb))
       go_roundg k3
       case measure => have := HJ2.out; have := HK2.out; have := HK3.out; omega
       case rel => exact ⟨(wrap64 (x41_3 + 1)), rfl, H', ⟨by have := HJ2.out; have := HK2.out; have := HK3.out; omega⟩, ⟨bu BK105⟩, ⟨be2 HB GE105 GE108⟩⟩
end Go.Proofs.Ytojankgmedccdaa.PIs
