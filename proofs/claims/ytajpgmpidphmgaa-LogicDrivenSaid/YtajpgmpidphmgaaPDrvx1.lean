-- PRINTED by the session's driver wip/tools/printx.py over the kit's print, some contracts given by hand. Not trusted: Lean checks it.
import Derived.Test.YtajpgmpidphmgaaPDrvx0
namespace Go.Proofs.Ytajpgmpidphmgaa.PDrv
open Go.RowKit Go.Proofs.Ytajpgmpidphmgaa.Hand Go.Proofs.Ytajpgmpidphmgaa.PAll Go.Proofs.YtajpgmpidphmgaaW.PrintWords Go.Proofs.YtajpgmpidphmgaaW.PrintLast Go.Proofs.YtajpgmpidphmgaaW.PrintMore
attribute [local go_sem] max2_int min2_int max_two min_two max_three min_three max_four min_four   -- for this text's walks alone
set_option linter.unusedVariables false
set_option linter.unusedSimpArgs false

-- GIVEN: function 19 (netwrightlaw01_awake)

-- GIVEN: function 20 (netwrightlaw01_long)

-- GIVEN: function 21 (netwrightlaw01_copied)

-- GIVEN: function 22 (logic_Resolve)

-- GIVEN: function 29 (netwrightref01_Bit)

/-! ### netwrightlaw01_LogicDriven: function 9 -/
mutual
def netwrightlaw01_LogicDriven.j0 : Nat → List Int → Int → Bool → Option (Bool)
  | 0, _, _, _ => none
  | k + 1, x0, x1, x23 => if x23 = true then ((netwrightlaw01_awake.f k).bind fun t103 => (some t103)) else (netwrightlaw01_LogicDriven.l0 k x0 x1 x0 (x0.length : Int) 0)
def netwrightlaw01_LogicDriven.l0 : Nat → List Int → Int → List Int → Int → Int → Option (Bool)
  | 0, _, _, _, _, _ => none
  | k + 1, x0, x1, x25, x26, x27 => if x27 < x26 then (if 0 ≤ x27 then (if x27 < (x25.length : Int) then ((netwrightref01_Bit.f (rd x25 x27)).bind fun t105 => (if t105 = true then (netwrightlaw01_LogicDriven.l0 k x0 x1 x25 x26 (wrap64 (x27 + 1))) else ((netwrightlaw01_awake.f k).bind fun t106 => (some t106)))) else (none)) else (none)) else ((netwrightlaw01_copied.f x0).bind fun t107 => ((logic_Resolve.f k t107).bind fun bt110 => ((netwrightlaw01_copied.f x0).bind fun t112 => (if t112.length < 140737488355328 then ((logic_Resolve.f k (t112 ++ [3])).bind fun bt118 => ((netwrightlaw01_copied.f x0).bind fun t120 => (if t120.length < 140737488355328 then ((logic_Resolve.f k (t120 ++ [2])).bind fun bt126 => ((netwrightlaw01_copied.f x0).bind fun t128 => (if t128.length < 140737488355328 then ((logic_Resolve.f k (t128 ++ [x1])).bind fun bt134 => ((logic_Resolve.f k (([x1, x1, x1] : List Int))).bind fun bt139 => (if bt110.2 = 0 then (if bt118.2 = 0 then (if bt126.2 = 0 then (if bt134.2 = 0 then (netwrightlaw01_LogicDriven.j2 k x1 bt110.1 bt118.1 bt126.1 bt134.1 bt139.1 (bt139.2 != 0)) else (netwrightlaw01_LogicDriven.j2 k x1 bt110.1 bt118.1 bt126.1 bt134.1 bt139.1 true)) else (netwrightlaw01_LogicDriven.j2 k x1 bt110.1 bt118.1 bt126.1 bt134.1 bt139.1 true)) else (netwrightlaw01_LogicDriven.j2 k x1 bt110.1 bt118.1 bt126.1 bt134.1 bt139.1 true)) else (netwrightlaw01_LogicDriven.j2 k x1 bt110.1 bt118.1 bt126.1 bt134.1 bt139.1 true)))) else (none)))) else (none)))) else (none)))))
def netwrightlaw01_LogicDriven.j2 : Nat → Int → Int → Int → Int → Int → Int → Bool → Option (Bool)
  | 0, _, _, _, _, _, _, _ => none
  | k + 1, x1, x7, x9, x11, x13, x15, x92 => if x92 = true then (some false) else (if x7 = x9 then (if x11 = 2 then (if x15 = x1 then (if x13 = x7 then ((netwrightlaw01_awake.f k).bind fun t141 => (some t141)) else (if x13 = x1 then (if x7 = 3 then ((netwrightlaw01_awake.f k).bind fun t142 => (some t142)) else (if x13 = 2 then ((netwrightlaw01_awake.f k).bind fun t143 => (some t143)) else (some false))) else (if x13 = 2 then ((netwrightlaw01_awake.f k).bind fun t144 => (some t144)) else (some false)))) else (some false)) else (some false)) else (some false))
end
def netwrightlaw01_LogicDriven.f (k : Nat) (l0 : List Int) (a1 : Int) : Option (Bool) := (netwrightlaw01_long.f l0).bind fun t101 => (if t101 = true then (netwrightlaw01_LogicDriven.j0 k l0 a1 true) else ((netwrightref01_Bit.f a1).bind fun t102 => (netwrightlaw01_LogicDriven.j0 k l0 a1 (!t102))))
theorem netwrightlaw01_LogicDriven.mono_l : ∀ k, (∀ y0 y1 y2, LeO (netwrightlaw01_LogicDriven.j0 k y0 y1 y2) (netwrightlaw01_LogicDriven.j0 (k + 1) y0 y1 y2)) ∧ (∀ y0 y1 y2 y3 y4, LeO (netwrightlaw01_LogicDriven.l0 k y0 y1 y2 y3 y4) (netwrightlaw01_LogicDriven.l0 (k + 1) y0 y1 y2 y3 y4)) ∧ (∀ y0 y1 y2 y3 y4 y5 y6, LeO (netwrightlaw01_LogicDriven.j2 k y0 y1 y2 y3 y4 y5 y6) (netwrightlaw01_LogicDriven.j2 (k + 1) y0 y1 y2 y3 y4 y5 y6))
  | 0 => ⟨fun _ _ _ r h => by simp [netwrightlaw01_LogicDriven.j0] at h, fun _ _ _ _ _ r h => by simp [netwrightlaw01_LogicDriven.l0] at h, fun _ _ _ _ _ _ _ r h => by simp [netwrightlaw01_LogicDriven.j2] at h⟩
  | k + 1 => by
    obtain ⟨ih0, ih1, ih2⟩ := netwrightlaw01_LogicDriven.mono_l k
    refine ⟨?_, ?_, ?_⟩
    · intro y0 y1 y2
      unfold netwrightlaw01_LogicDriven.j0
      repeat' first
      | (with_reducible exact ih0 _ _ _)
      | (with_reducible exact ih1 _ _ _ _ _)
      | (with_reducible exact ih2 _ _ _ _ _ _ _)
      | (with_reducible exact logic_Resolve.mono _ _)
      | (with_reducible exact netwrightlaw01_awake.mono _)
      | (with_reducible exact LeO.refl _)
      | (with_reducible exact LeO.none _)
      | (with_reducible refine LeO.ite ?_ ?_)
      | (with_reducible refine LeO.bind ?_ (fun _ => ?_))
      | exact ih0 _ _ _
      | exact ih1 _ _ _ _ _
      | exact ih2 _ _ _ _ _ _ _
      | exact logic_Resolve.mono _ _
      | exact netwrightlaw01_awake.mono _
      | exact LeO.none _
      | refine LeO.ite ?_ ?_
      | refine LeO.bind ?_ (fun _ => ?_)
    · intro y0 y1 y2 y3 y4
      unfold netwrightlaw01_LogicDriven.l0
      repeat' first
      | (with_reducible exact ih0 _ _ _)
      | (with_reducible exact ih1 _ _ _ _ _)
      | (with_reducible exact ih2 _ _ _ _ _ _ _)
      | (with_reducible exact logic_Resolve.mono _ _)
      | (with_reducible exact netwrightlaw01_awake.mono _)
      | (with_reducible exact LeO.refl _)
      | (with_reducible exact LeO.none _)
      | (with_reducible refine LeO.ite ?_ ?_)
      | (with_reducible refine LeO.bind ?_ (fun _ => ?_))
      | exact ih0 _ _ _
      | exact ih1 _ _ _ _ _
      | exact ih2 _ _ _ _ _ _ _
      | exact logic_Resolve.mono _ _
      | exact netwrightlaw01_awake.mono _
      | exact LeO.none _
      | refine LeO.ite ?_ ?_
      | refine LeO.bind ?_ (fun _ => ?_)
    · intro y0 y1 y2 y3 y4 y5 y6
      unfold netwrightlaw01_LogicDriven.j2
      repeat' first
      | (with_reducible exact ih0 _ _ _)
      | (with_reducible exact ih1 _ _ _ _ _)
      | (with_reducible exact ih2 _ _ _ _ _ _ _)
      | (with_reducible exact logic_Resolve.mono _ _)
      | (with_reducible exact netwrightlaw01_awake.mono _)
      | (with_reducible exact LeO.refl _)
      | (with_reducible exact LeO.none _)
      | (with_reducible refine LeO.ite ?_ ?_)
      | (with_reducible refine LeO.bind ?_ (fun _ => ?_))
      | exact ih0 _ _ _
      | exact ih1 _ _ _ _ _
      | exact ih2 _ _ _ _ _ _ _
      | exact logic_Resolve.mono _ _
      | exact netwrightlaw01_awake.mono _
      | exact LeO.none _
      | refine LeO.ite ?_ ?_
      | refine LeO.bind ?_ (fun _ => ?_)
theorem netwrightlaw01_LogicDriven.mono : ∀ a0 a1 k, LeO (netwrightlaw01_LogicDriven.f k a0 a1) (netwrightlaw01_LogicDriven.f (k + 1) a0 a1) := by
  intro a0 a1 k
  obtain ⟨ih0, ih1, ih2⟩ := netwrightlaw01_LogicDriven.mono_l k
  unfold netwrightlaw01_LogicDriven.f
  repeat' first
      | (with_reducible exact ih0 _ _ _)
      | (with_reducible exact ih1 _ _ _ _ _)
      | (with_reducible exact ih2 _ _ _ _ _ _ _)
      | (with_reducible exact logic_Resolve.mono _ _)
      | (with_reducible exact netwrightlaw01_awake.mono _)
      | (with_reducible exact LeO.refl _)
      | (with_reducible exact LeO.none _)
      | (with_reducible refine LeO.ite ?_ ?_)
      | (with_reducible refine LeO.bind ?_ (fun _ => ?_))
      | exact ih0 _ _ _
      | exact ih1 _ _ _ _ _
      | exact ih2 _ _ _ _ _ _ _
      | exact logic_Resolve.mono _ _
      | exact netwrightlaw01_awake.mono _
      | exact LeO.none _
      | refine LeO.ite ?_ ?_
      | refine LeO.bind ?_ (fun _ => ?_)
set_option maxHeartbeats 8000000 in
set_option maxRecDepth 100000 in
theorem netwrightlaw01_LogicDriven.calls (k : Nat) (A0 : Option Addr) (c0 : Nat) (l0 : List Int) (a1 : Int) (r : Bool) (w : World) (hr0 : Kd.C (Kd.int .u8) w A0 l0.length l0) (hc0 : l0.length ≤ c0) (h : netwrightlaw01_LogicDriven.f k l0 a1 = some r) :
    Calls Try.prog 9 #[.slice A0 l0.length c0, .int .u8 a1] w fun e w' => e = .returned (.bool r) ∧ Below w.heap.size w w' := by
  have HR0 := Aside0.mk hr0
  have HC0 := Aside0.mk hc0
  clear hr0 hc0
  have HB := Aside0.mk (Below.refl w.heap.size w)
  have H : ((netwrightlaw01_long.f l0).bind fun t101 => (if t101 = true then (netwrightlaw01_LogicDriven.j0 k l0 a1 true) else ((netwrightref01_Bit.f a1).bind fun t102 => (netwrightlaw01_LogicDriven.j0 k l0 a1 (!t102))))) = some r := h
  clear h
  have HC3 := Aside0.mk H
  clear H
  go_enter Try.func9, Try.ntmps9
  go_upto_region 1 with (fail)
  go_cut [23] (fun v23 wc => ∃ (kq : Nat) (x23_2 : Bool), v23 = .bool x23_2 ∧ Aside0 (netwrightlaw01_LogicDriven.j0 kq l0 a1 x23_2 = some r) ∧ Aside0 (kq ≤ k) ∧ Aside0 (Below w.heap.size w wc))
  case first =>
    have H := HC3.out
    clear HC3
    replace H := Option.bind_eq_some_iff.mp H
    obtain ⟨t101, A40, H⟩ := H
    replace H : (if t101 = true then (netwrightlaw01_LogicDriven.j0 k l0 a1 true) else ((netwrightref01_Bit.f a1).bind fun t102 => (netwrightlaw01_LogicDriven.j0 k l0 a1 (!t102)))) = some r := H
    have A4 := Aside0.mk A40
    clear A40
    by_cases c5 : t101 = true
    · subst c5
      have H1 : (netwrightlaw01_LogicDriven.j0 k l0 a1 true) = some r := by rw [if_pos rfl] at H; exact H
      clear H
      have H := H1
      clear H1
      have H' := Aside0.mk H
      clear H
      go_wp2_with (first | ((with_reducible refine gate_callee (f := 20) rfl ?_); refine goesL_ (some 18) rfl rfl Try.func20 (by kernel_rfl) rfl #[.slice A0 l0.length c0] rfl (by (try simp only [List.map_toArray, List.map_cons, List.map_nil]); first | done | rfl | (simp only [List.length_drop, List.length_take]; rfl)) ?_; (with_reducible refine (netwrightlaw01_long.calls _ _ l0 true _ ?side1 ?side2 A4.out).mono ?_); (case side1 => repeat (first | exact (Kd.C_below HR0.out HB.out) | (with_reducible refine Kd.C_alloc ?_ _) | (with_reducible refine Kd.C_drewN ?_ _) | (with_reducible refine Kd.C_drew ?_))); (case side2 => exact HC0.out); rintro e w' ⟨rfl, ⟨nd, rfl⟩⟩; refine ⟨_, rfl, ?_⟩))
      go_meet
      case rel => exact ⟨_, (true), (by first | rfl | (simp; done) | (simp [*]; done)), H', ⟨by first | omega | exact Nat.le_refl _⟩, ⟨by repeat (first | (with_reducible first | exact HB.out | apply below_alloc | apply pw_below_drewN | apply below_drew1) | exact HB.out)⟩⟩
    · replace c5 := Bool.eq_false_iff.mpr c5
      subst c5
      have H1 : ((netwrightref01_Bit.f a1).bind fun t102 => (netwrightlaw01_LogicDriven.j0 k l0 a1 (!t102))) = some r := by rw [if_neg (show ¬ (false = true) by decide)] at H; exact H
      clear H
      have H := H1
      clear H1
      replace H := Option.bind_eq_some_iff.mp H
      obtain ⟨t102, A60, H⟩ := H
      replace H : (netwrightlaw01_LogicDriven.j0 k l0 a1 (!t102)) = some r := H
      have A6 := Aside0.mk A60
      clear A60
      have H' := Aside0.mk H
      clear H
      go_wp2_with (first | ((with_reducible refine gate_callee (f := 20) rfl ?_); refine goesL_ (some 18) rfl rfl Try.func20 (by kernel_rfl) rfl #[.slice A0 l0.length c0] rfl (by (try simp only [List.map_toArray, List.map_cons, List.map_nil]); first | done | rfl | (simp only [List.length_drop, List.length_take]; rfl)) ?_; (with_reducible refine (netwrightlaw01_long.calls _ _ l0 false _ ?side1 ?side2 A4.out).mono ?_); (case side1 => repeat (first | exact (Kd.C_below HR0.out HB.out) | (with_reducible refine Kd.C_alloc ?_ _) | (with_reducible refine Kd.C_drewN ?_ _) | (with_reducible refine Kd.C_drew ?_))); (case side2 => exact HC0.out); rintro e w' ⟨rfl, ⟨nd, rfl⟩⟩; refine ⟨_, rfl, ?_⟩) | (go_at_call 29; (with_reducible refine (netwrightref01_Bit.calls a1 t102 _ A6.out).mono ?_); rintro e w' ⟨rfl, ⟨nd, rfl⟩⟩))
      go_meet
      case rel => exact ⟨_, (!t102), (by first | rfl | (simp; done) | (simp [*]; done)), H', ⟨by first | omega | exact Nat.le_refl _⟩, ⟨by repeat (first | (with_reducible first | exact HB.out | apply below_alloc | apply pw_below_drewN | apply below_drew1) | exact HB.out)⟩⟩
  case rest =>
    clear HC3
    try clear c2
    try clear p2
    try clear c5
    obtain ⟨kq, x23_2, rfl, HA, HJ2, HB⟩ := hcut
    cases kq with
    | zero => exact absurd HA.out (by simp [netwrightlaw01_LogicDriven.j0])
    | succ kj2 =>
      have H := HA.out
      clear HA
      simp only [netwrightlaw01_LogicDriven.j0] at H
      by_cases c7 : x23_2 = true
      · subst c7
        have H1 : ((netwrightlaw01_awake.f kj2).bind fun t103 => (some t103)) = some r := by rw [if_pos rfl] at H; exact H
        clear H
        have H := H1
        clear H1
        replace H := Option.bind_eq_some_iff.mp H
        obtain ⟨t103, A80, H⟩ := H
        replace H : (some t103) = some r := H
        have A8 := Aside0.mk A80
        clear A80
        obtain rfl := Option.some.inj H
        go_wp2_with (first | ((with_reducible refine gate_callee (f := 19) rfl ?_); refine goesL_ (some 24) rfl rfl Try.func19 (by kernel_rfl) rfl #[] rfl (by (try simp only [List.map_toArray, List.map_cons, List.map_nil]); first | done | rfl | (simp only [List.length_drop, List.length_take]; rfl)) ?_; (with_reducible refine (netwrightlaw01_awake.calls kj2  t103 _ A8.out).mono ?_); rintro e w9 ⟨rfl, hb⟩; refine ⟨_, rfl, ?_⟩; have n0_ := Aside0.mk (below_step (by repeat (first | (with_reducible first | exact HB.out | apply below_alloc | apply pw_below_drewN | apply below_drew1) | exact HB.out)) hb); clear HB; have HB := n0_; clear n0_; (try clear hb); (try clear hb2); (try clear hk); (try clear hi)))
        go_ret
        exact ⟨by first | rfl | (simp [errW_none, errW_some] <;> rfl) | (simp [*, errW_none, errW_some] <;> rfl), by repeat (first | (with_reducible first | exact HB.out | apply below_alloc | apply pw_below_drewN | apply below_drew1) | exact HB.out)⟩
      · replace c7 := Bool.eq_false_iff.mpr c7
        subst c7
        have H1 : (netwrightlaw01_LogicDriven.l0 kj2 l0 a1 l0 (l0.length : Int) 0) = some r := by rw [if_neg (show ¬ (false = true) by decide)] at H; exact H
        clear H
        have H := H1
        clear H1
        have H' := Aside0.mk H
        clear H
        go_wp2
        go_loopg [27] kj2 (fun kq v27 w' => ∃ (x27_2 : Int), v27 = .int .i64 x27_2 ∧ Aside0 (netwrightlaw01_LogicDriven.l0 kq l0 a1 l0 (l0.length : Int) x27_2 = some r) ∧ Aside0 (kq ≤ kj2) ∧ Aside0 (Below w.heap.size w w'))
        case atStart => exact ⟨(0), (by first | rfl | (simp; done) | (simp [*]; done)), H', ⟨Nat.le_refl _⟩, ⟨by repeat (first | (with_reducible first | exact HB.out | apply below_alloc | apply pw_below_drewN | apply below_drew1) | exact HB.out)⟩⟩
        case round =>
          clear H'
          try clear c1
          try clear c2
          try clear p2
          try clear c5
          try clear c7
          try clear c9
          try clear p2
          obtain ⟨x27_2, rfl, HA, HK2, HB⟩ := hrel
          cases gk with
          | zero => exact absurd HA.out (by simp [netwrightlaw01_LogicDriven.l0])
          | succ k2 =>
            have H := HA.out
            clear HA
            simp only [netwrightlaw01_LogicDriven.l0] at H
            by_cases c10 : x27_2 < (l0.length : Int)
            · rw [if_pos c10] at H
              have c10b0 : decide (x27_2 < (l0.length : Int)) = true := decide_eq_true c10
              clear c10
              by_cases c11 : 0 ≤ x27_2
              · rw [if_pos c11] at H
                have c11b0 : decide (0 ≤ x27_2) = true := decide_eq_true c11
                clear c11
                by_cases c12 : x27_2 < (l0.length : Int)
                · rw [if_pos c12] at H
                  have c12b0 : decide (x27_2 < (l0.length : Int)) = true := decide_eq_true c12
                  clear c12
                  replace H := Option.bind_eq_some_iff.mp H
                  obtain ⟨t105, A130, H⟩ := H
                  replace H : (if t105 = true then (netwrightlaw01_LogicDriven.l0 k2 l0 a1 l0 (l0.length : Int) (wrap64 (x27_2 + 1))) else ((netwrightlaw01_awake.f k2).bind fun t106 => (some t106))) = some r := H
                  have A13 := Aside0.mk A130
                  clear A130
                  by_cases c14 : t105 = true
                  · subst c14
                    have H1 : (netwrightlaw01_LogicDriven.l0 k2 l0 a1 l0 (l0.length : Int) (wrap64 (x27_2 + 1))) = some r := by rw [if_pos rfl] at H; exact H
                    clear H
                    have H := H1
                    clear H1
                    have H' := Aside0.mk H
                    clear H
                    have p104 : 0 ≤ (x27_2 : Int) := of_decide_eq_true (by first | (with_reducible assumption) | assumption)
                    have q104 : x27_2 < (l0.length : Int) := of_decide_eq_true (by first | (with_reducible assumption) | assumption)
                    obtain ⟨ad104, e104, hx104_0⟩ := Kd.at_int HR0.out x27_2 p104 q104
                    cases e104
                    replace hx104_0 := (HB.out.cell (World.block_lt_of_cell? w _ hx104_0)).trans hx104_0
                    replace p104 := eq_true p104
                    replace q104 := eq_true q104
                    go_wp2_with (first | ((with_reducible refine gate_callee (f := 29) rfl ?_); refine goesL_ (some 32) rfl rfl Try.func29 (by kernel_rfl) rfl #[.int .u8 (rd l0 x27_2)] rfl (by (try simp only [List.map_toArray, List.map_cons, List.map_nil]); first | done | rfl | (simp only [List.length_drop, List.length_take]; rfl)) ?_; (with_reducible refine (netwrightref01_Bit.calls (rd l0 x27_2) true _ A13.out).mono ?_); rintro e w' ⟨rfl, ⟨nd, rfl⟩⟩; refine ⟨_, rfl, ?_⟩))
                    go_roundg k2
                    case measure => have := HJ2.out; have := HK2.out; omega
                    case rel => exact ⟨(wrap64 (x27_2 + 1)), (by first | rfl | (simp; done) | (simp [*]; done)), H', ⟨by have := HJ2.out; have := HK2.out; omega⟩, ⟨by repeat (first | (with_reducible first | exact HB.out | apply below_alloc | apply pw_below_drewN | apply below_drew1) | exact HB.out)⟩⟩
                  · replace c14 := Bool.eq_false_iff.mpr c14
                    subst c14
                    have H1 : ((netwrightlaw01_awake.f k2).bind fun t106 => (some t106)) = some r := by rw [if_neg (show ¬ (false = true) by decide)] at H; exact H
                    clear H
                    have H := H1
                    clear H1
                    replace H := Option.bind_eq_some_iff.mp H
                    obtain ⟨t106, A150, H⟩ := H
                    replace H : (some t106) = some r := H
                    have A15 := Aside0.mk A150
                    clear A150
                    obtain rfl := Option.some.inj H
                    have p104 : 0 ≤ (x27_2 : Int) := of_decide_eq_true (by first | (with_reducible assumption) | assumption)
                    have q104 : x27_2 < (l0.length : Int) := of_decide_eq_true (by first | (with_reducible assumption) | assumption)
                    obtain ⟨ad104, e104, hx104_0⟩ := Kd.at_int HR0.out x27_2 p104 q104
                    cases e104
                    replace hx104_0 := (HB.out.cell (World.block_lt_of_cell? w _ hx104_0)).trans hx104_0
                    replace p104 := eq_true p104
                    replace q104 := eq_true q104
                    go_wp2_with (first | ((with_reducible refine gate_callee (f := 29) rfl ?_); refine goesL_ (some 32) rfl rfl Try.func29 (by kernel_rfl) rfl #[.int .u8 (rd l0 x27_2)] rfl (by (try simp only [List.map_toArray, List.map_cons, List.map_nil]); first | done | rfl | (simp only [List.length_drop, List.length_take]; rfl)) ?_; (with_reducible refine (netwrightref01_Bit.calls (rd l0 x27_2) false _ A13.out).mono ?_); rintro e w' ⟨rfl, ⟨nd, rfl⟩⟩; refine ⟨_, rfl, ?_⟩) | ((with_reducible refine gate_callee (f := 19) rfl ?_); refine goesL_ (some 34) rfl rfl Try.func19 (by kernel_rfl) rfl #[] rfl (by (try simp only [List.map_toArray, List.map_cons, List.map_nil]); first | done | rfl | (simp only [List.length_drop, List.length_take]; rfl)) ?_; (with_reducible refine (netwrightlaw01_awake.calls k2  t106 _ A15.out).mono ?_); rintro e w16 ⟨rfl, hb⟩; refine ⟨_, rfl, ?_⟩; have n0_ := Aside0.mk (below_step (by repeat (first | (with_reducible first | exact HB.out | apply below_alloc | apply pw_below_drewN | apply below_drew1) | exact HB.out)) hb); clear HB; have HB := n0_; clear n0_; (try clear hb); (try clear hb2); (try clear hk); (try clear hi)))
                    go_ret
                    exact ⟨by first | rfl | (simp [errW_none, errW_some] <;> rfl) | (simp [*, errW_none, errW_some] <;> rfl), by repeat (first | (with_reducible first | exact HB.out | apply below_alloc | apply pw_below_drewN | apply below_drew1) | exact HB.out)⟩
                · rw [if_neg c12] at H
                  exact absurd H (by simp)
              · rw [if_neg c11] at H
                exact absurd H (by simp)
            · rw [if_neg c10] at H
              have c10b0 : decide (x27_2 < (l0.length : Int)) = false := decide_eq_false c10
              clear c10
              replace H := Option.bind_eq_some_iff.mp H
              obtain ⟨t107, A170, H⟩ := H
              replace H : ((logic_Resolve.f k2 t107).bind fun bt110 => ((netwrightlaw01_copied.f l0).bind fun t112 => (if t112.length < 140737488355328 then ((logic_Resolve.f k2 (t112 ++ [3])).bind fun bt118 => ((netwrightlaw01_copied.f l0).bind fun t120 => (if t120.length < 140737488355328 then ((logic_Resolve.f k2 (t120 ++ [2])).bind fun bt126 => ((netwrightlaw01_copied.f l0).bind fun t128 => (if t128.length < 140737488355328 then ((logic_Resolve.f k2 (t128 ++ [a1])).bind fun bt134 => ((logic_Resolve.f k2 (([a1, a1, a1] : List Int))).bind fun bt139 => (if bt110.2 = 0 then (if bt118.2 = 0 then (if bt126.2 = 0 then (if bt134.2 = 0 then (netwrightlaw01_LogicDriven.j2 k2 a1 bt110.1 bt118.1 bt126.1 bt134.1 bt139.1 (bt139.2 != 0)) else (netwrightlaw01_LogicDriven.j2 k2 a1 bt110.1 bt118.1 bt126.1 bt134.1 bt139.1 true)) else (netwrightlaw01_LogicDriven.j2 k2 a1 bt110.1 bt118.1 bt126.1 bt134.1 bt139.1 true)) else (netwrightlaw01_LogicDriven.j2 k2 a1 bt110.1 bt118.1 bt126.1 bt134.1 bt139.1 true)) else (netwrightlaw01_LogicDriven.j2 k2 a1 bt110.1 bt118.1 bt126.1 bt134.1 bt139.1 true)))) else (none)))) else (none)))) else (none)))) = some r := H
              have A17 := Aside0.mk A170
              clear A170
              replace H := Option.bind_eq_some_iff.mp H
              obtain ⟨⟨t110, t111⟩, A180, H⟩ := H
              replace H : ((netwrightlaw01_copied.f l0).bind fun t112 => (if t112.length < 140737488355328 then ((logic_Resolve.f k2 (t112 ++ [3])).bind fun bt118 => ((netwrightlaw01_copied.f l0).bind fun t120 => (if t120.length < 140737488355328 then ((logic_Resolve.f k2 (t120 ++ [2])).bind fun bt126 => ((netwrightlaw01_copied.f l0).bind fun t128 => (if t128.length < 140737488355328 then ((logic_Resolve.f k2 (t128 ++ [a1])).bind fun bt134 => ((logic_Resolve.f k2 (([a1, a1, a1] : List Int))).bind fun bt139 => (if t111 = 0 then (if bt118.2 = 0 then (if bt126.2 = 0 then (if bt134.2 = 0 then (netwrightlaw01_LogicDriven.j2 k2 a1 t110 bt118.1 bt126.1 bt134.1 bt139.1 (bt139.2 != 0)) else (netwrightlaw01_LogicDriven.j2 k2 a1 t110 bt118.1 bt126.1 bt134.1 bt139.1 true)) else (netwrightlaw01_LogicDriven.j2 k2 a1 t110 bt118.1 bt126.1 bt134.1 bt139.1 true)) else (netwrightlaw01_LogicDriven.j2 k2 a1 t110 bt118.1 bt126.1 bt134.1 bt139.1 true)) else (netwrightlaw01_LogicDriven.j2 k2 a1 t110 bt118.1 bt126.1 bt134.1 bt139.1 true)))) else (none)))) else (none)))) else (none))) = some r := H
              have A18 := Aside0.mk A180
              clear A180
              replace H := Option.bind_eq_some_iff.mp H
              obtain ⟨t112, A190, H⟩ := H
              replace H : (if t112.length < 140737488355328 then ((logic_Resolve.f k2 (t112 ++ [3])).bind fun bt118 => ((netwrightlaw01_copied.f l0).bind fun t120 => (if t120.length < 140737488355328 then ((logic_Resolve.f k2 (t120 ++ [2])).bind fun bt126 => ((netwrightlaw01_copied.f l0).bind fun t128 => (if t128.length < 140737488355328 then ((logic_Resolve.f k2 (t128 ++ [a1])).bind fun bt134 => ((logic_Resolve.f k2 (([a1, a1, a1] : List Int))).bind fun bt139 => (if t111 = 0 then (if bt118.2 = 0 then (if bt126.2 = 0 then (if bt134.2 = 0 then (netwrightlaw01_LogicDriven.j2 k2 a1 t110 bt118.1 bt126.1 bt134.1 bt139.1 (bt139.2 != 0)) else (netwrightlaw01_LogicDriven.j2 k2 a1 t110 bt118.1 bt126.1 bt134.1 bt139.1 true)) else (netwrightlaw01_LogicDriven.j2 k2 a1 t110 bt118.1 bt126.1 bt134.1 bt139.1 true)) else (netwrightlaw01_LogicDriven.j2 k2 a1 t110 bt118.1 bt126.1 bt134.1 bt139.1 true)) else (netwrightlaw01_LogicDriven.j2 k2 a1 t110 bt118.1 bt126.1 bt134.1 bt139.1 true)))) else (none)))) else (none)))) else (none)) = some r := H
              have A19 := Aside0.mk A190
              clear A190
              by_cases c20 : t112.length < 140737488355328
              · rw [if_pos c20] at H
                have LMc20 := Aside0.mk c20
                clear c20
                obtain ⟨y115, hy115⟩ : ∃ y_ : List Int, y_ = (t112 ++ [3]) := ⟨_, rfl⟩
                replace H : ((logic_Resolve.f k2 y115).bind fun bt118 => ((netwrightlaw01_copied.f l0).bind fun t120 => (if t120.length < 140737488355328 then ((logic_Resolve.f k2 (t120 ++ [2])).bind fun bt126 => ((netwrightlaw01_copied.f l0).bind fun t128 => (if t128.length < 140737488355328 then ((logic_Resolve.f k2 (t128 ++ [a1])).bind fun bt134 => ((logic_Resolve.f k2 (([a1, a1, a1] : List Int))).bind fun bt139 => (if t111 = 0 then (if bt118.2 = 0 then (if bt126.2 = 0 then (if bt134.2 = 0 then (netwrightlaw01_LogicDriven.j2 k2 a1 t110 bt118.1 bt126.1 bt134.1 bt139.1 (bt139.2 != 0)) else (netwrightlaw01_LogicDriven.j2 k2 a1 t110 bt118.1 bt126.1 bt134.1 bt139.1 true)) else (netwrightlaw01_LogicDriven.j2 k2 a1 t110 bt118.1 bt126.1 bt134.1 bt139.1 true)) else (netwrightlaw01_LogicDriven.j2 k2 a1 t110 bt118.1 bt126.1 bt134.1 bt139.1 true)) else (netwrightlaw01_LogicDriven.j2 k2 a1 t110 bt118.1 bt126.1 bt134.1 bt139.1 true)))) else (none)))) else (none)))) = some r := by first | (rw [hy115]; with_reducible exact H) | (have H2_ := (Option.bind_some _ _).symm.trans H; rw [hy115]; with_reducible exact H2_) | (have H2_ := (Option.bind_some _ _).symm.trans H; with_reducible exact H2_) | with_reducible exact H | (rw [hy115]; exact H) | exact H
                have Ny115 := Aside0.mk hy115
                clear hy115
                replace H := Option.bind_eq_some_iff.mp H
                obtain ⟨⟨t118, t119⟩, A210, H⟩ := H
                replace H : ((netwrightlaw01_copied.f l0).bind fun t120 => (if t120.length < 140737488355328 then ((logic_Resolve.f k2 (t120 ++ [2])).bind fun bt126 => ((netwrightlaw01_copied.f l0).bind fun t128 => (if t128.length < 140737488355328 then ((logic_Resolve.f k2 (t128 ++ [a1])).bind fun bt134 => ((logic_Resolve.f k2 (([a1, a1, a1] : List Int))).bind fun bt139 => (if t111 = 0 then (if t119 = 0 then (if bt126.2 = 0 then (if bt134.2 = 0 then (netwrightlaw01_LogicDriven.j2 k2 a1 t110 t118 bt126.1 bt134.1 bt139.1 (bt139.2 != 0)) else (netwrightlaw01_LogicDriven.j2 k2 a1 t110 t118 bt126.1 bt134.1 bt139.1 true)) else (netwrightlaw01_LogicDriven.j2 k2 a1 t110 t118 bt126.1 bt134.1 bt139.1 true)) else (netwrightlaw01_LogicDriven.j2 k2 a1 t110 t118 bt126.1 bt134.1 bt139.1 true)) else (netwrightlaw01_LogicDriven.j2 k2 a1 t110 t118 bt126.1 bt134.1 bt139.1 true)))) else (none)))) else (none))) = some r := H
                have A21 := Aside0.mk A210
                clear A210
                replace H := Option.bind_eq_some_iff.mp H
                obtain ⟨t120, A220, H⟩ := H
                replace H : (if t120.length < 140737488355328 then ((logic_Resolve.f k2 (t120 ++ [2])).bind fun bt126 => ((netwrightlaw01_copied.f l0).bind fun t128 => (if t128.length < 140737488355328 then ((logic_Resolve.f k2 (t128 ++ [a1])).bind fun bt134 => ((logic_Resolve.f k2 (([a1, a1, a1] : List Int))).bind fun bt139 => (if t111 = 0 then (if t119 = 0 then (if bt126.2 = 0 then (if bt134.2 = 0 then (netwrightlaw01_LogicDriven.j2 k2 a1 t110 t118 bt126.1 bt134.1 bt139.1 (bt139.2 != 0)) else (netwrightlaw01_LogicDriven.j2 k2 a1 t110 t118 bt126.1 bt134.1 bt139.1 true)) else (netwrightlaw01_LogicDriven.j2 k2 a1 t110 t118 bt126.1 bt134.1 bt139.1 true)) else (netwrightlaw01_LogicDriven.j2 k2 a1 t110 t118 bt126.1 bt134.1 bt139.1 true)) else (netwrightlaw01_LogicDriven.j2 k2 a1 t110 t118 bt126.1 bt134.1 bt139.1 true)))) else (none)))) else (none)) = some r := H
                have A22 := Aside0.mk A220
                clear A220
                by_cases c23 : t120.length < 140737488355328
                · rw [if_pos c23] at H
                  have LMc23 := Aside0.mk c23
                  clear c23
                  obtain ⟨y123, hy123⟩ : ∃ y_ : List Int, y_ = (t120 ++ [2]) := ⟨_, rfl⟩
                  replace H : ((logic_Resolve.f k2 y123).bind fun bt126 => ((netwrightlaw01_copied.f l0).bind fun t128 => (if t128.length < 140737488355328 then ((logic_Resolve.f k2 (t128 ++ [a1])).bind fun bt134 => ((logic_Resolve.f k2 (([a1, a1, a1] : List Int))).bind fun bt139 => (if t111 = 0 then (if t119 = 0 then (if bt126.2 = 0 then (if bt134.2 = 0 then (netwrightlaw01_LogicDriven.j2 k2 a1 t110 t118 bt126.1 bt134.1 bt139.1 (bt139.2 != 0)) else (netwrightlaw01_LogicDriven.j2 k2 a1 t110 t118 bt126.1 bt134.1 bt139.1 true)) else (netwrightlaw01_LogicDriven.j2 k2 a1 t110 t118 bt126.1 bt134.1 bt139.1 true)) else (netwrightlaw01_LogicDriven.j2 k2 a1 t110 t118 bt126.1 bt134.1 bt139.1 true)) else (netwrightlaw01_LogicDriven.j2 k2 a1 t110 t118 bt126.1 bt134.1 bt139.1 true)))) else (none)))) = some r := by first | (rw [hy123]; with_reducible exact H) | (have H2_ := (Option.bind_some _ _).symm.trans H; rw [hy123]; with_reducible exact H2_) | (have H2_ := (Option.bind_some _ _).symm.trans H; with_reducible exact H2_) | with_reducible exact H | (rw [hy123]; exact H) | exact H
                  have Ny123 := Aside0.mk hy123
                  clear hy123
                  replace H := Option.bind_eq_some_iff.mp H
                  obtain ⟨⟨t126, t127⟩, A240, H⟩ := H
                  replace H : ((netwrightlaw01_copied.f l0).bind fun t128 => (if t128.length < 140737488355328 then ((logic_Resolve.f k2 (t128 ++ [a1])).bind fun bt134 => ((logic_Resolve.f k2 (([a1, a1, a1] : List Int))).bind fun bt139 => (if t111 = 0 then (if t119 = 0 then (if t127 = 0 then (if bt134.2 = 0 then (netwrightlaw01_LogicDriven.j2 k2 a1 t110 t118 t126 bt134.1 bt139.1 (bt139.2 != 0)) else (netwrightlaw01_LogicDriven.j2 k2 a1 t110 t118 t126 bt134.1 bt139.1 true)) else (netwrightlaw01_LogicDriven.j2 k2 a1 t110 t118 t126 bt134.1 bt139.1 true)) else (netwrightlaw01_LogicDriven.j2 k2 a1 t110 t118 t126 bt134.1 bt139.1 true)) else (netwrightlaw01_LogicDriven.j2 k2 a1 t110 t118 t126 bt134.1 bt139.1 true)))) else (none))) = some r := H
                  have A24 := Aside0.mk A240
                  clear A240
                  replace H := Option.bind_eq_some_iff.mp H
                  obtain ⟨t128, A250, H⟩ := H
                  replace H : (if t128.length < 140737488355328 then ((logic_Resolve.f k2 (t128 ++ [a1])).bind fun bt134 => ((logic_Resolve.f k2 (([a1, a1, a1] : List Int))).bind fun bt139 => (if t111 = 0 then (if t119 = 0 then (if t127 = 0 then (if bt134.2 = 0 then (netwrightlaw01_LogicDriven.j2 k2 a1 t110 t118 t126 bt134.1 bt139.1 (bt139.2 != 0)) else (netwrightlaw01_LogicDriven.j2 k2 a1 t110 t118 t126 bt134.1 bt139.1 true)) else (netwrightlaw01_LogicDriven.j2 k2 a1 t110 t118 t126 bt134.1 bt139.1 true)) else (netwrightlaw01_LogicDriven.j2 k2 a1 t110 t118 t126 bt134.1 bt139.1 true)) else (netwrightlaw01_LogicDriven.j2 k2 a1 t110 t118 t126 bt134.1 bt139.1 true)))) else (none)) = some r := H
                  have A25 := Aside0.mk A250
                  clear A250
                  by_cases c26 : t128.length < 140737488355328
                  · rw [if_pos c26] at H
                    have LMc26 := Aside0.mk c26
                    clear c26
                    obtain ⟨y131, hy131⟩ : ∃ y_ : List Int, y_ = (t128 ++ [a1]) := ⟨_, rfl⟩
                    replace H : ((logic_Resolve.f k2 y131).bind fun bt134 => ((logic_Resolve.f k2 (([a1, a1, a1] : List Int))).bind fun bt139 => (if t111 = 0 then (if t119 = 0 then (if t127 = 0 then (if bt134.2 = 0 then (netwrightlaw01_LogicDriven.j2 k2 a1 t110 t118 t126 bt134.1 bt139.1 (bt139.2 != 0)) else (netwrightlaw01_LogicDriven.j2 k2 a1 t110 t118 t126 bt134.1 bt139.1 true)) else (netwrightlaw01_LogicDriven.j2 k2 a1 t110 t118 t126 bt134.1 bt139.1 true)) else (netwrightlaw01_LogicDriven.j2 k2 a1 t110 t118 t126 bt134.1 bt139.1 true)) else (netwrightlaw01_LogicDriven.j2 k2 a1 t110 t118 t126 bt134.1 bt139.1 true)))) = some r := by first | (rw [hy131]; with_reducible exact H) | (have H2_ := (Option.bind_some _ _).symm.trans H; rw [hy131]; with_reducible exact H2_) | (have H2_ := (Option.bind_some _ _).symm.trans H; with_reducible exact H2_) | with_reducible exact H | (rw [hy131]; exact H) | exact H
                    have Ny131 := Aside0.mk hy131
                    clear hy131
                    replace H := Option.bind_eq_some_iff.mp H
                    obtain ⟨⟨t134, t135⟩, A270, H⟩ := H
                    replace H : ((logic_Resolve.f k2 (([a1, a1, a1] : List Int))).bind fun bt139 => (if t111 = 0 then (if t119 = 0 then (if t127 = 0 then (if t135 = 0 then (netwrightlaw01_LogicDriven.j2 k2 a1 t110 t118 t126 t134 bt139.1 (bt139.2 != 0)) else (netwrightlaw01_LogicDriven.j2 k2 a1 t110 t118 t126 t134 bt139.1 true)) else (netwrightlaw01_LogicDriven.j2 k2 a1 t110 t118 t126 t134 bt139.1 true)) else (netwrightlaw01_LogicDriven.j2 k2 a1 t110 t118 t126 t134 bt139.1 true)) else (netwrightlaw01_LogicDriven.j2 k2 a1 t110 t118 t126 t134 bt139.1 true))) = some r := H
                    have A27 := Aside0.mk A270
                    clear A270
                    obtain ⟨y136, hy136⟩ : ∃ y_ : List Int, y_ = (([a1, a1, a1] : List Int)) := ⟨_, rfl⟩
                    replace H : ((logic_Resolve.f k2 y136).bind fun bt139 => (if t111 = 0 then (if t119 = 0 then (if t127 = 0 then (if t135 = 0 then (netwrightlaw01_LogicDriven.j2 k2 a1 t110 t118 t126 t134 bt139.1 (bt139.2 != 0)) else (netwrightlaw01_LogicDriven.j2 k2 a1 t110 t118 t126 t134 bt139.1 true)) else (netwrightlaw01_LogicDriven.j2 k2 a1 t110 t118 t126 t134 bt139.1 true)) else (netwrightlaw01_LogicDriven.j2 k2 a1 t110 t118 t126 t134 bt139.1 true)) else (netwrightlaw01_LogicDriven.j2 k2 a1 t110 t118 t126 t134 bt139.1 true))) = some r := by first | (rw [hy136]; with_reducible exact H) | (have H2_ := (Option.bind_some _ _).symm.trans H; rw [hy136]; with_reducible exact H2_) | (have H2_ := (Option.bind_some _ _).symm.trans H; with_reducible exact H2_) | with_reducible exact H | (rw [hy136]; exact H) | exact H
                    have Ny136 := Aside0.mk hy136
                    clear hy136
                    replace H := Option.bind_eq_some_iff.mp H
                    obtain ⟨⟨t139, t140⟩, A280, H⟩ := H
                    replace H : (if t111 = 0 then (if t119 = 0 then (if t127 = 0 then (if t135 = 0 then (netwrightlaw01_LogicDriven.j2 k2 a1 t110 t118 t126 t134 t139 (t140 != 0)) else (netwrightlaw01_LogicDriven.j2 k2 a1 t110 t118 t126 t134 t139 true)) else (netwrightlaw01_LogicDriven.j2 k2 a1 t110 t118 t126 t134 t139 true)) else (netwrightlaw01_LogicDriven.j2 k2 a1 t110 t118 t126 t134 t139 true)) else (netwrightlaw01_LogicDriven.j2 k2 a1 t110 t118 t126 t134 t139 true)) = some r := H
                    have A28 := Aside0.mk A280
                    clear A280
                    have HC29 := Aside0.mk H
                    clear H
                    go_upto_region 14 with (first | ((with_reducible refine gate_callee (f := 21) rfl ?_); refine goesL_ (some 38) rfl rfl Try.func21 (by kernel_rfl) rfl #[.slice A0 l0.length c0] rfl (by (try simp only [List.map_toArray, List.map_cons, List.map_nil]); first | done | rfl | (simp only [List.length_drop, List.length_take]; rfl)) ?_; (with_reducible refine (netwrightlaw01_copied.calls _ _ l0 t107 _ ?side1 ?side2 A17.out).mono ?_); (case side1 => repeat (first | exact (Kd.C_below HR0.out HB.out) | (with_reducible refine Kd.C_alloc ?_ _) | (with_reducible refine Kd.C_drewN ?_ _) | (with_reducible refine Kd.C_drew ?_))); (case side2 => exact HC0.out); rintro e w30 ⟨v108, rfl, ho0, hb⟩; refine ⟨_, rfl, ?_⟩; have n0_ := Aside0.mk (Kd.R_lower ho0 (below_size (by repeat (first | (with_reducible first | exact HB.out | apply below_alloc | apply pw_below_drewN | apply below_drew1) | exact HB.out)))); have n1_ := Aside0.mk (below_step (by repeat (first | (with_reducible first | exact HB.out | apply below_alloc | apply pw_below_drewN | apply below_drew1) | exact HB.out)) hb); clear HB; have HO109 := n0_; have HB := n1_; clear n0_ n1_; (try clear hb); (try clear hb2); (try clear hk); (try clear hi); (try clear ho0); obtain ⟨Ao31, co31, eo31⟩ := Kd.R_slice HO109.out; subst eo31) | ((with_reducible refine gate_callee (f := 22) rfl ?_); refine goesL_ (some 39) rfl rfl Try.func22 (by kernel_rfl) rfl #[.slice Ao31 t107.length co31] rfl (by (try simp only [List.map_toArray, List.map_cons, List.map_nil]); first | done | rfl | (simp only [List.length_drop, List.length_take]; rfl)) ?_; (with_reducible refine (logic_Resolve.calls k2 _ _ t107 t110 t111 _ ?side1 ?side2 A18.out).mono ?_); (case side1 => repeat (first | exact (Kd.R_reads' HO109.out).2.2 | (with_reducible refine Kd.C_alloc ?_ _) | (with_reducible refine Kd.C_drewN ?_ _) | (with_reducible refine Kd.C_drew ?_))); (case side2 => exact (Kd.R_reads' HO109.out).2.1); rintro e w' ⟨rfl, ⟨nd, rfl⟩⟩; refine ⟨_, rfl, ?_⟩) | ((with_reducible refine gate_callee (f := 21) rfl ?_); refine goesL_ (some 44) rfl rfl Try.func21 (by kernel_rfl) rfl #[.slice A0 l0.length c0] rfl (by (try simp only [List.map_toArray, List.map_cons, List.map_nil]); first | done | rfl | (simp only [List.length_drop, List.length_take]; rfl)) ?_; (with_reducible refine (netwrightlaw01_copied.calls _ _ l0 t112 _ ?side1 ?side2 A19.out).mono ?_); (case side1 => repeat (first | exact (Kd.C_below HR0.out (by repeat (first | (with_reducible first | exact HB.out | apply below_alloc | apply pw_below_drewN | apply below_drew1) | exact HB.out))) | (with_reducible refine Kd.C_alloc ?_ _) | (with_reducible refine Kd.C_drewN ?_ _) | (with_reducible refine Kd.C_drew ?_))); (case side2 => exact HC0.out); rintro e w32 ⟨v113, rfl, ho0, hb⟩; refine ⟨_, rfl, ?_⟩; have n0_ := Aside0.mk (Kd.R_elder' (by (with_reducible repeat (first | apply Kd.R_alloc | apply Kd.R_drewN | apply Kd.R_drew)); exact HO109.out) (Kd.R_base ho0) hb); have n1_ := Aside0.mk (Kd.R_lower (Kd.R_new' ho0 (Kd.R_lt (by (with_reducible repeat (first | apply Kd.R_alloc | apply Kd.R_drewN | apply Kd.R_drew)); exact HO109.out))) (below_size (by repeat (first | (with_reducible first | exact HB.out | apply below_alloc | apply pw_below_drewN | apply below_drew1) | exact HB.out)))); have n2_ := Aside0.mk (below_step (by repeat (first | (with_reducible first | exact HB.out | apply below_alloc | apply pw_below_drewN | apply below_drew1) | exact HB.out)) hb); clear HO109; clear HB; have HO109 := n0_; have HO114 := n1_; have HB := n2_; clear n0_ n1_ n2_; (try clear hb); (try clear hb2); (try clear hk); (try clear hi); (try clear ho0)) | ((with_reducible refine gate_builtin (b := .append) (xs := #[.tmp 44, .tmp 45]) rfl ?_); at_builtin; refine Kd.R_append (Kd.int .u8) (w0 := w) w.heap.size rfl (.tmp 44) (.tmp 45) 31 22 (.int .u8 0) 1 rfl Try.underlying31 info22 rfl (by decide) (by omega) v113 t112 3 [.int .u8 3] (fun k_ => some k_ ≠ (.slice Ao31 t107.length co31 : Value).ownBlock) (fun _ => False) rfl rfl ?aP (fun _ hk => hk.elim) ?aF ?aO ?aB ?aS ?aL ?_; (case aP => exact rfl); (case aB => exact (by repeat (first | (with_reducible first | exact HB.out | apply below_alloc | apply pw_below_drewN | apply below_drew1) | exact HB.out))); (case aF => exact (fun k_ hk => Kd.fresh' (Kd.R_lt (by (with_reducible repeat (first | apply Kd.R_alloc | apply Kd.R_drewN | apply Kd.R_drew)); exact HO109.out)) k_ hk)); (case aO => exact (by (with_reducible repeat (first | apply Kd.R_alloc | apply Kd.R_drewN | apply Kd.R_drew)); exact Kd.R_mono HO114.out (fun _ hk => hk.2))); (case aS => exact (below_size (by repeat (first | (with_reducible first | exact HB.out | apply below_alloc | apply pw_below_drewN | apply below_drew1) | exact HB.out)))); (case aL => have := LMc20.out; omega); intro v116 w33 ho hb hg hat; rw [← Ny115.out] at ho; have n0_ := Aside0.mk (Kd.R_after (ok := (fun _ => True)) (by (with_reducible repeat (first | apply Kd.R_alloc | apply Kd.R_drewN | apply Kd.R_drew)); exact HO109.out) hg hat); have n1_ := Aside0.mk (hb); have n2_ := Aside0.mk (ho); clear HO109; clear HB; clear HO114; have HO109 := n0_; have HB := n1_; have HO117 := n2_; clear n0_ n1_ n2_; clear ho hb hg hat; obtain ⟨Ao34, co34, eo34⟩ := Kd.R_slice HO117.out; subst eo34) | ((with_reducible refine gate_callee (f := 22) rfl ?_); refine goesL_ (some 47) rfl rfl Try.func22 (by kernel_rfl) rfl #[.slice Ao34 y115.length co34] rfl (by (try simp only [List.map_toArray, List.map_cons, List.map_nil]); first | done | rfl | (simp only [List.length_drop, List.length_take]; rfl)) ?_; (with_reducible refine (logic_Resolve.calls k2 _ _ y115 t118 t119 _ ?side1 ?side2 A21.out).mono ?_); (case side1 => repeat (first | exact (Kd.R_reads' HO117.out).2.2 | (with_reducible refine Kd.C_alloc ?_ _) | (with_reducible refine Kd.C_drewN ?_ _) | (with_reducible refine Kd.C_drew ?_))); (case side2 => exact (Kd.R_reads' HO117.out).2.1); rintro e w' ⟨rfl, ⟨nd, rfl⟩⟩; refine ⟨_, rfl, ?_⟩) | ((with_reducible refine gate_callee (f := 21) rfl ?_); refine goesL_ (some 52) rfl rfl Try.func21 (by kernel_rfl) rfl #[.slice A0 l0.length c0] rfl (by (try simp only [List.map_toArray, List.map_cons, List.map_nil]); first | done | rfl | (simp only [List.length_drop, List.length_take]; rfl)) ?_; (with_reducible refine (netwrightlaw01_copied.calls _ _ l0 t120 _ ?side1 ?side2 A22.out).mono ?_); (case side1 => repeat (first | exact (Kd.C_below HR0.out (by repeat (first | (with_reducible first | exact HB.out | apply below_alloc | apply pw_below_drewN | apply below_drew1) | exact HB.out))) | (with_reducible refine Kd.C_alloc ?_ _) | (with_reducible refine Kd.C_drewN ?_ _) | (with_reducible refine Kd.C_drew ?_))); (case side2 => exact HC0.out); rintro e w35 ⟨v121, rfl, ho0, hb⟩; refine ⟨_, rfl, ?_⟩; have n0_ := Aside0.mk (Kd.R_elder' (by (with_reducible repeat (first | apply Kd.R_alloc | apply Kd.R_drewN | apply Kd.R_drew)); exact HO109.out) (Kd.R_base ho0) hb); have n1_ := Aside0.mk (Kd.R_elder' (by (with_reducible repeat (first | apply Kd.R_alloc | apply Kd.R_drewN | apply Kd.R_drew)); exact HO117.out) (Kd.R_base ho0) hb); have n2_ := Aside0.mk (Kd.R_lower (Kd.R_new' (Kd.R_new' ho0 (Kd.R_lt (by (with_reducible repeat (first | apply Kd.R_alloc | apply Kd.R_drewN | apply Kd.R_drew)); exact HO109.out))) (Kd.R_lt (by (with_reducible repeat (first | apply Kd.R_alloc | apply Kd.R_drewN | apply Kd.R_drew)); exact HO117.out))) (below_size (by repeat (first | (with_reducible first | exact HB.out | apply below_alloc | apply pw_below_drewN | apply below_drew1) | exact HB.out)))); have n3_ := Aside0.mk (below_step (by repeat (first | (with_reducible first | exact HB.out | apply below_alloc | apply pw_below_drewN | apply below_drew1) | exact HB.out)) hb); clear HO109; clear HO117; clear HB; have HO109 := n0_; have HO117 := n1_; have HO122 := n2_; have HB := n3_; clear n0_ n1_ n2_ n3_; (try clear hb); (try clear hb2); (try clear hk); (try clear hi); (try clear ho0)) | ((with_reducible refine gate_builtin (b := .append) (xs := #[.tmp 52, .tmp 53]) rfl ?_); at_builtin; refine Kd.R_append (Kd.int .u8) (w0 := w) w.heap.size rfl (.tmp 52) (.tmp 53) 31 22 (.int .u8 0) 1 rfl Try.underlying31 info22 rfl (by decide) (by omega) v121 t120 2 [.int .u8 2] (fun k_ => some k_ ≠ (.slice Ao31 t107.length co31 : Value).ownBlock ∧ some k_ ≠ (.slice Ao34 y115.length co34 : Value).ownBlock) (fun _ => False) rfl rfl ?aP (fun _ hk => hk.elim) ?aF ?aO ?aB ?aS ?aL ?_; (case aP => exact rfl); (case aB => exact (by repeat (first | (with_reducible first | exact HB.out | apply below_alloc | apply pw_below_drewN | apply below_drew1) | exact HB.out))); (case aF => exact (fun k_ hk => ⟨Kd.fresh' (Kd.R_lt (by (with_reducible repeat (first | apply Kd.R_alloc | apply Kd.R_drewN | apply Kd.R_drew)); exact HO109.out)) k_ hk, Kd.fresh' (Kd.R_lt (by (with_reducible repeat (first | apply Kd.R_alloc | apply Kd.R_drewN | apply Kd.R_drew)); exact HO117.out)) k_ hk⟩)); (case aO => exact (by (with_reducible repeat (first | apply Kd.R_alloc | apply Kd.R_drewN | apply Kd.R_drew)); exact Kd.R_mono HO122.out (fun _ hk => ⟨hk.1.2, hk.2⟩))); (case aS => exact (below_size (by repeat (first | (with_reducible first | exact HB.out | apply below_alloc | apply pw_below_drewN | apply below_drew1) | exact HB.out)))); (case aL => have := LMc23.out; omega); intro v124 w36 ho hb hg hat; rw [← Ny123.out] at ho; have n0_ := Aside0.mk (Kd.R_after (ok := (fun k_ => some k_ ≠ (.slice Ao34 y115.length co34 : Value).ownBlock)) (by (with_reducible repeat (first | apply Kd.R_alloc | apply Kd.R_drewN | apply Kd.R_drew)); exact Kd.R_mono HO109.out (fun _ hk => ⟨hk.1.2, hk.2⟩)) hg hat); have n1_ := Aside0.mk (Kd.R_after (ok := (fun k_ => some k_ ≠ (.slice Ao31 t107.length co31 : Value).ownBlock)) (by (with_reducible repeat (first | apply Kd.R_alloc | apply Kd.R_drewN | apply Kd.R_drew)); exact HO117.out) hg hat); have n2_ := Aside0.mk (hb); have n3_ := Aside0.mk (ho); clear HO109; clear HO117; clear HB; clear HO122; have HO109 := n0_; have HO117 := n1_; have HB := n2_; have HO125 := n3_; clear n0_ n1_ n2_ n3_; clear ho hb hg hat; obtain ⟨Ao37, co37, eo37⟩ := Kd.R_slice HO125.out; subst eo37) | ((with_reducible refine gate_callee (f := 22) rfl ?_); refine goesL_ (some 55) rfl rfl Try.func22 (by kernel_rfl) rfl #[.slice Ao37 y123.length co37] rfl (by (try simp only [List.map_toArray, List.map_cons, List.map_nil]); first | done | rfl | (simp only [List.length_drop, List.length_take]; rfl)) ?_; (with_reducible refine (logic_Resolve.calls k2 _ _ y123 t126 t127 _ ?side1 ?side2 A24.out).mono ?_); (case side1 => repeat (first | exact (Kd.R_reads' HO125.out).2.2 | (with_reducible refine Kd.C_alloc ?_ _) | (with_reducible refine Kd.C_drewN ?_ _) | (with_reducible refine Kd.C_drew ?_))); (case side2 => exact (Kd.R_reads' HO125.out).2.1); rintro e w' ⟨rfl, ⟨nd, rfl⟩⟩; refine ⟨_, rfl, ?_⟩) | ((with_reducible refine gate_callee (f := 21) rfl ?_); refine goesL_ (some 60) rfl rfl Try.func21 (by kernel_rfl) rfl #[.slice A0 l0.length c0] rfl (by (try simp only [List.map_toArray, List.map_cons, List.map_nil]); first | done | rfl | (simp only [List.length_drop, List.length_take]; rfl)) ?_; (with_reducible refine (netwrightlaw01_copied.calls _ _ l0 t128 _ ?side1 ?side2 A25.out).mono ?_); (case side1 => repeat (first | exact (Kd.C_below HR0.out (by repeat (first | (with_reducible first | exact HB.out | apply below_alloc | apply pw_below_drewN | apply below_drew1) | exact HB.out))) | (with_reducible refine Kd.C_alloc ?_ _) | (with_reducible refine Kd.C_drewN ?_ _) | (with_reducible refine Kd.C_drew ?_))); (case side2 => exact HC0.out); rintro e w38 ⟨v129, rfl, ho0, hb⟩; refine ⟨_, rfl, ?_⟩; have n0_ := Aside0.mk (Kd.R_elder' (by (with_reducible repeat (first | apply Kd.R_alloc | apply Kd.R_drewN | apply Kd.R_drew)); exact HO109.out) (Kd.R_base ho0) hb); have n1_ := Aside0.mk (Kd.R_elder' (by (with_reducible repeat (first | apply Kd.R_alloc | apply Kd.R_drewN | apply Kd.R_drew)); exact HO117.out) (Kd.R_base ho0) hb); have n2_ := Aside0.mk (Kd.R_elder' (by (with_reducible repeat (first | apply Kd.R_alloc | apply Kd.R_drewN | apply Kd.R_drew)); exact HO125.out) (Kd.R_base ho0) hb); have n3_ := Aside0.mk (Kd.R_lower (Kd.R_new' (Kd.R_new' (Kd.R_new' ho0 (Kd.R_lt (by (with_reducible repeat (first | apply Kd.R_alloc | apply Kd.R_drewN | apply Kd.R_drew)); exact HO109.out))) (Kd.R_lt (by (with_reducible repeat (first | apply Kd.R_alloc | apply Kd.R_drewN | apply Kd.R_drew)); exact HO117.out))) (Kd.R_lt (by (with_reducible repeat (first | apply Kd.R_alloc | apply Kd.R_drewN | apply Kd.R_drew)); exact HO125.out))) (below_size (by repeat (first | (with_reducible first | exact HB.out | apply below_alloc | apply pw_below_drewN | apply below_drew1) | exact HB.out)))); have n4_ := Aside0.mk (below_step (by repeat (first | (with_reducible first | exact HB.out | apply below_alloc | apply pw_below_drewN | apply below_drew1) | exact HB.out)) hb); clear HO109; clear HO117; clear HO125; clear HB; have HO109 := n0_; have HO117 := n1_; have HO125 := n2_; have HO130 := n3_; have HB := n4_; clear n0_ n1_ n2_ n3_ n4_; (try clear hb); (try clear hb2); (try clear hk); (try clear hi); (try clear ho0)) | ((with_reducible refine gate_builtin (b := .append) (xs := #[.tmp 60, .tmp 62]) rfl ?_); at_builtin; refine Kd.R_append (Kd.int .u8) (w0 := w) w.heap.size rfl (.tmp 60) (.tmp 62) 31 22 (.int .u8 0) 1 rfl Try.underlying31 info22 rfl (by decide) (by omega) v129 t128 a1 [.int .u8 a1] (fun k_ => some k_ ≠ (.slice Ao31 t107.length co31 : Value).ownBlock ∧ some k_ ≠ (.slice Ao34 y115.length co34 : Value).ownBlock ∧ some k_ ≠ (.slice Ao37 y123.length co37 : Value).ownBlock) (fun _ => False) rfl rfl ?aP (fun _ hk => hk.elim) ?aF ?aO ?aB ?aS ?aL ?_; (case aP => exact rfl); (case aB => exact (by repeat (first | (with_reducible first | exact HB.out | apply below_alloc | apply pw_below_drewN | apply below_drew1) | exact HB.out))); (case aF => exact (fun k_ hk => ⟨Kd.fresh' (Kd.R_lt (by (with_reducible repeat (first | apply Kd.R_alloc | apply Kd.R_drewN | apply Kd.R_drew)); exact HO109.out)) k_ hk, Kd.fresh' (Kd.R_lt (by (with_reducible repeat (first | apply Kd.R_alloc | apply Kd.R_drewN | apply Kd.R_drew)); exact HO117.out)) k_ hk, Kd.fresh' (Kd.R_lt (by (with_reducible repeat (first | apply Kd.R_alloc | apply Kd.R_drewN | apply Kd.R_drew)); exact HO125.out)) k_ hk⟩)); (case aO => exact (by (with_reducible repeat (first | apply Kd.R_alloc | apply Kd.R_drewN | apply Kd.R_drew)); exact Kd.R_mono HO130.out (fun _ hk => ⟨hk.1.1.2, ⟨hk.1.2, hk.2⟩⟩))); (case aS => exact (below_size (by repeat (first | (with_reducible first | exact HB.out | apply below_alloc | apply pw_below_drewN | apply below_drew1) | exact HB.out)))); (case aL => have := LMc26.out; omega); intro v132 w39 ho hb hg hat; rw [← Ny131.out] at ho; have n0_ := Aside0.mk (Kd.R_after (ok := (fun k_ => some k_ ≠ (.slice Ao34 y115.length co34 : Value).ownBlock ∧ some k_ ≠ (.slice Ao37 y123.length co37 : Value).ownBlock)) (by (with_reducible repeat (first | apply Kd.R_alloc | apply Kd.R_drewN | apply Kd.R_drew)); exact HO109.out) hg hat); have n1_ := Aside0.mk (Kd.R_after (ok := (fun k_ => some k_ ≠ (.slice Ao31 t107.length co31 : Value).ownBlock ∧ some k_ ≠ (.slice Ao37 y123.length co37 : Value).ownBlock)) (by (with_reducible repeat (first | apply Kd.R_alloc | apply Kd.R_drewN | apply Kd.R_drew)); exact HO117.out) hg hat); have n2_ := Aside0.mk (Kd.R_after (ok := (fun k_ => some k_ ≠ (.slice Ao31 t107.length co31 : Value).ownBlock ∧ some k_ ≠ (.slice Ao34 y115.length co34 : Value).ownBlock)) (by (with_reducible repeat (first | apply Kd.R_alloc | apply Kd.R_drewN | apply Kd.R_drew)); exact HO125.out) hg hat); have n3_ := Aside0.mk (hb); have n4_ := Aside0.mk (ho); clear HO109; clear HO117; clear HO125; clear HB; clear HO130; have HO109 := n0_; have HO117 := n1_; have HO125 := n2_; have HB := n3_; have HO133 := n4_; clear n0_ n1_ n2_ n3_ n4_; clear ho hb hg hat; obtain ⟨Ao40, co40, eo40⟩ := Kd.R_slice HO133.out; subst eo40) | ((with_reducible refine gate_callee (f := 22) rfl ?_); refine goesL_ (some 64) rfl rfl Try.func22 (by kernel_rfl) rfl #[.slice Ao40 y131.length co40] rfl (by (try simp only [List.map_toArray, List.map_cons, List.map_nil]); first | done | rfl | (simp only [List.length_drop, List.length_take]; rfl)) ?_; (with_reducible refine (logic_Resolve.calls k2 _ _ y131 t134 t135 _ ?side1 ?side2 A27.out).mono ?_); (case side1 => repeat (first | exact (Kd.R_reads' HO133.out).2.2 | (with_reducible refine Kd.C_alloc ?_ _) | (with_reducible refine Kd.C_drewN ?_ _) | (with_reducible refine Kd.C_drew ?_))); (case side2 => exact (Kd.R_reads' HO133.out).2.1); rintro e w' ⟨rfl, ⟨nd, rfl⟩⟩; refine ⟨_, rfl, ?_⟩) | ((with_reducible refine gate_dst (N := 71) rfl ?_); refine Kd.R_lit (Kd.int .u8) _ 22 ?hg (N := 71) ?hd (xs := ([a1, a1, a1] : List Int)) (inner := [.int .u8 a1, .int .u8 a1, .int .u8 a1]) (ok := fun _ => True) (okp := fun _ => True) ?hr ?hp (fun _ hk => hk) trivial (Below.refl _ _) (Nat.le_refl _) (by simp) ?_; (case hd => rfl); (case hg => rfl); (case hr => first | (go_simp; done) | (go_simp; rfl)); (case hp => exact (Reps.one (show Kd.M (Kd.int .u8) _ _ _ a1 [.int .u8 a1] from rfl) (Reps.one (show Kd.M (Kd.int .u8) _ _ _ a1 [.int .u8 a1] from rfl) (Reps.one (show Kd.M (Kd.int .u8) _ _ _ a1 [.int .u8 a1] from rfl) (Reps.none _ _))))); intro v137 w41 ho42 hb hg_ hnew_; clear hg_ hnew_; (first | rw [← Ny136.out] at ho42 | (simp only [Int.reduceToNat] at ho42; rw [← Ny136.out] at ho42)); have n0_ := Aside0.mk (Kd.R_elder' (by (with_reducible repeat (first | apply Kd.R_alloc | apply Kd.R_drewN | apply Kd.R_drew)); exact HO109.out) (Kd.R_base ho42) hb); have n1_ := Aside0.mk (Kd.R_elder' (by (with_reducible repeat (first | apply Kd.R_alloc | apply Kd.R_drewN | apply Kd.R_drew)); exact HO117.out) (Kd.R_base ho42) hb); have n2_ := Aside0.mk (Kd.R_elder' (by (with_reducible repeat (first | apply Kd.R_alloc | apply Kd.R_drewN | apply Kd.R_drew)); exact HO125.out) (Kd.R_base ho42) hb); have n3_ := Aside0.mk (Kd.R_elder' (by (with_reducible repeat (first | apply Kd.R_alloc | apply Kd.R_drewN | apply Kd.R_drew)); exact HO133.out) (Kd.R_base ho42) hb); have n4_ := Aside0.mk (Kd.R_lower (Kd.R_new' (Kd.R_new' (Kd.R_new' (Kd.R_new' ho42 (Kd.R_lt (by (with_reducible repeat (first | apply Kd.R_alloc | apply Kd.R_drewN | apply Kd.R_drew)); exact HO109.out))) (Kd.R_lt (by (with_reducible repeat (first | apply Kd.R_alloc | apply Kd.R_drewN | apply Kd.R_drew)); exact HO117.out))) (Kd.R_lt (by (with_reducible repeat (first | apply Kd.R_alloc | apply Kd.R_drewN | apply Kd.R_drew)); exact HO125.out))) (Kd.R_lt (by (with_reducible repeat (first | apply Kd.R_alloc | apply Kd.R_drewN | apply Kd.R_drew)); exact HO133.out))) (below_size (by repeat (first | (with_reducible first | exact HB.out | apply below_alloc | apply pw_below_drewN | apply below_drew1) | exact HB.out)))); have n5_ := Aside0.mk (below_step (by repeat (first | (with_reducible first | exact HB.out | apply below_alloc | apply pw_below_drewN | apply below_drew1) | exact HB.out)) hb); clear HO109; clear HO117; clear HO125; clear HO133; clear HB; have HO109 := n0_; have HO117 := n1_; have HO125 := n2_; have HO133 := n3_; have HO138 := n4_; have HB := n5_; clear n0_ n1_ n2_ n3_ n4_ n5_; clear hb ho42; obtain ⟨Ao43, co43, eo43⟩ := Kd.R_slice HO138.out; subst eo43) | ((with_reducible refine gate_callee (f := 22) rfl ?_); refine goesL_ (some 72) rfl rfl Try.func22 (by kernel_rfl) rfl #[.slice Ao43 y136.length co43] rfl (by (try simp only [List.map_toArray, List.map_cons, List.map_nil]); first | done | rfl | (simp only [List.length_drop, List.length_take]; rfl)) ?_; (with_reducible refine (logic_Resolve.calls k2 _ _ y136 t139 t140 _ ?side1 ?side2 A28.out).mono ?_); (case side1 => repeat (first | exact (Kd.R_reads' HO138.out).2.2 | (with_reducible refine Kd.C_alloc ?_ _) | (with_reducible refine Kd.C_drewN ?_ _) | (with_reducible refine Kd.C_drew ?_))); (case side2 => exact (Kd.R_reads' HO138.out).2.1); rintro e w' ⟨rfl, ⟨nd, rfl⟩⟩; refine ⟨_, rfl, ?_⟩))
                    (try simp only [Act.put, List.setIfInBounds_toArray, List.set_cons_zero, List.set_cons_succ])
                    go_cut [92] (fun v92 wc => ∃ (kq : Nat) (x92_28 : Bool), v92 = .bool x92_28 ∧ Aside0 (netwrightlaw01_LogicDriven.j2 kq a1 t110 t118 t126 t134 t139 x92_28 = some r) ∧ Aside0 (kq ≤ k2) ∧ Aside0 (Below w.heap.size w wc))
                    case first =>
                      have H := HC29.out
                      clear HC29
                      by_cases c44 : t111 = 0
                      · rw [if_pos c44] at H
                        have c44b0 : (t111 == 0) = true := beq_iff_eq.mpr c44
                        have c44b1 : (t111 != 0) = false := bne_eq_false_iff_eq.mpr c44
                        clear c44
                        (first | rw [c44b0] | (simp only [i64_w, i32_w]; rw [c44b0]) | skip)
                        by_cases c45 : t119 = 0
                        · rw [if_pos c45] at H
                          have c45b0 : (t119 == 0) = true := beq_iff_eq.mpr c45
                          have c45b1 : (t119 != 0) = false := bne_eq_false_iff_eq.mpr c45
                          clear c45
                          by_cases c46 : t127 = 0
                          · rw [if_pos c46] at H
                            have c46b0 : (t127 == 0) = true := beq_iff_eq.mpr c46
                            have c46b1 : (t127 != 0) = false := bne_eq_false_iff_eq.mpr c46
                            clear c46
                            by_cases c47 : t135 = 0
                            · rw [if_pos c47] at H
                              have c47b0 : (t135 == 0) = true := beq_iff_eq.mpr c47
                              have c47b1 : (t135 != 0) = false := bne_eq_false_iff_eq.mpr c47
                              clear c47
                              have H' := Aside0.mk H
                              clear H
                              go_wp2
                              go_meet
                              case rel => exact ⟨_, ((t140 != 0)), (by first | rfl | (simp; done) | (simp [*]; done)), H', ⟨by have := HJ2.out; have := HK2.out; first | omega | exact Nat.le_refl _⟩, ⟨by repeat (first | (with_reducible first | exact HB.out | apply below_alloc | apply pw_below_drewN | apply below_drew1) | exact HB.out)⟩⟩
                            · rw [if_neg c47] at H
                              have c47b0 : (t135 == 0) = false := beq_eq_false_iff_ne.mpr c47
                              have c47b1 : (t135 != 0) = true := bne_iff_ne.mpr c47
                              have H' := Aside0.mk H
                              clear H
                              go_wp2
                              go_meet
                              case rel => exact ⟨_, (true), (by first | rfl | (simp; done) | (simp [*]; done)), H', ⟨by have := HJ2.out; have := HK2.out; first | omega | exact Nat.le_refl _⟩, ⟨by repeat (first | (with_reducible first | exact HB.out | apply below_alloc | apply pw_below_drewN | apply below_drew1) | exact HB.out)⟩⟩
                          · rw [if_neg c46] at H
                            have c46b0 : (t127 == 0) = false := beq_eq_false_iff_ne.mpr c46
                            have c46b1 : (t127 != 0) = true := bne_iff_ne.mpr c46
                            have H' := Aside0.mk H
                            clear H
                            go_wp2
                            go_meet
                            case rel => exact ⟨_, (true), (by first | rfl | (simp; done) | (simp [*]; done)), H', ⟨by have := HJ2.out; have := HK2.out; first | omega | exact Nat.le_refl _⟩, ⟨by repeat (first | (with_reducible first | exact HB.out | apply below_alloc | apply pw_below_drewN | apply below_drew1) | exact HB.out)⟩⟩
                        · rw [if_neg c45] at H
                          have c45b0 : (t119 == 0) = false := beq_eq_false_iff_ne.mpr c45
                          have c45b1 : (t119 != 0) = true := bne_iff_ne.mpr c45
                          have H' := Aside0.mk H
                          clear H
                          go_wp2
                          go_meet
                          case rel => exact ⟨_, (true), (by first | rfl | (simp; done) | (simp [*]; done)), H', ⟨by have := HJ2.out; have := HK2.out; first | omega | exact Nat.le_refl _⟩, ⟨by repeat (first | (with_reducible first | exact HB.out | apply below_alloc | apply pw_below_drewN | apply below_drew1) | exact HB.out)⟩⟩
                      · rw [if_neg c44] at H
                        have c44b0 : (t111 == 0) = false := beq_eq_false_iff_ne.mpr c44
                        have c44b1 : (t111 != 0) = true := bne_iff_ne.mpr c44
                        (first | rw [c44b0] | (simp only [i64_w, i32_w]; rw [c44b0]) | skip)
                        have H' := Aside0.mk H
                        clear H
                        go_wp2
                        go_meet
                        case rel => exact ⟨_, (true), (by first | rfl | (simp; done) | (simp [*]; done)), H', ⟨by have := HJ2.out; have := HK2.out; first | omega | exact Nat.le_refl _⟩, ⟨by repeat (first | (with_reducible first | exact HB.out | apply below_alloc | apply pw_below_drewN | apply below_drew1) | exact HB.out)⟩⟩
                    case rest =>
                      clear HC29
                      try clear c1
                      try clear p1
                      try clear q1
                      try clear hx1
                      try clear c2
                      try clear p2
                      try clear c4
                      try clear c5
                      try clear p6
                      try clear c7
                      try clear c9
                      try clear c10
                      try clear c10b0
                      try clear p10
                      try clear q10
                      try clear hx10
                      try clear c11
                      try clear c11b0
                      try clear c12
                      try clear c12b0
                      try clear c14
                      try clear c19
                      try clear c20
                      try clear c21
                      try clear c22
                      try clear c23
                      try clear c26
                      try clear c29
                      try clear c44
                      try clear c44b0
                      try clear c44b1
                      try clear c45
                      try clear c45b0
                      try clear c45b1
                      try clear c46
                      try clear c46b0
                      try clear c46b1
                      try clear c47
                      try clear c47b0
                      try clear c47b1
                      try clear hx104_0
                      try clear p104
                      try clear p2
                      try clear q104
                      obtain ⟨kq, x92_28, rfl, HA, HJ28, HB⟩ := hcut
                      cases kq with
                      | zero => exact absurd HA.out (by simp [netwrightlaw01_LogicDriven.j2])
                      | succ kj28 =>
                        have H := HA.out
                        clear HA
                        simp only [netwrightlaw01_LogicDriven.j2] at H
                        by_cases c48 : x92_28 = true
                        · subst c48
                          have H1 : (some false) = some r := by rw [if_pos rfl] at H; exact H
                          clear H
                          have H := H1
                          clear H1
                          obtain rfl := Option.some.inj H
                          go_wp2
                          go_ret
                          exact ⟨by first | rfl | (simp [errW_none, errW_some] <;> rfl) | (simp [*, errW_none, errW_some] <;> rfl), by repeat (first | (with_reducible first | exact HB.out | apply below_alloc | apply pw_below_drewN | apply below_drew1) | exact HB.out)⟩
                        · replace c48 := Bool.eq_false_iff.mpr c48
                          subst c48
                          have H1 : (if t110 = t118 then (if t126 = 2 then (if t139 = a1 then (if t134 = t110 then ((netwrightlaw01_awake.f kj28).bind fun t141 => (some t141)) else (if t134 = a1 then (if t110 = 3 then ((netwrightlaw01_awake.f kj28).bind fun t142 => (some t142)) else (if t134 = 2 then ((netwrightlaw01_awake.f kj28).bind fun t143 => (some t143)) else (some false))) else (if t134 = 2 then ((netwrightlaw01_awake.f kj28).bind fun t144 => (some t144)) else (some false)))) else (some false)) else (some false)) else (some false)) = some r := by rw [if_neg (show ¬ (false = true) by decide)] at H; exact H
                          clear H
                          have H := H1
                          clear H1
                          by_cases c49 : t110 = t118
                          · rw [if_pos c49] at H
                            have c49b0 : (t110 == t118) = true := beq_iff_eq.mpr c49
                            have c49b1 : (t110 != t118) = false := bne_eq_false_iff_eq.mpr c49
                            clear c49
                            by_cases c50 : t126 = 2
                            · rw [if_pos c50] at H
                              have c50b0 : (t126 == 2) = true := beq_iff_eq.mpr c50
                              have c50b1 : (t126 != 2) = false := bne_eq_false_iff_eq.mpr c50
                              clear c50
                              by_cases c51 : t139 = a1
                              · rw [if_pos c51] at H
                                have c51b0 : (t139 == a1) = true := beq_iff_eq.mpr c51
                                have c51b1 : (t139 != a1) = false := bne_eq_false_iff_eq.mpr c51
                                clear c51
                                by_cases c52 : t134 = t110
                                · rw [if_pos c52] at H
                                  have c52b0 : (t134 == t110) = true := beq_iff_eq.mpr c52
                                  have c52b1 : (t134 != t110) = false := bne_eq_false_iff_eq.mpr c52
                                  clear c52
                                  replace H := Option.bind_eq_some_iff.mp H
                                  obtain ⟨t141, A530, H⟩ := H
                                  replace H : (some t141) = some r := H
                                  have A53 := Aside0.mk A530
                                  clear A530
                                  obtain rfl := Option.some.inj H
                                  go_wp2_with (first | (go_at_call 19; (with_reducible refine (netwrightlaw01_awake.calls kj28  t141 _ A53.out).mono ?_); rintro e w54 ⟨rfl, hb⟩; have n0_ := Aside0.mk (below_step (by repeat (first | (with_reducible first | exact HB.out | apply below_alloc | apply pw_below_drewN | apply below_drew1) | exact HB.out)) hb); clear HB; have HB := n0_; clear n0_; (try clear hb); (try clear hb2); (try clear hk); (try clear hi)))
                                  go_ret
                                  exact ⟨by first | rfl | (simp [errW_none, errW_some] <;> rfl) | (simp [*, errW_none, errW_some] <;> rfl), by repeat (first | (with_reducible first | exact HB.out | apply below_alloc | apply pw_below_drewN | apply below_drew1) | exact HB.out)⟩
                                · rw [if_neg c52] at H
                                  have c52b0 : (t134 == t110) = false := beq_eq_false_iff_ne.mpr c52
                                  have c52b1 : (t134 != t110) = true := bne_iff_ne.mpr c52
                                  by_cases c55 : t134 = a1
                                  · rw [if_pos c55] at H
                                    have c55b0 : (t134 == a1) = true := beq_iff_eq.mpr c55
                                    have c55b1 : (t134 != a1) = false := bne_eq_false_iff_eq.mpr c55
                                    clear c55
                                    by_cases c56 : t110 = 3
                                    · rw [if_pos c56] at H
                                      have c56b0 : (t110 == 3) = true := beq_iff_eq.mpr c56
                                      have c56b1 : (t110 != 3) = false := bne_eq_false_iff_eq.mpr c56
                                      clear c56
                                      replace H := Option.bind_eq_some_iff.mp H
                                      obtain ⟨t142, A570, H⟩ := H
                                      replace H : (some t142) = some r := H
                                      have A57 := Aside0.mk A570
                                      clear A570
                                      obtain rfl := Option.some.inj H
                                      go_wp2_with (first | (go_at_call 19; (with_reducible refine (netwrightlaw01_awake.calls kj28  t142 _ A57.out).mono ?_); rintro e w58 ⟨rfl, hb⟩; have n0_ := Aside0.mk (below_step (by repeat (first | (with_reducible first | exact HB.out | apply below_alloc | apply pw_below_drewN | apply below_drew1) | exact HB.out)) hb); clear HB; have HB := n0_; clear n0_; (try clear hb); (try clear hb2); (try clear hk); (try clear hi)))
                                      go_ret
                                      exact ⟨by first | rfl | (simp [errW_none, errW_some] <;> rfl) | (simp [*, errW_none, errW_some] <;> rfl), by repeat (first | (with_reducible first | exact HB.out | apply below_alloc | apply pw_below_drewN | apply below_drew1) | exact HB.out)⟩
                                    · rw [if_neg c56] at H
                                      have c56b0 : (t110 == 3) = false := beq_eq_false_iff_ne.mpr c56
                                      have c56b1 : (t110 != 3) = true := bne_iff_ne.mpr c56
                                      by_cases c59 : t134 = 2
                                      · rw [if_pos c59] at H
                                        have c59b0 : (t134 == 2) = true := beq_iff_eq.mpr c59
                                        have c59b1 : (t134 != 2) = false := bne_eq_false_iff_eq.mpr c59
                                        clear c59
                                        replace H := Option.bind_eq_some_iff.mp H
                                        obtain ⟨t143, A600, H⟩ := H
                                        replace H : (some t143) = some r := H
                                        have A60 := Aside0.mk A600
                                        clear A600
                                        obtain rfl := Option.some.inj H
                                        go_wp2_with (first | (go_at_call 19; (with_reducible refine (netwrightlaw01_awake.calls kj28  t143 _ A60.out).mono ?_); rintro e w61 ⟨rfl, hb⟩; have n0_ := Aside0.mk (below_step (by repeat (first | (with_reducible first | exact HB.out | apply below_alloc | apply pw_below_drewN | apply below_drew1) | exact HB.out)) hb); clear HB; have HB := n0_; clear n0_; (try clear hb); (try clear hb2); (try clear hk); (try clear hi)))
                                        go_ret
                                        exact ⟨by first | rfl | (simp [errW_none, errW_some] <;> rfl) | (simp [*, errW_none, errW_some] <;> rfl), by repeat (first | (with_reducible first | exact HB.out | apply below_alloc | apply pw_below_drewN | apply below_drew1) | exact HB.out)⟩
                                      · rw [if_neg c59] at H
                                        have c59b0 : (t134 == 2) = false := beq_eq_false_iff_ne.mpr c59
                                        have c59b1 : (t134 != 2) = true := bne_iff_ne.mpr c59
                                        obtain rfl := Option.some.inj H
                                        go_wp2
                                        go_ret
                                        exact ⟨by first | rfl | (simp [errW_none, errW_some] <;> rfl) | (simp [*, errW_none, errW_some] <;> rfl), by repeat (first | (with_reducible first | exact HB.out | apply below_alloc | apply pw_below_drewN | apply below_drew1) | exact HB.out)⟩
                                  · rw [if_neg c55] at H
                                    have c55b0 : (t134 == a1) = false := beq_eq_false_iff_ne.mpr c55
                                    have c55b1 : (t134 != a1) = true := bne_iff_ne.mpr c55
                                    by_cases c62 : t134 = 2
                                    · rw [if_pos c62] at H
                                      have c62b0 : (t134 == 2) = true := beq_iff_eq.mpr c62
                                      have c62b1 : (t134 != 2) = false := bne_eq_false_iff_eq.mpr c62
                                      clear c62
                                      replace H := Option.bind_eq_some_iff.mp H
                                      obtain ⟨t144, A630, H⟩ := H
                                      replace H : (some t144) = some r := H
                                      have A63 := Aside0.mk A630
                                      clear A630
                                      obtain rfl := Option.some.inj H
                                      go_wp2_with (first | (go_at_call 19; (with_reducible refine (netwrightlaw01_awake.calls kj28  t144 _ A63.out).mono ?_); rintro e w64 ⟨rfl, hb⟩; have n0_ := Aside0.mk (below_step (by repeat (first | (with_reducible first | exact HB.out | apply below_alloc | apply pw_below_drewN | apply below_drew1) | exact HB.out)) hb); clear HB; have HB := n0_; clear n0_; (try clear hb); (try clear hb2); (try clear hk); (try clear hi)))
                                      go_ret
                                      exact ⟨by first | rfl | (simp [errW_none, errW_some] <;> rfl) | (simp [*, errW_none, errW_some] <;> rfl), by repeat (first | (with_reducible first | exact HB.out | apply below_alloc | apply pw_below_drewN | apply below_drew1) | exact HB.out)⟩
                                    · rw [if_neg c62] at H
                                      have c62b0 : (t134 == 2) = false := beq_eq_false_iff_ne.mpr c62
                                      have c62b1 : (t134 != 2) = true := bne_iff_ne.mpr c62
                                      obtain rfl := Option.some.inj H
                                      go_wp2
                                      go_ret
                                      exact ⟨by first | rfl | (simp [errW_none, errW_some] <;> rfl) | (simp [*, errW_none, errW_some] <;> rfl), by repeat (first | (with_reducible first | exact HB.out | apply below_alloc | apply pw_below_drewN | apply below_drew1) | exact HB.out)⟩
                              · rw [if_neg c51] at H
                                have c51b0 : (t139 == a1) = false := beq_eq_false_iff_ne.mpr c51
                                have c51b1 : (t139 != a1) = true := bne_iff_ne.mpr c51
                                obtain rfl := Option.some.inj H
                                go_wp2
                                go_ret
                                exact ⟨by first | rfl | (simp [errW_none, errW_some] <;> rfl) | (simp [*, errW_none, errW_some] <;> rfl), by repeat (first | (with_reducible first | exact HB.out | apply below_alloc | apply pw_below_drewN | apply below_drew1) | exact HB.out)⟩
                            · rw [if_neg c50] at H
                              have c50b0 : (t126 == 2) = false := beq_eq_false_iff_ne.mpr c50
                              have c50b1 : (t126 != 2) = true := bne_iff_ne.mpr c50
                              obtain rfl := Option.some.inj H
                              go_wp2
                              go_ret
                              exact ⟨by first | rfl | (simp [errW_none, errW_some] <;> rfl) | (simp [*, errW_none, errW_some] <;> rfl), by repeat (first | (with_reducible first | exact HB.out | apply below_alloc | apply pw_below_drewN | apply below_drew1) | exact HB.out)⟩
                          · rw [if_neg c49] at H
                            have c49b0 : (t110 == t118) = false := beq_eq_false_iff_ne.mpr c49
                            have c49b1 : (t110 != t118) = true := bne_iff_ne.mpr c49
                            obtain rfl := Option.some.inj H
                            go_wp2
                            go_ret
                            exact ⟨by first | rfl | (simp [errW_none, errW_some] <;> rfl) | (simp [*, errW_none, errW_some] <;> rfl), by repeat (first | (with_reducible first | exact HB.out | apply below_alloc | apply pw_below_drewN | apply below_drew1) | exact HB.out)⟩
                  · rw [if_neg c26] at H
                    exact absurd H (by simp)
                · rw [if_neg c23] at H
                  exact absurd H (by simp)
              · rw [if_neg c20] at H
                exact absurd H (by simp)

/-- THE ONE PURE STATEMENT of netwrightlaw01_LogicDriven: yours. -/
def netwrightlaw01_LogicDriven.Pure : Prop := ∀ (l0 : List Int) (a1 : Int), l0.length ≤ maxLen → l0.length * 1 ≤ 140737488351232 → (∀ x ∈ l0, (Lit.int .u8 x).wf = true) → (Lit.int .u8 a1).wf = true → ∃ k, netwrightlaw01_LogicDriven.f k l0 a1 = some true
theorem netwrightlaw01_LogicDriven.walk (P : netwrightlaw01_LogicDriven.Pure) (a0 : Option Addr) (len0 cap0 : Nat) (z0 : List Int) (a1 : Int) (w : World) (w0 : (a0 = none ∧ len0 = 0 ∧ cap0 = 0 ∧ z0 = []) ∨ ∃ x, a0 = some x ∧ len0 ≤ cap0 ∧ cap0 ≤ maxLen ∧ z0.length = cap0 ∧ (∀ i, i < z0.length → w.cell? (x.add i) = some (.int .u8 (z0.getD i 0))) ∧ ∀ n ∈ z0, (Lit.int .u8 n).wf = true) (y0 : len0 * 1 ≤ 140737488351232) (w1 : (Lit.int .u8 a1).wf = true) :
    Calls Try.prog 9 #[.slice a0 len0 cap0, .int .u8 a1] w fun e w' => e = .returned (.bool true) ∧ Below w.heap.size w w' := by
  obtain ⟨l0, rfl, hr0, hm0, hw0, hc0⟩ := ReadsInt.ofRowC w0
  obtain ⟨k, h⟩ := P l0 a1 hm0 y0 hw0 w1
  refine (netwrightlaw01_LogicDriven.calls k _ _ l0 a1 true w (Kd.C_of_reads (d := (0 : Int)) (h1 := fun _ => rfl) hr0) hc0 h).mono ?_
  rintro e w' ⟨rfl, hd⟩
  exact ⟨rfl, hd⟩

end Go.Proofs.Ytajpgmpidphmgaa.PDrv
