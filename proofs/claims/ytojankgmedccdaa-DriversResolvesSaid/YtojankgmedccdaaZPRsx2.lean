/- Part of the proof of LawDriversResolves: every definition and lemma is one that it names. -/
import Derived.Test.YtojankgmedccdaaZPRsx0
namespace Go.Proofs.Ytojankgmedccdaa.PRs
open Go.RowKit Own PTy Hand PIs PAw YtojankgmedccdaaW.PrintWords YtojankgmedccdaaW.PrintLast YtojankgmedccdaaW.PrintMore
attribute [local go_sem] max2_int min2_int max_two min_two max_three min_three max_four min_four
set_option linter.unusedVariables false
set_option linter.unusedSimpArgs false
mutual
def r01Resolve.l0 : Nat → List Int → List Int → Int → Int → Option (Int × Int)
 | 0, _, _, _, _ => none
 | k + 1, x0, x11, x12, x13 => if x13 < x12 then (if 0 ≤ x13 then (if x13 < (x11.length : Int) then ((r01Bit.f (rd x11 x13)).bind fun t140 => (if t140 = true then (r01Resolve.l0 k x0 x11 x12 (wrap64 (x13 + 1))) else (some (0, 2)))) else (none)) else (none)) else (r01Resolve.l1 k ([] : List Int) x0 (x0.length : Int) 0)
def r01Resolve.l1 : Nat → List Int → List Int → Int → Int → Option (Int × Int)
 | 0, _, _, _, _ => none
 | k + 1, x6, x21, x22, x23 => if x23 < x22 then (if 0 ≤ x23 then (if x23 < (x21.length : Int) then (if (rd x21 x23) = 3 then (r01Resolve.l1 k x6 x21 x22 (wrap64 (x23 + 1))) else (if x6.length < 140737488355328 then (r01Resolve.l1 k (x6 ++ [rd x21 x23]) x21 x22 (wrap64 (x23 + 1))) else (none))) else (none)) else (none)) else (if (x6.length : Int) = 0 then (some (3, 0)) else (r01Resolve.l2 k x6 x6 (x6.length : Int) 0))
def r01Resolve.l2 : Nat → List Int → List Int → Int → Int → Option (Int × Int)
 | 0, _, _, _, _ => none
 | k + 1, x6, x37, x38, x39 => if x39 < x38 then (if 0 ≤ x39 then (if x39 < (x37.length : Int) then (if 0 < (x6.length : Int) then (if (rd x37 x39) = (rd x6 0) then (r01Resolve.l2 k x6 x37 x38 (wrap64 (x39 + 1))) else (some (2, 0))) else (none)) else (none)) else (none)) else (if 0 < (x6.length : Int) then (some (rd x6 0, 0)) else (none))
end
def r01Resolve.f (k : Nat) (l0 : List Int) : Option (Int × Int) := r01Resolve.l0 k l0 l0 (l0.length : Int) 0
theorem r01Resolve.mono_l : ∀ k, (∀ y0 y1 y2 y3, LeO (r01Resolve.l0 k y0 y1 y2 y3) (r01Resolve.l0 (k + 1) y0 y1 y2 y3)) ∧ (∀ y0 y1 y2 y3, LeO (r01Resolve.l1 k y0 y1 y2 y3) (r01Resolve.l1 (k + 1) y0 y1 y2 y3)) ∧ (∀ y0 y1 y2 y3, LeO (r01Resolve.l2 k y0 y1 y2 y3) (r01Resolve.l2 (k + 1) y0 y1 y2 y3))
 | 0 => ⟨fun _ _ _ _ r h => by simp [r01Resolve.l0] at h, fun _ _ _ _ r h => by simp [r01Resolve.l1] at h, fun _ _ _ _ r h => by simp [r01Resolve.l2] at h⟩
 | k + 1 => by
  obtain ⟨ih0, ih1, ih2⟩ := r01Resolve.mono_l k
  refine ⟨?_, ?_, ?_⟩ <;> intros <;> (first | unfold r01Resolve.l0 | unfold r01Resolve.l1 | unfold r01Resolve.l2) <;> repeat' first | (with_reducible first | apply ih0 | apply ih1 | apply ih2 | apply LeO.refl | apply LeO.none | refine LeO.ite ?_ ?_ | refine LeO.bind ?_ (fun _ => ?_)) | apply ih0 | apply ih1 | apply ih2 | apply LeO.none | refine LeO.ite ?_ ?_ | refine LeO.bind ?_ (fun _ => ?_)
theorem r01Resolve.mono : ∀ a0 k, LeO (r01Resolve.f k a0) (r01Resolve.f (k + 1) a0) := by
 intro a0 k
 obtain ⟨ih0, ih1, ih2⟩ := r01Resolve.mono_l k
 unfold r01Resolve.f
 repeat' first
   | (with_reducible exact ih0 _ _ _ _)
   | (with_reducible exact ih1 _ _ _ _)
   | (with_reducible exact ih2 _ _ _ _)
   | (with_reducible exact LeO.refl _)
   | (with_reducible exact LeO.none _)
   | (with_reducible refine LeO.ite ?_ ?_)
   | (with_reducible refine LeO.bind ?_ (fun _ => ?_))
   | exact ih0 _ _ _ _
   | exact ih1 _ _ _ _
   | exact ih2 _ _ _ _
   | exact LeO.none _
   | refine LeO.ite ?_ ?_
   | refine LeO.bind ?_ (fun _ => ?_)
set_option maxHeartbeats 8000000 in
set_option maxRecDepth 100000 in
theorem r01Resolve.calls (k : Nat) (A0 : Option Addr) (c0 : Nat) (l0 : List Int) (r1 : Int) (r2 : Int) (w : World) (hr0 : Kd.C (Kd.int .u8) w A0 l0.length l0) (hc0 : l0.length ≤ c0) (h : r01Resolve.f k l0 = some (r1, r2)) :
  Calls Try.prog 54 #[.slice A0 l0.length c0] w fun e w' => e = .returned (.tuple #[.int .u8 r1, .int .i64 r2]) ∧ Below w.heap.size w w' := by
 have HR0 := mk0 hr0; have HC0 := mk0 hc0; clear hr0 hc0
 have HB := mk0 (Below.refl w.heap.size w)
 have H := h; unfold r01Resolve.f at H
 clear h
 have H' := mk0 H
 clear H
 go_enter Try.func54, Try.ntmps54
 go_wp2
 go_loopg [13] k (fun kq v13 w' => ∃ (x13_1 : Int), v13 = .int .i64 x13_1 ∧ Aside0 (r01Resolve.l0 kq l0 l0 (l0.length : Int) x13_1 = some (r1, r2)) ∧ Aside0 (kq ≤ k) ∧ Aside0 (Below w.heap.size w w'))
 case atStart => exact ⟨(0), rfl, H', ⟨Nat.le_refl _⟩, ⟨be HB⟩⟩
 case round =>
  clear H'
  obtain ⟨x13_1, rfl, HA, HK1, HB⟩ := hrel
  cases gk with
  | zero => exact absurd HA.out (by simp [r01Resolve.l0])
  | succ k1 =>
   have H := HA.out; clear HA
   simp only [r01Resolve.l0] at H
   replace H := iD H; obtain ⟨-, c2b0, H⟩ | ⟨-, c2b0, H⟩ := H
   ·replace H := iN H; obtain ⟨-, c3b0, H⟩ := H
    replace H := iN H; obtain ⟨-, c4b0, H⟩ := H
    replace H := bS H; obtain ⟨t140, A5, H⟩ := H
    replace H := iB' H; obtain ⟨rfl, H⟩ | ⟨rfl, H⟩ := H
    ·simp only [Option.some.injEq, Prod.mk.injEq] at H
     obtain ⟨rfl, rfl⟩ := H
     have p139 : 0 ≤ (x13_1 : Int) := od
     have q139 : x13_1 < (l0.length : Int) := od
     obtain ⟨ad139, e139, hx139_0⟩ := Kd.at_int HR0.out x13_1 p139 q139
     cases e139
     replace hx139_0 := keepc HB.out hx139_0
     replace p139 := eq_true p139; replace q139 := eq_true q139
     go_wp2_with ((with_reducible refine gate_callee (f := 71) rfl ?_); refine goD (some 18) rfl rfl Try.func71 (by kernel_rfl) rfl #[.int .u8 (rd l0 x13_1)] rfl rfl (r01Bit.calls (rd l0 x13_1) false _ A5.out) ?_; intro nd)
     go_ret2
     exact ⟨rfl, be HB⟩
    have H' := mk0 H
    clear H
    have p139 : 0 ≤ (x13_1 : Int) := od
    have q139 : x13_1 < (l0.length : Int) := od
    obtain ⟨ad139, e139, hx139_0⟩ := Kd.at_int HR0.out x13_1 p139 q139
    cases e139
    replace hx139_0 := keepc HB.out hx139_0
    replace p139 := eq_true p139; replace q139 := eq_true q139
    go_wp2_with ((with_reducible refine gate_callee (f := 71) rfl ?_); refine goD (some 18) rfl rfl Try.func71 (by kernel_rfl) rfl #[.int .u8 (rd l0 x13_1)] rfl rfl (r01Bit.calls (rd l0 x13_1) true _ A5.out) ?_; intro nd)
    go_roundg k1
    case measure => have := HK1.out; omega
    case rel => exact ⟨(wrap64 (x13_1 + 1)), rfl, H', ⟨by have := HK1.out; omega⟩, ⟨be HB⟩⟩
   have H' := mk0 H
   clear H
   go_wp2
   go_loopg [6, 23] k1 (fun kq v6 v23 w' => ∃ (x6_2 : List Int) (x23_2 : Int), v23 = .int .i64 x23_2 ∧ Aside0 (r01Resolve.l1 kq x6_2 l0 (l0.length : Int) x23_2 = some (r1, r2)) ∧ Aside0 (kq ≤ k1) ∧ Aside0 (Kd.R (Kd.int .u8) 73 w' w.heap.size (fun _ => True) v6 x6_2) ∧ Aside0 (Below w.heap.size w w'))
   case atStart => exact ⟨(([] : List Int)), (0), rfl, H', ⟨Nat.le_refl _⟩, ⟨by first | exact Kd.R_nil _ _ _ _ _ | exact Kd.N_nil _ _ _ _ _ | exact Kd.V_nil _ _ _ _ _ | exact Kd.Q_nil _ _ _ _ _ | exact Kd.S_nil _ _ _ _ _⟩, ⟨be HB⟩⟩
   case round =>
    clear H'
    try clear c2b0
    obtain ⟨x6_2, x23_2, rfl, HA, HK2, HO_6, HB⟩ := hrel
    cases gk with
    | zero => exact absurd HA.out (by simp [r01Resolve.l1])
    | succ k2 =>
     have H := HA.out; clear HA
     simp only [r01Resolve.l1] at H
     replace H := iD H; obtain ⟨-, c7b0, H⟩ | ⟨-, c7b0, H⟩ := H
     ·replace H := iN H; obtain ⟨-, c8b0, H⟩ := H
      replace H := iN H; obtain ⟨-, c9b0, H⟩ := H
      replace H := iE H; obtain ⟨c10b0, c10b1, H⟩ | ⟨c10, c10b0, c10b1, H⟩ := H
      ·have H' := mk0 H
       clear H
       have p141 : 0 ≤ (x23_2 : Int) := od
       have q141 : x23_2 < (l0.length : Int) := od
       obtain ⟨ad141, e141, hx141_0⟩ := Kd.at_int HR0.out x23_2 p141 q141
       cases e141
       replace hx141_0 := keepc HB.out hx141_0
       replace p141 := eq_true p141; replace q141 := eq_true q141
       go_wp2
       go_roundg k2
       case measure => have := HK1.out; have := HK2.out; omega
       case rel => exact ⟨(x6_2), (wrap64 (x23_2 + 1)), rfl, H', ⟨by have := HK1.out; have := HK2.out; omega⟩, ⟨R_up HO_6.out⟩, ⟨be HB⟩⟩
      by_cases c11 : x6_2.length < 140737488355328
      rotate_left
      ·rw [if_neg c11] at H
       exact absurd H (by simp)
      rw [if_pos c11] at H; have LMc11 := mk0 c11; clear c11
      obtain ⟨y142, hy142⟩ : ∃ y_ : List Int, y_ = (x6_2 ++ [rd l0 x23_2]) := ⟨_, rfl⟩
      replace H : (r01Resolve.l1 k2 y142 l0 (l0.length : Int) (wrap64 (x23_2 + 1))) = some (r1, r2) := by first | (rw [hy142]; with_reducible exact H) | (have H2_ := (Option.bind_some _ _).symm.trans H; rw [hy142]; with_reducible exact H2_) | (have H2_ := (Option.bind_some _ _).symm.trans H; with_reducible exact H2_) | with_reducible exact H | (rw [hy142]; exact H) | exact H
      have Ny142 := mk0 hy142; clear hy142
      have H' := mk0 H
      clear H
      have p141 : 0 ≤ (x23_2 : Int) := od
      have q141 : x23_2 < (l0.length : Int) := od
      obtain ⟨ad141, e141, hx141_0⟩ := Kd.at_int HR0.out x23_2 p141 q141
      cases e141
      replace hx141_0 := keepc HB.out hx141_0
      replace p141 := eq_true p141; replace q141 := eq_true q141
      go_wp2_with ((with_reducible refine gate_builtin (b := .append) (xs := #[.tmp 29, .tmp 31]) rfl ?_); at_builtin; refine Kd.R_append (Kd.int .u8) (w0 := w) w.heap.size rfl (.tmp 29) (.tmp 31) 27 73 (.int .u8 0) 1 rfl Try.underlying27 info73 rfl (by decide) (by omega) u6 x6_2 (rd l0 x23_2) [.int .u8 (rd l0 x23_2)] (fun _ => True) (fun _ => False) rfl rfl ?aP (fun _ hk => hk.elim) ?aF ?aO ?aB ?aS ?aL ?_; (case aP => exact rfl); (case aB => exact (be HB)); (case aF => exact (fun _ _ => trivial)); (case aO => exact (R_up HO_6.out)); (case aS => exact (below_size (be HB))); (case aL => have := LMc11.out; omega); intro v143 w12 ho hb hg hat; rw [← Ny142.out] at ho; replace HB := mk0 (hb); have HO144 := mk0 (ho); clear HO_6; clear ho hb hg hat)
      go_roundg k2
      case measure => have := HK1.out; have := HK2.out; omega
      case rel => exact ⟨(y142), (wrap64 (x23_2 + 1)), rfl, H', ⟨by have := HK1.out; have := HK2.out; omega⟩, ⟨R_up HO144.out⟩, ⟨be HB⟩⟩
     replace H := iE H; obtain ⟨c13b0, c13b1, H⟩ | ⟨c13, c13b0, c13b1, H⟩ := H
     ·simp only [Option.some.injEq, Prod.mk.injEq] at H
      obtain ⟨rfl, rfl⟩ := H
      obtain ⟨Ao14, co14, eo14⟩ := Kd.R_slice HO_6.out
      subst eo14
      go_wp2
      go_ret2
      exact ⟨rfl, be HB⟩
     have c13b2 : ¬ (x6_2 = []) := fun h_ => c13 (by rw [h_]; rfl)
     have H' := mk0 H
     clear H
     obtain ⟨Ao15, co15, eo15⟩ := Kd.R_slice HO_6.out
     subst eo15
     go_wp2
     go_loopg [39] k2 (fun kq v39 w' => ∃ (x39_3 : Int), v39 = .int .i64 x39_3 ∧ Aside0 (r01Resolve.l2 kq x6_2 x6_2 (x6_2.length : Int) x39_3 = some (r1, r2)) ∧ Aside0 (kq ≤ k2) ∧ Aside0 (Kd.R (Kd.int .u8) 73 w' w.heap.size (fun _ => True) (.slice Ao15 x6_2.length co15) x6_2) ∧ Aside0 (Kd.R (Kd.int .u8) 73 w' w.heap.size (fun _ => True) (.slice Ao15 x6_2.length co15) x6_2) ∧ Aside0 (Below w.heap.size w w'))
     case atStart => exact ⟨(0), rfl, H', ⟨Nat.le_refl _⟩, ⟨R_up HO_6.out⟩, ⟨R_up HO_6.out⟩, ⟨be HB⟩⟩
     case round =>
      clear H'
      try clear c2b0; try clear c7b0; try clear c13; try clear c13b0; try clear c13b1; try clear c13b2
      obtain ⟨x39_3, rfl, HA, HK3, HO_6, HO_37, HB⟩ := hrel
      cases gk with
      | zero => exact absurd HA.out (by simp [r01Resolve.l2])
      | succ k3 =>
       have H := HA.out; clear HA
       simp only [r01Resolve.l2] at H
       replace H := iD' H; obtain ⟨-, c16b0, H⟩ | ⟨-, c16b0, H⟩ := H
       ·replace H := iN H; obtain ⟨c21, c21b0, H⟩ := H
        have c21b1 : decide (0 < x6_2.length) = true := decide_eq_true (by omega)
        clear c21
        simp only [Option.some.injEq, Prod.mk.injEq] at H
        obtain ⟨rfl, rfl⟩ := H
        have p147 : 0 ≤ (0 : Int) := (by omega)
        have q147 : 0 < (x6_2.length : Int) := od
        obtain ⟨ad147, e147, hx147_0⟩ := Kd.at_int (Kd.R_reads' HO_6.out).2.2 0 p147 q147
        cases e147
        have qi147 : (0 < x6_2.length) = True := eq_true (by omega)
        (try rw [show ((0 : Int)).toNat = 0 from rfl] at hx147_0)
        (try rw [Addr.add_zero'] at hx147_0)
        replace p147 := eq_true p147; replace q147 := eq_true q147
        go_wp2
        go_ret2
        exact ⟨rfl, be HB⟩
       replace H := iN H; obtain ⟨-, c17b0, H⟩ := H
       replace H := iN H; obtain ⟨-, c18b0, H⟩ := H
       replace H := iN H; obtain ⟨c19, c19b0, H⟩ := H
       have c19b1 : decide (0 < x6_2.length) = true := decide_eq_true (by omega)
       clear c19
       replace H := iE' H; obtain ⟨c20, c20b0, c20b1, H⟩ | ⟨c20b0, c20b1, H⟩ := H
       ·simp only [Option.some.injEq, Prod.mk.injEq] at H
        obtain ⟨rfl, rfl⟩ := H
        have p145 : 0 ≤ (x39_3 : Int) := od
        have q145 : x39_3 < (x6_2.length : Int) := od
        obtain ⟨ad145, e145, hx145_0⟩ := Kd.at_int (Kd.R_reads' HO_37.out).2.2 x39_3 p145 q145
        cases e145; replace p145 := eq_true p145; replace q145 := eq_true q145
        have p146 : 0 ≤ (0 : Int) := (by omega)
        have q146 : 0 < (x6_2.length : Int) := od
        obtain ⟨ad146, e146, hx146_0⟩ := Kd.at_int (Kd.R_reads' HO_6.out).2.2 0 p146 q146
        obtain rfl : ad145 = ad146 := (by injection e146)
        have qi146 : (0 < x6_2.length) = True := eq_true (by omega)
        (try rw [show ((0 : Int)).toNat = 0 from rfl] at hx146_0)
        (try rw [Addr.add_zero'] at hx146_0)
        replace p146 := eq_true p146; replace q146 := eq_true q146
        go_wp2
        go_ret2
        exact ⟨rfl, be HB⟩
       have H' := mk0 H
       clear H
       have p145 : 0 ≤ (x39_3 : Int) := od
       have q145 : x39_3 < (x6_2.length : Int) := od
       obtain ⟨ad145, e145, hx145_0⟩ := Kd.at_int (Kd.R_reads' HO_37.out).2.2 x39_3 p145 q145
       cases e145; replace p145 := eq_true p145; replace q145 := eq_true q145
       have p146 : 0 ≤ (0 : Int) := (by omega)
       have q146 : 0 < (x6_2.length : Int) := od
       obtain ⟨ad146, e146, hx146_0⟩ := Kd.at_int (Kd.R_reads' HO_6.out).2.2 0 p146 q146
       obtain rfl : ad145 = ad146 := (by injection e146)
       have qi146 : (0 < x6_2.length) = True := eq_true (by omega)
       (try rw [show ((0 : Int)).toNat = 0 from rfl] at hx146_0)
       (try rw [Addr.add_zero'] at hx146_0)
       replace p146 := eq_true p146; replace q146 := eq_true q146
       go_wp2
       go_roundg k3
       case measure => have := HK1.out; have := HK2.out; have := HK3.out; omega
       case rel => exact ⟨(wrap64 (x39_3 + 1)), rfl, H', ⟨by have := HK1.out; have := HK2.out; have := HK3.out; omega⟩, ⟨R_up HO_6.out⟩, ⟨R_up HO_37.out⟩, ⟨be HB⟩⟩
end Go.Proofs.Ytojankgmedccdaa.PRs
