/- Part of the proof of LawDriversOrder: every definition and lemma is one that it names. -/
import Derived.Test.YtojankgmedccdaaQPIsx0
import Derived.Test.YtojankgmedccdaaQPIsx3
namespace Go.Proofs.Ytojankgmedccdaa.PIs
open Go.RowKit Own PTy Hand YtojankgmedccdaaW.PrintWords YtojankgmedccdaaW.PrintLast YtojankgmedccdaaW.PrintMore
attribute [local go_sem] max2_int min2_int max_two min_two max_three min_three max_four min_four
set_option linter.unusedVariables false
set_option linter.unusedSimpArgs false
mutual
def lexer_IsName.j0 : Nat → ByteArray → Bool → Option (Bool)
 | 0, _, _ => none
 | k + 1, x0, x20 => if x20 = true then (some false) else (lexer_IsName.l0 k x0 (x0.size : Int) 0)
def lexer_IsName.l0 : Nat → ByteArray → Int → Int → Option (Bool)
 | 0, _, _, _ => none
 | k + 1, x0, x22, x23 => if x23 < x22 then (if 0 ≤ x23 then (if x23 < (x0.size : Int) then ((lexer_isPart.f (bt x0 x23)).bind fun t132 => (if t132 = true then (lexer_IsName.l0 k x0 x22 (wrap64 (x23 + 1))) else (some false))) else (none)) else (none)) else (some true)
end
def lexer_IsName.f (k : Nat) (a0 : ByteArray) : Option (Bool) := if a0.toList = ([] : List UInt8) then (lexer_IsName.j0 k a0 true) else (if (a0.size : Int) > 40 then (lexer_IsName.j0 k a0 true) else (if 0 < (a0.size : Int) then ((lexer_isLetter.f (bt a0 0)).bind fun t130 => (if t130 = true then ((lexer_IsWord.f a0).bind fun t131 => (lexer_IsName.j0 k a0 t131)) else (lexer_IsName.j0 k a0 true))) else (none)))
theorem lexer_IsName.mono_l : ∀ k, (∀ y0 y1, LeO (lexer_IsName.j0 k y0 y1) (lexer_IsName.j0 (k + 1) y0 y1)) ∧ (∀ y0 y1 y2, LeO (lexer_IsName.l0 k y0 y1 y2) (lexer_IsName.l0 (k + 1) y0 y1 y2))
 | 0 => ⟨fun _ _ r h => by simp [lexer_IsName.j0] at h, fun _ _ _ r h => by simp [lexer_IsName.l0] at h⟩
 | k + 1 => by
  obtain ⟨ih0, ih1⟩ := lexer_IsName.mono_l k
  refine ⟨?_, ?_⟩ <;> intros <;> (first | unfold lexer_IsName.j0 | unfold lexer_IsName.l0) <;> repeat' first | (with_reducible first | apply ih0 | apply ih1 | apply LeO.refl | apply LeO.none | refine LeO.ite ?_ ?_ | refine LeO.bind ?_ (fun _ => ?_)) | apply ih0 | apply ih1 | apply LeO.none | refine LeO.ite ?_ ?_ | refine LeO.bind ?_ (fun _ => ?_)
theorem lexer_IsName.mono : ∀ a0 k, LeO (lexer_IsName.f k a0) (lexer_IsName.f (k + 1) a0) := by
 intro a0 k
 obtain ⟨ih0, ih1⟩ := lexer_IsName.mono_l k
 unfold lexer_IsName.f
 repeat' first
   | (with_reducible exact ih0 _ _)
   | (with_reducible exact ih1 _ _ _)
   | (with_reducible exact LeO.refl _)
   | (with_reducible exact LeO.none _)
   | (with_reducible refine LeO.ite ?_ ?_)
   | (with_reducible refine LeO.bind ?_ (fun _ => ?_))
   | exact ih0 _ _
   | exact ih1 _ _ _
   | exact LeO.none _
   | refine LeO.ite ?_ ?_
   | refine LeO.bind ?_ (fun _ => ?_)
set_option maxHeartbeats 8000000 in
set_option maxRecDepth 100000 in
theorem lexer_IsName.calls (k : Nat) (a0 : ByteArray) (r : Bool) (w : World) (hG : Glob w) (h : lexer_IsName.f k a0 = some r) :
  Calls Try.prog 75 #[.string a0] w fun e w' => e = .returned (.bool r) ∧ Drawn0 w w' := by
 have HG := mk0 hG; clear hG
 have H := h; unfold lexer_IsName.f at H
 clear h; have HC2 := mk0 H; clear H
 go_enter Try.func75, Try.ntmps75
 go_upto_region 1 with (fail)
 go_cut [20] (fun v20 wc => ∃ (kq : Nat) (x20_1 : Bool), v20 = .bool x20_1 ∧ Aside0 (lexer_IsName.j0 kq a0 x20_1 = some r) ∧ Aside0 (kq ≤ k) ∧ Drawn0 w wc)
 case first =>
  have H := HC2.out; clear HC2
  replace H := iE H; obtain ⟨c3b0, c3b1, H⟩ | ⟨c3, c3b0, c3b1, H⟩ := H
  ·(first | rw [c3b0] | (simp only [i64_w, i32_w]; rw [c3b0]) | skip)
   have H' := mk0 H
   clear H
   go_wp2
   go_meet
   case rel => exact ⟨_, (true), rfl, H', ⟨by omega⟩, dr⟩
  (first | rw [c3b0] | (simp only [i64_w, i32_w]; rw [c3b0]) | skip)
  by_cases c4 : (a0.size : Int) > 40
  ·rw [if_pos c4] at H
   have c4b0 : decide (40 < (a0.size : Int)) = true := decide_eq_true c4
   have c4b1 : decide (40 < a0.size) = true := decide_eq_true (by omega)
   clear c4
   have H' := mk0 H
   clear H
   go_wp2
   go_meet
   case rel => exact ⟨_, (true), rfl, H', ⟨by omega⟩, dr⟩
  rw [if_neg c4] at H; have c4b0 : decide (40 < (a0.size : Int)) = false := decide_eq_false c4
  have c4b1 : decide (40 < a0.size) = false := decide_eq_false (by omega)
  clear c4
  replace H := iN H; obtain ⟨c5, c5b0, H⟩ := H
  have c5b1 : decide (0 < a0.size) = true := decide_eq_true (by omega)
  clear c5
  replace H := bS H; obtain ⟨t130, A7, H⟩ := H
  replace H := iB' H; obtain ⟨rfl, H⟩ | ⟨rfl, H⟩ := H
  ·have H' := mk0 H
   clear H
   have p6 : 0 ≤ (0 : Int) := (by omega)
   have q6 : 0 < a0.size := (by have : (0 : Int) < (a0.size : Int) := of_decide_eq_true (by assumption); omega)
   have hx6 : ∀ h : 0 < a0.size, ((a0[0]'h).toNat : Int) = bt a0 0 := bt_at a0 0
   clear p6
   have qi6 : (0 < (a0.size : Int)) = True := eq_true (of_decide_eq_true (by assumption))
   replace q6 := eq_true q6
   go_wp2_with (go_at_call 86; refine (lexer_isLetter.calls (bt a0 0) false _ A7.out).mono ?_; rintro e w' ⟨rfl, ⟨nd, rfl⟩⟩)
   go_meet
   case rel => exact ⟨_, (true), rfl, H', ⟨by omega⟩, dr⟩
  replace H := bS H; obtain ⟨t131, A9, H⟩ := H
  have H' := mk0 H
  clear H
  have p6 : 0 ≤ (0 : Int) := (by omega)
  have q6 : 0 < a0.size := (by have : (0 : Int) < (a0.size : Int) := of_decide_eq_true (by assumption); omega)
  have hx6 : ∀ h : 0 < a0.size, ((a0[0]'h).toNat : Int) = bt a0 0 := bt_at a0 0
  clear p6
  have qi6 : (0 < (a0.size : Int)) = True := eq_true (of_decide_eq_true (by assumption))
  replace q6 := eq_true q6
  go_wp2_with (first | (go_at_call 86; refine (lexer_isLetter.calls (bt a0 0) true _ A7.out).mono ?_; rintro e w' ⟨rfl, ⟨nd, rfl⟩⟩) | (go_at_call 87; (with_reducible refine (lexer_IsWord.calls a0 t131 _ ?side1 A9.out).mono ?_); (case side1 => repeat (first | exact HG.out | (with_reducible refine glob_drewN ?_ _) | (with_reducible refine glob_drew ?_))); rintro e w' ⟨rfl, ⟨nd, rfl⟩⟩))
  go_meet
  case rel => exact ⟨_, (t131), rfl, H', ⟨by omega⟩, dr⟩
 case rest =>
  clear HC2
  obtain ⟨kq, x20_1, rfl, HA, HJ1, ⟨mc1, rfl⟩⟩ := hcut
  cases kq with
  | zero => exact absurd HA.out (by simp [lexer_IsName.j0])
  | succ kj1 =>
   have H := HA.out; clear HA
   simp only [lexer_IsName.j0] at H
   replace H := iB H; obtain ⟨rfl, H⟩ | ⟨rfl, H⟩ := H
   ·obtain rfl := sI H
    go_wp2
    go_ret
    exact dn
   have H' := mk0 H
   clear H
   go_wp2
   go_loopg [23] kj1 (fun kq v23 w' => ∃ (x23_2 : Int), v23 = .int .i64 x23_2 ∧ Aside0 (lexer_IsName.l0 kq a0 (a0.size : Int) x23_2 = some r) ∧ Aside0 (kq ≤ kj1) ∧ Drawn0 w w')
   case atStart => exact ⟨(0), rfl, H', ⟨Nat.le_refl _⟩, dr⟩
   case round =>
    clear H'
    obtain ⟨x23_2, rfl, HA, HK2, ⟨m2, rfl⟩⟩ := hrel
    cases gk with
    | zero => exact absurd HA.out (by simp [lexer_IsName.l0])
    | succ k2 =>
     have H := HA.out; clear HA
     simp only [lexer_IsName.l0] at H
     replace H := iD' H; obtain ⟨-, c11b0, H⟩ | ⟨-, c11b0, H⟩ := H
     ·obtain rfl := sI H
      go_wp2
      go_ret
      exact dn
     replace H := iN H; obtain ⟨-, c12b0, H⟩ := H
     replace H := iN H; obtain ⟨-, c13b0, H⟩ := H
     replace H := bS H; obtain ⟨t132, A15, H⟩ := H
     replace H := iB' H; obtain ⟨rfl, H⟩ | ⟨rfl, H⟩ := H
     ·obtain rfl := sI H
      have p14 : 0 ≤ (x23_2 : Int) := od
      have q14 : x23_2 < (a0.size : Int) := od
      have hx14 := bt_at a0 x23_2
      replace p14 := eq_true p14; replace q14 := eq_true q14
      go_wp2_with ((with_reducible refine gate_callee (f := 88) rfl ?_); refine goD (some 29) rfl rfl Try.func88 (by kernel_rfl) rfl #[.int .u8 (bt a0 x23_2)] rfl rfl (lexer_isPart.calls (bt a0 x23_2) false _ A15.out) ?_; intro nd)
      go_ret
      exact dn
     have H' := mk0 H
     clear H
     have p14 : 0 ≤ (x23_2 : Int) := od
     have q14 : x23_2 < (a0.size : Int) := od
     have hx14 := bt_at a0 x23_2
     replace p14 := eq_true p14; replace q14 := eq_true q14
     go_wp2_with ((with_reducible refine gate_callee (f := 88) rfl ?_); refine goD (some 29) rfl rfl Try.func88 (by kernel_rfl) rfl #[.int .u8 (bt a0 x23_2)] rfl rfl (lexer_isPart.calls (bt a0 x23_2) true _ A15.out) ?_; intro nd)
     go_roundg k2
     case measure => have := HJ1.out; have := HK2.out; omega
     case rel => exact ⟨(wrap64 (x23_2 + 1)), rfl, H', ⟨by have := HJ1.out; have := HK2.out; omega⟩, dr⟩
def sIdx.l0 : Nat → List ByteArray → ByteArray → Int → Int → Option (Int)
 | 0, _, _, _, _ => none
 | k + 1, x0, x1, x7, x8 => if x8 < x7 then (if 0 ≤ x8 then (if x8 < (x0.length : Int) then (if x1.toList = (rdOf ByteArray.empty x0 x8).toList then (some x8) else (sIdx.l0 k x0 x1 x7 (wrap64 (x8 + 1)))) else (none)) else (none)) else (some (-1))
def sIdx.f (k : Nat) (l0 : List ByteArray) (a1 : ByteArray) : Option (Int) := sIdx.l0 k l0 a1 (l0.length : Int) 0
theorem sIdx.mono_l : ∀ k, (∀ y0 y1 y2 y3, LeO (sIdx.l0 k y0 y1 y2 y3) (sIdx.l0 (k + 1) y0 y1 y2 y3))
 | 0 => fun _ _ _ _ r h => by simp [sIdx.l0] at h
 | k + 1 => by
  have ih0 := sIdx.mono_l k
  ·intro y0 y1 y2 y3
   unfold sIdx.l0
   repeat' first
   | (with_reducible exact ih0 _ _ _ _)
   | (with_reducible exact LeO.refl _)
   | (with_reducible exact LeO.none _)
   | (with_reducible refine LeO.ite ?_ ?_)
   | (with_reducible refine LeO.bind ?_ (fun _ => ?_))
   | exact ih0 _ _ _ _
   | exact LeO.none _
   | refine LeO.ite ?_ ?_
   | refine LeO.bind ?_ (fun _ => ?_)
theorem sIdx.mono : ∀ a0 a1 k, LeO (sIdx.f k a0 a1) (sIdx.f (k + 1) a0 a1) := by
 intro a0 a1 k
 have ih0 := sIdx.mono_l k
 unfold sIdx.f
 repeat' first
   | (with_reducible exact ih0 _ _ _ _)
   | (with_reducible exact LeO.refl _)
   | (with_reducible exact LeO.none _)
   | (with_reducible refine LeO.ite ?_ ?_)
   | (with_reducible refine LeO.bind ?_ (fun _ => ?_))
   | exact ih0 _ _ _ _
   | exact LeO.none _
   | refine LeO.ite ?_ ?_
   | refine LeO.bind ?_ (fun _ => ?_)
set_option maxHeartbeats 8000000 in
set_option maxRecDepth 100000 in
theorem sIdx.calls (k : Nat) (A0 : Option Addr) (c0 : Nat) (l0 : List ByteArray) (a1 : ByteArray) (r : Int) (w : World) (hr0 : Kd.C Kd.string w A0 l0.length l0) (hc0 : l0.length ≤ c0) (h : sIdx.f k l0 a1 = some r) :
  Calls Try.prog 89 #[.slice A0 l0.length c0, .string a1] w fun e w' => e = .returned (.int .i64 r) ∧ Drawn0 w w' := by
 have HR0 := mk0 hr0; have HC0 := mk0 hc0; clear hr0 hc0
 have H : (sIdx.l0 k l0 a1 (l0.length : Int) 0) = some r := h
 clear h
 have H' := mk0 H
 clear H
 go_enter Try.func89, Try.ntmps89
 go_wp2
 go_loopg [8] k (fun kq v8 w' => ∃ (x8_1 : Int), v8 = .int .i64 x8_1 ∧ Aside0 (sIdx.l0 kq l0 a1 (l0.length : Int) x8_1 = some r) ∧ Aside0 (kq ≤ k) ∧ Drawn0 w w')
 case atStart => exact ⟨(0), rfl, H', ⟨Nat.le_refl _⟩, dr⟩
 case round =>
  clear H'
  obtain ⟨x8_1, rfl, HA, HK1, ⟨m1, rfl⟩⟩ := hrel
  cases gk with
  | zero => exact absurd HA.out (by simp [sIdx.l0])
  | succ k1 =>
   have H := HA.out; clear HA
   simp only [sIdx.l0] at H
   replace H := iD' H; obtain ⟨-, c3b0, H⟩ | ⟨-, c3b0, H⟩ := H
   ·obtain rfl := sI H
    go_wp2
    go_ret
    exact dn
   replace H := iN H; obtain ⟨-, c4b0, H⟩ := H
   replace H := iN H; obtain ⟨-, c5b0, H⟩ := H
   replace H := iE H; obtain ⟨c6b0, c6b1, H⟩ | ⟨c6, c6b0, c6b1, H⟩ := H
   ·obtain rfl := sI H
    have p133 : 0 ≤ (x8_1 : Int) := od
    have q133 : x8_1 < (l0.length : Int) := od
    obtain ⟨ad133, e133, hx133_0⟩ := Kd.at_string HR0.out x8_1 p133 q133
    cases e133; replace p133 := eq_true p133; replace q133 := eq_true q133
    go_wp2
    go_ret
    exact dn
   have H' := mk0 H
   clear H
   have p133 : 0 ≤ (x8_1 : Int) := od
   have q133 : x8_1 < (l0.length : Int) := od
   obtain ⟨ad133, e133, hx133_0⟩ := Kd.at_string HR0.out x8_1 p133 q133
   cases e133; replace p133 := eq_true p133; replace q133 := eq_true q133
   go_wp2
   go_roundg k1
   case measure => have := HK1.out; omega
   case rel => exact ⟨(wrap64 (x8_1 + 1)), rfl, H', ⟨by have := HK1.out; omega⟩, dr⟩
def sCon.f (k : Nat) (l0 : List ByteArray) (a1 : ByteArray) : Option (Bool) := (sIdx.f k l0 a1).bind fun t134 => (some (decide (t134 ≥ 0)))
theorem sCon.mono : ∀ a0 a1 k, LeO (sCon.f k a0 a1) (sCon.f (k + 1) a0 a1) := by
 intro a0 a1 k
 unfold sCon.f
 repeat' first
   | (with_reducible exact sIdx.mono _ _ _)
   | (with_reducible exact LeO.refl _)
   | (with_reducible exact LeO.none _)
   | (with_reducible refine LeO.ite ?_ ?_)
   | (with_reducible refine LeO.bind ?_ (fun _ => ?_))
   | exact sIdx.mono _ _ _
   | exact LeO.none _
   | refine LeO.ite ?_ ?_
   | refine LeO.bind ?_ (fun _ => ?_)
set_option maxHeartbeats 8000000 in
set_option maxRecDepth 100000 in
theorem sCon.calls (k : Nat) (A0 : Option Addr) (c0 : Nat) (l0 : List ByteArray) (a1 : ByteArray) (r : Bool) (w : World) (hr0 : Kd.C Kd.string w A0 l0.length l0) (hc0 : l0.length ≤ c0) (h : sCon.f k l0 a1 = some r) :
  Calls Try.prog 76 #[.slice A0 l0.length c0, .string a1] w fun e w' => e = .returned (.bool r) ∧ Drawn0 w w' := by
 have HR0 := mk0 hr0; have HC0 := mk0 hc0; clear hr0 hc0
 have H := h; unfold sCon.f at H
 clear h
 replace H := bS H; obtain ⟨t134, A3, H⟩ := H; obtain rfl := sI H
 go_enter Try.func76, Try.ntmps76
 go_wp2_with ((with_reducible refine gate_callee (f := 89) rfl ?_); refine goD (some 7) rfl rfl Try.func89 (by kernel_rfl) rfl #[.slice A0 l0.length c0, .string a1] rfl rfl (sIdx.calls k _ _ l0 a1 t134 _ (C_up HR0.out) HC0.out A3.out) ?_; intro nd)
 go_ret
 exact dn
end Go.Proofs.Ytojankgmedccdaa.PIs
