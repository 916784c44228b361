/- Part of the proof of LawDriversResolves: every definition and lemma is one that it names. -/
import Derived.Test.YtojankgmedccdaaZPIsx0
import Derived.Test.YtojankgmedccdaaZPIsx7
namespace Go.Proofs.Ytojankgmedccdaa.PIs
open Go.RowKit Own PTy Hand YtojankgmedccdaaW.PrintWords YtojankgmedccdaaW.PrintLast YtojankgmedccdaaW.PrintMore
attribute [local go_sem] max2_int min2_int max_two min_two max_three min_three max_four min_four
set_option linter.unusedVariables false
set_option linter.unusedSimpArgs false
def r03of.f (a0 : Int) (a1 : Int) : Option (Bool) := if a1 = 0 then ((r03digit.f a0).bind fun t157 => (some t157)) else (if a1 = 1 then ((r03inner.f a0).bind fun t158 => (some t158)) else (if a1 = 2 then ((r03bit.f a0).bind fun t159 => (some t159)) else (if a1 = 3 then ((r03plain.f a0).bind fun t160 => (some t160)) else (some (a0 != 10)))))
set_option maxHeartbeats 8000000 in
set_option maxRecDepth 100000 in
theorem r03of.calls (a0 : Int) (a1 : Int) (r : Bool) (w : World) (h : r03of.f a0 a1 = some r) :
  Calls Try.prog 90 #[.int .u8 a0, .int .i64 a1] w fun e w' => e = .returned (.bool r) ∧ Drawn0 w w' := by
 have H := h; unfold r03of.f at H
 clear h
 replace H := iE H; obtain ⟨c3b0, c3b1, H⟩ | ⟨c3, c3b0, c3b1, H⟩ := H
 ·replace H := bS H; obtain ⟨t157, A4, H⟩ := H; obtain rfl := sI H
  go_enter Try.func90, Try.ntmps90
  go_wp2_with ((with_reducible refine gate_callee (f := 101) rfl ?_); refine goD (some 9) rfl rfl Try.func101 (by kernel_rfl) rfl #[.int .u8 a0] rfl rfl (r03digit.calls a0 t157 _ A4.out) ?_; intro nd)
  go_ret
  exact dn
 replace H := iE H; obtain ⟨c5b0, c5b1, H⟩ | ⟨c5, c5b0, c5b1, H⟩ := H
 ·replace H := bS H; obtain ⟨t158, A6, H⟩ := H; obtain rfl := sI H
  go_enter Try.func90, Try.ntmps90
  go_wp2_with ((with_reducible refine gate_callee (f := 102) rfl ?_); refine goD (some 13) rfl rfl Try.func102 (by kernel_rfl) rfl #[.int .u8 a0] rfl rfl (r03inner.calls a0 t158 _ A6.out) ?_; intro nd)
  go_ret
  exact dn
 replace H := iE H; obtain ⟨c7b0, c7b1, H⟩ | ⟨c7, c7b0, c7b1, H⟩ := H
 ·replace H := bS H; obtain ⟨t159, A8, H⟩ := H; obtain rfl := sI H
  go_enter Try.func90, Try.ntmps90
  go_wp2_with ((with_reducible refine gate_callee (f := 103) rfl ?_); refine goD (some 17) rfl rfl Try.func103 (by kernel_rfl) rfl #[.int .u8 a0] rfl rfl (r03bit.calls a0 t159 _ A8.out) ?_; intro nd)
  go_ret
  exact dn
 replace H := iE' H; obtain ⟨c9, c9b0, c9b1, H⟩ | ⟨c9b0, c9b1, H⟩ := H
 ·obtain rfl := sI H
  go_enter Try.func90, Try.ntmps90
  go_wp2
  go_ret
  exact dn
 replace H := bS H; obtain ⟨t160, A10, H⟩ := H; obtain rfl := sI H
 go_enter Try.func90, Try.ntmps90
 go_wp2_with ((with_reducible refine gate_callee (f := 104) rfl ?_); refine goD (some 21) rfl rfl Try.func104 (by kernel_rfl) rfl #[.int .u8 a0] rfl rfl (r03plain.calls a0 t160 _ A10.out) ?_; intro nd)
 go_ret
 exact dn
def r03run.l0 : Nat → ByteArray → Int → Int → Int → Option (Int)
 | 0, _, _, _, _ => none
 | k + 1, x0, x1, x2, x7 => if (wrap64 (x1 + x7)) < (x0.size : Int) then (if 0 ≤ (wrap64 (x1 + x7)) then ((r03of.f (bt x0 (wrap64 (x1 + x7))) x2).bind fun t161 => (if t161 = true then (r03run.l0 k x0 x1 x2 (wrap64 (x7 + 1))) else (some x7))) else (none)) else (some x7)
def r03run.f (k : Nat) (a0 : ByteArray) (a1 : Int) (a2 : Int) : Option (Int) := r03run.l0 k a0 a1 a2 0
theorem r03run.mono_l : ∀ k, (∀ y0 y1 y2 y3, LeO (r03run.l0 k y0 y1 y2 y3) (r03run.l0 (k + 1) y0 y1 y2 y3))
 | 0 => fun _ _ _ _ r h => by simp [r03run.l0] at h
 | k + 1 => by
  have ih0 := r03run.mono_l k
  ·intro y0 y1 y2 y3
   unfold r03run.l0
   repeat' first
   | (with_reducible exact ih0 _ _ _ _)
   | (with_reducible exact LeO.refl _)
   | (with_reducible exact LeO.none _)
   | (with_reducible refine LeO.ite ?_ ?_)
   | (with_reducible refine LeO.bind ?_ (fun _ => ?_))
   | exact ih0 _ _ _ _
   | exact LeO.none _
   | refine LeO.ite ?_ ?_
   | refine LeO.bind ?_ (fun _ => ?_)
theorem r03run.mono : ∀ a0 a1 a2 k, LeO (r03run.f k a0 a1 a2) (r03run.f (k + 1) a0 a1 a2) := by
 intro a0 a1 a2 k
 have ih0 := r03run.mono_l k
 unfold r03run.f
 repeat' first
   | (with_reducible exact ih0 _ _ _ _)
   | (with_reducible exact LeO.refl _)
   | (with_reducible exact LeO.none _)
   | (with_reducible refine LeO.ite ?_ ?_)
   | (with_reducible refine LeO.bind ?_ (fun _ => ?_))
   | exact ih0 _ _ _ _
   | exact LeO.none _
   | refine LeO.ite ?_ ?_
   | refine LeO.bind ?_ (fun _ => ?_)
set_option maxHeartbeats 8000000 in
set_option maxRecDepth 100000 in
theorem r03run.calls (k : Nat) (a0 : ByteArray) (a1 : Int) (a2 : Int) (r : Int) (w : World) (h : r03run.f k a0 a1 a2 = some r) :
  Calls Try.prog 78 #[.string a0, .int .i64 a1, .int .i64 a2] w fun e w' => e = .returned (.int .i64 r) ∧ Drawn0 w w' := by
 have H : (r03run.l0 k a0 a1 a2 0) = some r := h
 clear h
 have H' := mk0 H
 clear H
 go_enter Try.func78, Try.ntmps78
 go_wp2
 go_loopg [7] k (fun kq v7 w' => ∃ (x7_1 : Int), v7 = .int .i64 x7_1 ∧ Aside0 (r03run.l0 kq a0 a1 a2 x7_1 = some r) ∧ Aside0 (kq ≤ k) ∧ Drawn0 w w')
 case atStart => exact ⟨(0), rfl, H', ⟨Nat.le_refl _⟩, dr⟩
 case round =>
  clear H'
  obtain ⟨x7_1, rfl, HA, HK1, ⟨m1, rfl⟩⟩ := hrel
  cases gk with
  | zero => exact absurd HA.out (by simp [r03run.l0])
  | succ k1 =>
   have H := HA.out; clear HA
   simp only [r03run.l0] at H
   replace H := iD' H; obtain ⟨-, c4b0, H⟩ | ⟨-, c4b0, H⟩ := H
   ·obtain rfl := sI H
    go_wp2
    go_ret
    exact dn
   obtain ⟨ji5, hji5⟩ : ∃ j_ : Int, (wrap64 (a1 + x7_1)) = j_ := ⟨_, rfl⟩
   replace H : (if 0 ≤ (ji5) then ((r03of.f (bt a0 (ji5)) a2).bind fun t161 => (if t161 = true then (r03run.l0 k1 a0 a1 a2 (wrap64 (x7_1 + 1))) else (some x7_1))) else (none)) = some r := by first | (rw [hji5] at H; exact H) | (simp only [hji5] at H ⊢; exact H)
   (try rw [hji5] at c4b0)
   have hji5w : (IntKind.i64.wrap (a1 + x7_1)) = ji5 := (i64_w _).trans hji5
   replace H := iN H; obtain ⟨-, c6b0, H⟩ := H
   replace H := bS H; obtain ⟨t161, A8, H⟩ := H
   replace H := iB' H; obtain ⟨rfl, H⟩ | ⟨rfl, H⟩ := H
   ·obtain rfl := sI H
    have p7 : 0 ≤ ((ji5) : Int) := od
    have q7 : (ji5) < (a0.size : Int) := od
    have hx7 := bt_at a0 (ji5)
    replace p7 := eq_true p7; replace q7 := eq_true q7
    go_wp2_with (go_at_call 90; refine (r03of.calls (bt a0 (ji5)) a2 false _ A8.out).mono ?_; rintro e w' ⟨rfl, ⟨nd, rfl⟩⟩)
    go_ret
    exact ⟨by first | rfl | (simp; done) | (simp only [← hji5] <;> (first | rfl | simp)) | (simp [*]; done), dr⟩
   have H' := mk0 H
   clear H
   have p7 : 0 ≤ ((ji5) : Int) := od
   have q7 : (ji5) < (a0.size : Int) := od
   have hx7 := bt_at a0 (ji5)
   replace p7 := eq_true p7; replace q7 := eq_true q7
   go_wp2_with (go_at_call 90; refine (r03of.calls (bt a0 (ji5)) a2 true _ A8.out).mono ?_; rintro e w' ⟨rfl, ⟨nd, rfl⟩⟩)
   go_roundg k1
   case measure => have := HK1.out; omega
   case rel => exact ⟨(wrap64 (x7_1 + 1)), rfl, H', ⟨by have := HK1.out; omega⟩, dr⟩
def r03member.l0 : Nat → ByteArray → List ByteArray → Int → Int → Option (Bool)
 | 0, _, _, _, _ => none
 | k + 1, x1, x7, x8, x9 => if x9 < x8 then (if 0 ≤ x9 then (if x9 < (x7.length : Int) then (if (rdOf ByteArray.empty x7 x9).toList = x1.toList then (some true) else (r03member.l0 k x1 x7 x8 (wrap64 (x9 + 1)))) else (none)) else (none)) else (some false)
def r03member.f (k : Nat) (l0 : List ByteArray) (a1 : ByteArray) : Option (Bool) := r03member.l0 k a1 l0 (l0.length : Int) 0
theorem r03member.mono_l : ∀ k, (∀ y0 y1 y2 y3, LeO (r03member.l0 k y0 y1 y2 y3) (r03member.l0 (k + 1) y0 y1 y2 y3))
 | 0 => fun _ _ _ _ r h => by simp [r03member.l0] at h
 | k + 1 => by
  have ih0 := r03member.mono_l k
  ·intro y0 y1 y2 y3
   unfold r03member.l0
   repeat' first
   | (with_reducible exact ih0 _ _ _ _)
   | (with_reducible exact LeO.refl _)
   | (with_reducible exact LeO.none _)
   | (with_reducible refine LeO.ite ?_ ?_)
   | (with_reducible refine LeO.bind ?_ (fun _ => ?_))
   | exact ih0 _ _ _ _
   | exact LeO.none _
   | refine LeO.ite ?_ ?_
   | refine LeO.bind ?_ (fun _ => ?_)
theorem r03member.mono : ∀ a0 a1 k, LeO (r03member.f k a0 a1) (r03member.f (k + 1) a0 a1) := by
 intro a0 a1 k
 have ih0 := r03member.mono_l k
 unfold r03member.f
 repeat' first
   | (with_reducible exact ih0 _ _ _ _)
   | (with_reducible exact LeO.refl _)
   | (with_reducible exact LeO.none _)
   | (with_reducible refine LeO.ite ?_ ?_)
   | (with_reducible refine LeO.bind ?_ (fun _ => ?_))
   | exact ih0 _ _ _ _
   | exact LeO.none _
   | refine LeO.ite ?_ ?_
   | refine LeO.bind ?_ (fun _ => ?_)
set_option maxHeartbeats 8000000 in
set_option maxRecDepth 100000 in
theorem r03member.calls (k : Nat) (A0 : Option Addr) (c0 : Nat) (l0 : List ByteArray) (a1 : ByteArray) (r : Bool) (w : World) (hr0 : Kd.C Kd.string w A0 l0.length l0) (hc0 : l0.length ≤ c0) (h : r03member.f k l0 a1 = some r) :
  Calls Try.prog 91 #[.slice A0 l0.length c0, .string a1] w fun e w' => e = .returned (.bool r) ∧ Drawn0 w w' := by
 have HR0 := mk0 hr0; have HC0 := mk0 hc0; clear hr0 hc0
 have H : (r03member.l0 k a1 l0 (l0.length : Int) 0) = some r := h
 clear h
 have H' := mk0 H
 clear H
 go_enter Try.func91, Try.ntmps91
 go_wp2
 go_loopg [9] k (fun kq v9 w' => ∃ (x9_1 : Int), v9 = .int .i64 x9_1 ∧ Aside0 (r03member.l0 kq a1 l0 (l0.length : Int) x9_1 = some r) ∧ Aside0 (kq ≤ k) ∧ Drawn0 w w')
 case atStart => exact ⟨(0), rfl, H', ⟨Nat.le_refl _⟩, dr⟩
 case round =>
  clear H'
  obtain ⟨x9_1, rfl, HA, HK1, ⟨m1, rfl⟩⟩ := hrel
  cases gk with
  | zero => exact absurd HA.out (by simp [r03member.l0])
  | succ k1 =>
   have H := HA.out; clear HA
   simp only [r03member.l0] at H
   replace H := iD' H; obtain ⟨-, c3b0, H⟩ | ⟨-, c3b0, H⟩ := H
   ·obtain rfl := sI H
    go_wp2
    go_ret
    exact dn
   replace H := iN H; obtain ⟨-, c4b0, H⟩ := H
   replace H := iN H; obtain ⟨-, c5b0, H⟩ := H
   replace H := iE H; obtain ⟨c6b0, c6b1, H⟩ | ⟨c6, c6b0, c6b1, H⟩ := H
   ·obtain rfl := sI H
    have p162 : 0 ≤ (x9_1 : Int) := od
    have q162 : x9_1 < (l0.length : Int) := od
    obtain ⟨ad162, e162, hx162_0⟩ := Kd.at_string HR0.out x9_1 p162 q162
    cases e162; replace p162 := eq_true p162; replace q162 := eq_true q162
    go_wp2
    go_ret
    exact dn
   have H' := mk0 H
   clear H
   have p162 : 0 ≤ (x9_1 : Int) := od
   have q162 : x9_1 < (l0.length : Int) := od
   obtain ⟨ad162, e162, hx162_0⟩ := Kd.at_string HR0.out x9_1 p162 q162
   cases e162; replace p162 := eq_true p162; replace q162 := eq_true q162
   go_wp2
   go_roundg k1
   case measure => have := HK1.out; omega
   case rel => exact ⟨(wrap64 (x9_1 + 1)), rfl, H', ⟨by have := HK1.out; omega⟩, dr⟩
def r03Words.f  : Option (List ByteArray) := some (([(⟨#[112, 97, 99, 107, 97, 103, 101]⟩ : ByteArray), (⟨#[105, 115]⟩ : ByteArray), (⟨#[101, 110, 100]⟩ : ByteArray), (⟨#[109, 111, 100, 117, 108, 101]⟩ : ByteArray), (⟨#[103, 101, 110, 101, 114, 105, 99]⟩ : ByteArray), (⟨#[112, 111, 114, 116]⟩ : ByteArray), (⟨#[98, 101, 103, 105, 110]⟩ : ByteArray), (⟨#[105, 110]⟩ : ByteArray), (⟨#[111, 117, 116]⟩ : ByteArray), (⟨#[118, 101, 99]⟩ : ByteArray), (⟨#[97, 114, 114, 97, 121]⟩ : ByteArray), (⟨#[111, 102]⟩ : ByteArray), (⟨#[99, 111, 110, 115, 116]⟩ : ByteArray), (⟨#[116, 121, 112, 101]⟩ : ByteArray), (⟨#[115, 105, 103, 110, 97, 108]⟩ : ByteArray), (⟨#[118, 97, 114]⟩ : ByteArray), (⟨#[102, 117, 110, 99, 116, 105, 111, 110]⟩ : ByteArray), (⟨#[114, 101, 116, 117, 114, 110]⟩ : ByteArray), (⟨#[117, 115, 101]⟩ : ByteArray), (⟨#[112, 114, 111, 99, 101, 115, 115]⟩ : ByteArray), (⟨#[97, 108, 108]⟩ : ByteArray), (⟨#[105, 110, 115, 116]⟩ : ByteArray), (⟨#[102, 111, 114]⟩ : ByteArray), (⟨#[116, 111]⟩ : ByteArray), (⟨#[103, 101, 110, 101, 114, 97, 116, 101]⟩ : ByteArray), (⟨#[105, 102]⟩ : ByteArray), (⟨#[101, 108, 115, 101]⟩ : ByteArray), (⟨#[116, 114, 97, 110, 115, 112, 111, 114, 116]⟩ : ByteArray), (⟨#[97, 102, 116, 101, 114]⟩ : ByteArray), (⟨#[97, 115, 115, 101, 114, 116]⟩ : ByteArray), (⟨#[114, 101, 112, 111, 114, 116]⟩ : ByteArray), (⟨#[116, 104, 101, 110]⟩ : ByteArray), (⟨#[101, 108, 115, 105, 102]⟩ : ByteArray), (⟨#[99, 97, 115, 101]⟩ : ByteArray), (⟨#[119, 104, 101, 110]⟩ : ByteArray), (⟨#[111, 116, 104, 101, 114, 115]⟩ : ByteArray), (⟨#[108, 111, 111, 112]⟩ : ByteArray), (⟨#[119, 104, 105, 108, 101]⟩ : ByteArray), (⟨#[119, 97, 105, 116]⟩ : ByteArray), (⟨#[111, 110]⟩ : ByteArray), (⟨#[117, 110, 116, 105, 108]⟩ : ByteArray), (⟨#[110, 117, 108, 108]⟩ : ByteArray), (⟨#[97, 110, 100]⟩ : ByteArray), (⟨#[111, 114]⟩ : ByteArray), (⟨#[120, 111, 114]⟩ : ByteArray), (⟨#[110, 97, 110, 100]⟩ : ByteArray), (⟨#[110, 111, 114]⟩ : ByteArray), (⟨#[120, 110, 111, 114]⟩ : ByteArray), (⟨#[110, 111, 116]⟩ : ByteArray), (⟨#[109, 111, 100]⟩ : ByteArray), (⟨#[115, 104, 108]⟩ : ByteArray), (⟨#[115, 104, 114]⟩ : ByteArray), (⟨#[100, 111, 119, 110, 116, 111]⟩ : ByteArray)] : List ByteArray))
set_option maxHeartbeats 8000000 in
set_option maxRecDepth 100000 in
theorem r03Words.calls  (r : List ByteArray) (w : World) (h : r03Words.f  = some r) :
  Calls Try.prog 92 #[] w fun e w' => ∃ v0_ : Value, e = .returned (v0_) ∧ Kd.R Kd.string 9 w' w.heap.size (fun _ => True) v0_ r ∧ Below w.heap.size w w' := by
 have HB := mk0 (Below.refl w.heap.size w)
 have H := h; unfold r03Words.f at H
 clear h
 obtain ⟨y163, hy163⟩ : ∃ y_ : List ByteArray, y_ = (([(⟨#[112, 97, 99, 107, 97, 103, 101]⟩ : ByteArray), (⟨#[105, 115]⟩ : ByteArray), (⟨#[101, 110, 100]⟩ : ByteArray), (⟨#[109, 111, 100, 117, 108, 101]⟩ : ByteArray), (⟨#[103, 101, 110, 101, 114, 105, 99]⟩ : ByteArray), (⟨#[112, 111, 114, 116]⟩ : ByteArray), (⟨#[98, 101, 103, 105, 110]⟩ : ByteArray), (⟨#[105, 110]⟩ : ByteArray), (⟨#[111, 117, 116]⟩ : ByteArray), (⟨#[118, 101, 99]⟩ : ByteArray), (⟨#[97, 114, 114, 97, 121]⟩ : ByteArray), (⟨#[111, 102]⟩ : ByteArray), (⟨#[99, 111, 110, 115, 116]⟩ : ByteArray), (⟨#[116, 121, 112, 101]⟩ : ByteArray), (⟨#[115, 105, 103, 110, 97, 108]⟩ : ByteArray), (⟨#[118, 97, 114]⟩ : ByteArray), (⟨#[102, 117, 110, 99, 116, 105, 111, 110]⟩ : ByteArray), (⟨#[114, 101, 116, 117, 114, 110]⟩ : ByteArray), (⟨#[117, 115, 101]⟩ : ByteArray), (⟨#[112, 114, 111, 99, 101, 115, 115]⟩ : ByteArray), (⟨#[97, 108, 108]⟩ : ByteArray), (⟨#[105, 110, 115, 116]⟩ : ByteArray), (⟨#[102, 111, 114]⟩ : ByteArray), (⟨#[116, 111]⟩ : ByteArray), (⟨#[103, 101, 110, 101, 114, 97, 116, 101]⟩ : ByteArray), (⟨#[105, 102]⟩ : ByteArray), (⟨#[101, 108, 115, 101]⟩ : ByteArray), (⟨#[116, 114, 97, 110, 115, 112, 111, 114, 116]⟩ : ByteArray), (⟨#[97, 102, 116, 101, 114]⟩ : ByteArray), (⟨#[97, 115, 115, 101, 114, 116]⟩ : ByteArray), (⟨#[114, 101, 112, 111, 114, 116]⟩ : ByteArray), (⟨#[116, 104, 101, 110]⟩ : ByteArray), (⟨#[101, 108, 115, 105, 102]⟩ : ByteArray), (⟨#[99, 97, 115, 101]⟩ : ByteArray), (⟨#[119, 104, 101, 110]⟩ : ByteArray), (⟨#[111, 116, 104, 101, 114, 115]⟩ : ByteArray), (⟨#[108, 111, 111, 112]⟩ : ByteArray), (⟨#[119, 104, 105, 108, 101]⟩ : ByteArray), (⟨#[119, 97, 105, 116]⟩ : ByteArray), (⟨#[111, 110]⟩ : ByteArray), (⟨#[117, 110, 116, 105, 108]⟩ : ByteArray), (⟨#[110, 117, 108, 108]⟩ : ByteArray), (⟨#[97, 110, 100]⟩ : ByteArray), (⟨#[111, 114]⟩ : ByteArray), (⟨#[120, 111, 114]⟩ : ByteArray), (⟨#[110, 97, 110, 100]⟩ : ByteArray), (⟨#[110, 111, 114]⟩ : ByteArray), (⟨#[120, 110, 111, 114]⟩ : ByteArray), (⟨#[110, 111, 116]⟩ : ByteArray), (⟨#[109, 111, 100]⟩ : ByteArray), (⟨#[115, 104, 108]⟩ : ByteArray), (⟨#[115, 104, 114]⟩ : ByteArray), (⟨#[100, 111, 119, 110, 116, 111]⟩ : ByteArray)] : List ByteArray)) := ⟨_, rfl⟩
 replace H : (some y163) = some r := by first | (rw [hy163]; with_reducible exact H) | (have H2_ := (Option.bind_some _ _).symm.trans H; rw [hy163]; with_reducible exact H2_) | (have H2_ := (Option.bind_some _ _).symm.trans H; with_reducible exact H2_) | with_reducible exact H | (rw [hy163]; exact H) | exact H
 have Ny163 := mk0 hy163; clear hy163; obtain rfl := sI H
 go_enter Try.func92, Try.ntmps92
 go_wp2_with ((with_reducible refine gate_dst (N := 1) rfl ?_); refine Kd.R_lit Kd.string _ 9 ?hg (N := 1) ?hd (xs := ([(⟨#[112, 97, 99, 107, 97, 103, 101]⟩ : ByteArray), (⟨#[105, 115]⟩ : ByteArray), (⟨#[101, 110, 100]⟩ : ByteArray), (⟨#[109, 111, 100, 117, 108, 101]⟩ : ByteArray), (⟨#[103, 101, 110, 101, 114, 105, 99]⟩ : ByteArray), (⟨#[112, 111, 114, 116]⟩ : ByteArray), (⟨#[98, 101, 103, 105, 110]⟩ : ByteArray), (⟨#[105, 110]⟩ : ByteArray), (⟨#[111, 117, 116]⟩ : ByteArray), (⟨#[118, 101, 99]⟩ : ByteArray), (⟨#[97, 114, 114, 97, 121]⟩ : ByteArray), (⟨#[111, 102]⟩ : ByteArray), (⟨#[99, 111, 110, 115, 116]⟩ : ByteArray), (⟨#[116, 121, 112, 101]⟩ : ByteArray), (⟨#[115, 105, 103, 110, 97, 108]⟩ : ByteArray), (⟨#[118, 97, 114]⟩ : ByteArray), (⟨#[102, 117, 110, 99, 116, 105, 111, 110]⟩ : ByteArray), (⟨#[114, 101, 116, 117, 114, 110]⟩ : ByteArray), (⟨#[117, 115, 101]⟩ : ByteArray), (⟨#[112, 114, 111, 99, 101, 115, 115]⟩ : ByteArray), (⟨#[97, 108, 108]⟩ : ByteArray), (⟨#[105, 110, 115, 116]⟩ : ByteArray), (⟨#[102, 111, 114]⟩ : ByteArray), (⟨#[116, 111]⟩ : ByteArray), (⟨#[103, 101, 110, 101, 114, 97, 116, 101]⟩ : ByteArray), (⟨#[105, 102]⟩ : ByteArray), (⟨#[101, 108, 115, 101]⟩ : ByteArray), (⟨#[116, 114, 97, 110, 115, 112, 111, 114, 116]⟩ : ByteArray), (⟨#[97, 102, 116, 101, 114]⟩ : ByteArray), (⟨#[97, 115, 115, 101, 114, 116]⟩ : ByteArray), (⟨#[114, 101, 112, 111, 114, 116]⟩ : ByteArray), (⟨#[116, 104, 101, 110]⟩ : ByteArray), (⟨#[101, 108, 115, 105, 102]⟩ : ByteArray), (⟨#[99, 97, 115, 101]⟩ : ByteArray), (⟨#[119, 104, 101, 110]⟩ : ByteArray), (⟨#[111, 116, 104, 101, 114, 115]⟩ : ByteArray), (⟨#[108, 111, 111, 112]⟩ : ByteArray), (⟨#[119, 104, 105, 108, 101]⟩ : ByteArray), (⟨#[119, 97, 105, 116]⟩ : ByteArray), (⟨#[111, 110]⟩ : ByteArray), (⟨#[117, 110, 116, 105, 108]⟩ : ByteArray), (⟨#[110, 117, 108, 108]⟩ : ByteArray), (⟨#[97, 110, 100]⟩ : ByteArray), (⟨#[111, 114]⟩ : ByteArray), (⟨#[120, 111, 114]⟩ : ByteArray), (⟨#[110, 97, 110, 100]⟩ : ByteArray), (⟨#[110, 111, 114]⟩ : ByteArray), (⟨#[120, 110, 111, 114]⟩ : ByteArray), (⟨#[110, 111, 116]⟩ : ByteArray), (⟨#[109, 111, 100]⟩ : ByteArray), (⟨#[115, 104, 108]⟩ : ByteArray), (⟨#[115, 104, 114]⟩ : ByteArray), (⟨#[100, 111, 119, 110, 116, 111]⟩ : ByteArray)] : List ByteArray)) (inner := [.string (⟨#[112, 97, 99, 107, 97, 103, 101]⟩ : ByteArray), .string (⟨#[105, 115]⟩ : ByteArray), .string (⟨#[101, 110, 100]⟩ : ByteArray), .string (⟨#[109, 111, 100, 117, 108, 101]⟩ : ByteArray), .string (⟨#[103, 101, 110, 101, 114, 105, 99]⟩ : ByteArray), .string (⟨#[112, 111, 114, 116]⟩ : ByteArray), .string (⟨#[98, 101, 103, 105, 110]⟩ : ByteArray), .string (⟨#[105, 110]⟩ : ByteArray), .string (⟨#[111, 117, 116]⟩ : ByteArray), .string (⟨#[118, 101, 99]⟩ : ByteArray), .string (⟨#[97, 114, 114, 97, 121]⟩ : ByteArray), .string (⟨#[111, 102]⟩ : ByteArray), .string (⟨#[99, 111, 110, 115, 116]⟩ : ByteArray), .string (⟨#[116, 121, 112, 101]⟩ : ByteArray), .string (⟨#[115, 105, 103, 110, 97, 108]⟩ : ByteArray), .string (⟨#[118, 97, 114]⟩ : ByteArray), .string (⟨#[102, 117, 110, 99, 116, 105, 111, 110]⟩ : ByteArray), .string (⟨#[114, 101, 116, 117, 114, 110]⟩ : ByteArray), .string (⟨#[117, 115, 101]⟩ : ByteArray), .string (⟨#[112, 114, 111, 99, 101, 115, 115]⟩ : ByteArray), .string (⟨#[97, 108, 108]⟩ : ByteArray), .string (⟨#[105, 110, 115, 116]⟩ : ByteArray), .string (⟨#[102, 111, 114]⟩ : ByteArray), .string (⟨#[116, 111]⟩ : ByteArray), .string (⟨#[103, 101, 110, 101, 114, 97, 116, 101]⟩ : ByteArray), .string (⟨#[105, 102]⟩ : ByteArray), .string (⟨#[101, 108, 115, 101]⟩ : ByteArray), .string (⟨#[116, 114, 97, 110, 115, 112, 111, 114, 116]⟩ : ByteArray), .string (⟨#[97, 102, 116, 101, 114]⟩ : ByteArray), .string (⟨#[97, 115, 115, 101, 114, 116]⟩ : ByteArray), .string (⟨#[114, 101, 112, 111, 114, 116]⟩ : ByteArray), .string (⟨#[116, 104, 101, 110]⟩ : ByteArray), .string (⟨#[101, 108, 115, 105, 102]⟩ : ByteArray), .string (⟨#[99, 97, 115, 101]⟩ : ByteArray), .string (⟨#[119, 104, 101, 110]⟩ : ByteArray), .string (⟨#[111, 116, 104, 101, 114, 115]⟩ : ByteArray), .string (⟨#[108, 111, 111, 112]⟩ : ByteArray), .string (⟨#[119, 104, 105, 108, 101]⟩ : ByteArray), .string (⟨#[119, 97, 105, 116]⟩ : ByteArray), .string (⟨#[111, 110]⟩ : ByteArray), .string (⟨#[117, 110, 116, 105, 108]⟩ : ByteArray), .string (⟨#[110, 117, 108, 108]⟩ : ByteArray), .string (⟨#[97, 110, 100]⟩ : ByteArray), .string (⟨#[111, 114]⟩ : ByteArray), .string (⟨#[120, 111, 114]⟩ : ByteArray), .string (⟨#[110, 97, 110, 100]⟩ : ByteArray), .string (⟨#[110, 111, 114]⟩ : ByteArray), .string (⟨#[120, 110, 111, 114]⟩ : ByteArray), .string (⟨#[110, 111, 116]⟩ : ByteArray), .string (⟨#[109, 111, 100]⟩ : ByteArray), .string (⟨#[115, 104, 108]⟩ : ByteArray), .string (⟨#[115, 104, 114]⟩ : ByteArray), .string (⟨#[100, 111, 119, 110, 116, 111]⟩ : ByteArray)]) (ok := fun _ => True) (okp := fun _ => True) ?hr ?hp (fun _ hk => hk) trivial (Below.refl _ _) (Nat.le_refl _) (by simp) ?_; (case hd => rfl); (case hg => rfl); (case hr => first | (go_simp; done) | (go_simp; rfl)); (case hp => exact (Reps.one (show Kd.M Kd.string _ _ _ (⟨#[112, 97, 99, 107, 97, 103, 101]⟩ : ByteArray) [.string (⟨#[112, 97, 99, 107, 97, 103, 101]⟩ : ByteArray)] from rfl) (Reps.one (show Kd.M Kd.string _ _ _ (⟨#[105, 115]⟩ : ByteArray) [.string (⟨#[105, 115]⟩ : ByteArray)] from rfl) (Reps.one (show Kd.M Kd.string _ _ _ (⟨#[101, 110, 100]⟩ : ByteArray) [.string (⟨#[101, 110, 100]⟩ : ByteArray)] from rfl) (Reps.one (show Kd.M Kd.string _ _ _ (⟨#[109, 111, 100, 117, 108, 101]⟩ : ByteArray) [.string (⟨#[109, 111, 100, 117, 108, 101]⟩ : ByteArray)] from rfl) (Reps.one (show Kd.M Kd.string _ _ _ (⟨#[103, 101, 110, 101, 114, 105, 99]⟩ : ByteArray) [.string (⟨#[103, 101, 110, 101, 114, 105, 99]⟩ : ByteArray)] from rfl) (Reps.one (show Kd.M Kd.string _ _ _ (⟨#[112, 111, 114, 116]⟩ : ByteArray) [.string (⟨#[112, 111, 114, 116]⟩ : ByteArray)] from rfl) (Reps.one (show Kd.M Kd.string _ _ _ (⟨#[98, 101, 103, 105, 110]⟩ : ByteArray) [.string (⟨#[98, 101, 103, 105, 110]⟩ : ByteArray)] from rfl) (Reps.one (show Kd.M Kd.string _ _ _ (⟨#[105, 110]⟩ : ByteArray) [.string (⟨#[105, 110]⟩ : ByteArray)] from rfl) (Reps.one (show Kd.M Kd.string _ _ _ (⟨#[111, 117, 116]⟩ : ByteArray) [.string (⟨#[111, 117, 116]⟩ : ByteArray)] from rfl) (Reps.one (show Kd.M Kd.string _ _ _ (⟨#[118, 101, 99]⟩ : ByteArray) [.string (⟨#[118, 101, 99]⟩ : ByteArray)] from rfl) (Reps.one (show Kd.M Kd.string _ _ _ (⟨#[97, 114, 114, 97, 121]⟩ : ByteArray) [.string (⟨#[97, 114, 114, 97, 121]⟩ : ByteArray)] from rfl) (Reps.one (show Kd.M Kd.string _ _ _ (⟨#[111, 102]⟩ : ByteArray) [.string (⟨#[111, 102]⟩ : ByteArray)] from rfl) (Reps.one (show Kd.M Kd.string _ _ _ (⟨#[99, 111, 110, 115, 116]⟩ : ByteArray) [.string (⟨#[99, 111, 110, 115, 116]⟩ : ByteArray)] from rfl) (Reps.one (show Kd.M Kd.string _ _ _ (⟨#[116, 121, 112, 101]⟩ : ByteArray) [.string (⟨#[116, 121, 112, 101]⟩ : ByteArray)] from rfl) (Reps.one (show Kd.M Kd.string _ _ _ (⟨#[115, 105, 103, 110, 97, 108]⟩ : ByteArray) [.string (⟨#[115, 105, 103, 110, 97, 108]⟩ : ByteArray)] from rfl) (Reps.one (show Kd.M Kd.string _ _ _ (⟨#[118, 97, 114]⟩ : ByteArray) [.string (⟨#[118, 97, 114]⟩ : ByteArray)] from rfl) (Reps.one (show Kd.M Kd.string _ _ _ (⟨#[102, 117, 110, 99, 116, 105, 111, 110]⟩ : ByteArray) [.string (⟨#[102, 117, 110, 99, 116, 105, 111, 110]⟩ : ByteArray)] from rfl) (Reps.one (show Kd.M Kd.string _ _ _ (⟨#[114, 101, 116, 117, 114, 110]⟩ : ByteArray) [.string (⟨#[114, 101, 116, 117, 114, 110]⟩ : ByteArray)] from rfl) (Reps.one (show Kd.M Kd.string _ _ _ (⟨#[117, 115, 101]⟩ : ByteArray) [.string (⟨#[117, 115, 101]⟩ : ByteArray)] from rfl) (Reps.one (show Kd.M Kd.string _ _ _ (⟨#[112, 114, 111, 99, 101, 115, 115]⟩ : ByteArray) [.string (⟨#[112, 114, 111, 99, 101, 115, 115]⟩ : ByteArray)] from rfl) (Reps.one (show Kd.M Kd.string _ _ _ (⟨#[97, 108, 108]⟩ : ByteArray) [.string (⟨#[97, 108, 108]⟩ : ByteArray)] from rfl) (Reps.one (show Kd.M Kd.string _ _ _ (⟨#[105, 110, 115, 116]⟩ : ByteArray) [.string (⟨#[105, 110, 115, 116]⟩ : ByteArray)] from rfl) (Reps.one (show Kd.M Kd.string _ _ _ (⟨#[102, 111, 114]⟩ : ByteArray) [.string (⟨#[102, 111, 114]⟩ : ByteArray)] from rfl) (Reps.one (show Kd.M Kd.string _ _ _ (⟨#[116, 111]⟩ : ByteArray) [.string (⟨#[116, 111]⟩ : ByteArray)] from rfl) (Reps.one (show Kd.M Kd.string _ _ _ (⟨#[103, 101, 110, 101, 114, 97, 116, 101]⟩ : ByteArray) [.string (⟨#[103, 101, 110, 101, 114, 97, 116, 101]⟩ : ByteArray)] from rfl) (Reps.one (show Kd.M Kd.string _ _ _ (⟨#[105, 102]⟩ : ByteArray) [.string (⟨#[105, 102]⟩ : ByteArray)] from rfl) (Reps.one (show Kd.M Kd.string _ _ _ (⟨#[101, 108, 115, 101]⟩ : ByteArray) [.string (⟨#[101, 108, 115, 101]⟩ : ByteArray)] from rfl) (Reps.one (show Kd.M Kd.string _ _ _ (⟨#[116, 114, 97, 110, 115, 112, 111, 114, 116]⟩ : ByteArray) [.string (⟨#[116, 114, 97, 110, 115, 112, 111, 114, 116]⟩ : ByteArray)] from rfl) (Reps.one (show Kd.M Kd.string _ _ _ (⟨#[97, 102, 116, 101, 114]⟩ : ByteArray) [.string (⟨#[97, 102, 116, 101, 114]⟩ : ByteArray)] from rfl) (Reps.one (show Kd.M Kd.string _ _ _ (⟨#[97, 115, 115, 101, 114, 116]⟩ : ByteArray) [.string (⟨#[97, 115, 115, 101, 114, 116]⟩ : ByteArray)] from rfl) (Reps.one (show Kd.M Kd.string _ _ _ (⟨#[114, 101, 112, 111, 114, 116]⟩ : ByteArray) [.string (⟨#[114, 101, 112, 111, 114, 116]⟩ : ByteArray)] from rfl) (Reps.one (show Kd.M Kd.string _ _ _ (⟨#[116, 104, 101, 110]⟩ : ByteArray) [.string (⟨#[116, 104, 101, 110]⟩ : ByteArray)] from rfl) (Reps.one (show Kd.M Kd.string _ _ _ (⟨#[101, 108, 115, 105, 102]⟩ : ByteArray) [.string (⟨#[101, 108, 115, 105, 102]⟩ : ByteArray)] from rfl) (Reps.one (show Kd.M Kd.string _ _ _ (⟨#[99, 97, 115, 101]⟩ : ByteArray) [.string (⟨#[99, 97, 115, 101]⟩ : ByteArray)] from rfl) (Reps.one (show Kd.M Kd.string _ _ _ (⟨#[119, 104, 101, 110]⟩ : ByteArray) [.string (⟨#[119, 104, 101, 110]⟩ : ByteArray)] from rfl) (Reps.one (show Kd.M Kd.string _ _ _ (⟨#[111, 116, 104, 101, 114, 115]⟩ : ByteArray) [.string (⟨#[111, 116, 104, 101, 114, 115]⟩ : ByteArray)] from rfl) (Reps.one (show Kd.M Kd.string _ _ _ (⟨#[108, 111, 111, 112]⟩ : ByteArray) [.string (⟨#[108, 111, 111, 112]⟩ : ByteArray)] from rfl) (Reps.one (show Kd.M Kd.string _ _ _ (⟨#[119, 104, 105, 108, 101]⟩ : ByteArray) [.string (⟨#[119, 104, 105, 108, 101]⟩ : ByteArray)] from rfl) (Reps.one (show Kd.M Kd.string _ _ _ (⟨#[119, 97, 105, 116]⟩ : ByteArray) [.string (⟨#[119, 97, 105, 116]⟩ : ByteArray)] from rfl) (Reps.one (show Kd.M Kd.string _ _ _ (⟨#[111, 110]⟩ : ByteArray) [.string (⟨#[111, 110]⟩ : ByteArray)] from rfl) (Reps.one (show Kd.M Kd.string _ _ _ (⟨#[117, 110, 116, 105, 108]⟩ : ByteArray) [.string (⟨#[117, 110, 116, 105, 108]⟩ : ByteArray)] from rfl) (Reps.one (show Kd.M Kd.string _ _ _ (⟨#[110, 117, 108, 108]⟩ : ByteArray) [.string (⟨#[110, 117, 108, 108]⟩ : ByteArray)] from rfl) (Reps.one (show Kd.M Kd.string _ _ _ (⟨#[97, 110, 100]⟩ : ByteArray) [.string (⟨#[97, 110, 100]⟩ : ByteArray)] from rfl) (Reps.one (show Kd.M Kd.string _ _ _ (⟨#[111, 114]⟩ : ByteArray) [.string (⟨#[111, 114]⟩ : ByteArray)] from rfl) (Reps.one (show Kd.M Kd.string _ _ _ (⟨#[120, 111, 114]⟩ : ByteArray) [.string (⟨#[120, 111, 114]⟩ : ByteArray)] from rfl) (Reps.one (show Kd.M Kd.string _ _ _ (⟨#[110, 97, 110, 100]⟩ : ByteArray) [.string (⟨#[110, 97, 110, 100]⟩ : ByteArray)] from rfl) (Reps.one (show Kd.M Kd.string _ _ _ (⟨#[110, 111, 114]⟩ : ByteArray) [.string (⟨#[110, 111, 114]⟩ : ByteArray)] from rfl) (Reps.one (show Kd.M Kd.string _ _ _ (⟨#[120, 110, 111, 114]⟩ : ByteArray) [.string (⟨#[120, 110, 111, 114]⟩ : ByteArray)] from rfl) (Reps.one (show Kd.M Kd.string _ _ _ (⟨#[110, 111, 116]⟩ : ByteArray) [.string (⟨#[110, 111, 116]⟩ : ByteArray)] from rfl) (Reps.one (show Kd.M Kd.string _ _ _ (⟨#[109, 111, 100]⟩ : ByteArray) [.string (⟨#[109, 111, 100]⟩ : ByteArray)] from rfl) (Reps.one (show Kd.M Kd.string _ _ _ (⟨#[115, 104, 108]⟩ : ByteArray) [.string (⟨#[115, 104, 108]⟩ : ByteArray)] from rfl) (Reps.one (show Kd.M Kd.string _ _ _ (⟨#[115, 104, 114]⟩ : ByteArray) [.string (⟨#[115, 104, 114]⟩ : ByteArray)] from rfl) (Reps.one (show Kd.M Kd.string _ _ _ (⟨#[100, 111, 119, 110, 116, 111]⟩ : ByteArray) [.string (⟨#[100, 111, 119, 110, 116, 111]⟩ : ByteArray)] from rfl) (Reps.none _ _))))))))))))))))))))))))))))))))))))))))))))))))))))))); intro v164 w1 ho2 hb hg_ hnew_; clear hg_ hnew_; (first | rw [← Ny163.out] at ho2 | (simp only [Int.reduceToNat] at ho2; rw [← Ny163.out] at ho2)); have HO165 := mk0 (Kd.R_lower ho2 (below_size (be HB))); replace HB := kh HB hb; clear hb ho2)
 go_ret
 exact ⟨_, rfl, R_up HO165.out, be HB⟩
def r03IsWord.f (k : Nat) (a0 : ByteArray) : Option (Bool) := (r03Words.f).bind fun t166 => ((r03member.f k t166 a0).bind fun t169 => (some t169))
theorem r03IsWord.mono : ∀ a0 k, LeO (r03IsWord.f k a0) (r03IsWord.f (k + 1) a0) := by
 intro a0 k
 unfold r03IsWord.f
 repeat' first
   | (with_reducible exact r03member.mono _ _ _)
   | (with_reducible exact LeO.refl _)
   | (with_reducible exact LeO.none _)
   | (with_reducible refine LeO.ite ?_ ?_)
   | (with_reducible refine LeO.bind ?_ (fun _ => ?_))
   | exact r03member.mono _ _ _
   | exact LeO.none _
   | refine LeO.ite ?_ ?_
   | refine LeO.bind ?_ (fun _ => ?_)
set_option maxHeartbeats 8000000 in
set_option maxRecDepth 100000 in
theorem r03IsWord.calls (k : Nat) (a0 : ByteArray) (r : Bool) (w : World) (h : r03IsWord.f k a0 = some r) :
  Calls Try.prog 79 #[.string a0] w fun e w' => e = .returned (.bool r) ∧ Below w.heap.size w w' := by
 have HB := mk0 (Below.refl w.heap.size w)
 have H := h; unfold r03IsWord.f at H
 clear h
 replace H := bS H; obtain ⟨t166, A2, H⟩ := H
 replace H := bS H; obtain ⟨t169, A3, H⟩ := H; obtain rfl := sI H
 go_enter Try.func79, Try.ntmps79
 go_wp2_with (first | ((with_reducible refine gate_callee (f := 92) rfl ?_); refine goesL_ (some 3) rfl rfl Try.func92 (by kernel_rfl) rfl #[] rfl (by (try simp only [List.map_toArray, List.map_cons, List.map_nil]); first | done | rfl | (simp only [List.length_drop, List.length_take]; rfl)) ?_; (with_reducible refine (r03Words.calls  t166 _ A2.out).mono ?_); rintro e w4 ⟨v167, rfl, ho0, hb⟩; refine ⟨_, rfl, ?_⟩; have HO168 := mk0 (Kd.R_lower ho0 (below_size (be HB))); replace HB := kh HB hb; (try clear ho0); obtain ⟨Ao5, co5, eo5⟩ := Kd.R_slice HO168.out; subst eo5) | ((with_reducible refine gate_callee (f := 91) rfl ?_); refine goesL_ (some 5) rfl rfl Try.func91 (by kernel_rfl) rfl #[.slice Ao5 t166.length co5, .string a0] rfl (by (try simp only [List.map_toArray, List.map_cons, List.map_nil]); first | done | rfl | (simp only [List.length_drop, List.length_take]; rfl)) ?_; (with_reducible refine (r03member.calls k _ _ t166 a0 t169 _ ?side1 ?side2 A3.out).mono ?_); (case side1 => repeat (first | exact (Kd.R_reads' HO168.out).2.2 | (with_reducible refine Kd.C_alloc ?_ _) | (with_reducible refine Kd.C_drewN ?_ _) | (with_reducible refine Kd.C_drew ?_))); (case side2 => exact (Kd.R_reads' HO168.out).2.1); rintro e w' ⟨rfl, ⟨nd, rfl⟩⟩; refine ⟨_, rfl, ?_⟩))
 go_ret
 exact ⟨rfl, be HB⟩
def r03IsName.f (k : Nat) (a0 : ByteArray) : Option (Bool) := if (a0.size : Int) ≥ 1 then (if (a0.size : Int) ≤ 40 then (if 0 < (a0.size : Int) then ((r03letter.f (bt a0 0)).bind fun t170 => (if t170 = true then ((r03run.f k a0 0 1).bind fun t171 => (if t171 = (a0.size : Int) then ((r03IsWord.f k a0).bind fun t172 => (some (!t172))) else (some false))) else (some false))) else (none)) else (some false)) else (some false)
theorem r03IsName.mono : ∀ a0 k, LeO (r03IsName.f k a0) (r03IsName.f (k + 1) a0) := by
 intro a0 k
 unfold r03IsName.f
 repeat' first
   | (with_reducible exact r03IsWord.mono _ _)
   | (with_reducible exact r03run.mono _ _ _ _)
   | (with_reducible exact LeO.refl _)
   | (with_reducible exact LeO.none _)
   | (with_reducible refine LeO.ite ?_ ?_)
   | (with_reducible refine LeO.bind ?_ (fun _ => ?_))
   | exact r03IsWord.mono _ _
   | exact r03run.mono _ _ _ _
   | exact LeO.none _
   | refine LeO.ite ?_ ?_
   | refine LeO.bind ?_ (fun _ => ?_)
set_option maxHeartbeats 8000000 in
set_option maxRecDepth 100000 in
theorem r03IsName.calls (k : Nat) (a0 : ByteArray) (r : Bool) (w : World) (h : r03IsName.f k a0 = some r) :
  Calls Try.prog 66 #[.string a0] w fun e w' => e = .returned (.bool r) ∧ Below w.heap.size w w' := by
 have HB := mk0 (Below.refl w.heap.size w)
 have H := h; unfold r03IsName.f at H
 clear h
 by_cases c2 : (a0.size : Int) ≥ 1
 rotate_left
 ·rw [if_neg c2] at H
  have c2b0 : decide (1 ≤ (a0.size : Int)) = false := decide_eq_false c2
  have c2b1 : decide (1 ≤ a0.size) = false := decide_eq_false (by omega)
  clear c2; obtain rfl := sI H
  go_enter Try.func66, Try.ntmps66
  go_wp2
  go_ret
  exact ⟨rfl, be HB⟩
 rw [if_pos c2] at H; have c2b0 : decide (1 ≤ (a0.size : Int)) = true := decide_eq_true c2
 have c2b1 : decide (1 ≤ a0.size) = true := decide_eq_true (by omega)
 clear c2
 replace H := iD' H; obtain ⟨c3, c3b0, H⟩ | ⟨c3, c3b0, H⟩ := H
 ·have c3b1 : decide (a0.size ≤ 40) = false := decide_eq_false (by omega); clear c3
  obtain rfl := sI H
  go_enter Try.func66, Try.ntmps66
  go_wp2
  go_ret
  exact ⟨rfl, be HB⟩
 have c3b1 : decide (a0.size ≤ 40) = true := decide_eq_true (by omega)
 clear c3
 replace H := iN H; obtain ⟨c4, c4b0, H⟩ := H
 have c4b1 : decide (0 < a0.size) = true := decide_eq_true (by omega)
 clear c4
 replace H := bS H; obtain ⟨t170, A6, H⟩ := H
 replace H := iB' H; obtain ⟨rfl, H⟩ | ⟨rfl, H⟩ := H
 ·obtain rfl := sI H
  have p5 : 0 ≤ (0 : Int) := (by omega)
  have q5 : 0 < a0.size := (by have : (0 : Int) < (a0.size : Int) := of_decide_eq_true (by assumption); omega)
  have hx5 : ∀ h : 0 < a0.size, ((a0[0]'h).toNat : Int) = bt a0 0 := bt_at a0 0
  clear p5
  have qi5 : (0 < (a0.size : Int)) = True := eq_true (of_decide_eq_true (by assumption))
  replace q5 := eq_true q5
  go_enter Try.func66, Try.ntmps66
  go_wp2_with (go_at_call 77; refine (r03letter.calls (bt a0 0) false _ A6.out).mono ?_; rintro e w' ⟨rfl, ⟨nd, rfl⟩⟩)
  go_ret
  exact ⟨rfl, be HB⟩
 replace H := bS H; obtain ⟨t171, A8, H⟩ := H
 replace H := iE' H; obtain ⟨c9, c9b0, c9b1, H⟩ | ⟨c9b0, c9b1, H⟩ := H
 ·obtain rfl := sI H
  have p5 : 0 ≤ (0 : Int) := (by omega)
  have q5 : 0 < a0.size := (by have : (0 : Int) < (a0.size : Int) := of_decide_eq_true (by assumption); omega)
  have hx5 : ∀ h : 0 < a0.size, ((a0[0]'h).toNat : Int) = bt a0 0 := bt_at a0 0
  clear p5
  have qi5 : (0 < (a0.size : Int)) = True := eq_true (of_decide_eq_true (by assumption))
  replace q5 := eq_true q5
  go_enter Try.func66, Try.ntmps66
  go_wp2_with (first | (go_at_call 77; refine (r03letter.calls (bt a0 0) true _ A6.out).mono ?_; rintro e w' ⟨rfl, ⟨nd, rfl⟩⟩) | (go_at_call 78; refine (r03run.calls k a0 0 1 t171 _ A8.out).mono ?_; rintro e w' ⟨rfl, ⟨nd, rfl⟩⟩))
  go_ret
  exact ⟨rfl, be HB⟩
 replace H := bS H; obtain ⟨t172, A10, H⟩ := H; obtain rfl := sI H
 have p5 : 0 ≤ (0 : Int) := (by omega)
 have q5 : 0 < a0.size := (by have : (0 : Int) < (a0.size : Int) := of_decide_eq_true (by assumption); omega)
 have hx5 : ∀ h : 0 < a0.size, ((a0[0]'h).toNat : Int) = bt a0 0 := bt_at a0 0
 clear p5
 have qi5 : (0 < (a0.size : Int)) = True := eq_true (of_decide_eq_true (by assumption))
 replace q5 := eq_true q5
 go_enter Try.func66, Try.ntmps66
 go_wp2_with (first | (go_at_call 77; refine (r03letter.calls (bt a0 0) true _ A6.out).mono ?_; rintro e w' ⟨rfl, ⟨nd, rfl⟩⟩) | (go_at_call 78; refine (r03run.calls k a0 0 1 t171 _ A8.out).mono ?_; rintro e w' ⟨rfl, ⟨nd, rfl⟩⟩) | (go_at_call 79; refine (r03IsWord.calls k a0 t172 _ A10.out).mono ?_; rintro e w11 ⟨rfl, hb⟩; replace HB := kh HB hb))
 go_ret
 exact ⟨rfl, be HB⟩
end Go.Proofs.Ytojankgmedccdaa.PIs
