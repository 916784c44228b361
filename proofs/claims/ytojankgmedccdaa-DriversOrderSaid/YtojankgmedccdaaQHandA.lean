/- Part of the proof of LawDriversOrder: every definition and lemma is one that it names. -/
import Derived.LoopTactic
import Derived.Outline
import Derived.WalkLawsBesides
import Derived.StillTailTactics
import Derived.Deep.RegionWith
import Derived.Lib.Hide
import Derived.Test.YtojankgmedccdaaQOwn0
import Derived.Test.YtojankgmedccdaaQW0
namespace Go.Proofs.Ytojankgmedccdaa.Hand
open Go.RowKit YtojankgmedccdaaW.PrintWords YtojankgmedccdaaW.PrintLast YtojankgmedccdaaW.PrintMore
attribute [local go_sem] max2_int min2_int max_two min_two max_three min_three max_four min_four
set_option linter.unusedVariables false
set_option linter.unusedSimpArgs false
theorem isBit_any (a : Int) (w : World) : Calls Try.prog 69 #[.int .u8 a] w fun e w' => e = .returned (.bool (decide (a ≤ 3))) ∧ w = w' := by
  go_enter Try.func69, Try.ntmps69
  go_wp2
  go_ret
  exact ⟨rfl, rfl⟩
theorem isNot_any (a : Int) (w : World) : Calls Try.prog 94 #[.int .u8 a] w fun e w' => e = .returned (.bool (!decide (a ≤ 3))) ∧ w = w' := by
  go_enter Try.func94, Try.ntmps94
  go_wp2_with (go_at_call 69; refine (isBit_any _ _).mono ?_; rintro e_ w2 ⟨rfl, rfl⟩)
  go_ret
  exact ⟨rfl, rfl⟩
theorem isNot_yes (a : Int) (h : decide (a ≤ 3) = true) (w : World) : Calls Try.prog 94 #[.int .u8 a] w fun e w' => e = .returned (.bool false) ∧ w = w' := by
  have := isNot_any a w; rw [h] at this; exact this
theorem isNot_no (a : Int) (h : decide (a ≤ 3) = false) (w : World) : Calls Try.prog 94 #[.int .u8 a] w fun e w' => e = .returned (.bool true) ∧ w = w' := by
  have := isNot_any a w; rw [h] at this; exact this
def Sign (b : Bool) (w : World) (e : Ending) (w' : World) : Prop := ∃ n : Int, e = .returned (.int .i64 n) ∧ decide (0 ≤ n) = b ∧ Drawn0 w w'
set_option maxHeartbeats 1000000 in
theorem index_all (A0 : Option Addr) (c0 : Nat) (l0 : List Int) (w : World) (hr0 : Kd.C (Kd.int .u8) w A0 l0.length l0) (hc0 : l0.length ≤ c0) (hall : ∀ i : Int, 0 ≤ i → i < l0.length → decide (rd l0 i ≤ 3) = true) :
    Calls Try.prog 105 #[.slice A0 l0.length c0, .func (.func 94) #[] #[]] w (Sign false w) := by
  have HR0 := Aside0.mk hr0
  have HA := Aside0.mk hall
  have hm : l0.length ≤ 9223372036854775807 := Kd.C_max hr0
  clear hr0 hc0 hall
  go_enter Try.func105, Try.ntmps105
  go_wp2
  go_loopw [8] (fun v wr => ∃ x : Int, v = .int .i64 x ∧ 0 ≤ x ∧ x ≤ l0.length ∧ Drawn0 w wr) (fun v _ => l0.length - (intOf v).toNat)
  case atStart => exact ⟨0, rfl, by omega, by omega, Drawn0.refl _⟩
  case round =>
    obtain ⟨x, rfl, h0, h1, ⟨m1, rfl⟩⟩ := hrel
    by_cases hlt : x < (l0.length : Int)
    · have hy := HA.out x h0 hlt
      have HC := isNot_yes (rd l0 x) hy
      have HH := Aside0.mk HC
      clear HC hy
      obtain ⟨ad, e, hx⟩ := Kd.at_int HR0.out x h0 hlt
      cases e
      go_wp2_with (go_at_call 94; refine (HH.out _).mono ?_; rintro e_ w2 ⟨rfl, rfl⟩)
      go_roundw
      case rel => exact ⟨x + 1, rfl, by omega, by omega, by repeat (first | exact Drawn0.refl _ | apply Drawn0.step)⟩
      case measure => simp [intOf]; omega
    · go_wp2
      go_ret
      exact ⟨-1, rfl, rfl, by repeat (first | exact Drawn0.refl _ | apply Drawn0.step)⟩
set_option maxHeartbeats 1000000 in
theorem index_some (A0 : Option Addr) (c0 : Nat) (l0 : List Int) (w : World) (hr0 : Kd.C (Kd.int .u8) w A0 l0.length l0) (hc0 : l0.length ≤ c0) (b : Int) (hb0 : 0 ≤ b) (hb1 : b < l0.length) (hbad : decide (rd l0 b ≤ 3) = false) (hall : ∀ i : Int, 0 ≤ i → i < b → decide (rd l0 i ≤ 3) = true) :
    Calls Try.prog 105 #[.slice A0 l0.length c0, .func (.func 94) #[] #[]] w (Sign true w) := by
  have HR0 := Aside0.mk hr0
  have HA := Aside0.mk hall
  have HBad := Aside0.mk hbad
  have hm : l0.length ≤ 9223372036854775807 := Kd.C_max hr0
  clear hr0 hc0 hall hbad
  go_enter Try.func105, Try.ntmps105
  go_wp2
  go_loopw [8] (fun v wr => ∃ x : Int, v = .int .i64 x ∧ 0 ≤ x ∧ x ≤ b ∧ Drawn0 w wr) (fun v _ => l0.length - (intOf v).toNat)
  case atStart => exact ⟨0, rfl, by omega, by omega, Drawn0.refl _⟩
  case round =>
    obtain ⟨x, rfl, h0, h1, ⟨m1, rfl⟩⟩ := hrel
    have hlt : x < (l0.length : Int) := by omega
    obtain ⟨ad, e, hx⟩ := Kd.at_int HR0.out x h0 hlt
    cases e
    by_cases he : x < b
    · have hy := HA.out x h0 he
      have HC := isNot_yes (rd l0 x) hy
      have HH := Aside0.mk HC
      clear HC hy
      go_wp2_with (go_at_call 94; refine (HH.out _).mono ?_; rintro e_ w2 ⟨rfl, rfl⟩)
      go_roundw
      case rel => exact ⟨x + 1, rfl, by omega, by omega, by repeat (first | exact Drawn0.refl _ | apply Drawn0.step)⟩
      case measure => simp [intOf]; omega
    · have hxb : x = b := by omega
      have hy : decide (rd l0 x ≤ 3) = false := by rw [hxb]; exact HBad.out
      clear hxb
      have HC := isNot_no (rd l0 x) hy
      have HH := Aside0.mk HC
      clear HC hy
      go_wp2_with (go_at_call 94; refine (HH.out _).mono ?_; rintro e_ w2 ⟨rfl, rfl⟩)
      go_ret
      exact ⟨x, rfl, decide_eq_true h0, by repeat (first | exact Drawn0.refl _ | apply Drawn0.step)⟩
theorem rd_nat (l : List Int) (i : Nat) (h : i < l.length) : rd l (i : Int) = l[i] := by simp [rd, List.getD_eq_getElem?_getD, h]
theorem index_any (A0 : Option Addr) (c0 : Nat) (l0 : List Int) (w : World) (hr0 : Kd.C (Kd.int .u8) w A0 l0.length l0) (hc0 : l0.length ≤ c0) (g : Bool) (hg : (l0.all fun x => decide (x ≤ 3)) = g) :
    Calls Try.prog 105 #[.slice A0 l0.length c0, .func (.func 94) #[] #[]] w (Sign (!g) w) := by
  cases g with
  | true =>
    refine index_all A0 c0 l0 w hr0 hc0 fun i h0 h1 => ?_
    obtain ⟨n, rfl⟩ := Int.eq_ofNat_of_zero_le h0
    rw [rd_nat l0 n (by omega)]
    rw [List.all_eq_true] at hg
    exact hg _ (List.getElem_mem _)
  | false =>
    have hlt : (l0.findIdx fun x => !decide (x ≤ 3)) < l0.length := by
      rw [List.findIdx_lt_length]
      rw [List.all_eq_false] at hg
      obtain ⟨x, hx, hn⟩ := hg
      exact ⟨x, hx, by simpa using hn⟩
    refine index_some A0 c0 l0 w hr0 hc0 ((l0.findIdx fun x => !decide (x ≤ 3) : Nat) : Int) (by omega) (by omega) ?_ ?_
    · rw [rd_nat l0 _ hlt]
      have := List.findIdx_getElem (w := hlt)
      simpa using this
    · intro i h0 h1
      obtain ⟨n, rfl⟩ := Int.eq_ofNat_of_zero_le h0
      rw [rd_nat l0 n (by omega)]
      have := List.not_of_lt_findIdx (p := fun x => !decide (x ≤ 3)) (xs := l0) (i := n) (by omega)
      simpa using this
theorem contains_any (A0 : Option Addr) (c0 : Nat) (l0 : List Int) (w : World) (hr0 : Kd.C (Kd.int .u8) w A0 l0.length l0) (hc0 : l0.length ≤ c0) (g : Bool) (hg : (l0.all fun x => decide (x ≤ 3)) = g) :
    Calls Try.prog 93 #[.slice A0 l0.length c0, .func (.func 94) #[] #[]] w fun e w' => e = .returned (.bool (!g)) ∧ Drawn0 w w' := by
  have HI := Aside0.mk (fun w hr => index_any A0 c0 l0 w hr hc0 g hg)
  have HR := Aside0.mk hr0
  clear hg hr0 hc0
  go_enter Try.func93, Try.ntmps93
  go_wp2_with (go_at_call 105; refine (HI.out _ HR.out).mono ?_; rintro e_ w2 ⟨n, rfl, hn, ⟨m, rfl⟩⟩)
  go_ret
  exact ⟨by rw [← hn]; rfl, ⟨m, rfl⟩⟩
def isF (l : List Int) : Bool := decide (1 ≤ l.length) && decide (l.length ≤ 64) && l.all fun x => decide (x ≤ 3)
def logic_Is.f (l0 : List Int) : Option Bool := some (isF l0)
set_option maxHeartbeats 1000000 in
theorem logic_Is.calls (A0 : Option Addr) (c0 : Nat) (l0 : List Int) (r : Bool) (w : World) (hr0 : Kd.C (Kd.int .u8) w A0 l0.length l0) (hc0 : l0.length ≤ c0) (h : logic_Is.f l0 = some r) :
    Calls Try.prog 81 #[.slice A0 l0.length c0] w fun e w' => e = .returned (.bool r) ∧ Drawn0 w w' := by
  obtain rfl := Option.some.inj h
  clear h
  unfold isF
  obtain ⟨g, hg⟩ : ∃ g, (l0.all fun x => decide (x ≤ 3)) = g := ⟨_, rfl⟩
  rw [hg]
  have HI := Aside0.mk (fun w hr => contains_any A0 c0 l0 w hr hc0 g hg)
  have HR := Aside0.mk hr0
  clear hg hr0 hc0
  by_cases h1 : 1 ≤ l0.length
  · have c1 : decide (1 ≤ (l0.length : Int)) = true := decide_eq_true (by omega)
    have c2 : decide (1 ≤ l0.length) = true := decide_eq_true h1
    by_cases h2 : l0.length ≤ 64
    · have c3 : decide ((l0.length : Int) ≤ 64) = true := decide_eq_true (by omega)
      have c4 : decide (l0.length ≤ 64) = true := decide_eq_true h2
      rw [c2, c4]
      go_enter Try.func81, Try.ntmps81
      go_wp2_with (go_at_call 93; refine (HI.out _ HR.out).mono ?_; rintro e_ w2 ⟨rfl, ⟨m, rfl⟩⟩)
      go_ret
      exact ⟨by simp, ⟨m, rfl⟩⟩
    · have c3 : decide ((l0.length : Int) ≤ 64) = false := decide_eq_false (by omega)
      have c4 : decide (l0.length ≤ 64) = false := decide_eq_false h2
      rw [c2, c4]
      go_enter Try.func81, Try.ntmps81
      go_wp2
      go_ret
      exact ⟨by simp, Drawn0.refl _⟩
  · have c1 : decide (1 ≤ (l0.length : Int)) = false := decide_eq_false (by omega)
    have c2 : decide (1 ≤ l0.length) = false := decide_eq_false h1
    rw [c2]
    go_enter Try.func81, Try.ntmps81
    go_wp2
    go_ret
    exact ⟨by simp, Drawn0.refl _⟩
end Go.Proofs.Ytojankgmedccdaa.Hand
