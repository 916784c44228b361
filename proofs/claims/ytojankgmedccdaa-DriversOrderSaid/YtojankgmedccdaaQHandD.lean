/- Part of the proof of LawDriversOrder: every definition and lemma is one that it names. -/
import Derived.Test.YtojankgmedccdaaQHandC
namespace Go.Proofs.Ytojankgmedccdaa.Hand
open Go.RowKit YtojankgmedccdaaW.PrintWords YtojankgmedccdaaW.PrintLast YtojankgmedccdaaW.PrintMore Own PTy
attribute [local go_sem] max2_int min2_int max_two min_two max_three min_three max_four min_four
set_option linter.unusedVariables false
set_option linter.unusedSimpArgs false
def wordsB : ByteArray :=
  ⟨((([32, 112, 97, 99, 107, 97, 103, 101, 32, 105, 115, 32, 101, 110, 100, 32, 109, 111, 100, 117, 108, 101, 32, 103, 101, 110, 101, 114, 105, 99, 32, 112, 111, 114, 116].append [32, 98, 101, 103, 105, 110, 32, 105, 110, 32, 111, 117, 116, 32, 118, 101, 99, 32, 97, 114, 114, 97, 121, 32, 111, 102, 32, 99, 111, 110, 115, 116, 32, 116, 121]).append ([112, 101, 32, 115, 105, 103, 110, 97, 108, 32, 118, 97, 114, 32, 102, 117, 110, 99, 116, 105, 111, 110, 32, 114, 101, 116, 117, 114, 110, 32, 117, 115, 101, 32, 112].append [114, 111, 99, 101, 115, 115, 32, 97, 108, 108, 32, 105, 110, 115, 116, 32, 102, 111, 114, 32, 116, 111, 32, 103, 101, 110, 101, 114, 97, 116, 101, 32, 105, 102, 32])).append (([101, 108, 115, 101, 32, 116, 114, 97, 110, 115, 112, 111, 114, 116, 32, 97, 102, 116, 101, 114, 32, 97, 115, 115, 101, 114, 116, 32, 114, 101, 112, 111, 114, 116, 32].append [116, 104, 101, 110, 32, 101, 108, 115, 105, 102, 32, 99, 97, 115, 101, 32, 119, 104, 101, 110, 32, 111, 116, 104, 101, 114, 115, 32, 108, 111, 111, 112, 32, 119, 104]).append ([105, 108, 101, 32, 119, 97, 105, 116, 32, 111, 110, 32, 117, 110, 116, 105, 108, 32, 110, 117, 108, 108, 32, 97, 110, 100, 32, 111, 114, 32, 120, 111, 114, 32, 110].append [97, 110, 100, 32, 110, 111, 114, 32, 120, 110, 111, 114, 32, 110, 111, 116, 32, 109, 111, 100, 32, 115, 104, 108, 32, 115, 104, 114, 32, 100, 111, 119, 110, 116, 111, 32]))).toArray⟩
def lexer_IsWord.f (a0 : ByteArray) : Option Bool :=
  if a0.size ≤ 1000 then (if a0.toList = ([] : List UInt8) then some false else if 0 ≤ Lib.indexByte a0.data.toList 32 then some false else some (Lib.contains wordsB.data.toList (((⟨#[32]⟩ : ByteArray) ++ a0) ++ (⟨#[32]⟩ : ByteArray)).data.toList)) else none
set_option maxHeartbeats 2000000 in
set_option maxRecDepth 100000 in
theorem lexer_IsWord.calls (a0 : ByteArray) (r : Bool) (w : World) (hG : Glob w) (h : lexer_IsWord.f a0 = some r) :
    Calls Try.prog 87 #[.string a0] w fun e w' => e = .returned (.bool r) ∧ Drawn0 w w' := by
  unfold lexer_IsWord.f at h
  by_cases hz : a0.size ≤ 1000
  · rw [if_pos hz] at h
    by_cases h0 : a0.toList = ([] : List UInt8)
    · rw [if_pos h0] at h
      obtain rfl := Option.some.inj h
      have e0 : (a0.toList == ([] : List UInt8)) = true := beq_iff_eq.mpr h0
      have e1 : (a0.toList != ([] : List UInt8)) = false := bne_eq_false_iff_eq.mpr h0
      clear hG h h0
      go_enter Try.func87, Try.ntmps87
      go_wp2
      go_ret
      exact ⟨rfl, by repeat (first | exact Drawn0.refl _ | apply Drawn0.step)⟩
    · rw [if_neg h0] at h
      have e0 : (a0.toList == ([] : List UInt8)) = false := beq_eq_false_iff_ne.mpr h0
      have e1 : (a0.toList != ([] : List UInt8)) = true := bne_iff_ne.mpr h0
      clear h0
      by_cases h1 : 0 ≤ Lib.indexByte a0.data.toList 32
      · rw [if_pos h1] at h
        obtain rfl := Option.some.inj h
        have H1 := Aside0.mk (fun w => Try.strings_Contains_one a0 32 w)
        rw [decide_eq_true h1] at H1
        clear hG h h1
        go_enter Try.func87, Try.ntmps87
        go_wp2_with (go_at_call 99; refine (H1.out _).mono ?_; rintro e_ w2 ⟨rfl, rfl⟩)
        go_ret
        exact ⟨rfl, by repeat (first | exact Drawn0.refl _ | apply Drawn0.step)⟩
      · rw [if_neg h1] at h
        have H1 := Aside0.mk (fun w => Try.strings_Contains_one a0 32 w)
        rw [decide_eq_false h1] at H1
        clear h1
        obtain ⟨m, hm⟩ := hG
        have H2 := Aside0.mk (fun w hm => Try.strings_Contains wordsB (((⟨#[32]⟩ : ByteArray) ++ a0) ++ (⟨#[32]⟩ : ByteArray)) m w (by decide) hm)
        rw [Option.some.inj h] at H2
        have HM := Aside0.mk hm
        have z1 : (⟨#[32]⟩ : ByteArray).size + a0.size ≤ 9223372036854775807 := by show 1 + a0.size ≤ _; omega
        have z2 : ((⟨#[32]⟩ : ByteArray) ++ a0).size + (⟨#[32]⟩ : ByteArray).size ≤ 9223372036854775807 := by rw [ByteArray.size_append]; show 1 + a0.size + 1 ≤ _; omega
        clear h hm
        go_enter Try.func87, Try.ntmps87
        go_wp2_with (first | (go_at_call_of 99 a0; refine (H1.out _).mono ?_; rintro e_ w2 ⟨rfl, rfl⟩) | (go_at_call 99; refine (H2.out _ ?hm).mono ?_; (case hm => exact HM.out); rintro e_ w2 ⟨rfl, rfl⟩))
        go_ret
        exact ⟨rfl, by repeat (first | exact Drawn0.refl _ | apply Drawn0.step)⟩
  · rw [if_neg hz] at h; exact absurd h (by simp)
end Go.Proofs.Ytojankgmedccdaa.Hand
