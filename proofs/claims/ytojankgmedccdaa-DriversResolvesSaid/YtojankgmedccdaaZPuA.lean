/- Part of the proof of LawDriversResolves: every definition and lemma is one that it names. -/
import Derived.Test.YtojankgmedccdaaZPIsx13
namespace Go.Proofs.Ytojankgmedccdaa.Pure
open Go.RowKit Own PTy Hand PIs YtojankgmedccdaaW.PrintWords YtojankgmedccdaaW.PrintLast
theorem wrap_ok {n : Int} (h1 : -9223372036854775808 ≤ n) (h2 : n ≤ 9223372036854775807) : wrap64 n = n := by unfold wrap64; omega
theorem letter_f (c : Int) : lexer_isLetter.f c = r03letter.f c := rfl
theorem part_f (c : Int) : lexer_isPart.f c = r03inner.f c := rfl
def innerB (c : Int) : Bool := (decide (97 ≤ c) && decide (c ≤ 122)) || (decide (65 ≤ c) && decide (c ≤ 90)) || (decide (48 ≤ c) && decide (c ≤ 57)) || decide (c = 95)
def letterB (c : Int) : Bool := (decide (97 ≤ c) && decide (c ≤ 122)) || (decide (65 ≤ c) && decide (c ≤ 90))
theorem letter_b (c : Int) : r03letter.f c = some (letterB c) := by
  unfold r03letter.f letterB
  by_cases h1 : 97 ≤ c <;> by_cases h2 : c ≤ 122 <;> by_cases h3 : 65 ≤ c <;> by_cases h4 : c ≤ 90 <;> simp [h1, h2, h3, h4]
theorem inner_b (c : Int) : r03inner.f c = some (innerB c) := by
  unfold r03inner.f r03digit.f
  rw [letter_b]
  unfold letterB innerB
  simp only [Option.bind_some]
  by_cases h1 : 97 ≤ c <;> by_cases h2 : c ≤ 122 <;> by_cases h3 : 65 ≤ c <;> by_cases h4 : c ≤ 90 <;> by_cases h5 : 48 ≤ c <;> by_cases h6 : c ≤ 57 <;> simp [h1, h2, h3, h4, h5, h6] <;> rfl
theorem path_step (k : Nat) (a : ByteArray) (n i : Int) : r04path.l0 (k + 1) a n i = (if i < n then (if 0 ≤ i then (if i < (a.size : Int) then (if oddF (bt a i) = true then some false else r04path.l0 k a n (wrap64 (i + 1))) else none) else none) else (if (a.size : Int) ≥ 1 then some (decide ((a.size : Int) ≤ 100)) else some false)) := by
  simp only [r04path.l0]
  by_cases h1 : i < n
  · rw [if_pos h1, if_pos h1]
    by_cases h2 : 0 ≤ i
    · rw [if_pos h2, if_pos h2]
      by_cases h3 : i < (a.size : Int)
      · rw [if_pos h3, if_pos h3]
        unfold oddF
        generalize bt a i = c
        repeat' split
        all_goals first | rfl | (exfalso; simp_all <;> omega) | (exfalso; simp_all; done)
      · rw [if_neg h3, if_neg h3]
    · rw [if_neg h2, if_neg h2]
  · rw [if_neg h1, if_neg h1]
def allFrom (p : Int → Bool) (a : ByteArray) : Nat → Nat → Bool
  | 0, _ => true
  | d + 1, i => p (bt a (i : Int)) && allFrom p a d (i + 1)
def pathB (a : ByteArray) : Bool := allFrom (fun c => !oddF c) a a.size 0 && (decide (1 ≤ a.size) && decide (a.size ≤ 100))
theorem path_ev (a : ByteArray) (ha : a.size ≤ maxLen) : Ev (fun k => r04path.f k a) (pathB a) := by
  have hm : maxLen = 9223372036854775807 := by decide
  have key : ∀ d i, i + d = a.size → Ev (fun k => r04path.l0 k a (a.size : Int) (i : Int)) (allFrom (fun c => !oddF c) a d i && (decide (1 ≤ a.size) && decide (a.size ≤ 100))) := by
    intro d
    induction d with
    | zero =>
      intro i hi
      refine Ev.step (f := fun _ => some (decide (1 ≤ a.size) && decide (a.size ≤ 100))) (fun k => ?_) (by simpa [allFrom] using Ev.now _)
      rw [path_step, if_neg (by omega)]
      by_cases h : (a.size : Int) ≥ 1
      · rw [if_pos h]; congr 1; rw [Bool.eq_iff_iff]; simp; omega
      · rw [if_neg h]; congr 1; rw [Bool.eq_iff_iff]; simp; omega
    | succ d ih =>
      intro i hi
      by_cases ho : oddF (bt a (i : Int)) = true
      · refine Ev.step (f := fun _ => some false) (fun k => ?_) (by simpa [allFrom, ho] using Ev.now _)
        rw [path_step, if_pos (by omega), if_pos (by omega), if_pos (by omega), if_pos ho]
      · refine Ev.step (f := fun k => r04path.l0 k a (a.size : Int) ((i + 1 : Nat) : Int)) (fun k => ?_) (by simpa [allFrom, ho] using ih (i + 1) (by omega))
        rw [path_step, if_pos (by omega), if_pos (by omega), if_pos (by omega), if_neg ho, wrap_ok (by omega) (by omega)]
        rfl
  exact key a.size 0 (by omega)
end Go.Proofs.Ytojankgmedccdaa.Pure
