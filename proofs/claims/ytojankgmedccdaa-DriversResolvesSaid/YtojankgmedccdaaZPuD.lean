/- Part of the proof of LawDriversResolves: every definition and lemma is one that it names. -/
import Derived.Test.YtojankgmedccdaaZPuC
namespace Go.Proofs.Ytojankgmedccdaa.Pure
open Go.RowKit Own PTy Hand PIs YtojankgmedccdaaW.PrintWords YtojankgmedccdaaW.PrintLast
theorem parts_ev (a : ByteArray) (ha : a.size ≤ 1000) : ∀ d i, i + d = a.size → Ev (fun k => lexer_IsName.l0 k a (a.size : Int) (i : Int)) (allFrom innerB a d i) := by
  intro d
  induction d with
  | zero =>
    intro i hi
    refine Ev.step (f := fun _ => some true) (fun k => ?_) (Ev.now _)
    simp only [lexer_IsName.l0]
    rw [if_neg (by omega)]
  | succ d ih =>
    intro i hi
    by_cases ho : innerB (bt a (i : Int)) = true
    · refine Ev.step (f := fun k => lexer_IsName.l0 k a (a.size : Int) ((i + 1 : Nat) : Int)) (fun k => ?_) (by simpa [allFrom, ho] using ih (i + 1) (by omega))
      simp only [lexer_IsName.l0]
      rw [if_pos (by omega), if_pos (by omega), if_pos (by omega), part_f, inner_b, ho, Option.bind_some, if_pos rfl, wrap_ok (by omega) (by omega)]
      rfl
    · refine Ev.step (f := fun _ => some false) (fun k => ?_) (by simpa [allFrom, ho] using Ev.now _)
      simp only [lexer_IsName.l0]
      rw [if_pos (by omega), if_pos (by omega), if_pos (by omega), part_f, inner_b, Option.bind_some, if_neg ho]
theorem run_ev (a : ByteArray) (ha : a.size ≤ 1000) : ∀ d i, i + d = a.size → ∃ r : Int, Ev (fun k => r03run.l0 k a 0 1 (i : Int)) r ∧ (r = (a.size : Int) ↔ allFrom innerB a d i = true) := by
  intro d
  induction d with
  | zero =>
    intro i hi
    refine ⟨(i : Int), Ev.step (f := fun _ => some (i : Int)) (fun k => ?_) (Ev.now _), by simp [allFrom]; omega⟩
    simp only [r03run.l0]
    rw [Int.zero_add, wrap_ok (by omega) (by omega), if_neg (by omega)]
  | succ d ih =>
    intro i hi
    by_cases ho : innerB (bt a (i : Int)) = true
    · obtain ⟨r, h1, h2⟩ := ih (i + 1) (by omega)
      refine ⟨r, Ev.step (f := fun k => r03run.l0 k a 0 1 ((i + 1 : Nat) : Int)) (fun k => ?_) h1, by rw [h2]; simp [allFrom, ho]⟩
      simp only [r03run.l0]
      rw [Int.zero_add, wrap_ok (n := (i : Int)) (by omega) (by omega), if_pos (by omega), if_pos (by omega)]
      unfold r03of.f
      rw [if_neg (by decide), if_pos rfl, inner_b, ho, Option.bind_some, Option.bind_some, if_pos rfl, wrap_ok (by omega) (by omega)]
      rfl
    · refine ⟨(i : Int), Ev.step (f := fun _ => some (i : Int)) (fun k => ?_) (Ev.now _), by simp [allFrom, ho]; omega⟩
      simp only [r03run.l0]
      rw [Int.zero_add, wrap_ok (n := (i : Int)) (by omega) (by omega), if_pos (by omega), if_pos (by omega)]
      unfold r03of.f
      rw [if_neg (by decide), if_pos rfl, inner_b, Option.bind_some, Option.bind_some, if_neg ho]
theorem nil_size (a : ByteArray) : a.toList = [] ↔ a.size = 0 := by
  rw [toList_eq]
  have : a.size = a.data.toList.length := by rw [Array.length_toList]; rfl
  rw [this, List.length_eq_zero_iff]
theorem name_lex (a : ByteArray) : Ev (fun k => lexer_IsName.f k a) (nameB a) := by
  have hj : ∀ b, Ev (fun k => lexer_IsName.j0 k b true) false := fun b => Ev.step (f := fun _ => some false) (fun k => by simp [lexer_IsName.j0]) (Ev.now _)
  by_cases h0 : a.size = 0
  · have e : nameB a = false := by unfold nameB; simp [h0]
    rw [e]
    exact Ev.congr (fun k => by unfold lexer_IsName.f; rw [if_pos ((nil_size a).mpr h0)]) (hj a)
  by_cases h4 : a.size ≤ 40
  · by_cases hl : letterB (bt a 0) = true
    · obtain ⟨t, ht, he⟩ : ∃ t, lexer_IsWord.f a = some t ∧ nameB a = (!t && allFrom innerB a a.size 0) := by
        by_cases hs : (32 : UInt8) ∈ a.data.toList
        · have hf : allFrom innerB a a.size 0 = false := by
            cases h : allFrom innerB a a.size 0
            · rfl
            · exact absurd hs (inner_plain a h)
          refine ⟨false, ?_, by unfold nameB; simp [hf]⟩
          unfold lexer_IsWord.f
          have hi : 0 ≤ Lib.indexByte a.data.toList 32 := by
            have key : ∀ l : List UInt8, 32 ∈ l → 0 ≤ Lib.indexByte l 32 := by
              intro l
              induction l with
              | nil => intro h; cases h
              | cons x l ih =>
                intro h
                unfold Lib.indexByte
                by_cases hx : x = 32
                · simp [hx]
                · have hm : 32 ∈ l := by
                    rcases List.mem_cons.mp h with e | e
                    · exact absurd e.symm hx
                    · exact e
                  have := ih hm
                  have hb : (x == 32) = false := beq_eq_false_iff_ne.mpr hx
                  rw [hb]
                  simp only [Bool.false_eq_true, if_false]
                  split <;> simp_all
                  omega
            exact key _ hs
          rw [if_pos (by omega), if_neg (fun h => h0 ((nil_size a).mp h)), if_pos hi]
        · exact ⟨wordB a, word_lex a (by omega) (by omega) hs, by
            unfold nameB
            rw [hl, decide_eq_true h4, decide_eq_true (show 1 ≤ a.size by omega)]
            simp [Bool.and_comm]⟩
      rw [he]
      refine Ev.congr (f := fun k => lexer_IsName.j0 k a t) (fun k => ?_) ?_
      · unfold lexer_IsName.f
        rw [if_neg (fun h => h0 ((nil_size a).mp h)), if_neg (by omega), if_pos (by omega), letter_f, letter_b, hl, Option.bind_some, if_pos rfl, ht, Option.bind_some]
      · cases t with
        | true => simpa using hj a
        | false =>
          refine Ev.step (f := fun k => lexer_IsName.l0 k a (a.size : Int) ((0 : Nat) : Int)) (fun k => ?_) (by simpa using parts_ev a (by omega) a.size 0 (by omega))
          simp only [lexer_IsName.j0]
          rw [if_neg (by decide)]
          rfl
    · have e : nameB a = false := by unfold nameB; simp [hl]
      rw [e]
      exact Ev.congr (fun k => by unfold lexer_IsName.f; rw [if_neg (fun h => h0 ((nil_size a).mp h)), if_neg (by omega), if_pos (by omega), letter_f, letter_b, Option.bind_some, if_neg hl]) (hj a)
  · have e : nameB a = false := by unfold nameB; simp [h4]
    rw [e]
    exact Ev.congr (fun k => by unfold lexer_IsName.f; rw [if_neg (fun h => h0 ((nil_size a).mp h)), if_pos (by omega)]) (hj a)
theorem name_ref (a : ByteArray) : Ev (fun k => r03IsName.f k a) (nameB a) := by
  by_cases h0 : 1 ≤ a.size
  · by_cases h4 : a.size ≤ 40
    · by_cases hl : letterB (bt a 0) = true
      · obtain ⟨r, h1, h2⟩ := run_ev a (by omega) a.size 0 (by omega)
        refine Ev.congr (f := fun k => (r03run.f k a 0 1).bind fun t => if t = (a.size : Int) then ((r03IsWord.f k a).bind fun t172 => (some (!t172))) else (some false)) (fun k => ?_) (Ev.bind h1 ?_)
        · unfold r03IsName.f
          rw [if_pos (by omega), if_pos (by omega), if_pos (by omega), letter_b, hl, Option.bind_some, if_pos rfl]
        · by_cases hr : r = (a.size : Int)
          · have e : nameB a = !wordB a := by
              unfold nameB
              rw [hl, decide_eq_true h4, decide_eq_true h0, h2.mp hr]
              rfl
            rw [e]
            exact Ev.congr (fun k => by rw [if_pos hr]) (Ev.bind (word_ref a) (Ev.now _))
          · have hf : allFrom innerB a a.size 0 = false := by
              cases h : allFrom innerB a a.size 0
              · rfl
              · exact absurd (h2.mpr h) hr
            have e : nameB a = false := by unfold nameB; simp [hf]
            rw [e]
            exact Ev.congr (fun k => by rw [if_neg hr]) (Ev.now _)
      · have e : nameB a = false := by unfold nameB; simp [hl]
        rw [e]
        exact Ev.congr (fun k => by unfold r03IsName.f; rw [if_pos (by omega), if_pos (by omega), if_pos (by omega), letter_b, Option.bind_some, if_neg hl]) (Ev.now _)
    · have e : nameB a = false := by unfold nameB; simp [h4]
      rw [e]
      exact Ev.congr (fun k => by unfold r03IsName.f; rw [if_pos (by omega), if_neg (by omega)]) (Ev.now _)
  · have e : nameB a = false := by unfold nameB; simp [h0]
    rw [e]
    exact Ev.congr (fun k => by unfold r03IsName.f; rw [if_neg (by omega)]) (Ev.now _)
end Go.Proofs.Ytojankgmedccdaa.Pure
