/- Part of the proof of LawDriversResolves: every definition and lemma is one that it names. -/
import Derived.Test.YtojankgmedccdaaZPuB
namespace Go.Proofs.Ytojankgmedccdaa.Pure
open Go.RowKit Own PTy Hand PIs YtojankgmedccdaaW.PrintWords YtojankgmedccdaaW.PrintLast
theorem toList_eq (a : ByteArray) : a.toList = a.data.toList := Lib.toList_data a
theorem member_ev (x : ByteArray) (l : List ByteArray) (hl : l.length ≤ maxLen) : Ev (fun k => r03member.f k l x) (l.any fun y => decide (y.toList = x.toList)) := by
  have hm : maxLen = 9223372036854775807 := by decide
  have key : ∀ d i, i + d = l.length → Ev (fun k => r03member.l0 k x l (l.length : Int) (i : Int)) ((l.drop i).any fun y => decide (y.toList = x.toList)) := by
    intro d
    induction d with
    | zero =>
      intro i hi
      refine Ev.step (f := fun _ => some false) (fun k => ?_) (by rw [List.drop_eq_nil_of_le (by omega)]; exact Ev.now _)
      simp only [r03member.l0]
      rw [if_neg (by omega)]
    | succ d ih =>
      intro i hi
      have hlt : i < l.length := by omega
      have hr : rdOf ByteArray.empty l (i : Int) = l[i] := by simp [rdOf, List.getD_eq_getElem?_getD, hlt]
      rw [List.drop_eq_getElem_cons hlt, List.any_cons]
      by_cases he : l[i].toList = x.toList
      · refine Ev.step (f := fun _ => some true) (fun k => ?_) (by rw [decide_eq_true he]; exact Ev.now _)
        simp only [r03member.l0]
        rw [if_pos (by omega), if_pos (by omega), if_pos (by omega), hr, if_pos he]
      · refine Ev.step (f := fun k => r03member.l0 k x l (l.length : Int) ((i + 1 : Nat) : Int)) (fun k => ?_) (by rw [decide_eq_false he, Bool.false_or]; exact ih (i + 1) (by omega))
        simp only [r03member.l0]
        rw [if_pos (by omega), if_pos (by omega), if_pos (by omega), hr, if_neg he, wrap_ok (by omega) (by omega)]
        rfl
  exact key l.length 0 (by omega)
def wordB (a : ByteArray) : Bool := decide (a.data.toList ∈ wordsL)
theorem word_ref (a : ByteArray) : Ev (fun k => r03IsWord.f k a) (wordB a) := by
  obtain ⟨W, hW⟩ : ∃ W, r03Words.f = some W := ⟨_, rfl⟩
  have hl : W.length ≤ maxLen := by
    have : W.length = 73 ∨ W.length ≤ 200 := by
      right
      have h : (match r03Words.f with | some l => decide (l.length ≤ 200) | none => true) = true := by decide
      rw [hW] at h
      simpa using h
    have : maxLen = 9223372036854775807 := by decide
    omega
  have h := member_ev a W hl
  have e : (W.any fun y => decide (y.toList = a.toList)) = wordB a := by
    unfold wordB wordsL
    rw [hW, Bool.eq_iff_iff]
    simp only [List.any_eq_true, decide_eq_true_eq, List.mem_map, toList_eq]
  rw [e] at h
  refine Ev.congr (f := fun k => (r03member.f k W a).bind fun t => some t) (fun k => ?_) (Ev.bind h (Ev.now _))
  unfold r03IsWord.f
  rw [hW]
  rfl
theorem app_toList (a b : ByteArray) : (a ++ b).data.toList = a.data.toList ++ b.data.toList := by simp [ByteArray.data_append]
theorem word_lex (a : ByteArray) (h1 : 1 ≤ a.size) (h2 : a.size ≤ 1000) (hp : (32 : UInt8) ∉ a.data.toList) : lexer_IsWord.f a = some (wordB a) := by
  have hne : a.data.toList ≠ [] := by
    intro h
    have : a.size = 0 := by show a.data.size = 0; rw [← Array.length_toList, h]; rfl
    omega
  have hi : ¬ 0 ≤ Lib.indexByte a.data.toList 32 := by
    have key : ∀ l : List UInt8, 32 ∉ l → Lib.indexByte l 32 = -1 := by
      intro l
      induction l with
      | nil => intro _; rfl
      | cons x l ih =>
        intro h
        have hx : (x == 32) = false := by
          rw [beq_eq_false_iff_ne]; intro e; exact h (e ▸ List.mem_cons_self ..)
        unfold Lib.indexByte
        rw [hx, ih (fun hm => h (List.mem_cons_of_mem _ hm))]
        rfl
    rw [key _ hp]
    decide
  unfold lexer_IsWord.f
  rw [if_pos h2, if_neg (by rw [toList_eq]; exact hne), if_neg hi]
  congr 1
  rw [Bool.eq_iff_iff, contains_iff, words_line, app_toList, app_toList]
  unfold wordB
  rw [decide_eq_true_iff]
  exact line_words _ hp hne _ words_plain
theorem allFrom_iff (p : Int → Bool) (a : ByteArray) : ∀ d i, (allFrom p a d i = true ↔ ∀ j, i ≤ j → j < i + d → p (bt a (j : Int)) = true)
  | 0, i => by simp [allFrom]; omega
  | d + 1, i => by
    simp only [allFrom, Bool.and_eq_true, allFrom_iff p a d (i + 1)]
    constructor
    · rintro ⟨h, hr⟩ j h1 h2
      rcases Nat.eq_or_lt_of_le h1 with rfl | h3
      · exact h
      · exact hr j (by omega) (by omega)
    · exact fun h => ⟨h i (by omega) (by omega), fun j h1 h2 => h j (by omega) (by omega)⟩
def nameB (a : ByteArray) : Bool := decide (1 ≤ a.size) && decide (a.size ≤ 40) && letterB (bt a 0) && allFrom innerB a a.size 0 && !wordB a
theorem inner_32 : innerB 32 = false := by decide
theorem inner_plain (a : ByteArray) (h : allFrom innerB a a.size 0 = true) : (32 : UInt8) ∉ a.data.toList := by
  intro hm
  obtain ⟨j, hj, he⟩ := List.getElem_of_mem hm
  have hj' : j < a.size := by simpa using hj
  have := (allFrom_iff innerB a a.size 0).mp h j (by omega) (by omega)
  have hb : bt a (j : Int) = 32 := by
    unfold bt
    rw [dif_pos (by simpa using hj')]
    simp only [Int.toNat_natCast]
    have : a[j] = 32 := by
      rw [← he]
      exact (Array.getElem_toList ..).symm
    rw [this]; rfl
  rw [hb, inner_32] at this
  cases this
end Go.Proofs.Ytojankgmedccdaa.Pure
