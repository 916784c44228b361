/- Part of the proof of LawDriversOrder: every definition and lemma is one that it names. -/
import Derived.Test.YtojankgmedccdaaQPIsx13
section
namespace Go.Proofs.Ytojankgmedccdaa.Pure
open Go.RowKit Own PTy Hand PIs YtojankgmedccdaaW.PrintWords YtojankgmedccdaaW.PrintLast
theorem wrap_ok {n : Int} (h1 : -9223372036854775808 ≤ n) (h2 : n ≤ 9223372036854775807) : wrap64 n = n := by unfold wrap64; omega
theorem letter_f (c : Int) : lexer_isLetter.f c = r03letter.f c := rfl
theorem part_f (c : Int) : lexer_isPart.f c = r03inner.f c := rfl
def innerB (c : Int) : Bool := (decide (97 ≤ c) && decide (c ≤ 122)) || (decide (65 ≤ c) && decide (c ≤ 90)) || (decide (48 ≤ c) && decide (c ≤ 57)) || decide (c = 95)
def letterB (c : Int) : Bool := (decide (97 ≤ c) && decide (c ≤ 122)) || (decide (65 ≤ c) && decide (c ≤ 90))
theorem letter_b (c : Int) : r03letter.f c = some (letterB c) := by
  unfold r03letter.f letterB
  by_cases h1 : 97 ≤ c <;> by_cases h2 : c ≤ 122 <;> by_cases h3 : 65 ≤ c <;> by_cases h4 : c ≤ 90 <;> simp [h1, h2, h3, h4]
theorem inner_b (c : Int) : r03inner.f c = some (innerB c) := by
  unfold r03inner.f r03digit.f
  rw [letter_b]
  unfold letterB innerB
  simp only [Option.bind_some]
  by_cases h1 : 97 ≤ c <;> by_cases h2 : c ≤ 122 <;> by_cases h3 : 65 ≤ c <;> by_cases h4 : c ≤ 90 <;> by_cases h5 : 48 ≤ c <;> by_cases h6 : c ≤ 57 <;> simp [h1, h2, h3, h4, h5, h6] <;> rfl
def allFrom (p : Int → Bool) (a : ByteArray) : Nat → Nat → Bool
  | 0, _ => true
  | d + 1, i => p (bt a (i : Int)) && allFrom p a d (i + 1)
def pathB (a : ByteArray) : Bool := allFrom (fun c => !oddF c) a a.size 0 && (decide (1 ≤ a.size) && decide (a.size ≤ 100))
end Go.Proofs.Ytojankgmedccdaa.Pure
end
section
namespace Go.Proofs.Ytojankgmedccdaa.Pure
open Go.RowKit Own PTy Hand PIs YtojankgmedccdaaW.PrintWords YtojankgmedccdaaW.PrintLast
theorem get_bt (a : ByteArray) (i : Nat) (h : i < a.size) : (((a.get! i).toNat : Nat) : Int) = bt a (i : Int) := by
  unfold bt
  rw [dif_pos (by simpa using h)]
  simp only [Int.toNat_natCast]
  congr 1
  have : a.get! i = a[i] := by
    show a.data[i]! = a.data[i]
    exact getElem!_pos a.data i h
  rw [this]
theorem odd_hi (n : Int) (h : 123 ≤ n) : oddF n = true := by
  unfold oddF
  have h1 : ¬ n ≤ 122 := by omega
  have h2 : ¬ n ≤ 90 := by omega
  have h3 : ¬ n ≤ 57 := by omega
  have h4 : ¬ n = 95 := by omega
  have h5 : ¬ n = 46 := by omega
  simp [h1, h2, h3, h4, h5]
theorem decode_lo (a : ByteArray) (i : Nat) (h : (a.get! i).toNat < 128) : Utf8.decode a i = ((a.get! i).toNat, 1) := by
  unfold Utf8.decode
  simp only [Nat.add_zero]
  rw [if_pos h]
theorem decode_hi (a : ByteArray) (i : Nat) (h : ¬ (a.get! i).toNat < 128) : 128 ≤ (Utf8.decode a i).1 := by
  have hr : Utf8.runeError = 65533 := rfl
  unfold Utf8.decode
  simp only [Nat.add_zero]
  rw [if_neg h]
  repeat' split
  all_goals (first | (simp only [hr]; omega) | skip)
  all_goals simp_all
  all_goals omega
theorem runes_bytes (a : ByteArray) : ∀ f pos, a.size ≤ pos + f → decide (0 ≤ Lib.idxFuncFrom (fun n => oddF (n : Int)) true a f pos) = !(allFrom (fun c => !oddF c) a (a.size - pos) pos) := by
  intro f
  induction f with
  | zero =>
    intro pos h
    rw [show a.size - pos = 0 by omega]
    rfl
  | succ f ih =>
    intro pos h
    unfold Lib.idxFuncFrom
    by_cases hp : pos < a.size
    · rw [if_pos hp, show a.size - pos = (a.size - (pos + 1)) + 1 by omega]
      unfold allFrom
      rw [← get_bt a pos hp]
      by_cases hb : (a.get! pos).toNat < 128
      · rw [decode_lo a pos hb]
        by_cases ho : oddF (((a.get! pos).toNat : Nat) : Int) = true
        · rw [if_pos ho, ho]
          simp
        · rw [if_neg ho]
          have := ih (pos + 1) (by omega)
          simp only [Bool.not_eq_true] at ho
          rw [ho]
          simpa using this
      · have h1 := decode_hi a pos hb
        have h2 : oddF ((Utf8.decode a pos).1 : Int) = true := odd_hi _ (by omega)
        have h3 : oddF (((a.get! pos).toNat : Nat) : Int) = true := odd_hi _ (by omega)
        rw [if_pos h2, h3]
        simp
    · rw [if_neg hp, show a.size - pos = 0 by omega]
      rfl
theorem contains_f (a : ByteArray) : strings_ContainsFunc.f a = some (!(allFrom (fun c => !oddF c) a a.size 0)) := by
  unfold strings_ContainsFunc.f Lib.idxFunc
  rw [runes_bytes a a.size 0 (by omega)]
  rfl
def lineOf (ws : List (List UInt8)) : List UInt8 := ws.flatMap (fun x => 32 :: x) ++ [32]
theorem line_cons (w : List UInt8) (ws : List (List UInt8)) : lineOf (w :: ws) = 32 :: (w ++ lineOf ws) := by simp [lineOf]
theorem line_head (ws : List (List UInt8)) : ∃ t, lineOf ws = 32 :: t := by
  cases ws with
  | nil => exact ⟨[], rfl⟩
  | cons w ws => exact ⟨_, line_cons w ws⟩
theorem pre_word : ∀ (a w l : List UInt8), 32 ∉ a → 32 ∉ w → ((a ++ [32]).isPrefixOf (w ++ 32 :: l) = true ↔ a = w)
  | [], [], l, _, _ => by simp
  | [], x :: w, l, _, hw => by
    simp only [List.nil_append, List.cons_append, List.isPrefixOf, Bool.and_eq_true, beq_iff_eq]
    constructor
    · rintro ⟨h, _⟩; exact absurd (h ▸ List.mem_cons_self ..) hw
    · intro h; cases h
  | y :: a, [], l, ha, _ => by
    simp only [List.nil_append, List.cons_append, List.isPrefixOf, Bool.and_eq_true, beq_iff_eq]
    constructor
    · rintro ⟨h, _⟩; exact absurd (h ▸ List.mem_cons_self ..) ha
    · intro h; cases h
  | y :: a, x :: w, l, ha, hw => by
    have ih := pre_word a w l (fun h => ha (List.mem_cons_of_mem _ h)) (fun h => hw (List.mem_cons_of_mem _ h))
    simp only [List.cons_append, List.isPrefixOf, Bool.and_eq_true, beq_iff_eq, List.cons.injEq]
    rw [ih]
def hasAt (s p : List UInt8) : Prop := ∃ i, i ≤ s.length ∧ Lib.occAt s p i = true
theorem contains_iff (s p : List UInt8) : Lib.contains s p = true ↔ hasAt s p := by
  unfold Lib.contains hasAt
  rw [decide_eq_true_iff]
  rcases Lib.index_spec s p with ⟨h, hn⟩ | ⟨i, h, hi, ho, _⟩
  · rw [h]
    constructor
    · intro h0; omega
    · rintro ⟨i, hi, ho⟩; rw [hn i hi] at ho; cases ho
  · rw [h]
    exact ⟨fun _ => ⟨i, hi, ho⟩, fun _ => by omega⟩
theorem hasAt_cons (x : UInt8) (s p : List UInt8) : hasAt (x :: s) p ↔ p.isPrefixOf (x :: s) = true ∨ hasAt s p := by
  unfold hasAt Lib.occAt
  constructor
  · rintro ⟨i, hi, ho⟩
    cases i with
    | zero => exact .inl ho
    | succ i => exact .inr ⟨i, by simpa using hi, by simpa using ho⟩
  · rintro (h | ⟨i, hi, ho⟩)
    · exact ⟨0, Nat.zero_le _, h⟩
    · exact ⟨i + 1, by simpa using hi, by simpa using ho⟩
theorem hasAt_skip (a l : List UInt8) : ∀ w : List UInt8, 32 ∉ w → (hasAt (w ++ l) (32 :: a) ↔ hasAt l (32 :: a))
  | [], _ => Iff.rfl
  | x :: w, hw => by
    rw [List.cons_append, hasAt_cons, hasAt_skip a l w (fun h => hw (List.mem_cons_of_mem _ h))]
    constructor
    · rintro (h | h)
      · simp only [List.isPrefixOf, Bool.and_eq_true, beq_iff_eq] at h
        exact absurd (h.1 ▸ List.mem_cons_self ..) hw
      · exact h
    · exact .inr
theorem line_words (a : List UInt8) (ha : 32 ∉ a) (hne : a ≠ []) : ∀ ws : List (List UInt8), (∀ w ∈ ws, 32 ∉ w) → (hasAt (lineOf ws) (32 :: (a ++ [32])) ↔ a ∈ ws)
  | [], _ => by
    constructor
    · rintro ⟨i, hi, ho⟩
      exfalso
      have h1 : i = 0 ∨ i = 1 := by simp [lineOf] at hi; omega
      unfold Lib.occAt at ho
      cases a with
      | nil => exact hne rfl
      | cons x a => rcases h1 with rfl | rfl <;> simp [lineOf, List.isPrefixOf] at ho
    · intro h; cases h
  | w :: ws, hws => by
    have hw := hws w (List.mem_cons_self ..)
    obtain ⟨t, ht⟩ := line_head ws
    rw [line_cons, hasAt_cons, hasAt_skip (a ++ [32]) (lineOf ws) w hw, line_words a ha hne ws (fun x hx => hws x (List.mem_cons_of_mem _ hx)), List.mem_cons]
    have h2 : (32 :: (a ++ [32])).isPrefixOf (32 :: (w ++ lineOf ws)) = true ↔ a = w := by
      rw [ht]
      simp only [List.isPrefixOf, beq_self_eq_true, Bool.true_and]
      exact pre_word a w t ha hw
    rw [h2]
def wordsL : List (List UInt8) := match r03Words.f with | some l => l.map (fun x : ByteArray => x.data.toList) | none => []
set_option maxRecDepth 100000 in
theorem words_line : wordsB.data.toList = lineOf wordsL := by decide
set_option maxRecDepth 100000 in
theorem words_plain : ∀ w ∈ wordsL, (32 : UInt8) ∉ w := by decide
end Go.Proofs.Ytojankgmedccdaa.Pure
end
section
namespace Go.Proofs.Ytojankgmedccdaa.Pure
open Go.RowKit Own PTy Hand PIs YtojankgmedccdaaW.PrintWords YtojankgmedccdaaW.PrintLast
theorem toList_eq (a : ByteArray) : a.toList = a.data.toList := Lib.toList_data a
def wordB (a : ByteArray) : Bool := decide (a.data.toList ∈ wordsL)
theorem app_toList (a b : ByteArray) : (a ++ b).data.toList = a.data.toList ++ b.data.toList := by simp [ByteArray.data_append]
theorem word_lex (a : ByteArray) (h1 : 1 ≤ a.size) (h2 : a.size ≤ 1000) (hp : (32 : UInt8) ∉ a.data.toList) : lexer_IsWord.f a = some (wordB a) := by
  have hne : a.data.toList ≠ [] := by
    intro h
    have : a.size = 0 := by show a.data.size = 0; rw [← Array.length_toList, h]; rfl
    omega
  have hi : ¬ 0 ≤ Lib.indexByte a.data.toList 32 := by
    have key : ∀ l : List UInt8, 32 ∉ l → Lib.indexByte l 32 = -1 := by
      intro l
      induction l with
      | nil => intro _; rfl
      | cons x l ih =>
        intro h
        have hx : (x == 32) = false := by
          rw [beq_eq_false_iff_ne]; intro e; exact h (e ▸ List.mem_cons_self ..)
        unfold Lib.indexByte
        rw [hx, ih (fun hm => h (List.mem_cons_of_mem _ hm))]
        rfl
    rw [key _ hp]
    decide
  unfold lexer_IsWord.f
  rw [if_pos h2, if_neg (by rw [toList_eq]; exact hne), if_neg hi]
  congr 1
  rw [Bool.eq_iff_iff, contains_iff, words_line, app_toList, app_toList]
  unfold wordB
  rw [decide_eq_true_iff]
  exact line_words _ hp hne _ words_plain
theorem allFrom_iff (p : Int → Bool) (a : ByteArray) : ∀ d i, (allFrom p a d i = true ↔ ∀ j, i ≤ j → j < i + d → p (bt a (j : Int)) = true)
  | 0, i => by simp [allFrom]; omega
  | d + 1, i => by
    simp only [allFrom, Bool.and_eq_true, allFrom_iff p a d (i + 1)]
    constructor
    · rintro ⟨h, hr⟩ j h1 h2
      rcases Nat.eq_or_lt_of_le h1 with rfl | h3
      · exact h
      · exact hr j (by omega) (by omega)
    · exact fun h => ⟨h i (by omega) (by omega), fun j h1 h2 => h j (by omega) (by omega)⟩
def nameB (a : ByteArray) : Bool := decide (1 ≤ a.size) && decide (a.size ≤ 40) && letterB (bt a 0) && allFrom innerB a a.size 0 && !wordB a
theorem inner_32 : innerB 32 = false := by decide
theorem inner_plain (a : ByteArray) (h : allFrom innerB a a.size 0 = true) : (32 : UInt8) ∉ a.data.toList := by
  intro hm
  obtain ⟨j, hj, he⟩ := List.getElem_of_mem hm
  have hj' : j < a.size := by simpa using hj
  have := (allFrom_iff innerB a a.size 0).mp h j (by omega) (by omega)
  have hb : bt a (j : Int) = 32 := by
    unfold bt
    rw [dif_pos (by simpa using hj')]
    simp only [Int.toNat_natCast]
    have : a[j] = 32 := by
      rw [← he]
      exact (Array.getElem_toList ..).symm
    rw [this]; rfl
  rw [hb, inner_32] at this
  cases this
end Go.Proofs.Ytojankgmedccdaa.Pure
end
section
namespace Go.Proofs.Ytojankgmedccdaa.Pure
open Go.RowKit Own PTy Hand PIs YtojankgmedccdaaW.PrintWords YtojankgmedccdaaW.PrintLast
theorem parts_ev (a : ByteArray) (ha : a.size ≤ 1000) : ∀ d i, i + d = a.size → Ev (fun k => lexer_IsName.l0 k a (a.size : Int) (i : Int)) (allFrom innerB a d i) := by
  intro d
  induction d with
  | zero =>
    intro i hi
    refine Ev.step (f := fun _ => some true) (fun k => ?_) (Ev.now _)
    simp only [lexer_IsName.l0]
    rw [if_neg (by omega)]
  | succ d ih =>
    intro i hi
    by_cases ho : innerB (bt a (i : Int)) = true
    · refine Ev.step (f := fun k => lexer_IsName.l0 k a (a.size : Int) ((i + 1 : Nat) : Int)) (fun k => ?_) (by simpa [allFrom, ho] using ih (i + 1) (by omega))
      simp only [lexer_IsName.l0]
      rw [if_pos (by omega), if_pos (by omega), if_pos (by omega), part_f, inner_b, ho, Option.bind_some, if_pos rfl, wrap_ok (by omega) (by omega)]
      rfl
    · refine Ev.step (f := fun _ => some false) (fun k => ?_) (by simpa [allFrom, ho] using Ev.now _)
      simp only [lexer_IsName.l0]
      rw [if_pos (by omega), if_pos (by omega), if_pos (by omega), part_f, inner_b, Option.bind_some, if_neg ho]
theorem nil_size (a : ByteArray) : a.toList = [] ↔ a.size = 0 := by
  rw [toList_eq]
  have : a.size = a.data.toList.length := by rw [Array.length_toList]; rfl
  rw [this, List.length_eq_zero_iff]
theorem name_lex (a : ByteArray) : Ev (fun k => lexer_IsName.f k a) (nameB a) := by
  have hj : ∀ b, Ev (fun k => lexer_IsName.j0 k b true) false := fun b => Ev.step (f := fun _ => some false) (fun k => by simp [lexer_IsName.j0]) (Ev.now _)
  by_cases h0 : a.size = 0
  · have e : nameB a = false := by unfold nameB; simp [h0]
    rw [e]
    exact Ev.congr (fun k => by unfold lexer_IsName.f; rw [if_pos ((nil_size a).mpr h0)]) (hj a)
  by_cases h4 : a.size ≤ 40
  · by_cases hl : letterB (bt a 0) = true
    · obtain ⟨t, ht, he⟩ : ∃ t, lexer_IsWord.f a = some t ∧ nameB a = (!t && allFrom innerB a a.size 0) := by
        by_cases hs : (32 : UInt8) ∈ a.data.toList
        · have hf : allFrom innerB a a.size 0 = false := by
            cases h : allFrom innerB a a.size 0
            · rfl
            · exact absurd hs (inner_plain a h)
          refine ⟨false, ?_, by unfold nameB; simp [hf]⟩
          unfold lexer_IsWord.f
          have hi : 0 ≤ Lib.indexByte a.data.toList 32 := by
            have key : ∀ l : List UInt8, 32 ∈ l → 0 ≤ Lib.indexByte l 32 := by
              intro l
              induction l with
              | nil => intro h; cases h
              | cons x l ih =>
                intro h
                unfold Lib.indexByte
                by_cases hx : x = 32
                · simp [hx]
                · have hm : 32 ∈ l := by
                    rcases List.mem_cons.mp h with e | e
                    · exact absurd e.symm hx
                    · exact e
                  have := ih hm
                  have hb : (x == 32) = false := beq_eq_false_iff_ne.mpr hx
                  rw [hb]
                  simp only [Bool.false_eq_true, if_false]
                  split <;> simp_all
                  omega
            exact key _ hs
          rw [if_pos (by omega), if_neg (fun h => h0 ((nil_size a).mp h)), if_pos hi]
        · exact ⟨wordB a, word_lex a (by omega) (by omega) hs, by
            unfold nameB
            rw [hl, decide_eq_true h4, decide_eq_true (show 1 ≤ a.size by omega)]
            simp [Bool.and_comm]⟩
      rw [he]
      refine Ev.congr (f := fun k => lexer_IsName.j0 k a t) (fun k => ?_) ?_
      · unfold lexer_IsName.f
        rw [if_neg (fun h => h0 ((nil_size a).mp h)), if_neg (by omega), if_pos (by omega), letter_f, letter_b, hl, Option.bind_some, if_pos rfl, ht, Option.bind_some]
      · cases t with
        | true => simpa using hj a
        | false =>
          refine Ev.step (f := fun k => lexer_IsName.l0 k a (a.size : Int) ((0 : Nat) : Int)) (fun k => ?_) (by simpa using parts_ev a (by omega) a.size 0 (by omega))
          simp only [lexer_IsName.j0]
          rw [if_neg (by decide)]
          rfl
    · have e : nameB a = false := by unfold nameB; simp [hl]
      rw [e]
      exact Ev.congr (fun k => by unfold lexer_IsName.f; rw [if_neg (fun h => h0 ((nil_size a).mp h)), if_neg (by omega), if_pos (by omega), letter_f, letter_b, Option.bind_some, if_neg hl]) (hj a)
  · have e : nameB a = false := by unfold nameB; simp [h4]
    rw [e]
    exact Ev.congr (fun k => by unfold lexer_IsName.f; rw [if_neg (fun h => h0 ((nil_size a).mp h)), if_pos (by omega)]) (hj a)
end Go.Proofs.Ytojankgmedccdaa.Pure
end
