/- Part of the proof of LawDriversResolves: every definition and lemma is one that it names. -/
import Derived.Test.YtojankgmedccdaaZPuA
namespace Go.Proofs.Ytojankgmedccdaa.Pure
open Go.RowKit Own PTy Hand PIs YtojankgmedccdaaW.PrintWords YtojankgmedccdaaW.PrintLast
theorem get_bt (a : ByteArray) (i : Nat) (h : i < a.size) : (((a.get! i).toNat : Nat) : Int) = bt a (i : Int) := by
  unfold bt
  rw [dif_pos (by simpa using h)]
  simp only [Int.toNat_natCast]
  congr 1
  have : a.get! i = a[i] := by
    show a.data[i]! = a.data[i]
    exact getElem!_pos a.data i h
  rw [this]
theorem odd_hi (n : Int) (h : 123 ≤ n) : oddF n = true := by
  unfold oddF
  have h1 : ¬ n ≤ 122 := by omega
  have h2 : ¬ n ≤ 90 := by omega
  have h3 : ¬ n ≤ 57 := by omega
  have h4 : ¬ n = 95 := by omega
  have h5 : ¬ n = 46 := by omega
  simp [h1, h2, h3, h4, h5]
theorem decode_lo (a : ByteArray) (i : Nat) (h : (a.get! i).toNat < 128) : Utf8.decode a i = ((a.get! i).toNat, 1) := by
  unfold Utf8.decode
  simp only [Nat.add_zero]
  rw [if_pos h]
theorem decode_hi (a : ByteArray) (i : Nat) (h : ¬ (a.get! i).toNat < 128) : 128 ≤ (Utf8.decode a i).1 := by
  have hr : Utf8.runeError = 65533 := rfl
  unfold Utf8.decode
  simp only [Nat.add_zero]
  rw [if_neg h]
  repeat' split
  all_goals (first | (simp only [hr]; omega) | skip)
  all_goals simp_all
  all_goals omega
theorem runes_bytes (a : ByteArray) : ∀ f pos, a.size ≤ pos + f → decide (0 ≤ Lib.idxFuncFrom (fun n => oddF (n : Int)) true a f pos) = !(allFrom (fun c => !oddF c) a (a.size - pos) pos) := by
  intro f
  induction f with
  | zero =>
    intro pos h
    rw [show a.size - pos = 0 by omega]
    rfl
  | succ f ih =>
    intro pos h
    unfold Lib.idxFuncFrom
    by_cases hp : pos < a.size
    · rw [if_pos hp, show a.size - pos = (a.size - (pos + 1)) + 1 by omega]
      unfold allFrom
      rw [← get_bt a pos hp]
      by_cases hb : (a.get! pos).toNat < 128
      · rw [decode_lo a pos hb]
        by_cases ho : oddF (((a.get! pos).toNat : Nat) : Int) = true
        · rw [if_pos ho, ho]
          simp
        · rw [if_neg ho]
          have := ih (pos + 1) (by omega)
          simp only [Bool.not_eq_true] at ho
          rw [ho]
          simpa using this
      · have h1 := decode_hi a pos hb
        have h2 : oddF ((Utf8.decode a pos).1 : Int) = true := odd_hi _ (by omega)
        have h3 : oddF (((a.get! pos).toNat : Nat) : Int) = true := odd_hi _ (by omega)
        rw [if_pos h2, h3]
        simp
    · rw [if_neg hp, show a.size - pos = 0 by omega]
      rfl
theorem contains_f (a : ByteArray) : strings_ContainsFunc.f a = some (!(allFrom (fun c => !oddF c) a a.size 0)) := by
  unfold strings_ContainsFunc.f Lib.idxFunc
  rw [runes_bytes a a.size 0 (by omega)]
  rfl
def lineOf (ws : List (List UInt8)) : List UInt8 := ws.flatMap (fun x => 32 :: x) ++ [32]
theorem line_cons (w : List UInt8) (ws : List (List UInt8)) : lineOf (w :: ws) = 32 :: (w ++ lineOf ws) := by simp [lineOf]
theorem line_head (ws : List (List UInt8)) : ∃ t, lineOf ws = 32 :: t := by
  cases ws with
  | nil => exact ⟨[], rfl⟩
  | cons w ws => exact ⟨_, line_cons w ws⟩
theorem pre_word : ∀ (a w l : List UInt8), 32 ∉ a → 32 ∉ w → ((a ++ [32]).isPrefixOf (w ++ 32 :: l) = true ↔ a = w)
  | [], [], l, _, _ => by simp
  | [], x :: w, l, _, hw => by
    simp only [List.nil_append, List.cons_append, List.isPrefixOf, Bool.and_eq_true, beq_iff_eq]
    constructor
    · rintro ⟨h, _⟩; exact absurd (h ▸ List.mem_cons_self ..) hw
    · intro h; cases h
  | y :: a, [], l, ha, _ => by
    simp only [List.nil_append, List.cons_append, List.isPrefixOf, Bool.and_eq_true, beq_iff_eq]
    constructor
    · rintro ⟨h, _⟩; exact absurd (h ▸ List.mem_cons_self ..) ha
    · intro h; cases h
  | y :: a, x :: w, l, ha, hw => by
    have ih := pre_word a w l (fun h => ha (List.mem_cons_of_mem _ h)) (fun h => hw (List.mem_cons_of_mem _ h))
    simp only [List.cons_append, List.isPrefixOf, Bool.and_eq_true, beq_iff_eq, List.cons.injEq]
    rw [ih]
def hasAt (s p : List UInt8) : Prop := ∃ i, i ≤ s.length ∧ Lib.occAt s p i = true
theorem contains_iff (s p : List UInt8) : Lib.contains s p = true ↔ hasAt s p := by
  unfold Lib.contains hasAt
  rw [decide_eq_true_iff]
  rcases Lib.index_spec s p with ⟨h, hn⟩ | ⟨i, h, hi, ho, _⟩
  · rw [h]
    constructor
    · intro h0; omega
    · rintro ⟨i, hi, ho⟩; rw [hn i hi] at ho; cases ho
  · rw [h]
    exact ⟨fun _ => ⟨i, hi, ho⟩, fun _ => by omega⟩
theorem hasAt_cons (x : UInt8) (s p : List UInt8) : hasAt (x :: s) p ↔ p.isPrefixOf (x :: s) = true ∨ hasAt s p := by
  unfold hasAt Lib.occAt
  constructor
  · rintro ⟨i, hi, ho⟩
    cases i with
    | zero => exact .inl ho
    | succ i => exact .inr ⟨i, by simpa using hi, by simpa using ho⟩
  · rintro (h | ⟨i, hi, ho⟩)
    · exact ⟨0, Nat.zero_le _, h⟩
    · exact ⟨i + 1, by simpa using hi, by simpa using ho⟩
theorem hasAt_skip (a l : List UInt8) : ∀ w : List UInt8, 32 ∉ w → (hasAt (w ++ l) (32 :: a) ↔ hasAt l (32 :: a))
  | [], _ => Iff.rfl
  | x :: w, hw => by
    rw [List.cons_append, hasAt_cons, hasAt_skip a l w (fun h => hw (List.mem_cons_of_mem _ h))]
    constructor
    · rintro (h | h)
      · simp only [List.isPrefixOf, Bool.and_eq_true, beq_iff_eq] at h
        exact absurd (h.1 ▸ List.mem_cons_self ..) hw
      · exact h
    · exact .inr
theorem line_words (a : List UInt8) (ha : 32 ∉ a) (hne : a ≠ []) : ∀ ws : List (List UInt8), (∀ w ∈ ws, 32 ∉ w) → (hasAt (lineOf ws) (32 :: (a ++ [32])) ↔ a ∈ ws)
  | [], _ => by
    constructor
    · rintro ⟨i, hi, ho⟩
      exfalso
      have h1 : i = 0 ∨ i = 1 := by simp [lineOf] at hi; omega
      unfold Lib.occAt at ho
      cases a with
      | nil => exact hne rfl
      | cons x a => rcases h1 with rfl | rfl <;> simp [lineOf, List.isPrefixOf] at ho
    · intro h; cases h
  | w :: ws, hws => by
    have hw := hws w (List.mem_cons_self ..)
    obtain ⟨t, ht⟩ := line_head ws
    rw [line_cons, hasAt_cons, hasAt_skip (a ++ [32]) (lineOf ws) w hw, line_words a ha hne ws (fun x hx => hws x (List.mem_cons_of_mem _ hx)), List.mem_cons]
    have h2 : (32 :: (a ++ [32])).isPrefixOf (32 :: (w ++ lineOf ws)) = true ↔ a = w := by
      rw [ht]
      simp only [List.isPrefixOf, beq_self_eq_true, Bool.true_and]
      exact pre_word a w t ha hw
    rw [h2]
def wordsL : List (List UInt8) := match r03Words.f with | some l => l.map (fun x : ByteArray => x.data.toList) | none => []
set_option maxRecDepth 100000 in
theorem words_line : wordsB.data.toList = lineOf wordsL := by decide
set_option maxRecDepth 100000 in
theorem words_plain : ∀ w ∈ wordsL, (32 : UInt8) ∉ w := by decide
end Go.Proofs.Ytojankgmedccdaa.Pure
