/- Part of the proof of LawDriversResolves: every definition and lemma is one that it names. -/
import Derived.Test.YtojankgmedccdaaZPuE
namespace Go.Proofs.Ytojankgmedccdaa.Pure
open Go.RowKit Own PTy Hand PIs RowV YtojankgmedccdaaW.PrintWords YtojankgmedccdaaW.PrintLast
def dup (x : ByteArray) (l : List ByteArray) : Nat → Nat → Bool
  | 0, _ => false
  | d + 1, j => decide ((rdOf ByteArray.empty l (j : Int)).toList = x.toList) || dup x l d (j + 1)
theorem rdOf_take (l : List ByteArray) (i j : Nat) (h : j < i) : rdOf ByteArray.empty (l.take i) (j : Int) = rdOf ByteArray.empty l (j : Int) := by
  unfold rdOf
  rw [List.getD_eq_getElem?_getD, List.getD_eq_getElem?_getD, show ((j : Int)).toNat = j from rfl, List.getElem?_take_of_lt h]
theorem dup_take (x : ByteArray) (l : List ByteArray) (i : Nat) : ∀ d j, j + d ≤ i → dup x (l.take i) d j = dup x l d j
  | 0, _, _ => rfl
  | d + 1, j, h => by simp only [dup]; rw [rdOf_take l i j (by omega), dup_take x l i d (j + 1) (by omega)]
theorem index_ev (l : List ByteArray) (x : ByteArray) (hl : l.length ≤ maxLen) : ∃ t : Int, Ev (fun k => sIdx.f k l x) t ∧ (0 ≤ t ↔ dup x l l.length 0 = true) := by
  have hm := ml
  have key : ∀ d i, i + d = l.length → ∃ t : Int, Ev (fun k => sIdx.l0 k l x (l.length : Int) (i : Int)) t ∧ (0 ≤ t ↔ dup x l d i = true) := by
    intro d
    induction d with
    | zero =>
      intro i hi
      refine ⟨-1, Ev.step (f := fun _ => some (-1)) (fun k => ?_) (Ev.now _), by simp [dup]⟩
      simp only [sIdx.l0]
      rw [if_neg (by omega)]
    | succ d ih =>
      intro i hi
      by_cases h : x.toList = (rdOf ByteArray.empty l (i : Int)).toList
      · refine ⟨(i : Int), Ev.step (f := fun _ => some (i : Int)) (fun k => ?_) (Ev.now _), by simp [dup, h]⟩
        simp only [sIdx.l0]
        rw [if_pos (by omega), if_pos (by omega), if_pos (by omega), if_pos h]
      · obtain ⟨t, h1, h2⟩ := ih (i + 1) (by omega)
        refine ⟨t, Ev.step (f := fun k => sIdx.l0 k l x (l.length : Int) ((i + 1 : Nat) : Int)) (fun k => ?_) h1, by rw [h2]; simp [dup, Ne.symm h]⟩
        simp only [sIdx.l0]
        rw [if_pos (by omega), if_pos (by omega), if_pos (by omega), if_neg h, wrap_ok (by omega) (by omega)]
        rfl
  exact key l.length 0 (by omega)
theorem contains_ev (l : List ByteArray) (x : ByteArray) (i : Nat) (hi : i ≤ l.length) (hl : l.length ≤ maxLen) : Ev (fun k => sCon.f k (l.take ((i : Int)).toNat) x) (dup x l i 0) := by
  obtain ⟨t, h1, h2⟩ := index_ev (l.take i) x (by rw [List.length_take]; omega)
  have hn : (l.take i).length = i := by rw [List.length_take]; omega
  rw [hn, dup_take x l i i 0 (by omega)] at h2
  have e : dup x l i 0 = decide (t ≥ 0) := by
    rw [Bool.eq_iff_iff, ← h2]; simp
  rw [e]
  exact Ev.bind (f := fun _ t => some (decide (t ≥ 0))) h1 (Ev.now _)
def okFrom (l : List ByteArray) : Nat → Nat → Bool
  | 0, _ => true
  | d + 1, i => nameB (rdOf ByteArray.empty l (i : Int)) && (!dup (rdOf ByteArray.empty l (i : Int)) l i 0 && okFrom l d (i + 1))
theorem isEnum_l0 (l : List ByteArray) (hl : l.length ≤ maxLen) (a b : Int) (c : ByteArray) (e : List S26) : ∀ d i, i + d = l.length → Ev (fun k => types_isEnum.l0 k l (l.length : Int) (i : Int) a b c l e) (okFrom l d i) := by
  have hm := ml
  intro d
  induction d with
  | zero =>
    intro i hi
    refine Ev.step (f := fun _ => some true) (fun k => ?_) (Ev.now _)
    simp only [types_isEnum.l0]
    rw [if_neg (by omega)]
  | succ d ih =>
    intro i hi
    refine Ev.step (f := fun k => (lexer_IsName.f k (rdOf ByteArray.empty l (i : Int))).bind fun t => if t = true then ((sCon.f k (l.take (i : Int).toNat) (rdOf ByteArray.empty l (i : Int))).bind fun t140 => (if t140 = true then (some false) else (types_isEnum.l0 k l (l.length : Int) ((i + 1 : Nat) : Int) a b c l e))) else some false) (fun k => ?_) ?_
    · simp only [types_isEnum.l0]
      rw [if_pos (by omega), if_pos (by omega), if_pos (by omega), wrap_ok (n := (i : Int) + 1) (by omega) (by omega)]
      simp only [show (i : Int) ≤ (l.length : Int) by omega, if_true]
      rfl
    · refine Ev.bind (name_lex _) ?_
      simp only [okFrom]
      cases hn : nameB (rdOf ByteArray.empty l (i : Int)) with
      | false => exact Ev.congr (fun k => by rw [if_neg (by simp)]) (by simpa using Ev.now _)
      | true =>
        refine Ev.congr (f := fun k => (sCon.f k (l.take (i : Int).toNat) (rdOf ByteArray.empty l (i : Int))).bind fun t140 => (if t140 = true then (some false) else (types_isEnum.l0 k l (l.length : Int) ((i + 1 : Nat) : Int) a b c l e))) (fun k => by rw [if_pos rfl]) ?_
        refine Ev.bind (contains_ev l _ i (by omega) hl) ?_
        cases hd : dup (rdOf ByteArray.empty l (i : Int)) l i 0 with
        | true => exact Ev.congr (fun k => by rw [if_pos rfl]) (by simpa using Ev.now _)
        | false => exact Ev.congr (fun k => by rw [if_neg (by simp)]) (by simpa using ih (i + 1) (by omega))
theorem valid_l1 (l : List ByteArray) (hl : l.length ≤ maxLen) (a b : Int) (c : ByteArray) (e : List S26) (x : ByteArray) (i : Nat) (hi : i < l.length) (R : Bool) (hR : Ev (fun k => r04Valid.l0 k l (l.length : Int) ((i + 1 : Nat) : Int) a b c l e) R) :
    ∀ d j, j + d = i → Ev (fun k => r04Valid.l1 k x l (l.length : Int) (i : Int) (i : Int) (j : Int) a b c l e) (!dup x l d j && R) := by
  have hm := ml
  intro d
  induction d with
  | zero =>
    intro j hj
    refine Ev.step (f := fun k => r04Valid.l0 k l (l.length : Int) ((i + 1 : Nat) : Int) a b c l e) (fun k => ?_) (by simpa [dup] using hR)
    simp only [r04Valid.l1]
    rw [if_neg (by omega), wrap_ok (n := (i : Int) + 1) (by omega) (by omega)]
    rfl
  | succ d ih =>
    intro j hj
    by_cases h : (rdOf ByteArray.empty l (j : Int)).toList = x.toList
    · refine Ev.step (f := fun _ => some false) (fun k => ?_) (by simpa [dup, h] using Ev.now _)
      simp only [r04Valid.l1]
      rw [if_pos (by omega), if_pos (by omega), if_pos (by omega), if_pos h]
    · refine Ev.step (f := fun k => r04Valid.l1 k x l (l.length : Int) (i : Int) (i : Int) ((j + 1 : Nat) : Int) a b c l e) (fun k => ?_) (by simpa [dup, h] using ih (j + 1) (by omega))
      simp only [r04Valid.l1]
      rw [if_pos (by omega), if_pos (by omega), if_pos (by omega), if_neg h, wrap_ok (n := (j : Int) + 1) (by omega) (by omega)]
      rfl
theorem valid_l0 (l : List ByteArray) (hl : l.length ≤ maxLen) (a b : Int) (c : ByteArray) (e : List S26) : ∀ d i, i + d = l.length → Ev (fun k => r04Valid.l0 k l (l.length : Int) (i : Int) a b c l e) (okFrom l d i) := by
  have hm := ml
  intro d
  induction d with
  | zero =>
    intro i hi
    refine Ev.step (f := fun _ => some true) (fun k => ?_) (Ev.now _)
    simp only [r04Valid.l0]
    rw [if_neg (by omega)]
  | succ d ih =>
    intro i hi
    refine Ev.step (f := fun k => (r03IsName.f k (rdOf ByteArray.empty l (i : Int))).bind fun t => if t = true then (r04Valid.l1 k (rdOf ByteArray.empty l (i : Int)) l (l.length : Int) (i : Int) (i : Int) ((0 : Nat) : Int) a b c l e) else some false) (fun k => ?_) ?_
    · simp only [r04Valid.l0]
      rw [if_pos (by omega), if_pos (by omega), if_pos (by omega)]
      rfl
    · refine Ev.bind (name_ref _) ?_
      simp only [okFrom]
      cases hn : nameB (rdOf ByteArray.empty l (i : Int)) with
      | false => exact Ev.congr (fun k => by rw [if_neg (by simp)]) (by simpa using Ev.now _)
      | true => exact Ev.congr (fun k => by rw [if_pos rfl]) (by simpa using valid_l1 l hl a b c e _ i (by omega) _ (ih (i + 1) (by omega)) i 0 (by omega))
def namesB (l : List ByteArray) : Bool := decide (1 ≤ l.length) && decide (l.length ≤ 16) && okFrom l l.length 0
theorem isEnum_ev (x : S26) (hl : x.f3.length ≤ maxLen) : Ev (fun k => types_isEnum.f k x.f0 x.f1 x.f2 x.f3 x.f4) (pathB x.f2 && namesB x.f3) := by
  have hf : Ev (fun k => types_isEnum.j0 k true x.f0 x.f1 x.f2 x.f3 x.f4) false := Ev.step (f := fun _ => some false) (fun k => by simp [types_isEnum.j0]) (Ev.now _)
  by_cases h0 : x.f2.size = 0
  · have e : pathB x.f2 = false := by unfold pathB; simp [h0]
    rw [e]
    exact Ev.congr (fun k => by unfold types_isEnum.f; rw [if_pos ((nil_size _).mpr h0)]) hf
  have hne : ¬ x.f2.toList = [] := fun h => h0 ((nil_size _).mp h)
  by_cases h1 : (x.f2.size : Int) > 100
  · have e : pathB x.f2 = false := by unfold pathB; simp [show ¬ x.f2.size ≤ 100 by omega]
    rw [e]
    exact Ev.congr (fun k => by unfold types_isEnum.f; rw [if_neg hne, if_pos h1]) hf
  have ep : pathB x.f2 = allFrom (fun c => !oddF c) x.f2 x.f2.size 0 := by unfold pathB; simp [show x.f2.size ≤ 100 by omega, show 1 ≤ x.f2.size by omega]
  rw [ep]
  cases ha : allFrom (fun c => !oddF c) x.f2 x.f2.size 0 with
  | false => exact Ev.congr (fun k => by unfold types_isEnum.f; rw [if_neg hne, if_neg h1, contains_f, ha]; simp) hf
  | true =>
    by_cases h2 : (x.f3.length : Int) < 1
    · have e : namesB x.f3 = false := by unfold namesB; simp [show ¬ 1 ≤ x.f3.length by omega]
      rw [e]
      exact Ev.congr (fun k => by unfold types_isEnum.f; rw [if_neg hne, if_neg h1, contains_f, ha]; simp only [Bool.not_true, Option.bind_some, Bool.false_eq_true, if_false, if_pos h2]) hf
    · refine Ev.congr (f := fun k => types_isEnum.j0 k (decide ((x.f3.length : Int) > 16)) x.f0 x.f1 x.f2 x.f3 x.f4) (fun k => by unfold types_isEnum.f; rw [if_neg hne, if_neg h1, contains_f, ha]; simp only [Bool.not_true, Option.bind_some, Bool.false_eq_true, if_false, if_neg h2]) ?_
      by_cases h3 : (x.f3.length : Int) > 16
      · have e : namesB x.f3 = false := by unfold namesB; simp [show ¬ x.f3.length ≤ 16 by omega]
        rw [e, decide_eq_true h3]
        exact hf
      · have e : namesB x.f3 = okFrom x.f3 x.f3.length 0 := by unfold namesB; simp [show x.f3.length ≤ 16 by omega, show 1 ≤ x.f3.length by omega]
        rw [e, decide_eq_false h3]
        exact Ev.step (f := fun k => types_isEnum.l0 k x.f3 (x.f3.length : Int) ((0 : Nat) : Int) x.f0 x.f1 x.f2 x.f3 x.f4) (fun k => by simp [types_isEnum.j0]) (by simpa using isEnum_l0 x.f3 hl x.f0 x.f1 x.f2 x.f4 x.f3.length 0 (by omega))
def baseB (x : S26) : Bool := decide (x.f1 = 0) && decide (x.f2.size = 0) && decide (x.f3.length = 0) && decide (x.f4.length = 0)
def enumB (x : S26) : Bool := decide (x.f1 = 0) && decide (x.f4.length = 0) && (pathB x.f2 && namesB x.f3)
def kindB (x : S26) : Bool := decide (x.f0 = 1) || decide (x.f0 = 2) || decide (x.f0 = 3)
def scB (x : S26) : Bool := if kindB x = true then baseB x else decide (x.f0 = 5) && enumB x
end Go.Proofs.Ytojankgmedccdaa.Pure
