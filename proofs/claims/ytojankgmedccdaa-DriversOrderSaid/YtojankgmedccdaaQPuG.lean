/- Part of the proof of LawDriversOrder: every definition and lemma is one that it names. -/
import Derived.Test.YtojankgmedccdaaQPuD
import Derived.Test.YtojankgmedccdaaQRowV
section
namespace Go.Proofs.Ytojankgmedccdaa.Pure
open Go.RowKit Own PTy Hand PIs RowV YtojankgmedccdaaW.PrintWords YtojankgmedccdaaW.PrintLast
def Ex {α : Type} (g : Nat → Option α) : Prop := ∃ t, Ev g t
theorem Ex.now {α : Type} (t : α) : Ex (fun _ => some t) := ⟨t, Ev.now t⟩
theorem Ex.ite {α : Type} {c : Prop} [Decidable c] {g f : Nat → Option α} (h1 : Ex g) (h2 : Ex f) : Ex (fun k => if c then g k else f k) := by
  by_cases h : c
  · simpa [h] using h1
  · simpa [h] using h2
theorem Ex.bind {α β : Type} {g : Nat → Option α} {f : Nat → α → Option β} (h : Ex g) (h2 : ∀ t, Ex (fun k => f k t)) : Ex (fun k => (g k).bind (f k)) := by
  obtain ⟨t, ht⟩ := h
  obtain ⟨r, hr⟩ := h2 t
  exact ⟨r, Ev.bind ht hr⟩
theorem Ex.step {α : Type} {g f : Nat → Option α} (h : ∀ k, g (k + 1) = f k) (h2 : Ex f) : Ex g := ⟨h2.choose, Ev.step h h2.choose_spec⟩
theorem Ex.congr {α : Type} {g f : Nat → Option α} (h : ∀ k, g k = f k) (h2 : Ex f) : Ex g := ⟨h2.choose, Ev.congr h h2.choose_spec⟩
theorem Ex.loop {α : Type} {n : Nat} {F : Nat → Int → Option α} (he : Ex (fun k => F k (n : Int))) (h : ∀ i : Nat, i < n → Ex (fun k => F k ((i + 1 : Nat) : Int)) → Ex (fun k => F k (i : Int))) : ∀ i : Nat, i ≤ n → Ex (fun k => F k (i : Int)) := by
  have key : ∀ d i, i + d = n → Ex (fun k => F k (i : Int)) := by
    intro d
    induction d with
    | zero => intro i hi; obtain rfl : i = n := by omega
              exact he
    | succ d ih => intro i hi; exact h i (by omega) (ih (i + 1) (by omega))
  exact fun i hi => key (n - i) i (by omega)
theorem ml : maxLen = 9223372036854775807 := by decide
theorem rd26_mem {l : List S26} {i : Nat} (h : i < l.length) : rd_T26 l (i : Int) ∈ l := by
  unfold rd_T26
  rw [List.getD_eq_getElem?_getD, show ((i : Int)).toNat = i from rfl, List.getElem?_eq_getElem h]
  exact List.getElem_mem h
theorem rd30_mem {l : List S30} {i : Nat} (h : i < l.length) : rd_T30 l (i : Int) ∈ l := by
  unfold rd_T30
  rw [List.getD_eq_getElem?_getD, show ((i : Int)).toNat = i from rfl, List.getElem?_eq_getElem h]
  exact List.getElem_mem h
theorem eta30 (x : S30) : (⟨x.f0, x.f1, x.f2, x.f3⟩ : S30) = x := by cases x; rfl
theorem parts_ex : ∀ m (v : S30), okV m v → ∀ a1, Ex (fun k => r04parts.f k v.f0 v.f1 v.f2 v.f3 a1)
  | 0, _, h, _ => h.elim
  | m + 1, v, ⟨_, _, _, _, h5, h6⟩, a1 => by
    refine Ex.step (fun k => by rw [r04parts.f]) ?_
    have key : ∀ i : Nat, i ≤ v.f3.length → ∀ b, Ex (fun k => r04parts.l0 k b v.f3 (v.f3.length : Int) (i : Int)) := by
      have : ∀ d i, i + d = v.f3.length → ∀ b, Ex (fun k => r04parts.l0 k b v.f3 (v.f3.length : Int) (i : Int)) := by
        intro d
        induction d with
        | zero =>
          intro i hi b
          refine Ex.step (fun k => by rw [r04parts.l0]) ?_
          simp only [show ¬ ((i : Int) < (v.f3.length : Int)) by omega, if_false]
          exact Ex.now _
        | succ d ih =>
          intro i hi b
          have hl := ml
          refine Ex.step (fun k => by rw [r04parts.l0]) ?_
          simp only [show ((i : Int) < (v.f3.length : Int)) by omega, show 0 ≤ (i : Int) by omega, if_true, wrap_ok (n := (i : Int) + 1) (by omega) (by omega)]
          exact Ex.ite (Ex.now _) (Ex.bind (parts_ex m _ (h6 _ (rd30_mem (by omega))) _) fun t => ih (i + 1) (by omega) t)
      exact fun i hi b => this (v.f3.length - i) i (by omega) b
    exact key 0 (by omega) _
theorem small2 (l : List S30) (hl : l.length ≤ maxLen) (m : Nat) (hv : ∀ y ∈ l, okV m y) : Ex (fun k => r04Small.l2 k l (l.length : Int) 0) := by
  have hm := ml
  refine Ex.loop (n := l.length) (F := fun k i => r04Small.l2 k l (l.length : Int) i) ?_ (fun i hi ih => ?_) 0 (by omega)
  · refine Ex.step (fun k => by rw [r04Small.l2]) ?_
    simp only [show ¬ ((l.length : Int) < (l.length : Int)) by omega, if_false]
    exact Ex.now _
  · refine Ex.step (fun k => by rw [r04Small.l2]) ?_
    simp only [show ((i : Int) < (l.length : Int)) by omega, show 0 ≤ (i : Int) by omega, if_true, wrap_ok (n := (i : Int) + 1) (by omega) (by omega)]
    exact Ex.bind (parts_ex m _ (hv _ (rd30_mem (by omega))) _) fun t => Ex.ite (Ex.now _) ih
theorem small_ex : ∀ n (x : S26), okT n x → ∀ (l : List S30) (_ : l.length ≤ maxLen) (m : Nat) (_ : ∀ y ∈ l, okV m y), Ex (fun k => r04Small.f k x.f0 x.f1 x.f2 x.f3 x.f4 l)
  | 0, _, h, _, _, _, _ => h.elim
  | n + 1, x, ⟨_, _, _, _, h5, h6, h7⟩, l, hl, m, hv => by
    have hm := ml
    have h1 : Ex (fun k => r04Small.l1 k l x.f4 (x.f4.length : Int) 0) := by
      refine Ex.loop (n := x.f4.length) (F := fun k i => r04Small.l1 k l x.f4 (x.f4.length : Int) i) ?_ (fun i hi ih => ?_) 0 (by omega)
      · refine Ex.step (fun k => by rw [r04Small.l1]) ?_
        simp only [show ¬ ((x.f4.length : Int) < (x.f4.length : Int)) by omega, if_false]
        exact small2 l hl m hv
      · refine Ex.step (fun k => by rw [r04Small.l1]) ?_
        simp only [show ((i : Int) < (x.f4.length : Int)) by omega, show 0 ≤ (i : Int) by omega, if_true, wrap_ok (n := (i : Int) + 1) (by omega) (by omega)]
        exact Ex.ite (Ex.now _) (Ex.bind (small_ex n _ (h7 _ (rd26_mem (by omega))) [] (by simp) 0 (by simp)) fun t => Ex.ite ih (Ex.now _))
    have h0 : Ex (fun k => r04Small.l0 k l x.f3 (x.f3.length : Int) 0 x.f0 x.f1 x.f2 x.f3 x.f4) := by
      refine Ex.loop (n := x.f3.length) (F := fun k i => r04Small.l0 k l x.f3 (x.f3.length : Int) i x.f0 x.f1 x.f2 x.f3 x.f4) ?_ (fun i hi ih => ?_) 0 (by omega)
      · refine Ex.step (fun k => by rw [r04Small.l0]) ?_
        simp only [show ¬ ((x.f3.length : Int) < (x.f3.length : Int)) by omega, if_false]
        exact h1
      · refine Ex.step (fun k => by rw [r04Small.l0]) ?_
        simp only [show ((i : Int) < (x.f3.length : Int)) by omega, show 0 ≤ (i : Int) by omega, if_true, wrap_ok (n := (i : Int) + 1) (by omega) (by omega)]
        exact Ex.ite (Ex.now _) ih
    have hj : ∀ b, Ex (fun k => r04Small.j0 k l b x.f0 x.f1 x.f2 x.f3 x.f4) := fun b =>
      Ex.step (fun k => by rw [r04Small.j0]) (Ex.ite (Ex.now _) h0)
    exact Ex.step (fun k => by rw [r04Small.f]) (Ex.ite (hj _) (Ex.ite (hj _) (hj _)))
end Go.Proofs.Ytojankgmedccdaa.Pure
end
section
namespace Go.Proofs.Ytojankgmedccdaa.Pure
open Go.RowKit Own PTy Hand PIs RowV YtojankgmedccdaaW.PrintWords YtojankgmedccdaaW.PrintLast
def dup (x : ByteArray) (l : List ByteArray) : Nat → Nat → Bool
  | 0, _ => false
  | d + 1, j => decide ((rdOf ByteArray.empty l (j : Int)).toList = x.toList) || dup x l d (j + 1)
theorem rdOf_take (l : List ByteArray) (i j : Nat) (h : j < i) : rdOf ByteArray.empty (l.take i) (j : Int) = rdOf ByteArray.empty l (j : Int) := by
  unfold rdOf
  rw [List.getD_eq_getElem?_getD, List.getD_eq_getElem?_getD, show ((j : Int)).toNat = j from rfl, List.getElem?_take_of_lt h]
theorem dup_take (x : ByteArray) (l : List ByteArray) (i : Nat) : ∀ d j, j + d ≤ i → dup x (l.take i) d j = dup x l d j
  | 0, _, _ => rfl
  | d + 1, j, h => by simp only [dup]; rw [rdOf_take l i j (by omega), dup_take x l i d (j + 1) (by omega)]
theorem index_ev (l : List ByteArray) (x : ByteArray) (hl : l.length ≤ maxLen) : ∃ t : Int, Ev (fun k => sIdx.f k l x) t ∧ (0 ≤ t ↔ dup x l l.length 0 = true) := by
  have hm := ml
  have key : ∀ d i, i + d = l.length → ∃ t : Int, Ev (fun k => sIdx.l0 k l x (l.length : Int) (i : Int)) t ∧ (0 ≤ t ↔ dup x l d i = true) := by
    intro d
    induction d with
    | zero =>
      intro i hi
      refine ⟨-1, Ev.step (f := fun _ => some (-1)) (fun k => ?_) (Ev.now _), by simp [dup]⟩
      simp only [sIdx.l0]
      rw [if_neg (by omega)]
    | succ d ih =>
      intro i hi
      by_cases h : x.toList = (rdOf ByteArray.empty l (i : Int)).toList
      · refine ⟨(i : Int), Ev.step (f := fun _ => some (i : Int)) (fun k => ?_) (Ev.now _), by simp [dup, h]⟩
        simp only [sIdx.l0]
        rw [if_pos (by omega), if_pos (by omega), if_pos (by omega), if_pos h]
      · obtain ⟨t, h1, h2⟩ := ih (i + 1) (by omega)
        refine ⟨t, Ev.step (f := fun k => sIdx.l0 k l x (l.length : Int) ((i + 1 : Nat) : Int)) (fun k => ?_) h1, by rw [h2]; simp [dup, Ne.symm h]⟩
        simp only [sIdx.l0]
        rw [if_pos (by omega), if_pos (by omega), if_pos (by omega), if_neg h, wrap_ok (by omega) (by omega)]
        rfl
  exact key l.length 0 (by omega)
theorem contains_ev (l : List ByteArray) (x : ByteArray) (i : Nat) (hi : i ≤ l.length) (hl : l.length ≤ maxLen) : Ev (fun k => sCon.f k (l.take ((i : Int)).toNat) x) (dup x l i 0) := by
  obtain ⟨t, h1, h2⟩ := index_ev (l.take i) x (by rw [List.length_take]; omega)
  have hn : (l.take i).length = i := by rw [List.length_take]; omega
  rw [hn, dup_take x l i i 0 (by omega)] at h2
  have e : dup x l i 0 = decide (t ≥ 0) := by
    rw [Bool.eq_iff_iff, ← h2]; simp
  rw [e]
  exact Ev.bind (f := fun _ t => some (decide (t ≥ 0))) h1 (Ev.now _)
def okFrom (l : List ByteArray) : Nat → Nat → Bool
  | 0, _ => true
  | d + 1, i => nameB (rdOf ByteArray.empty l (i : Int)) && (!dup (rdOf ByteArray.empty l (i : Int)) l i 0 && okFrom l d (i + 1))
theorem isEnum_l0 (l : List ByteArray) (hl : l.length ≤ maxLen) (a b : Int) (c : ByteArray) (e : List S26) : ∀ d i, i + d = l.length → Ev (fun k => types_isEnum.l0 k l (l.length : Int) (i : Int) a b c l e) (okFrom l d i) := by
  have hm := ml
  intro d
  induction d with
  | zero =>
    intro i hi
    refine Ev.step (f := fun _ => some true) (fun k => ?_) (Ev.now _)
    simp only [types_isEnum.l0]
    rw [if_neg (by omega)]
  | succ d ih =>
    intro i hi
    refine Ev.step (f := fun k => (lexer_IsName.f k (rdOf ByteArray.empty l (i : Int))).bind fun t => if t = true then ((sCon.f k (l.take (i : Int).toNat) (rdOf ByteArray.empty l (i : Int))).bind fun t140 => (if t140 = true then (some false) else (types_isEnum.l0 k l (l.length : Int) ((i + 1 : Nat) : Int) a b c l e))) else some false) (fun k => ?_) ?_
    · simp only [types_isEnum.l0]
      rw [if_pos (by omega), if_pos (by omega), if_pos (by omega), wrap_ok (n := (i : Int) + 1) (by omega) (by omega)]
      simp only [show (i : Int) ≤ (l.length : Int) by omega, if_true]
      rfl
    · refine Ev.bind (name_lex _) ?_
      simp only [okFrom]
      cases hn : nameB (rdOf ByteArray.empty l (i : Int)) with
      | false => exact Ev.congr (fun k => by rw [if_neg (by simp)]) (by simpa using Ev.now _)
      | true =>
        refine Ev.congr (f := fun k => (sCon.f k (l.take (i : Int).toNat) (rdOf ByteArray.empty l (i : Int))).bind fun t140 => (if t140 = true then (some false) else (types_isEnum.l0 k l (l.length : Int) ((i + 1 : Nat) : Int) a b c l e))) (fun k => by rw [if_pos rfl]) ?_
        refine Ev.bind (contains_ev l _ i (by omega) hl) ?_
        cases hd : dup (rdOf ByteArray.empty l (i : Int)) l i 0 with
        | true => exact Ev.congr (fun k => by rw [if_pos rfl]) (by simpa using Ev.now _)
        | false => exact Ev.congr (fun k => by rw [if_neg (by simp)]) (by simpa using ih (i + 1) (by omega))
def namesB (l : List ByteArray) : Bool := decide (1 ≤ l.length) && decide (l.length ≤ 16) && okFrom l l.length 0
theorem isEnum_ev (x : S26) (hl : x.f3.length ≤ maxLen) : Ev (fun k => types_isEnum.f k x.f0 x.f1 x.f2 x.f3 x.f4) (pathB x.f2 && namesB x.f3) := by
  have hf : Ev (fun k => types_isEnum.j0 k true x.f0 x.f1 x.f2 x.f3 x.f4) false := Ev.step (f := fun _ => some false) (fun k => by simp [types_isEnum.j0]) (Ev.now _)
  by_cases h0 : x.f2.size = 0
  · have e : pathB x.f2 = false := by unfold pathB; simp [h0]
    rw [e]
    exact Ev.congr (fun k => by unfold types_isEnum.f; rw [if_pos ((nil_size _).mpr h0)]) hf
  have hne : ¬ x.f2.toList = [] := fun h => h0 ((nil_size _).mp h)
  by_cases h1 : (x.f2.size : Int) > 100
  · have e : pathB x.f2 = false := by unfold pathB; simp [show ¬ x.f2.size ≤ 100 by omega]
    rw [e]
    exact Ev.congr (fun k => by unfold types_isEnum.f; rw [if_neg hne, if_pos h1]) hf
  have ep : pathB x.f2 = allFrom (fun c => !oddF c) x.f2 x.f2.size 0 := by unfold pathB; simp [show x.f2.size ≤ 100 by omega, show 1 ≤ x.f2.size by omega]
  rw [ep]
  cases ha : allFrom (fun c => !oddF c) x.f2 x.f2.size 0 with
  | false => exact Ev.congr (fun k => by unfold types_isEnum.f; rw [if_neg hne, if_neg h1, contains_f, ha]; simp) hf
  | true =>
    by_cases h2 : (x.f3.length : Int) < 1
    · have e : namesB x.f3 = false := by unfold namesB; simp [show ¬ 1 ≤ x.f3.length by omega]
      rw [e]
      exact Ev.congr (fun k => by unfold types_isEnum.f; rw [if_neg hne, if_neg h1, contains_f, ha]; simp only [Bool.not_true, Option.bind_some, Bool.false_eq_true, if_false, if_pos h2]) hf
    · refine Ev.congr (f := fun k => types_isEnum.j0 k (decide ((x.f3.length : Int) > 16)) x.f0 x.f1 x.f2 x.f3 x.f4) (fun k => by unfold types_isEnum.f; rw [if_neg hne, if_neg h1, contains_f, ha]; simp only [Bool.not_true, Option.bind_some, Bool.false_eq_true, if_false, if_neg h2]) ?_
      by_cases h3 : (x.f3.length : Int) > 16
      · have e : namesB x.f3 = false := by unfold namesB; simp [show ¬ x.f3.length ≤ 16 by omega]
        rw [e, decide_eq_true h3]
        exact hf
      · have e : namesB x.f3 = okFrom x.f3 x.f3.length 0 := by unfold namesB; simp [show x.f3.length ≤ 16 by omega, show 1 ≤ x.f3.length by omega]
        rw [e, decide_eq_false h3]
        exact Ev.step (f := fun k => types_isEnum.l0 k x.f3 (x.f3.length : Int) ((0 : Nat) : Int) x.f0 x.f1 x.f2 x.f3 x.f4) (fun k => by simp [types_isEnum.j0]) (by simpa using isEnum_l0 x.f3 hl x.f0 x.f1 x.f2 x.f4 x.f3.length 0 (by omega))
def baseB (x : S26) : Bool := decide (x.f1 = 0) && decide (x.f2.size = 0) && decide (x.f3.length = 0) && decide (x.f4.length = 0)
def enumB (x : S26) : Bool := decide (x.f1 = 0) && decide (x.f4.length = 0) && (pathB x.f2 && namesB x.f3)
def kindB (x : S26) : Bool := decide (x.f0 = 1) || decide (x.f0 = 2) || decide (x.f0 = 3)
def scB (x : S26) : Bool := if kindB x = true then baseB x else decide (x.f0 = 5) && enumB x
end Go.Proofs.Ytojankgmedccdaa.Pure
end
section
namespace Go.Proofs.Ytojankgmedccdaa.Pure
open Go.RowKit Own PTy Hand PIs RowV YtojankgmedccdaaW.PrintWords YtojankgmedccdaaW.PrintLast
theorem len_beq {α : Type} (l : List α) : ((l.length : Int) == 0) = decide (l = []) := by
  rw [Bool.eq_iff_iff]; simp
theorem plain_f (x : S26) : types_plain.f x.f0 x.f1 x.f2 x.f3 x.f4 false false false = some (baseB x) := by
  unfold types_plain.f baseB
  by_cases h1 : x.f1 = 0 <;> by_cases h2 : x.f2.size = 0 <;> by_cases h3 : x.f3.length = 0 <;> simp [h1, h2, h3, nil_size]
  all_goals simp_all [len_beq]
theorem plain_e (x : S26) : types_plain.f x.f0 x.f1 x.f2 x.f3 x.f4 false true false = some (decide (x.f1 = 0) && decide (x.f4.length = 0)) := by
  unfold types_plain.f
  by_cases h1 : x.f1 = 0 <;> simp [h1, len_beq]
theorem kind_dec (x : S26) : kindB x = true ↔ x.f0 = 1 ∨ x.f0 = 2 ∨ x.f0 = 3 := by unfold kindB; simp [or_assoc]
theorem types_base (x : S26) (h : kindB x = true) : Ev (fun k => types_Valid.f k x.f0 x.f1 x.f2 x.f3 x.f4) (baseB x) := by
  rw [kind_dec] at h
  refine Ev.step (f := fun k => types_Valid.j0 k x.f0 true x.f0 x.f1 x.f2 x.f3 x.f4) (fun k => ?_) (Ev.step (f := fun _ => some (baseB x)) (fun k => ?_) (Ev.now _))
  · rw [types_Valid.f]
    rcases h with h | h | h <;> rw [h] <;> rfl
  · rw [types_Valid.j0, if_pos rfl, plain_f]; rfl
theorem types_enum (x : S26) (h : x.f0 = 5) (hl : x.f3.length ≤ maxLen) : Ev (fun k => types_Valid.f k x.f0 x.f1 x.f2 x.f3 x.f4) (enumB x) := by
  refine Ev.step (f := fun k => types_Valid.j0 k x.f0 false x.f0 x.f1 x.f2 x.f3 x.f4) (fun k => ?_) ?_
  · rw [types_Valid.f]
    rw [h]; rfl
  by_cases hb : (decide (x.f1 = 0) && decide (x.f4.length = 0)) = true
  · refine Ev.step (f := fun k => (types_isEnum.f k x.f0 x.f1 x.f2 x.f3 x.f4).bind fun t145 => (some t145)) (fun k => ?_) ?_
    · rw [types_Valid.j0, if_neg (by simp), if_neg (by omega), if_pos h, plain_e, hb]
      simp
    · unfold enumB
      rw [hb, Bool.true_and]
      exact Ev.bind (isEnum_ev x hl) (Ev.now _)
  · refine Ev.step (f := fun _ => some (enumB x)) (fun k => ?_) (Ev.now _)
    have hb' : (decide (x.f1 = 0) && decide (x.f4.length = 0)) = false := by simpa using hb
    unfold enumB
    rw [types_Valid.j0, if_neg (by simp), if_neg (by omega), if_pos h, plain_e, hb']
    simp
theorem types_sc (x : S26) (hx : kindB x = true ∨ x.f0 = 5) (hl : x.f3.length ≤ maxLen) : Ev (fun k => types_Valid.f k x.f0 x.f1 x.f2 x.f3 x.f4) (scB x) := by
  by_cases hk : kindB x = true
  · unfold scB; rw [if_pos hk]; exact types_base x hk
  · have h5 : x.f0 = 5 := hx.resolve_left hk
    unfold scB; rw [if_neg hk, decide_eq_true h5, Bool.true_and]; exact types_enum x h5 hl
theorem sc_no (x : S26) (hx : ¬ (kindB x = true ∨ x.f0 = 5)) : scB x = false := by
  unfold scB
  rw [if_neg (fun h => hx (.inl h)), decide_eq_false (fun h => hx (.inr h))]
  rfl
theorem scalar_ev (x : S26) (hl : x.f3.length ≤ maxLen) : Ev (fun k => drivers_Scalar.f k x.f0 x.f1 x.f2 x.f3 x.f4) (scB x) := by
  by_cases hx : kindB x = true ∨ x.f0 = 5
  · refine Ev.congr (f := fun k => (types_Valid.f k x.f0 x.f1 x.f2 x.f3 x.f4).bind fun t => some t) (fun k => ?_) (Ev.bind (types_sc x hx hl) (Ev.now _))
    unfold drivers_Scalar.f
    rw [kind_dec] at hx
    by_cases h1 : x.f0 = 1
    · rw [if_pos h1]
    by_cases h2 : x.f0 = 2
    · rw [if_neg h1, if_pos h2]
    by_cases h3 : x.f0 = 3
    · rw [if_neg h1, if_neg h2, if_pos h3]
    rw [if_neg h1, if_neg h2, if_neg h3, if_pos (by omega)]
  · rw [sc_no x hx]
    refine Ev.congr (f := fun _ => some false) (fun k => ?_) (Ev.now _)
    unfold drivers_Scalar.f
    rw [kind_dec] at hx
    rw [if_neg (by omega), if_neg (by omega), if_neg (by omega), if_neg (by omega)]
end Go.Proofs.Ytojankgmedccdaa.Pure
end
