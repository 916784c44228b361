/- Lemmas for LawDriversGives. -/
import Derived.Test.YtojankgmedccdaaYGPuD
import Derived.Test.YtojankgmedccdaaYGRowV
section
namespace Go.Proofs.Ytojankgmedccdaa.Pure
open Go.RowKit Own PTy Hand PIs RowV YtojankgmedccdaaW.PrintWords YtojankgmedccdaaW.PrintLast
def Ex {α : Type} (g : Nat → Option α) : Prop := ∃ t, Ev g t
theorem Ex.now {α : Type} (t : α) : Ex (fun _ => some t) := ⟨t, Ev.now t⟩
theorem Ex.ite {α : Type} {c : Prop} [Decidable c] {g f : Nat → Option α} (h1 : Ex g) (a : Ex f) : Ex (fun k => if c then g k else f k) := by
  by_cases h : c
  · simpa [h] using h1
  · simpa [h] using a
theorem Ex.bind {α β : Type} {g : Nat → Option α} {f : Nat → α → Option β} (h : Ex g) (a : ∀ t, Ex (fun k => f k t)) : Ex (fun k => (g k).bind (f k)) := by
  obtain ⟨t, b⟩ := h
  obtain ⟨r, hr⟩ := a t
  exact ⟨r, Ev.bind b hr⟩
theorem Ex.step {α : Type} {g f : Nat → Option α} (h : ∀ k, g (k + 1) = f k) (a : Ex f) : Ex g := ⟨a.choose, Ev.step h a.choose_spec⟩
theorem Ex.loop {α : Type} {n : Nat} {F : Nat → Int → Option α} (a : Ex (fun k => F k (n : Int))) (h : ∀ i : Nat, i < n → Ex (fun k => F k ((i + 1 : Nat) : Int)) → Ex (fun k => F k (i : Int))) : ∀ i : Nat, i ≤ n → Ex (fun k => F k (i : Int)) := by
  have key : ∀ d i, i + d = n → Ex (fun k => F k (i : Int)) := by
    intro d
    induction d with
    | zero => intro i hi; obtain rfl : i = n := by omega
              exact a
    | succ d b => intro i hi; exact h i (by omega) (b (i + 1) (by omega))
  exact fun i hi => key (n - i) i (by omega)
theorem ml : maxLen = 9223372036854775807 := by decide
theorem Jt {l : List S26} {i : Nat} (h : i < l.length) : Bc l (i : Int) ∈ l := by
  unfold Bc
  rw [List.getD_eq_getElem?_getD, show ((i : Int)).toNat = i from rfl, List.getElem?_eq_getElem h]
  exact List.getElem_mem h
theorem EX {l : List S30} {i : Nat} (h : i < l.length) : AC l (i : Int) ∈ l := by
  unfold AC
  rw [List.getD_eq_getElem?_getD, show ((i : Int)).toNat = i from rfl, List.getElem?_eq_getElem h]
  exact List.getElem_mem h
theorem IZ (x : S30) : (⟨x.f0, x.f1, x.f2, x.f3⟩ : S30) = x := by cases x; rfl
theorem Ju : ∀ m (v : S30), okV m v → ∀ a, Ex (fun k => CK.f k v.f0 v.f1 v.f2 v.f3 a)
  | 0, _, h, _ => h.elim
  | m + 1, v, ⟨_, _, _, _, h5, h6⟩, a => by
    refine Ex.step (fun k => by rw [CK.f]) ?_
    have key : ∀ i : Nat, i ≤ v.f3.length → ∀ b, Ex (fun k => CK.l0 k b v.f3 (v.f3.length : Int) (i : Int)) := by
      have : ∀ d i, i + d = v.f3.length → ∀ b, Ex (fun k => CK.l0 k b v.f3 (v.f3.length : Int) (i : Int)) := by
        intro d
        induction d with
        | zero =>
          intro i hi b
          refine Ex.step (fun k => by rw [CK.l0]) ?_
          simp only [show ¬ ((i : Int) < (v.f3.length : Int)) by omega, if_false]
          exact Ex.now _
        | succ d c =>
          intro i hi b
          have e := ml
          refine Ex.step (fun k => by rw [CK.l0]) ?_
          simp only [show ((i : Int) < (v.f3.length : Int)) by omega, show 0 ≤ (i : Int) by omega, if_true, CG (n := (i : Int) + 1) (by omega) (by omega)]
          exact Ex.ite (Ex.now _) (Ex.bind (Ju m _ (h6 _ (EX (by omega))) _) fun t => c (i + 1) (by omega) t)
      exact fun i hi b => this (v.f3.length - i) i (by omega) b
    exact key 0 (by omega) _
theorem Oy (l : List S30) (c : l.length ≤ maxLen) (m : Nat) (a : ∀ y ∈ l, okV m y) : Ex (fun k => BB.l2 k l (l.length : Int) 0) := by
  have hm := ml
  refine Ex.loop (n := l.length) (F := fun k i => BB.l2 k l (l.length : Int) i) ?_ (fun i hi b => ?_) 0 (by omega)
  · refine Ex.step (fun k => by rw [BB.l2]) ?_
    simp only [show ¬ ((l.length : Int) < (l.length : Int)) by omega, if_false]
    exact Ex.now _
  · refine Ex.step (fun k => by rw [BB.l2]) ?_
    simp only [show ((i : Int) < (l.length : Int)) by omega, show 0 ≤ (i : Int) by omega, if_true, CG (n := (i : Int) + 1) (by omega) (by omega)]
    exact Ex.bind (Ju m _ (a _ (EX (by omega))) _) fun t => Ex.ite (Ex.now _) b
theorem Jv : ∀ n (x : S26), okT n x → ∀ (l : List S30) (_ : l.length ≤ maxLen) (m : Nat) (_ : ∀ y ∈ l, okV m y), Ex (fun k => BB.f k x.f0 x.f1 x.f2 x.f3 x.f4 l)
  | 0, _, h, _, _, _, _ => h.elim
  | n + 1, x, ⟨_, _, _, _, h5, h6, h7⟩, l, hl, m, hv => by
    have hm := ml
    have h1 : Ex (fun k => BB.l1 k l x.f4 (x.f4.length : Int) 0) := by
      refine Ex.loop (n := x.f4.length) (F := fun k i => BB.l1 k l x.f4 (x.f4.length : Int) i) ?_ (fun i hi c => ?_) 0 (by omega)
      · refine Ex.step (fun k => by rw [BB.l1]) ?_
        simp only [show ¬ ((x.f4.length : Int) < (x.f4.length : Int)) by omega, if_false]
        exact Oy l hl m hv
      · refine Ex.step (fun k => by rw [BB.l1]) ?_
        simp only [show ((i : Int) < (x.f4.length : Int)) by omega, show 0 ≤ (i : Int) by omega, if_true, CG (n := (i : Int) + 1) (by omega) (by omega)]
        exact Ex.ite (Ex.now _) (Ex.bind (Jv n _ (h7 _ (Jt (by omega))) [] (by simp) 0 (by simp)) fun t => Ex.ite c (Ex.now _))
    have d : Ex (fun k => BB.l0 k l x.f3 (x.f3.length : Int) 0 x.f0 x.f1 x.f2 x.f3 x.f4) := by
      refine Ex.loop (n := x.f3.length) (F := fun k i => BB.l0 k l x.f3 (x.f3.length : Int) i x.f0 x.f1 x.f2 x.f3 x.f4) ?_ (fun i hi c => ?_) 0 (by omega)
      · refine Ex.step (fun k => by rw [BB.l0]) ?_
        simp only [show ¬ ((x.f3.length : Int) < (x.f3.length : Int)) by omega, if_false]
        exact h1
      · refine Ex.step (fun k => by rw [BB.l0]) ?_
        simp only [show ((i : Int) < (x.f3.length : Int)) by omega, show 0 ≤ (i : Int) by omega, if_true, CG (n := (i : Int) + 1) (by omega) (by omega)]
        exact Ex.ite (Ex.now _) c
    have a : ∀ b, Ex (fun k => BB.j0 k l b x.f0 x.f1 x.f2 x.f3 x.f4) := fun b =>
      Ex.step (fun k => by rw [BB.j0]) (Ex.ite (Ex.now _) d)
    exact Ex.step (fun k => by rw [BB.f]) (Ex.ite (a _) (Ex.ite (a _) (a _)))
end Go.Proofs.Ytojankgmedccdaa.Pure
end
section
namespace Go.Proofs.Ytojankgmedccdaa.Pure
open Go.RowKit Own PTy Hand PIs RowV YtojankgmedccdaaW.PrintWords YtojankgmedccdaaW.PrintLast
def dup (x : ByteArray) (l : List ByteArray) : Nat → Nat → Bool
  | 0, _ => false
  | d + 1, j => decide ((EZ ByteArray.empty l (j : Int)).toList = x.toList) || dup x l d (j + 1)
theorem Ll (l : List ByteArray) (i j : Nat) (h : j < i) : EZ ByteArray.empty (l.take i) (j : Int) = EZ ByteArray.empty l (j : Int) := by
  unfold EZ
  rw [List.getD_eq_getElem?_getD, List.getD_eq_getElem?_getD, show ((j : Int)).toNat = j from rfl, List.getElem?_take_of_lt h]
theorem Jw (x : ByteArray) (l : List ByteArray) (i : Nat) : ∀ d j, j + d ≤ i → dup x (l.take i) d j = dup x l d j
  | 0, _, _ => rfl
  | d + 1, j, h => by simp only [dup]; rw [Ll l i j (by omega), Jw x l i d (j + 1) (by omega)]
theorem NC (l : List ByteArray) (x : ByteArray) (c : l.length ≤ maxLen) : ∃ t : Int, Ev (fun k => F6.f k l x) t ∧ (0 ≤ t ↔ dup x l l.length 0 = true) := by
  have hm := ml
  have key : ∀ d i, i + d = l.length → ∃ t : Int, Ev (fun k => F6.l0 k l x (l.length : Int) (i : Int)) t ∧ (0 ≤ t ↔ dup x l d i = true) := by
    intro d
    induction d with
    | zero =>
      intro i hi
      refine ⟨-1, Ev.step (f := fun _ => some (-1)) (fun k => ?_) (Ev.now _), by simp [dup]⟩
      simp only [F6.l0]
      rw [if_neg (by omega)]
    | succ d b =>
      intro i hi
      by_cases h : x.toList = (EZ ByteArray.empty l (i : Int)).toList
      · refine ⟨(i : Int), Ev.step (f := fun _ => some (i : Int)) (fun k => ?_) (Ev.now _), by simp [dup, h]⟩
        simp only [F6.l0]
        rw [if_pos (by omega), if_pos (by omega), if_pos (by omega), if_pos h]
      · obtain ⟨t, h1, a⟩ := b (i + 1) (by omega)
        refine ⟨t, Ev.step (f := fun k => F6.l0 k l x (l.length : Int) ((i + 1 : Nat) : Int)) (fun k => ?_) h1, by rw [a]; simp [dup, Ne.symm h]⟩
        simp only [F6.l0]
        rw [if_pos (by omega), if_pos (by omega), if_pos (by omega), if_neg h, CG (by omega) (by omega)]
        rfl
  exact key l.length 0 (by omega)
theorem Jy (l : List ByteArray) (x : ByteArray) (i : Nat) (hi : i ≤ l.length) (b : l.length ≤ maxLen) : Ev (fun k => JU.f k (l.take ((i : Int)).toNat) x) (dup x l i 0) := by
  obtain ⟨t, h1, a⟩ := NC (l.take i) x (by rw [List.length_take]; omega)
  have hn : (l.take i).length = i := by rw [List.length_take]; omega
  rw [hn, Jw x l i i 0 (by omega)] at a
  have e : dup x l i 0 = decide (t ≥ 0) := by
    rw [Bool.eq_iff_iff, ← a]; simp
  rw [e]
  exact Ev.bind (f := fun _ t => some (decide (t ≥ 0))) h1 (Ev.now _)
def Ia (l : List ByteArray) : Nat → Nat → Bool
  | 0, _ => true
  | d + 1, i => Fw (EZ ByteArray.empty l (i : Int)) && (!dup (EZ ByteArray.empty l (i : Int)) l i 0 && Ia l d (i + 1))
theorem Lm (l : List ByteArray) (h : l.length ≤ maxLen) (a b : Int) (c : ByteArray) (e : List S26) : ∀ d i, i + d = l.length → Ev (fun k => BF.l0 k l (l.length : Int) (i : Int) a b c l e) (Ia l d i) := by
  have hm := ml
  intro d
  induction d with
  | zero =>
    intro i hi
    refine Ev.step (f := fun _ => some true) (fun k => ?_) (Ev.now _)
    simp only [BF.l0]
    rw [if_neg (by omega)]
  | succ d j =>
    intro i hi
    refine Ev.step (f := fun k => (BD.f k (EZ ByteArray.empty l (i : Int))).bind fun t => if t = true then ((JU.f k (l.take (i : Int).toNat) (EZ ByteArray.empty l (i : Int))).bind fun g => (if g = true then (some false) else (BF.l0 k l (l.length : Int) ((i + 1 : Nat) : Int) a b c l e))) else some false) (fun k => ?_) ?_
    · simp only [BF.l0]
      rw [if_pos (by omega), if_pos (by omega), if_pos (by omega), CG (n := (i : Int) + 1) (by omega) (by omega)]
      simp only [show (i : Int) ≤ (l.length : Int) by omega, if_true]
      rfl
    · refine Ev.bind (M9 _) ?_
      simp only [Ia]
      cases hn : Fw (EZ ByteArray.empty l (i : Int)) with
      | false => exact Ev.congr (fun k => by rw [if_neg (by simp)]) (by simpa using Ev.now _)
      | true =>
        refine Ev.congr (f := fun k => (JU.f k (l.take (i : Int).toNat) (EZ ByteArray.empty l (i : Int))).bind fun g => (if g = true then (some false) else (BF.l0 k l (l.length : Int) ((i + 1 : Nat) : Int) a b c l e))) (fun k => by rw [if_pos rfl]) ?_
        refine Ev.bind (Jy l _ i (by omega) h) ?_
        cases hd : dup (EZ ByteArray.empty l (i : Int)) l i 0 with
        | true => exact Ev.congr (fun k => by rw [if_pos rfl]) (by simpa using Ev.now _)
        | false => exact Ev.congr (fun k => by rw [if_neg (by simp)]) (by simpa using j (i + 1) (by omega))
def F7 (l : List ByteArray) : Bool := decide (1 ≤ l.length) && decide (l.length ≤ 16) && Ia l l.length 0
theorem Lp (x : S26) (g : x.f3.length ≤ maxLen) : Ev (fun k => BF.f k x.f0 x.f1 x.f2 x.f3 x.f4) (Hf x.f2 && F7 x.f3) := by
  have b : Ev (fun k => BF.j0 k true x.f0 x.f1 x.f2 x.f3 x.f4) false := Ev.step (f := fun _ => some false) (fun k => by simp [BF.j0]) (Ev.now _)
  by_cases h0 : x.f2.size = 0
  · have e : Hf x.f2 = false := by unfold Hf; simp [h0]
    rw [e]
    exact Ev.congr (fun k => by unfold BF.f; rw [if_pos ((EW _).mpr h0)]) b
  have a : ¬ x.f2.toList = [] := fun h => h0 ((EW _).mp h)
  by_cases h1 : (x.f2.size : Int) > 100
  · have e : Hf x.f2 = false := by unfold Hf; simp [show ¬ x.f2.size ≤ 100 by omega]
    rw [e]
    exact Ev.congr (fun k => by unfold BF.f; rw [if_neg a, if_pos h1]) b
  have d : Hf x.f2 = DW (fun c => !GM c) x.f2 x.f2.size 0 := by unfold Hf; simp [show x.f2.size ≤ 100 by omega, show 1 ≤ x.f2.size by omega]
  rw [d]
  cases ha : DW (fun c => !GM c) x.f2 x.f2.size 0 with
  | false => exact Ev.congr (fun k => by unfold BF.f; rw [if_neg a, if_neg h1, Gg, ha]; simp) b
  | true =>
    by_cases h2 : (x.f3.length : Int) < 1
    · have e : F7 x.f3 = false := by unfold F7; simp [show ¬ 1 ≤ x.f3.length by omega]
      rw [e]
      exact Ev.congr (fun k => by unfold BF.f; rw [if_neg a, if_neg h1, Gg, ha]; simp only [Bool.not_true, Option.bind_some, Bool.false_eq_true, if_false, if_pos h2]) b
    · refine Ev.congr (f := fun k => BF.j0 k (decide ((x.f3.length : Int) > 16)) x.f0 x.f1 x.f2 x.f3 x.f4) (fun k => by unfold BF.f; rw [if_neg a, if_neg h1, Gg, ha]; simp only [Bool.not_true, Option.bind_some, Bool.false_eq_true, if_false, if_neg h2]) ?_
      by_cases h3 : (x.f3.length : Int) > 16
      · have e : F7 x.f3 = false := by unfold F7; simp [show ¬ x.f3.length ≤ 16 by omega]
        rw [e, decide_eq_true h3]
        exact b
      · have e : F7 x.f3 = Ia x.f3 x.f3.length 0 := by unfold F7; simp [show x.f3.length ≤ 16 by omega, show 1 ≤ x.f3.length by omega]
        rw [e, decide_eq_false h3]
        exact Ev.step (f := fun k => BF.l0 k x.f3 (x.f3.length : Int) ((0 : Nat) : Int) x.f0 x.f1 x.f2 x.f3 x.f4) (fun k => by simp [BF.j0]) (by simpa using Lm x.f3 g x.f0 x.f1 x.f2 x.f4 x.f3.length 0 (by omega))
def I9 (x : S26) : Bool := decide (x.f1 = 0) && decide (x.f2.size = 0) && decide (x.f3.length = 0) && decide (x.f4.length = 0)
def JA (x : S26) : Bool := decide (x.f1 = 0) && decide (x.f4.length = 0) && (Hf x.f2 && F7 x.f3)
def GV (x : S26) : Bool := decide (x.f0 = 1) || decide (x.f0 = 2) || decide (x.f0 = 3)
def scB (x : S26) : Bool := if GV x = true then I9 x else decide (x.f0 = 5) && JA x
end Go.Proofs.Ytojankgmedccdaa.Pure
end
section
namespace Go.Proofs.Ytojankgmedccdaa.Pure
open Go.RowKit Own PTy Hand PIs RowV YtojankgmedccdaaW.PrintWords YtojankgmedccdaaW.PrintLast
theorem Gr {α : Type} (l : List α) : ((l.length : Int) == 0) = decide (l = []) := by
  rw [Bool.eq_iff_iff]; simp
theorem OB (x : S26) : Bq.f x.f0 x.f1 x.f2 x.f3 x.f4 false false false = some (I9 x) := by
  unfold Bq.f I9
  by_cases h1 : x.f1 = 0 <;> by_cases h2 : x.f2.size = 0 <;> by_cases h3 : x.f3.length = 0 <;> simp [h1, h2, h3, EW]
  all_goals simp_all [Gr]
theorem LD (x : S26) : Bq.f x.f0 x.f1 x.f2 x.f3 x.f4 false true false = some (decide (x.f1 = 0) && decide (x.f4.length = 0)) := by
  unfold Bq.f
  by_cases h1 : x.f1 = 0 <;> simp [h1, Gr]
theorem Gs (x : S26) : GV x = true ↔ x.f0 = 1 ∨ x.f0 = 2 ∨ x.f0 = 3 := by unfold GV; simp [or_assoc]
theorem Ke (x : S26) (h : GV x = true) : Ev (fun k => BX.f k x.f0 x.f1 x.f2 x.f3 x.f4) (I9 x) := by
  rw [Gs] at h
  refine Ev.step (f := fun k => BX.j0 k x.f0 true x.f0 x.f1 x.f2 x.f3 x.f4) (fun k => ?_) (Ev.step (f := fun _ => some (I9 x)) (fun k => ?_) (Ev.now _))
  · rw [BX.f]
    rcases h with h | h | h <;> rw [h] <;> rfl
  · rw [BX.j0, if_pos rfl, OB]; rfl
theorem Kg (x : S26) (h : x.f0 = 5) (b : x.f3.length ≤ maxLen) : Ev (fun k => BX.f k x.f0 x.f1 x.f2 x.f3 x.f4) (JA x) := by
  refine Ev.step (f := fun k => BX.j0 k x.f0 false x.f0 x.f1 x.f2 x.f3 x.f4) (fun k => ?_) ?_
  · rw [BX.f]
    rw [h]; rfl
  by_cases hb : (decide (x.f1 = 0) && decide (x.f4.length = 0)) = true
  · refine Ev.step (f := fun k => (BF.f k x.f0 x.f1 x.f2 x.f3 x.f4).bind fun t145 => (some t145)) (fun k => ?_) ?_
    · rw [BX.j0, if_neg (by simp), if_neg (by omega), if_pos h, LD, hb]
      simp
    · unfold JA
      rw [hb, Bool.true_and]
      exact Ev.bind (Lp x b) (Ev.now _)
  · refine Ev.step (f := fun _ => some (JA x)) (fun k => ?_) (Ev.now _)
    have a : (decide (x.f1 = 0) && decide (x.f4.length = 0)) = false := by simpa using hb
    unfold JA
    rw [BX.j0, if_neg (by simp), if_neg (by omega), if_pos h, LD, a]
    simp
theorem Jz (x : S26) (c : GV x = true ∨ x.f0 = 5) (b : x.f3.length ≤ maxLen) : Ev (fun k => BX.f k x.f0 x.f1 x.f2 x.f3 x.f4) (scB x) := by
  by_cases hk : GV x = true
  · unfold scB; rw [if_pos hk]; exact Ke x hk
  · have a : x.f0 = 5 := c.resolve_left hk
    unfold scB; rw [if_neg hk, decide_eq_true a, Bool.true_and]; exact Kg x a b
theorem OZ (x : S26) (a : ¬ (GV x = true ∨ x.f0 = 5)) : scB x = false := by
  unfold scB
  rw [if_neg (fun h => a (.inl h)), decide_eq_false (fun h => a (.inr h))]
  rfl
theorem Lr (x : S26) (a : x.f3.length ≤ maxLen) : Ev (fun k => CE.f k x.f0 x.f1 x.f2 x.f3 x.f4) (scB x) := by
  by_cases hx : GV x = true ∨ x.f0 = 5
  · refine Ev.congr (f := fun k => (BX.f k x.f0 x.f1 x.f2 x.f3 x.f4).bind fun t => some t) (fun k => ?_) (Ev.bind (Jz x hx a) (Ev.now _))
    unfold CE.f
    rw [Gs] at hx
    by_cases h1 : x.f0 = 1
    · rw [if_pos h1]
    by_cases h2 : x.f0 = 2
    · rw [if_neg h1, if_pos h2]
    by_cases h3 : x.f0 = 3
    · rw [if_neg h1, if_neg h2, if_pos h3]
    rw [if_neg h1, if_neg h2, if_neg h3, if_pos (by omega)]
  · rw [OZ x hx]
    refine Ev.congr (f := fun _ => some false) (fun k => ?_) (Ev.now _)
    unfold CE.f
    rw [Gs] at hx
    rw [if_neg (by omega), if_neg (by omega), if_neg (by omega), if_neg (by omega)]
end Go.Proofs.Ytojankgmedccdaa.Pure
end
