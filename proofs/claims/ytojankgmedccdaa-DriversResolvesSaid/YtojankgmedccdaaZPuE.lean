/- Part of the proof of LawDriversResolves: every definition and lemma is one that it names. -/
import Derived.Test.YtojankgmedccdaaZPuD
import Derived.Test.YtojankgmedccdaaZRowV
namespace Go.Proofs.Ytojankgmedccdaa.Pure
open Go.RowKit Own PTy Hand PIs RowV YtojankgmedccdaaW.PrintWords YtojankgmedccdaaW.PrintLast
def Ex {α : Type} (g : Nat → Option α) : Prop := ∃ t, Ev g t
theorem Ex.now {α : Type} (t : α) : Ex (fun _ => some t) := ⟨t, Ev.now t⟩
theorem Ex.ite {α : Type} {c : Prop} [Decidable c] {g f : Nat → Option α} (h1 : Ex g) (h2 : Ex f) : Ex (fun k => if c then g k else f k) := by
  by_cases h : c
  · simpa [h] using h1
  · simpa [h] using h2
theorem Ex.bind {α β : Type} {g : Nat → Option α} {f : Nat → α → Option β} (h : Ex g) (h2 : ∀ t, Ex (fun k => f k t)) : Ex (fun k => (g k).bind (f k)) := by
  obtain ⟨t, ht⟩ := h
  obtain ⟨r, hr⟩ := h2 t
  exact ⟨r, Ev.bind ht hr⟩
theorem Ex.step {α : Type} {g f : Nat → Option α} (h : ∀ k, g (k + 1) = f k) (h2 : Ex f) : Ex g := ⟨h2.choose, Ev.step h h2.choose_spec⟩
theorem Ex.congr {α : Type} {g f : Nat → Option α} (h : ∀ k, g k = f k) (h2 : Ex f) : Ex g := ⟨h2.choose, Ev.congr h h2.choose_spec⟩
theorem Ex.loop {α : Type} {n : Nat} {F : Nat → Int → Option α} (he : Ex (fun k => F k (n : Int))) (h : ∀ i : Nat, i < n → Ex (fun k => F k ((i + 1 : Nat) : Int)) → Ex (fun k => F k (i : Int))) : ∀ i : Nat, i ≤ n → Ex (fun k => F k (i : Int)) := by
  have key : ∀ d i, i + d = n → Ex (fun k => F k (i : Int)) := by
    intro d
    induction d with
    | zero => intro i hi; obtain rfl : i = n := by omega
              exact he
    | succ d ih => intro i hi; exact h i (by omega) (ih (i + 1) (by omega))
  exact fun i hi => key (n - i) i (by omega)
theorem ml : maxLen = 9223372036854775807 := by decide
theorem rd26_mem {l : List S26} {i : Nat} (h : i < l.length) : rd_T26 l (i : Int) ∈ l := by
  unfold rd_T26
  rw [List.getD_eq_getElem?_getD, show ((i : Int)).toNat = i from rfl, List.getElem?_eq_getElem h]
  exact List.getElem_mem h
theorem rd30_mem {l : List S30} {i : Nat} (h : i < l.length) : rd_T30 l (i : Int) ∈ l := by
  unfold rd_T30
  rw [List.getD_eq_getElem?_getD, show ((i : Int)).toNat = i from rfl, List.getElem?_eq_getElem h]
  exact List.getElem_mem h
theorem parts_ex : ∀ m (v : S30), okV m v → ∀ a1, Ex (fun k => r04parts.f k v.f0 v.f1 v.f2 v.f3 a1)
  | 0, _, h, _ => h.elim
  | m + 1, v, ⟨_, _, _, _, h5, h6⟩, a1 => by
    refine Ex.step (fun k => by rw [r04parts.f]) ?_
    have key : ∀ i : Nat, i ≤ v.f3.length → ∀ b, Ex (fun k => r04parts.l0 k b v.f3 (v.f3.length : Int) (i : Int)) := by
      have : ∀ d i, i + d = v.f3.length → ∀ b, Ex (fun k => r04parts.l0 k b v.f3 (v.f3.length : Int) (i : Int)) := by
        intro d
        induction d with
        | zero =>
          intro i hi b
          refine Ex.step (fun k => by rw [r04parts.l0]) ?_
          simp only [show ¬ ((i : Int) < (v.f3.length : Int)) by omega, if_false]
          exact Ex.now _
        | succ d ih =>
          intro i hi b
          have hl := ml
          refine Ex.step (fun k => by rw [r04parts.l0]) ?_
          simp only [show ((i : Int) < (v.f3.length : Int)) by omega, show 0 ≤ (i : Int) by omega, if_true, wrap_ok (n := (i : Int) + 1) (by omega) (by omega)]
          exact Ex.ite (Ex.now _) (Ex.bind (parts_ex m _ (h6 _ (rd30_mem (by omega))) _) fun t => ih (i + 1) (by omega) t)
      exact fun i hi b => this (v.f3.length - i) i (by omega) b
    exact key 0 (by omega) _
theorem small2 (l : List S30) (hl : l.length ≤ maxLen) (m : Nat) (hv : ∀ y ∈ l, okV m y) : Ex (fun k => r04Small.l2 k l (l.length : Int) 0) := by
  have hm := ml
  refine Ex.loop (n := l.length) (F := fun k i => r04Small.l2 k l (l.length : Int) i) ?_ (fun i hi ih => ?_) 0 (by omega)
  · refine Ex.step (fun k => by rw [r04Small.l2]) ?_
    simp only [show ¬ ((l.length : Int) < (l.length : Int)) by omega, if_false]
    exact Ex.now _
  · refine Ex.step (fun k => by rw [r04Small.l2]) ?_
    simp only [show ((i : Int) < (l.length : Int)) by omega, show 0 ≤ (i : Int) by omega, if_true, wrap_ok (n := (i : Int) + 1) (by omega) (by omega)]
    exact Ex.bind (parts_ex m _ (hv _ (rd30_mem (by omega))) _) fun t => Ex.ite (Ex.now _) ih
theorem small_ex : ∀ n (x : S26), okT n x → ∀ (l : List S30) (_ : l.length ≤ maxLen) (m : Nat) (_ : ∀ y ∈ l, okV m y), Ex (fun k => r04Small.f k x.f0 x.f1 x.f2 x.f3 x.f4 l)
  | 0, _, h, _, _, _, _ => h.elim
  | n + 1, x, ⟨_, _, _, _, h5, h6, h7⟩, l, hl, m, hv => by
    have hm := ml
    have h1 : Ex (fun k => r04Small.l1 k l x.f4 (x.f4.length : Int) 0) := by
      refine Ex.loop (n := x.f4.length) (F := fun k i => r04Small.l1 k l x.f4 (x.f4.length : Int) i) ?_ (fun i hi ih => ?_) 0 (by omega)
      · refine Ex.step (fun k => by rw [r04Small.l1]) ?_
        simp only [show ¬ ((x.f4.length : Int) < (x.f4.length : Int)) by omega, if_false]
        exact small2 l hl m hv
      · refine Ex.step (fun k => by rw [r04Small.l1]) ?_
        simp only [show ((i : Int) < (x.f4.length : Int)) by omega, show 0 ≤ (i : Int) by omega, if_true, wrap_ok (n := (i : Int) + 1) (by omega) (by omega)]
        exact Ex.ite (Ex.now _) (Ex.bind (small_ex n _ (h7 _ (rd26_mem (by omega))) [] (by simp) 0 (by simp)) fun t => Ex.ite ih (Ex.now _))
    have h0 : Ex (fun k => r04Small.l0 k l x.f3 (x.f3.length : Int) 0 x.f0 x.f1 x.f2 x.f3 x.f4) := by
      refine Ex.loop (n := x.f3.length) (F := fun k i => r04Small.l0 k l x.f3 (x.f3.length : Int) i x.f0 x.f1 x.f2 x.f3 x.f4) ?_ (fun i hi ih => ?_) 0 (by omega)
      · refine Ex.step (fun k => by rw [r04Small.l0]) ?_
        simp only [show ¬ ((x.f3.length : Int) < (x.f3.length : Int)) by omega, if_false]
        exact h1
      · refine Ex.step (fun k => by rw [r04Small.l0]) ?_
        simp only [show ((i : Int) < (x.f3.length : Int)) by omega, show 0 ≤ (i : Int) by omega, if_true, wrap_ok (n := (i : Int) + 1) (by omega) (by omega)]
        exact Ex.ite (Ex.now _) ih
    have hj : ∀ b, Ex (fun k => r04Small.j0 k l b x.f0 x.f1 x.f2 x.f3 x.f4) := fun b =>
      Ex.step (fun k => by rw [r04Small.j0]) (Ex.ite (Ex.now _) h0)
    exact Ex.step (fun k => by rw [r04Small.f]) (Ex.ite (hj _) (Ex.ite (hj _) (hj _)))
end Go.Proofs.Ytojankgmedccdaa.Pure
