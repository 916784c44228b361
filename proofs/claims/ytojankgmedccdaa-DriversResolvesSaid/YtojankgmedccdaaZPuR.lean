/- Part of the proof of LawDriversResolves: every definition and lemma is one that it names. -/
import Derived.Test.YtojankgmedccdaaZPuH
import Derived.Test.YtojankgmedccdaaZPRsx5
namespace Go.Proofs.Ytojankgmedccdaa.Pure
open Go.RowKit Own PTy Hand PIs RowV YtojankgmedccdaaW.PrintWords YtojankgmedccdaaW.PrintLast
open PAw (drivers_copied.f logic_isBit.f logic_both.f logic_both.j0 logic_Resolve.f logic_Resolve.l0 r01Same.f r01Same.l0)
open PRs
theorem few_ex2 (n : Nat) (x : S26) (hx : okT n x) (l : List S30) (hl : ∀ y ∈ l, okV n y) : ∃ t, Ev (fun k => v15few.f k x.f0 x.f1 x.f2 x.f3 x.f4 0 0 [] [] [] l) t ∧ (t = true → l.length ≤ 80) := by
  have hm := ml
  by_cases h8 : l.length ≤ 80
  · have h0 : Ex (fun k => v15few.f k x.f0 x.f1 x.f2 x.f3 x.f4 0 0 [] [] [] l) := by
      cases n with
      | zero => exact hx.elim
      | succ n =>
        refine Ex.congr (f := fun k => v15few.j0 k l (decide ((l.length : Int) > 80)) x.f0 x.f1 x.f2 x.f3 x.f4 0 0 [] [] []) (fun k => by unfold v15few.f; rw [if_neg (by simp)]) ?_
        rw [decide_eq_false (by omega)]
        refine Ex.step (f := fun k => v15few.l0 k (⟨0, 0, [], []⟩ :: l) [] 0 0 x.f0 x.f1 x.f2 x.f3 x.f4) (fun k => ?_) ?_
        · rw [v15few.j0, if_neg (by simp), Option.bind_some, if_pos (by simp; omega)]; rfl
        · refine Ex.step (f := fun k => (r04Small.f k x.f0 x.f1 x.f2 x.f3 x.f4 (⟨0, 0, [], []⟩ :: l)).bind fun t => some t) (fun k => ?_) ?_
          · rw [v15few.l0, if_neg (by omega)]
          · refine Ex.bind (small_ex (n + 1) x hx _ (by simp; omega) (n + 1) (fun y hy => ?_)) fun t => Ex.now t
            rcases List.mem_cons.mp hy with rfl | h
            · exact ⟨by decide, by decide, by simp, by simp, by simp, by simp⟩
            · exact hl y h
    obtain ⟨t, ht⟩ := h0
    exact ⟨t, ht, fun _ => h8⟩
  · refine ⟨false, ?_, by simp⟩
    refine Ev.congr (f := fun k => v15few.j0 k l (decide ((l.length : Int) > 80)) x.f0 x.f1 x.f2 x.f3 x.f4 0 0 [] [] []) (fun k => by unfold v15few.f; rw [if_neg (by simp)]) ?_
    rw [decide_eq_true (by omega)]
    exact Ev.step (f := fun _ => some false) (fun k => by rw [v15few.j0, if_pos rfl]) (Ev.now _)
def bothB (s b : Int) : Int := if s = b ∨ b = 3 then s else if s = 3 then b else 2
def foldB : Int → List Int → Int
  | s, [] => s
  | s, b :: l => foldB (bothB s b) l
theorem both_ev (s b : Int) : Ev (fun k => logic_both.f k s b) (bothB s b) := by
  refine Ev.congr (f := fun k => logic_both.j0 k s b (decide (s = b ∨ b = 3))) (fun k => ?_) (Ev.step (f := fun _ => some (bothB s b)) (fun k => ?_) (Ev.now _))
  · unfold logic_both.f
    by_cases h : s = b
    · rw [if_pos h]; congr 1; simp [h]
    · rw [if_neg h]; congr 1; rw [Bool.eq_iff_iff]; simp [h]
  · rw [logic_both.j0]
    unfold bothB
    by_cases h : s = b ∨ b = 3
    · rw [decide_eq_true h, if_pos rfl, if_pos h]
    · rw [decide_eq_false h, if_neg (by simp), if_neg h]; split <;> rfl
theorem rd_get (l : List Int) (i : Nat) (h : i < l.length) : rd l (i : Int) = l[i] := by
  unfold rd
  rw [List.getD_eq_getElem?_getD, show ((i : Int)).toNat = i from rfl, List.getElem?_eq_getElem h]; rfl
theorem resolve_ev (l : List Int) (hl : l.length ≤ maxLen) (h3 : ∀ b ∈ l, b ≤ 3) : Ev (fun k => logic_Resolve.f k l) (foldB 3 l, 0) := by
  have hm := ml
  have key : ∀ d i s, i + d = l.length → Ev (fun k => logic_Resolve.l0 k s l (l.length : Int) (i : Int)) (foldB s (l.drop i), 0) := by
    intro d
    induction d with
    | zero =>
      intro i s hi
      rw [List.drop_eq_nil_of_le (by omega)]
      exact Ev.step (f := fun _ => some (s, 0)) (fun k => by rw [logic_Resolve.l0, if_neg (by omega)]) (Ev.now _)
    | succ d ih =>
      intro i s hi
      have hi' : i < l.length := by omega
      rw [List.drop_eq_getElem_cons hi']
      refine Ev.step (f := fun k => (logic_both.f k s l[i]).bind fun t => logic_Resolve.l0 k t l (l.length : Int) ((i + 1 : Nat) : Int)) (fun k => ?_) (Ev.bind (both_ev s l[i]) (ih (i + 1) _ (by omega)))
      rw [logic_Resolve.l0, if_pos (by omega), if_pos (by omega), if_pos (by omega), rd_get l i hi', logic_isBit.f, decide_eq_true (h3 _ (List.getElem_mem hi')), Option.bind_some, if_pos rfl, wrap_ok (by omega) (by omega)]
      rfl
  exact key l.length 0 3 (by omega)
def refB : List Int → Int
  | [] => 3
  | a :: l => if (l.all fun x => decide (x = a)) = true then a else 2
theorem refB_cons (a : Int) (l : List Int) : refB (a :: l) = if (l.all fun x => decide (x = a)) = true then a else 2 := rfl
theorem fold_some : ∀ (l : List Int) (s : Int), s ≠ 3 → foldB s l = refB (s :: l.filter fun x => decide (x ≠ 3))
  | [], s, h => by simp [foldB, refB]
  | b :: l, s, h => by
    unfold foldB
    by_cases h3 : b = 3
    · have e : bothB s b = s := by unfold bothB; rw [if_pos (.inr h3)]
      rw [e, fold_some l s h, List.filter_cons_of_neg (by simp [h3])]
    · rw [List.filter_cons_of_pos (by simp [h3])]
      by_cases hs : s = b
      · have e : bothB s b = s := by unfold bothB; rw [if_pos (.inl hs)]
        rw [e, fold_some l s h]
        rw [refB_cons, refB_cons, List.all_cons, ← hs]
        simp
      · have e : bothB s b = 2 := by unfold bothB; rw [if_neg (by simp [hs, h3]), if_neg h]
        rw [e, fold_some l 2 (by decide)]
        rw [refB_cons, refB_cons, List.all_cons, decide_eq_false (Ne.symm hs), Bool.false_and]
        simp
theorem fold_ref : ∀ l : List Int, foldB 3 l = refB (l.filter fun x => decide (x ≠ 3))
  | [] => rfl
  | b :: l => by
    unfold foldB
    by_cases h3 : b = 3
    · have e : bothB 3 b = 3 := by unfold bothB; rw [if_pos (.inr h3)]
      rw [e, fold_ref l, List.filter_cons_of_neg (by simp [h3])]
    · have e : bothB 3 b = b := by unfold bothB; rw [if_neg (by simp [h3, Ne.symm h3]), if_pos rfl]
      rw [e, fold_some l b h3, List.filter_cons_of_pos (by simp [h3])]
theorem ref2_ev (m : List Int) (hm' : m.length ≤ maxLen) (a : Int) (t : List Int) (e : m = a :: t) : Ev (fun k => r01Resolve.l2 k m m (m.length : Int) 0) (refB m, 0) := by
  have hm := ml
  have hp : 0 < m.length := by rw [e]; simp
  have h0 : rd m 0 = a := by rw [show (0 : Int) = ((0 : Nat) : Int) from rfl, rd_get m 0 hp]; simp [e]
  have key : ∀ d i, i + d = m.length → Ev (fun k => r01Resolve.l2 k m m (m.length : Int) (i : Int)) (if ((m.drop i).all fun x => decide (x = a)) = true then a else 2, 0) := by
    intro d
    induction d with
    | zero =>
      intro i hi
      rw [List.drop_eq_nil_of_le (by omega)]
      exact Ev.step (f := fun _ => some (a, 0)) (fun k => by rw [r01Resolve.l2, if_neg (by omega), if_pos (by omega), h0]) (by simpa using Ev.now _)
    | succ d ih =>
      intro i hi
      have hi' : i < m.length := by omega
      rw [List.drop_eq_getElem_cons hi', List.all_cons]
      by_cases h : m[i] = a
      · refine Ev.step (f := fun k => r01Resolve.l2 k m m (m.length : Int) ((i + 1 : Nat) : Int)) (fun k => ?_) (by simpa [h] using ih (i + 1) (by omega))
        rw [r01Resolve.l2, if_pos (by omega), if_pos (by omega), if_pos (by omega), if_pos (by omega), rd_get m i hi', h0, if_pos h, wrap_ok (by omega) (by omega)]
        rfl
      · refine Ev.step (f := fun _ => some (2, 0)) (fun k => ?_) (by simpa [h] using Ev.now _)
        rw [r01Resolve.l2, if_pos (by omega), if_pos (by omega), if_pos (by omega), if_pos (by omega), rd_get m i hi', h0, if_neg h]
  have := key m.length 0 (by omega)
  have e2 : (if ((m.drop 0).all fun x => decide (x = a)) = true then a else 2) = refB m := by
    rw [List.drop_zero, e]; unfold refB; rw [List.all_cons]; simp
  rw [e2] at this
  exact this
theorem resRef_ev (l : List Int) (hl : l.length ≤ 1000) (h3 : ∀ b ∈ l, 0 ≤ b ∧ b ≤ 3) : Ev (fun k => r01Resolve.f k l) (refB (l.filter fun x => decide (x ≠ 3)), 0) := by
  have hm := ml
  have k1 : ∀ d i m, i + d = l.length → m.length ≤ i → Ev (fun k => r01Resolve.l1 k m l (l.length : Int) (i : Int)) (refB (m ++ (l.drop i).filter fun x => decide (x ≠ 3)), 0) := by
    intro d
    induction d with
    | zero =>
      intro i m hi hmi
      rw [List.drop_eq_nil_of_le (by omega), List.filter_nil, List.append_nil]
      cases em : m with
      | nil => exact Ev.step (f := fun _ => some (3, 0)) (fun k => by rw [r01Resolve.l1, if_neg (by omega), if_pos (by simp)]) (Ev.now _)
      | cons a t =>
        rw [← em]
        refine Ev.step (f := fun k => r01Resolve.l2 k m m (m.length : Int) 0) (fun k => ?_) (ref2_ev m (by omega) a t em)
        rw [r01Resolve.l1, if_neg (by omega), if_neg (by rw [em]; simp; omega)]
    | succ d ih =>
      intro i m hi hmi
      have hi' : i < l.length := by omega
      rw [List.drop_eq_getElem_cons hi']
      by_cases h : l[i] = 3
      · rw [List.filter_cons_of_neg (by simp [h])]
        refine Ev.step (f := fun k => r01Resolve.l1 k m l (l.length : Int) ((i + 1 : Nat) : Int)) (fun k => ?_) (ih (i + 1) m (by omega) (by omega))
        rw [r01Resolve.l1, if_pos (by omega), if_pos (by omega), if_pos (by omega), rd_get l i hi', if_pos h, wrap_ok (by omega) (by omega)]
        rfl
      · rw [List.filter_cons_of_pos (by simp [h])]
        refine Ev.step (f := fun k => r01Resolve.l1 k (m ++ [l[i]]) l (l.length : Int) ((i + 1 : Nat) : Int)) (fun k => ?_) (by simpa using ih (i + 1) (m ++ [l[i]]) (by omega) (by simp; omega))
        rw [r01Resolve.l1, if_pos (by omega), if_pos (by omega), if_pos (by omega), rd_get l i hi', if_neg h, if_pos (by omega), wrap_ok (by omega) (by omega)]
        rfl
  have k0 : ∀ d i, i + d = l.length → Ev (fun k => r01Resolve.l0 k l l (l.length : Int) (i : Int)) (refB (l.filter fun x => decide (x ≠ 3)), 0) := by
    intro d
    induction d with
    | zero =>
      intro i hi
      refine Ev.step (f := fun k => r01Resolve.l1 k [] l (l.length : Int) ((0 : Nat) : Int)) (fun k => by rw [r01Resolve.l0, if_neg (by omega)]; rfl) (by simpa using k1 l.length 0 [] (by omega) (by simp))
    | succ d ih =>
      intro i hi
      have hi' : i < l.length := by omega
      have hb := h3 _ (List.getElem_mem hi')
      refine Ev.step (f := fun k => r01Resolve.l0 k l l (l.length : Int) ((i + 1 : Nat) : Int)) (fun k => ?_) (ih (i + 1) (by omega))
      rw [r01Resolve.l0, if_pos (by omega), if_pos (by omega), if_pos (by omega), rd_get l i hi', bit_b _ hb.1, decide_eq_true hb.2, Option.bind_some, if_pos rfl, wrap_ok (by omega) (by omega)]
      rfl
  exact k0 l.length 0 (by omega)
end Go.Proofs.Ytojankgmedccdaa.Pure
