/- Plain facts: Map, Covers. -/
import Derived.Test.YtajpgmpidphmgaaPvG
import Derived.Test.YtajpgmpidphmgaaHandL
import Derived.Test.YtajpgmpidphmgaaPVecF32
namespace Go.Proofs.Ytajpgmpidphmgaa.Pure
open Go.RowKit Go.Proofs.Ytajpgmpidphmgaa.Hand Go.Proofs.Ytajpgmpidphmgaa.PAll Go.Proofs.YtajpgmpidphmgaaW.PrintWords Go.Proofs.YtajpgmpidphmgaaW.PrintLast
theorem set_stepG (o rest : List Int) (i : Nat) (x : Int) (h1 : i < o.length) : (o.set i x).take (i + 1) ++ rest = o.take i ++ x :: rest := by
  rw [List.set_eq_take_append_cons_drop, if_pos h1]
  have e : (List.take i o).length = i := by rw [List.length_take]; omega
  rw [List.take_append, e]
  simp
  exact List.take_of_length_le (by omega)
/-! #### Map -/
/-- One table at two bits. -/
def opT (T : List Int) (a b : Int) : Int := T.getD (opnd a * 3 + opnd b).toNat 0
theorem map_l0 (T l1 l2 : List Int) (h12 : l1.length = l2.length) (hu1 : U8 l1) (hu2 : U8 l2) (hl : l1.length < 9223372036854775807) : ∀ (n i : Nat) (o : List Int), i ≤ l1.length → l1.length - i = n → o.length = l1.length →
    Ev (fun k => logic_Map.l0 k T o l1 l2 (i : Int)) (o.take i ++ List.zipWith (opT T) (l1.drop i) (l2.drop i), 0) := by
  intro n
  induction n with
  | zero =>
    intro i o hi hn ho
    rw [List.drop_of_length_le (show l1.length ≤ i by omega), List.zipWith_nil_left, List.append_nil, List.take_of_length_le (by omega)]
    exact Ev.step (f := fun _ => some (o, 0)) (fun k => by simp only [logic_Map.l0]; rw [if_neg (by omega)]) (Ev.now _)
  | succ n ih =>
    intro i o hi hn ho
    have h1 : i < l1.length := by omega
    have h2 : i < l2.length := by omega
    rw [List.drop_eq_getElem_cons h1, List.drop_eq_getElem_cons h2, List.zipWith_cons_cons, ← set_stepG o _ i _ (by omega)]
    refine Ev.step (f := fun k => logic_Map.l0 k T (o.set i (opT T l1[i] l2[i])) l1 l2 ((i + 1 : Nat) : Int)) (fun k => ?_) ?_
    · simp only [logic_Map.l0]
      rw [if_pos (by omega), if_pos (by omega), if_pos (by omega), if_pos (by omega), rd_nat l1 i h1, rd_nat l2 i h2, if_pos (hu1.at_ i h1).1, if_pos (hu2.at_ i h2).1, wrap_succ i (by omega), Int.toNat_natCast]
      rfl
    · have := ih (i + 1) (o.set i (opT T l1[i] l2[i])) (by omega) (by omega) (by rw [List.length_set]; exact ho)
      exact this
def mapF (a0 : ByteArray) (l1 l2 : List Int) : List Int × Int := if (ofF a0.toList).2 = true then (if areF l1 l2 = true then (List.zipWith (opT (ofF a0.toList).1) l1 l2, 0) else ([], 2)) else ([], 2)
theorem areF_parts {l1 l2 : List Int} (h : areF l1 l2 = true) : isF l1 = true ∧ isF l2 = true ∧ l1.length = l2.length := by
  unfold areF at h
  simpa using h
theorem map_ev (a0 : ByteArray) (l1 l2 : List Int) (hu1 : U8 l1) (hu2 : U8 l2) : Ev (fun k => logic_Map.f k a0 l1 l2) (mapF a0 l1 l2) := by
  unfold logic_Map.f mapF
  by_cases h : (ofF a0.toList).2 = true
  · simp only [if_pos h]
    by_cases h2 : areF l1 l2 = true
    · obtain ⟨p1, p2, p3⟩ := areF_parts h2
      have hl := (isF_parts p1).2.1
      simp only [if_pos h2]
      have := map_l0 (ofF a0.toList).1 l1 l2 p3 hu1 hu2 (by omega) l1.length 0 (List.replicate (l1.length : Int).toNat 0) (by omega) (by omega) (by simp)
      refine Ev.congr (fun k => by rw [if_pos (by omega)]) ?_
      simpa using this
    · simp only [if_neg h2]
      exact Ev.now _
  · simp only [if_neg h]
    exact Ev.now _
theorem small {l : List Int} (hu : U8 l) (h : isF l = true) : ∀ x ∈ l, 0 ≤ x ∧ x ≤ 3 := fun x hx => ⟨(hu x hx).1, (isF_parts h).2.2 x hx⟩
/-! #### Covers -/
/-- A bit that is known stays. -/
def covB (a b : Int) : Bool := decide (1 < a) || decide (b = a)
def coversF (l1 l2 : List Int) : Bool × Int := if areF l1 l2 = true then ((List.zipWith covB l1 l2).all id, 0) else (false, 2)
theorem are_two (l1 l2 : List Int) : ([l1, l2] : List (List Int)).all (goodF [l1, l2]) = areF l1 l2 := by
  have w0 : width [l1, l2] = l1.length := rfl
  unfold goodF areF
  rw [w0]
  simp only [List.all_cons, List.all_nil, Bool.and_true, decide_true]
  rw [decide_eq_decide.2 (show l2.length = l1.length ↔ l1.length = l2.length from ⟨Eq.symm, Eq.symm⟩)]
theorem covers_l0 (l1 l2 : List Int) (h12 : l1.length = l2.length) (hl : l1.length < 9223372036854775807) : ∀ (n i : Nat), i ≤ l1.length → l1.length - i = n →
    Ev (fun k => PVec.logic_Covers.l0 k l2 l1 (l1.length : Int) (i : Int)) ((List.zipWith covB (l1.drop i) (l2.drop i)).all id, 0) := by
  intro n
  induction n with
  | zero =>
    intro i hi hn
    rw [List.drop_of_length_le (show l1.length ≤ i by omega), List.zipWith_nil_left]
    exact Ev.step (f := fun _ => some (true, 0)) (fun k => by simp only [PVec.logic_Covers.l0]; rw [if_neg (by omega)]) (Ev.now _)
  | succ n ih =>
    intro i hi hn
    have h1 : i < l1.length := by omega
    have h2 : i < l2.length := by omega
    rw [List.drop_eq_getElem_cons h1, List.drop_eq_getElem_cons h2, List.zipWith_cons_cons, List.all_cons]
    by_cases ha : 1 < l1[i]
    · rw [show id (covB l1[i] l2[i]) = true by unfold covB; rw [decide_eq_true ha]; rfl, Bool.true_and]
      refine Ev.step (f := fun k => PVec.logic_Covers.l0 k l2 l1 (l1.length : Int) ((i + 1 : Nat) : Int)) (fun k => ?_) (ih (i + 1) (by omega) (by omega))
      simp only [PVec.logic_Covers.l0]
      rw [if_pos (by omega), if_pos (by omega), if_pos (by omega), rd_nat l1 i h1, if_neg (by omega), wrap_succ i (by omega)]
    · by_cases hb : l2[i] = l1[i]
      · rw [show id (covB l1[i] l2[i]) = true by unfold covB; rw [decide_eq_true hb, Bool.or_true]; rfl, Bool.true_and]
        refine Ev.step (f := fun k => PVec.logic_Covers.l0 k l2 l1 (l1.length : Int) ((i + 1 : Nat) : Int)) (fun k => ?_) (ih (i + 1) (by omega) (by omega))
        simp only [PVec.logic_Covers.l0]
        rw [if_pos (by omega), if_pos (by omega), if_pos (by omega), rd_nat l1 i h1, rd_nat l2 i h2, if_pos (by omega), if_pos (by omega), if_pos hb, wrap_succ i (by omega)]
      · rw [show id (covB l1[i] l2[i]) = false by unfold covB; rw [decide_eq_false ha, decide_eq_false hb]; rfl, Bool.false_and]
        refine Ev.step (f := fun _ => some (false, 0)) (fun k => ?_) (Ev.now _)
        simp only [PVec.logic_Covers.l0]
        rw [if_pos (by omega), if_pos (by omega), if_pos (by omega), rd_nat l1 i h1, rd_nat l2 i h2, if_pos (by omega), if_pos (by omega), if_neg hb]
theorem covers_ev (l1 l2 : List Int) : Ev (fun k => PVec.logic_Covers.f k l1 l2) (coversF l1 l2) := by
  refine Ev.congr (f := fun k => (logic_are.f k [l1, l2]).bind fun t => if t = true then PVec.logic_Covers.l0 k l2 l1 (l1.length : Int) 0 else some (false, 2)) (fun k => rfl) ?_
  refine Ev.bind (are_ev [l1, l2] (by show 2 < _; omega)) ?_
  rw [are_two]
  unfold coversF
  cases h : areF l1 l2 with
  | false => exact Ev.now _
  | true =>
    obtain ⟨p1, p2, p3⟩ := areF_parts h
    have hp := (isF_parts p1).2.1
    simpa using covers_l0 l1 l2 p3 (by omega) l1.length 0 (by omega) (by omega)
end Go.Proofs.Ytajpgmpidphmgaa.Pure
