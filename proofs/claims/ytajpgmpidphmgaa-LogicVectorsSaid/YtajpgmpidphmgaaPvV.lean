/- Plain facts: Known, Inverse, Text, and the references of these, of Map and of Covers. -/
import Derived.Test.YtajpgmpidphmgaaPvH
import Derived.Test.YtajpgmpidphmgaaPAllG29
import Derived.Test.YtajpgmpidphmgaaPAllG34
import Derived.Test.YtajpgmpidphmgaaPAllG37
namespace Go.Proofs.Ytajpgmpidphmgaa.Pure
open Go.RowKit Go.Proofs.Ytajpgmpidphmgaa.Hand Go.Proofs.Ytajpgmpidphmgaa.PAll Go.Proofs.YtajpgmpidphmgaaW.PrintWords Go.Proofs.YtajpgmpidphmgaaW.PrintLast
/-! #### Known -/
theorem mx_le (a b c : Int) : mx a b ≤ c ↔ a ≤ c ∧ b ≤ c := by
  unfold mx
  split <;> omega
theorem mxTo_le (l : List Int) (c : Int) : ∀ n, mxTo l n ≤ c ↔ ∀ i, i ≤ n → rd l (i : Int) ≤ c
  | 0 => ⟨fun h i hi => by obtain rfl : i = 0 := by omega
                           exact h, fun h => h 0 (Nat.le_refl _)⟩
  | n + 1 => by
    have ih := mxTo_le l c n
    unfold mxTo
    rw [mx_le, ih]
    constructor
    · rintro ⟨h1, h2⟩ i hi
      by_cases he : i = n + 1
      · subst he; exact h2
      · exact h1 i (by omega)
    · intro h
      exact ⟨fun i hi => h i (by omega), h (n + 1) (Nat.le_refl _)⟩
def knownF (l : List Int) : Bool × Int := if isF l = true then (l.all fun x => decide (x ≤ 1), 0) else (false, 2)
theorem known_f (l : List Int) : logic_Known.f l = some (knownF l) := by
  unfold logic_Known.f logic_Is.f knownF api_Bit_55.f
  cases h : isF l with
  | false => rfl
  | true =>
    have hl := (isF_parts h).1
    simp only [Option.bind_some, if_true]
    rw [if_pos (by omega)]
    simp only [Option.bind_some]
    congr 2
    rw [Bool.eq_iff_iff]
    rw [decide_eq_true_eq, mxTo_le, List.all_eq_true]
    constructor
    · intro h x hx
      obtain ⟨i, hi, rfl⟩ := List.mem_iff_getElem.1 hx
      have := h i (by omega)
      rw [rd_nat l i hi] at this
      exact decide_eq_true this
    · intro h i hi
      rw [rd_nat l i (by omega)]
      exact of_decide_eq_true (h _ (List.getElem_mem (by omega)))
theorem refknown_l0 (l : List Int) (hl : l.length < 9223372036854775807) : ∀ (n i : Nat), i ≤ l.length → l.length - i = n → Ev (fun k => netwrightref01_Known.l0 k l (l.length : Int) (i : Int)) ((l.drop i).all (fun x => decide (x ≤ 1)), 0) := by
  intro n
  induction n with
  | zero =>
    intro i hi hn
    rw [List.drop_of_length_le (by omega)]
    exact Ev.step (f := fun _ => some (true, 0)) (fun k => by simp only [netwrightref01_Known.l0]; rw [if_neg (by omega)]) (Ev.now _)
  | succ n ih =>
    intro i hi hn
    have h1 : i < l.length := by omega
    rw [List.drop_eq_getElem_cons h1, List.all_cons]
    by_cases he : l[i] ≤ 1
    · rw [decide_eq_true he, Bool.true_and]
      refine Ev.step (f := fun k => netwrightref01_Known.l0 k l (l.length : Int) ((i + 1 : Nat) : Int)) (fun k => ?_) (ih (i + 1) (by omega) (by omega))
      simp only [netwrightref01_Known.l0]
      rw [if_pos (by omega), if_pos (by omega), if_pos (by omega), rd_nat l i h1, if_neg (by omega), wrap_succ i (by omega)]
    · rw [decide_eq_false he, Bool.false_and]
      refine Ev.step (f := fun _ => some (false, 0)) (fun k => ?_) (Ev.now _)
      simp only [netwrightref01_Known.l0]
      rw [if_pos (by omega), if_pos (by omega), if_pos (by omega), rd_nat l i h1, if_pos (by omega)]
theorem refknown_ev (l : List Int) (hu : U8 l) (hl : l.length < 9223372036854775807) : Ev (fun k => netwrightref01_Known.f k l) (knownF l) := by
  refine Ev.congr (f := fun k => (netwrightref01_Is.f k l).bind fun t => if t = true then netwrightref01_Known.l0 k l (l.length : Int) 0 else some (false, 2)) (fun k => rfl) ?_
  refine Ev.bind (refis_ev l hu hl) ?_
  unfold knownF
  cases h : isF l with
  | false => exact Ev.now _
  | true => simpa using refknown_l0 l hl l.length 0 (by omega) (by omega)
theorem refop_at (a0 : ByteArray) (a b : Int) (ha : 0 ≤ a ∧ a ≤ 3) (hb : 0 ≤ b ∧ b ≤ 3) (h : (ofF a0.toList).2 = true) : netwrightref01_Op.f a0 a b = some (opT (ofF a0.toList).1 a b, 0) := by
  obtain ⟨r, e1, e2⟩ := op_same a0 a b ha.1 hb.1
  rw [e2, ← e1]
  unfold logic_Op.f
  rw [if_pos ha.1, if_pos hb.1, if_pos h, if_pos ha.2, if_pos hb.2]
  rfl
theorem refmap_l0 (a0 : ByteArray) (l1 l2 : List Int) (h12 : l1.length = l2.length) (hu1 : ∀ x ∈ l1, 0 ≤ x ∧ x ≤ 3) (hu2 : ∀ x ∈ l2, 0 ≤ x ∧ x ≤ 3) (hl : l1.length < 140737488355328) (h : (ofF a0.toList).2 = true) : ∀ (n i : Nat) (acc : List Int), i ≤ l1.length → l1.length - i = n → acc.length = i →
    Ev (fun k => netwrightref01_Map.l0 k a0 l1 l2 acc (l1.length : Int) (i : Int)) (acc ++ List.zipWith (opT (ofF a0.toList).1) (l1.drop i) (l2.drop i), 0) := by
  intro n
  induction n with
  | zero =>
    intro i acc hi hn ha
    rw [List.drop_of_length_le (show l1.length ≤ i by omega), List.zipWith_nil_left, List.append_nil]
    exact Ev.step (f := fun _ => some (acc, 0)) (fun k => by simp only [netwrightref01_Map.l0]; rw [if_neg (by omega)]) (Ev.now _)
  | succ n ih =>
    intro i acc hi hn ha
    have h1 : i < l1.length := by omega
    have h2 : i < l2.length := by omega
    rw [List.drop_eq_getElem_cons h1, List.drop_eq_getElem_cons h2, List.zipWith_cons_cons, List.append_cons]
    refine Ev.step (f := fun k => netwrightref01_Map.l0 k a0 l1 l2 (acc ++ [opT (ofF a0.toList).1 l1[i] l2[i]]) (l1.length : Int) ((i + 1 : Nat) : Int)) (fun k => ?_) (ih (i + 1) (acc ++ [opT (ofF a0.toList).1 l1[i] l2[i]]) (by omega) (by omega) (by simp; omega))
    simp only [netwrightref01_Map.l0]
    rw [if_pos (by omega), if_pos (by omega), if_pos (by omega), if_pos (by omega), rd_nat l1 i h1, rd_nat l2 i h2, refop_at a0 _ _ (hu1 _ (List.getElem_mem h1)) (hu2 _ (List.getElem_mem h2)) h]
    simp only [Option.bind_some]
    rw [if_pos (by omega), wrap_succ i (by omega)]
theorem table_ok (a0 : ByteArray) : ∃ S, netwrightref01_table.f a0 = some (S, (ofF a0.toList).2) := by
  rcases tables a0 with ⟨l, S, e1, e2, _⟩ | ⟨l, S, e1, e2⟩
  · exact ⟨S, by rw [e1, e2]⟩
  · exact ⟨S, by rw [e1, e2]⟩
theorem refmap_ev (a0 : ByteArray) (l1 l2 : List Int) (hu1 : U8 l1) (hu2 : U8 l2) (hl1 : l1.length < 9223372036854775807) (hl2 : l2.length < 9223372036854775807) : Ev (fun k => netwrightref01_Map.f k a0 l1 l2) (mapF a0 l1 l2) := by
  obtain ⟨S, hS⟩ := table_ok a0
  obtain ⟨K1, hK1⟩ := refis_ev l1 hu1 hl1
  obtain ⟨K2, hK2⟩ := refis_ev l2 hu2 hl2
  have no : ∀ k, netwrightref01_Map.j0 (k + 1) a0 l1 l2 true = some ([], 2) := fun k => rfl
  unfold mapF
  cases h : (ofF a0.toList).2 with
  | false =>
    refine ⟨1, fun k hk => ?_⟩
    obtain ⟨k, rfl⟩ : ∃ m, k = m + 1 := ⟨k - 1, by omega⟩
    show netwrightref01_Map.f (k + 1) a0 l1 l2 = _
    unfold netwrightref01_Map.f
    rw [hS, h]
    simp [no]
  | true =>
    cases h1 : isF l1 with
    | false =>
      refine ⟨K1 + 1, fun k hk => ?_⟩
      obtain ⟨k, rfl⟩ : ∃ m, k = m + 1 := ⟨k - 1, by omega⟩
      have q1 : netwrightref01_Is.f (k + 1) l1 = _ := hK1 (k + 1) (by omega)
      show netwrightref01_Map.f (k + 1) a0 l1 l2 = _
      unfold netwrightref01_Map.f areF
      rw [hS, h, q1, h1]
      simp [no]
    | true =>
      cases h2 : isF l2 with
      | false =>
        refine ⟨K1 + K2 + 1, fun k hk => ?_⟩
        obtain ⟨k, rfl⟩ : ∃ m, k = m + 1 := ⟨k - 1, by omega⟩
        have q1 : netwrightref01_Is.f (k + 1) l1 = _ := hK1 (k + 1) (by omega)
        have q2 : netwrightref01_Is.f (k + 1) l2 = _ := hK2 (k + 1) (by omega)
        show netwrightref01_Map.f (k + 1) a0 l1 l2 = _
        unfold netwrightref01_Map.f areF
        rw [hS, h, q1, h1]
        simp [no, q2, h2]
      | true =>
        by_cases hl : l1.length = l2.length
        · have hp := (isF_parts h1).2.1
          obtain ⟨K3, hK3⟩ := refmap_l0 a0 l1 l2 hl (small hu1 h1) (small hu2 h2) (by omega) h l1.length 0 [] (by omega) (by omega) rfl
          refine ⟨K1 + K2 + K3 + 1, fun k hk => ?_⟩
          obtain ⟨k, rfl⟩ : ∃ m, k = m + 1 := ⟨k - 1, by omega⟩
          have q1 : netwrightref01_Is.f (k + 1) l1 = _ := hK1 (k + 1) (by omega)
          have q2 : netwrightref01_Is.f (k + 1) l2 = _ := hK2 (k + 1) (by omega)
          have q3 : netwrightref01_Map.l0 k a0 l1 l2 [] (l1.length : Int) 0 = _ := hK3 k (by omega)
          show netwrightref01_Map.f (k + 1) a0 l1 l2 = _
          unfold netwrightref01_Map.f areF
          rw [hS, h, q1, h1]
          simp only [Option.bind_some, if_true]
          rw [q2, h2]
          simp only [Option.bind_some, if_true]
          rw [bne_eq_false_iff_eq.mpr (show (l1.length : Int) = (l2.length : Int) by omega), decide_eq_true hl]
          simp only [netwrightref01_Map.j0, Bool.false_eq_true, if_false, q3, Bool.and_self, if_true, List.drop_zero, List.nil_append]
        · refine ⟨K1 + K2 + 1, fun k hk => ?_⟩
          obtain ⟨k, rfl⟩ : ∃ m, k = m + 1 := ⟨k - 1, by omega⟩
          have q1 : netwrightref01_Is.f (k + 1) l1 = _ := hK1 (k + 1) (by omega)
          have q2 : netwrightref01_Is.f (k + 1) l2 = _ := hK2 (k + 1) (by omega)
          show netwrightref01_Map.f (k + 1) a0 l1 l2 = _
          unfold netwrightref01_Map.f areF
          rw [hS, h, q1, h1]
          simp only [Option.bind_some, if_true]
          rw [q2, h2]
          simp only [Option.bind_some, if_true]
          rw [bne_iff_ne.mpr (show (l1.length : Int) ≠ (l2.length : Int) by omega), decide_eq_false hl]
          simp [no]
/-! #### Inverse -/
def notB (a : Int) : Int := if a = 0 then 1 else if a = 1 then 0 else 2
theorem not_f (a : Int) : logic_not.f a = some (notB a) := by
  unfold logic_not.f notB
  repeat' split
  all_goals rfl
theorem refnot_f (a : Int) (h : 0 ≤ a ∧ a ≤ 3) : netwrightref01_Not.f a = some (notB a, 0) := by
  obtain ⟨r, e1, e2⟩ := not_same a h.1
  rw [e2, ← e1]
  unfold logic_Not.f logic_isBit.f
  rw [decide_eq_true h.2]
  simp only [Option.bind_some, if_true, not_f]
def inverseF (l : List Int) : List Int × Int := if isF l = true then (l.map notB, 0) else ([], 2)
theorem inverse_l0 (l : List Int) (hl : l.length < 9223372036854775807) : ∀ (n i : Nat) (o : List Int), i ≤ l.length → l.length - i = n → o.length = l.length →
    Ev (fun k => logic_Inverse.l0 k o l (l.length : Int) (i : Int)) (o.take i ++ (l.drop i).map notB, 0) := by
  intro n
  induction n with
  | zero =>
    intro i o hi hn ho
    rw [List.drop_of_length_le (show l.length ≤ i by omega), List.map_nil, List.append_nil, List.take_of_length_le (by omega)]
    exact Ev.step (f := fun _ => some (o, 0)) (fun k => by simp only [logic_Inverse.l0]; rw [if_neg (by omega)]) (Ev.now _)
  | succ n ih =>
    intro i o hi hn ho
    have h1 : i < l.length := by omega
    rw [List.drop_eq_getElem_cons h1, List.map_cons, ← set_stepG o _ i _ (by omega)]
    refine Ev.step (f := fun k => logic_Inverse.l0 k (o.set i (notB l[i])) l (l.length : Int) ((i + 1 : Nat) : Int)) (fun k => ?_) (ih (i + 1) (o.set i (notB l[i])) (by omega) (by omega) (by rw [List.length_set]; exact ho))
    simp only [logic_Inverse.l0]
    rw [if_pos (by omega), if_pos (by omega), if_pos (by omega), rd_nat l i h1, not_f]
    simp only [Option.bind_some]
    rw [if_pos (by omega), wrap_succ i (by omega), Int.toNat_natCast]
theorem inverse_ev (l : List Int) : Ev (fun k => logic_Inverse.f k l) (inverseF l) := by
  unfold logic_Inverse.f logic_Is.f inverseF
  cases h : isF l with
  | false => exact Ev.now _
  | true =>
    have hl := (isF_parts h).2.1
    have := inverse_l0 l (by omega) l.length 0 (List.replicate (l.length : Int).toNat 0) (by omega) (by omega) (by simp)
    refine Ev.congr (fun k => by simp only [Option.bind_some, if_true]; rw [if_pos (by omega), if_pos (by omega)]) ?_
    simpa using this
theorem refinverse_l0 (l : List Int) (hs : ∀ x ∈ l, 0 ≤ x ∧ x ≤ 3) (hl : l.length < 140737488355328) : ∀ (n i : Nat) (acc : List Int), i ≤ l.length → l.length - i = n → acc.length = i →
    Ev (fun k => netwrightref01_Inverse.l0 k acc l (l.length : Int) (i : Int)) (acc ++ (l.drop i).map notB, 0) := by
  intro n
  induction n with
  | zero =>
    intro i acc hi hn ha
    rw [List.drop_of_length_le (show l.length ≤ i by omega), List.map_nil, List.append_nil]
    exact Ev.step (f := fun _ => some (acc, 0)) (fun k => by simp only [netwrightref01_Inverse.l0]; rw [if_neg (by omega)]) (Ev.now _)
  | succ n ih =>
    intro i acc hi hn ha
    have h1 : i < l.length := by omega
    rw [List.drop_eq_getElem_cons h1, List.map_cons, List.append_cons]
    refine Ev.step (f := fun k => netwrightref01_Inverse.l0 k (acc ++ [notB l[i]]) l (l.length : Int) ((i + 1 : Nat) : Int)) (fun k => ?_) (ih (i + 1) (acc ++ [notB l[i]]) (by omega) (by omega) (by simp; omega))
    simp only [netwrightref01_Inverse.l0]
    rw [if_pos (by omega), if_pos (by omega), if_pos (by omega), rd_nat l i h1, refnot_f _ (hs _ (List.getElem_mem h1))]
    simp only [Option.bind_some]
    rw [if_pos (by omega), wrap_succ i (by omega)]
theorem refinverse_ev (l : List Int) (hu : U8 l) (hl : l.length < 9223372036854775807) : Ev (fun k => netwrightref01_Inverse.f k l) (inverseF l) := by
  refine Ev.congr (f := fun k => (netwrightref01_Is.f k l).bind fun t => if t = true then netwrightref01_Inverse.l0 k [] l (l.length : Int) 0 else some ([], 2)) (fun k => rfl) ?_
  refine Ev.bind (refis_ev l hu hl) ?_
  unfold inverseF
  cases h : isF l with
  | false => exact Ev.now _
  | true =>
    have hp := (isF_parts h).2.1
    simpa using refinverse_l0 l (small hu h) (by omega) l.length 0 [] (by omega) (by omega) rfl
theorem refcovers_l0 (l1 l2 : List Int) (h12 : l1.length = l2.length) (hl : l1.length < 9223372036854775807) : ∀ (n i : Nat), i ≤ l1.length → l1.length - i = n →
    Ev (fun k => netwrightref01_Covers.l0 k l1 l2 (l1.length : Int) (i : Int)) ((List.zipWith covB (l1.drop i) (l2.drop i)).all id, 0) := by
  intro n
  induction n with
  | zero =>
    intro i hi hn
    rw [List.drop_of_length_le (show l1.length ≤ i by omega), List.zipWith_nil_left]
    exact Ev.step (f := fun _ => some (true, 0)) (fun k => by simp only [netwrightref01_Covers.l0]; rw [if_neg (by omega)]) (Ev.now _)
  | succ n ih =>
    intro i hi hn
    have h1 : i < l1.length := by omega
    have h2 : i < l2.length := by omega
    rw [List.drop_eq_getElem_cons h1, List.drop_eq_getElem_cons h2, List.zipWith_cons_cons, List.all_cons]
    by_cases ha : 1 < l1[i]
    · rw [show id (covB l1[i] l2[i]) = true by unfold covB; rw [decide_eq_true ha]; rfl, Bool.true_and]
      refine Ev.step (f := fun k => netwrightref01_Covers.l0 k l1 l2 (l1.length : Int) ((i + 1 : Nat) : Int)) (fun k => ?_) (ih (i + 1) (by omega) (by omega))
      simp only [netwrightref01_Covers.l0]
      rw [if_pos (by omega), if_pos (by omega), if_pos (by omega), rd_nat l1 i h1, if_neg (by omega), wrap_succ i (by omega)]
    · by_cases hb : l2[i] = l1[i]
      · rw [show id (covB l1[i] l2[i]) = true by unfold covB; rw [decide_eq_true hb, Bool.or_true]; rfl, Bool.true_and]
        refine Ev.step (f := fun k => netwrightref01_Covers.l0 k l1 l2 (l1.length : Int) ((i + 1 : Nat) : Int)) (fun k => ?_) (ih (i + 1) (by omega) (by omega))
        simp only [netwrightref01_Covers.l0]
        rw [if_pos (by omega), if_pos (by omega), if_pos (by omega), rd_nat l1 i h1, rd_nat l2 i h2, if_pos (by omega), if_pos (by omega), if_pos hb, wrap_succ i (by omega)]
      · rw [show id (covB l1[i] l2[i]) = false by unfold covB; rw [decide_eq_false ha, decide_eq_false hb]; rfl, Bool.false_and]
        refine Ev.step (f := fun _ => some (false, 0)) (fun k => ?_) (Ev.now _)
        simp only [netwrightref01_Covers.l0]
        rw [if_pos (by omega), if_pos (by omega), if_pos (by omega), rd_nat l1 i h1, rd_nat l2 i h2, if_pos (by omega), if_pos (by omega), if_neg hb]
theorem refcovers_ev (l1 l2 : List Int) (hu1 : U8 l1) (hu2 : U8 l2) (hl1 : l1.length < 9223372036854775807) (hl2 : l2.length < 9223372036854775807) : Ev (fun k => netwrightref01_Covers.f k l1 l2) (coversF l1 l2) := by
  obtain ⟨K1, hK1⟩ := refis_ev l1 hu1 hl1
  obtain ⟨K2, hK2⟩ := refis_ev l2 hu2 hl2
  have no : ∀ k, netwrightref01_Covers.j0 (k + 1) l1 l2 true = some (false, 2) := fun k => rfl
  unfold coversF areF
  cases h1 : isF l1 with
  | false =>
    refine ⟨K1 + 1, fun k hk => ?_⟩
    obtain ⟨k, rfl⟩ : ∃ m, k = m + 1 := ⟨k - 1, by omega⟩
    have q1 : netwrightref01_Is.f (k + 1) l1 = _ := hK1 (k + 1) (by omega)
    show netwrightref01_Covers.f (k + 1) l1 l2 = _
    unfold netwrightref01_Covers.f
    rw [q1, h1]
    simp [no]
  | true =>
    cases h2 : isF l2 with
    | false =>
      refine ⟨K1 + K2 + 1, fun k hk => ?_⟩
      obtain ⟨k, rfl⟩ : ∃ m, k = m + 1 := ⟨k - 1, by omega⟩
      have q1 : netwrightref01_Is.f (k + 1) l1 = _ := hK1 (k + 1) (by omega)
      have q2 : netwrightref01_Is.f (k + 1) l2 = _ := hK2 (k + 1) (by omega)
      show netwrightref01_Covers.f (k + 1) l1 l2 = _
      unfold netwrightref01_Covers.f
      rw [q1, h1]
      simp [no, q2, h2]
    | true =>
      by_cases hl : l1.length = l2.length
      · obtain ⟨K3, hK3⟩ := refcovers_l0 l1 l2 hl hl1 l1.length 0 (by omega) (by omega)
        refine ⟨K1 + K2 + K3 + 1, fun k hk => ?_⟩
        obtain ⟨k, rfl⟩ : ∃ m, k = m + 1 := ⟨k - 1, by omega⟩
        have q1 : netwrightref01_Is.f (k + 1) l1 = _ := hK1 (k + 1) (by omega)
        have q2 : netwrightref01_Is.f (k + 1) l2 = _ := hK2 (k + 1) (by omega)
        have q3 : netwrightref01_Covers.l0 k l1 l2 (l1.length : Int) 0 = _ := hK3 k (by omega)
        show netwrightref01_Covers.f (k + 1) l1 l2 = _
        unfold netwrightref01_Covers.f
        rw [q1, h1]
        simp only [Option.bind_some, if_true]
        rw [q2, h2]
        simp only [Option.bind_some, if_true]
        rw [bne_eq_false_iff_eq.mpr (show (l1.length : Int) = (l2.length : Int) by omega), decide_eq_true hl]
        simp only [netwrightref01_Covers.j0, Bool.false_eq_true, if_false, q3, Bool.and_self, if_true, List.drop_zero]
      · refine ⟨K1 + K2 + 1, fun k hk => ?_⟩
        obtain ⟨k, rfl⟩ : ∃ m, k = m + 1 := ⟨k - 1, by omega⟩
        have q1 : netwrightref01_Is.f (k + 1) l1 = _ := hK1 (k + 1) (by omega)
        have q2 : netwrightref01_Is.f (k + 1) l2 = _ := hK2 (k + 1) (by omega)
        show netwrightref01_Covers.f (k + 1) l1 l2 = _
        unfold netwrightref01_Covers.f
        rw [q1, h1]
        simp only [Option.bind_some, if_true]
        rw [q2, h2]
        simp only [Option.bind_some, if_true]
        rw [bne_iff_ne.mpr (show (l1.length : Int) ≠ (l2.length : Int) by omega), decide_eq_false hl]
        simp [no]
/-! #### Text -/
theorem letter_cut (b : Int) (h : 0 ≤ b ∧ b ≤ 3) : (⟨#[48, 49, 120, 122]⟩ : ByteArray).extract b.toNat (((b + 1) % 256) : Int).toNat = ⟨#[letB (bitOf b)]⟩ := by
  obtain rfl | rfl | rfl | rfl : b = 0 ∨ b = 1 ∨ b = 2 ∨ b = 3 := by omega
  all_goals decide +kernel
theorem cons_bytes (c : UInt8) (l : List UInt8) : (⟨#[c]⟩ : ByteArray) ++ ⟨l.toArray⟩ = ⟨(c :: l).toArray⟩ := by
  apply ByteArray.ext
  rw [ByteArray.data_append]
  simp
theorem textB_take (l : List Int) (i : Nat) (h : i < l.length) : textB (l.take (i + 1)) = letB (bitOf l[i]) :: textB (l.take i) := by
  unfold textB
  rw [List.take_add_one, List.getElem?_eq_getElem h]
  show (List.take i l ++ [l[i]]).reverse.map _ = _
  rw [List.reverse_append]
  rfl
theorem reftext_l0 (l : List Int) (hs : ∀ x ∈ l, 0 ≤ x ∧ x ≤ 3) (hl : l.length < 140737488355328) : ∀ (n i : Nat), i ≤ l.length → l.length - i = n →
    Ev (fun k => netwrightref01_Text.l0 k ⟨(textB (l.take i)).toArray⟩ l (l.length : Int) (i : Int)) (⟨(textB l).toArray⟩, 0) := by
  intro n
  induction n with
  | zero =>
    intro i hi hn
    rw [List.take_of_length_le (show l.length ≤ i by omega)]
    exact Ev.step (f := fun _ => some (⟨(textB l).toArray⟩, 0)) (fun k => by simp only [netwrightref01_Text.l0]; rw [if_neg (by omega)]) (Ev.now _)
  | succ n ih =>
    intro i hi hn
    have h1 : i < l.length := by omega
    have h2 := hs _ (List.getElem_mem h1)
    refine Ev.step (f := fun k => netwrightref01_Text.l0 k ⟨(textB (l.take (i + 1))).toArray⟩ l (l.length : Int) ((i + 1 : Nat) : Int)) (fun k => ?_) (ih (i + 1) (by omega) (by omega))
    have hz : (⟨(textB (l.take i)).toArray⟩ : ByteArray).size = i := by
      show (textB (l.take i)).toArray.size = i
      simp [textB]
      omega
    simp only [netwrightref01_Text.l0]
    rw [if_pos (by omega), if_pos (by omega), if_pos (by omega), rd_nat l i h1, if_pos (by omega), if_pos (by omega), if_pos (by omega), letter_cut _ h2, if_pos (by rw [hz]; show 1 + i ≤ _; omega), cons_bytes, ← textB_take l i h1, wrap_succ i (by omega)]
def textF (l : List Int) : ByteArray × Int := if isF l = true then (⟨(textB l).toArray⟩, 0) else (⟨#[]⟩, 2)
theorem reftext_ev (l : List Int) (hu : U8 l) (hl : l.length < 9223372036854775807) : Ev (fun k => netwrightref01_Text.f k l) (textF l) := by
  refine Ev.congr (f := fun k => (netwrightref01_Is.f k l).bind fun t => if t = true then netwrightref01_Text.l0 k ⟨#[]⟩ l (l.length : Int) 0 else some (⟨#[]⟩, 2)) (fun k => rfl) ?_
  refine Ev.bind (refis_ev l hu hl) ?_
  unfold textF
  cases h : isF l with
  | false => exact Ev.now _
  | true =>
    have hp := (isF_parts h).2.1
    simpa [textB] using reftext_l0 l (small hu h) (by omega) l.length 0 (by omega) (by omega)
theorem text_all (l : List Int) (hu : U8 l) : logic_Text.f l = some (textF l) := by
  unfold textF
  cases h : isF l with
  | true => exact text_f l hu h
  | false => unfold logic_Text.f; rw [h]; rfl
end Go.Proofs.Ytajpgmpidphmgaa.Pure
