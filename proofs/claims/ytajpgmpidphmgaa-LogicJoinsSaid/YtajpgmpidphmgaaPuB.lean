/- Plain facts on the printed functions of package logic and its reference: copies, comparison, Resolve. -/
import Derived.Test.YtajpgmpidphmgaaPuA
import Derived.Test.YtajpgmpidphmgaaPAllx4
namespace Go.Proofs.Ytajpgmpidphmgaa.Pure
open Go.RowKit Go.Proofs.Ytajpgmpidphmgaa.Hand Go.Proofs.Ytajpgmpidphmgaa.PAll Go.Proofs.YtajpgmpidphmgaaW.PrintWords Go.Proofs.YtajpgmpidphmgaaW.PrintLast
theorem wrap_succ (i : Nat) (h : i < 9223372036854775807) : wrap64 ((i : Int) + 1) = ((i + 1 : Nat) : Int) := by
  unfold wrap64
  omega
/-- All numbers of a list are of the kind uint8. -/
def U8 (l : List Int) : Prop := ∀ x ∈ l, 0 ≤ x ∧ x ≤ 255
theorem u8_list {l : List Int} (h : ∀ x ∈ l, (Lit.int .u8 x).wf = true) : U8 l := fun x hx => u8_of (h x hx)
theorem U8.at_ {l : List Int} (h : U8 l) (i : Nat) (hi : i < l.length) : 0 ≤ l[i] ∧ l[i] ≤ 255 := h _ (List.getElem_mem hi)
theorem copied_f (l : List Int) (h : l.length < 140737488355328) : netwrightlaw01_copied.f l = some l := by
  unfold netwrightlaw01_copied.f
  simp only [Option.bind_some, List.length_nil, Nat.zero_add, List.nil_append]
  rw [if_pos h]
theorem long_f (l : List Int) : netwrightlaw01_long.f l = some (decide (200 < l.length)) := by
  unfold netwrightlaw01_long.f
  congr 1
  rw [Bool.eq_iff_iff]
  simp
  omega
/-! #### Same -/
theorem same_l0 (a b : List Int) (hab : a.length = b.length) (hl : a.length < 9223372036854775807) : ∀ (d i : Nat), i ≤ a.length → a.length - i = d → Ev (fun k => netwrightref01_Same.l0 k a b (a.length : Int) (i : Int)) (decide (a.drop i = b.drop i)) := by
  intro d
  induction d with
  | zero =>
    intro i hi hd
    refine Ev.step (f := fun _ => some true) (fun k => by simp only [netwrightref01_Same.l0]; rw [if_neg (by omega)]) ?_
    rw [List.drop_of_length_le (by omega), List.drop_of_length_le (by omega)]
    simp only [decide_true]
    exact Ev.now _
  | succ d ih =>
    intro i hi hd
    have h1 : i < a.length := by omega
    have h2 : i < b.length := by omega
    have hr := ih (i + 1) (by omega) (by omega)
    rw [List.drop_eq_getElem_cons h1, List.drop_eq_getElem_cons h2]
    by_cases he : a[i] = b[i]
    · refine Ev.step (f := fun k => netwrightref01_Same.l0 k a b (a.length : Int) ((i + 1 : Nat) : Int)) (fun k => by simp only [netwrightref01_Same.l0]; rw [if_pos (by omega), if_pos (by omega), if_pos (by omega), if_pos (by omega), rd_nat a i h1, rd_nat b i h2, if_pos he, wrap_succ i (by omega)]) ?_
      rw [he]
      rw [decide_eq_decide.2 (show (b[i] :: List.drop (i + 1) a = b[i] :: List.drop (i + 1) b) ↔ (List.drop (i + 1) a = List.drop (i + 1) b) by rw [List.cons.injEq]; exact ⟨fun h => h.2, fun h => ⟨rfl, h⟩⟩)]
      exact hr
    · refine Ev.step (f := fun _ => some false) (fun k => by simp only [netwrightref01_Same.l0]; rw [if_pos (by omega), if_pos (by omega), if_pos (by omega), if_pos (by omega), rd_nat a i h1, rd_nat b i h2, if_neg he]) ?_
      rw [decide_eq_false (fun e => he (List.cons.inj e).1)]
      exact Ev.now _
theorem same_ev (a b : List Int) (hl : a.length < 9223372036854775807) : Ev (fun k => netwrightref01_Same.f k a b) (decide (a = b)) := by
  by_cases h : a.length = b.length
  · refine Ev.congr (f := fun k => netwrightref01_Same.l0 k a b (a.length : Int) ((0 : Nat) : Int)) (fun k => by unfold netwrightref01_Same.f; rw [if_pos (by omega)]; rfl) ?_
    have := same_l0 a b h hl a.length 0 (by omega) (by omega)
    simpa using this
  · refine Ev.congr (f := fun _ => some false) (fun k => by unfold netwrightref01_Same.f; rw [if_neg (by omega)]) ?_
    rw [decide_eq_false (fun e => h (by rw [e]))]
    exact Ev.now _
theorem same_self (a : List Int) (hl : a.length < 9223372036854775807) : Ev (fun k => netwrightref01_Same.f k a a) true := by
  have := same_ev a a hl
  simpa using this
theorem all_yes {p : Int → Bool} {x : Int} {t : List Int} (h : p x = true) : (x :: t).all p = t.all p := by rw [List.all_cons, h, Bool.true_and]
theorem all_no {p : Int → Bool} {x : Int} {t : List Int} (h : p x = false) : (x :: t).all p = false := by rw [List.all_cons, h, Bool.false_and]
/-! #### Resolve -/
/-- Two bits resolved. -/
def bothF (a b : Int) : Int := if a = b then a else if b = 3 then a else if a = 3 then b else 2
theorem both_f (k : Nat) (hk : 1 ≤ k) (a b : Int) : logic_both.f k a b = some (bothF a b) := by
  obtain ⟨m, rfl⟩ : ∃ m, k = m + 1 := ⟨k - 1, by omega⟩
  unfold logic_both.f bothF
  simp only [logic_both.j0]
  by_cases h : a = b
  · simp [h]
  · by_cases h3 : b = 3
    · have h4 : ¬ a = 3 := fun e => h (by rw [e, h3])
      simp [h3, h4]
    · simp [h, h3]
      split <;> rfl
/-- A list resolved, something ahead of it. -/
def resF (acc : Int) (l : List Int) : Int × Int := if (l.all fun x => decide (x ≤ 3)) = true then (l.foldl bothF acc, 0) else (0, 2)
theorem resolve_l0 (l : List Int) (hl : l.length < 9223372036854775807) : ∀ (d i : Nat) (acc : Int), i ≤ l.length → l.length - i = d → Ev (fun k => logic_Resolve.l0 k acc l (l.length : Int) (i : Int)) (resF acc (l.drop i)) := by
  intro d
  induction d with
  | zero =>
    intro i acc hi hd
    refine Ev.step (f := fun _ => some (acc, 0)) (fun k => by simp only [logic_Resolve.l0]; rw [if_neg (by omega)]) ?_
    rw [List.drop_of_length_le (by omega)]
    exact Ev.now _
  | succ d ih =>
    intro i acc hi hd
    have h1 : i < l.length := by omega
    rw [List.drop_eq_getElem_cons h1]
    by_cases he : l[i] ≤ 3
    · have hr : resF acc (l[i] :: l.drop (i + 1)) = resF (bothF acc l[i]) (l.drop (i + 1)) := by unfold resF; rw [all_yes (decide_eq_true he)]; rfl
      rw [hr]
      obtain ⟨K, hK⟩ := ih (i + 1) (bothF acc l[i]) (by omega) (by omega)
      refine ⟨K + 2, fun k hk => ?_⟩
      obtain ⟨m, rfl⟩ : ∃ m, k = m + 1 := ⟨k - 1, by omega⟩
      simp only [logic_Resolve.l0]
      rw [if_pos (by omega), if_pos (by omega), if_pos (by omega), rd_nat l i h1, both_f m (by omega)]
      unfold logic_isBit.f
      rw [decide_eq_true he]
      simp only [Option.bind_some, if_true]
      rw [wrap_succ i (by omega)]
      exact hK m (by omega)
    · have hr : resF acc (l[i] :: l.drop (i + 1)) = (0, 2) := by unfold resF; rw [all_no (decide_eq_false he)]; rfl
      rw [hr]
      refine Ev.step (f := fun _ => some (0, 2)) (fun k => by simp only [logic_Resolve.l0]; rw [if_pos (by omega), if_pos (by omega), if_pos (by omega), rd_nat l i h1]; unfold logic_isBit.f; rw [decide_eq_false he]; simp) (Ev.now _)
theorem resolve_ev (l : List Int) (hl : l.length < 9223372036854775807) : Ev (fun k => logic_Resolve.f k l) (resF 3 l) := by
  have := resolve_l0 l hl l.length 0 3 (by omega) (by omega)
  simpa [logic_Resolve.f] using this
/-- What the reference says of the bits that drive. -/
def drvF (d : List Int) : Int × Int := match d with | [] => (3, 0) | a :: t => if (t.all fun x => decide (x = a)) = true then (a, 0) else (2, 0)
theorem refres_l2 (d : List Int) (hl : d.length < 9223372036854775807) (a : Int) (t : List Int) (hd0 : d = a :: t) : ∀ (n i : Nat), i ≤ d.length → d.length - i = n → Ev (fun k => netwrightref01_Resolve.l2 k d d (d.length : Int) (i : Int)) (if ((d.drop i).all fun x => decide (x = a)) = true then (a, 0) else (2, 0)) := by
  have h0 : rd d 0 = a := by rw [hd0]; rfl
  have hp : 0 < d.length := by rw [hd0]; simp
  intro n
  induction n with
  | zero =>
    intro i hi hn
    refine Ev.step (f := fun _ => some (a, 0)) (fun k => by simp only [netwrightref01_Resolve.l2]; rw [if_neg (by omega), if_pos (by omega), h0]) ?_
    rw [List.drop_of_length_le (by omega)]
    exact Ev.now _
  | succ n ih =>
    intro i hi hn
    have h1 : i < d.length := by omega
    rw [List.drop_eq_getElem_cons h1]
    by_cases he : d[i] = a
    · refine Ev.step (f := fun k => netwrightref01_Resolve.l2 k d d (d.length : Int) ((i + 1 : Nat) : Int)) (fun k => by simp only [netwrightref01_Resolve.l2]; rw [if_pos (by omega), if_pos (by omega), if_pos (by omega), if_pos (by omega), rd_nat d i h1, h0, if_pos he, wrap_succ i (by omega)]) ?_
      rw [all_yes (decide_eq_true he)]
      exact ih (i + 1) (by omega) (by omega)
    · refine Ev.step (f := fun _ => some (2, 0)) (fun k => by simp only [netwrightref01_Resolve.l2]; rw [if_pos (by omega), if_pos (by omega), if_pos (by omega), if_pos (by omega), rd_nat d i h1, h0, if_neg he]) ?_
      rw [all_no (decide_eq_false he)]
      exact Ev.now _
theorem refres_tail (d : List Int) (hl : d.length < 9223372036854775807) : Ev (fun k => if (d.length : Int) = 0 then some (3, 0) else netwrightref01_Resolve.l2 k d d (d.length : Int) 0) (drvF d) := by
  cases d with
  | nil => exact Ev.congr (f := fun _ => some (3, 0)) (fun k => by simp) (Ev.now _)
  | cons a t =>
    have := refres_l2 (a :: t) hl a t rfl (a :: t).length 0 (by omega) (by omega)
    refine Ev.congr (f := fun k => netwrightref01_Resolve.l2 k (a :: t) (a :: t) ((a :: t).length : Int) ((0 : Nat) : Int)) (fun k => by rw [if_neg (by simp; omega)]; rfl) ?_
    simpa [drvF] using this
theorem refres_l1 (l : List Int) (hl : l.length < 140737488355328) : ∀ (n i : Nat) (acc : List Int), i ≤ l.length → l.length - i = n → acc.length ≤ i → Ev (fun k => netwrightref01_Resolve.l1 k acc l (l.length : Int) (i : Int)) (drvF (acc ++ (l.drop i).filter fun x => decide (x ≠ 3))) := by
  intro n
  induction n with
  | zero =>
    intro i acc hi hn ha
    rw [List.drop_of_length_le (by omega)]
    simp only [List.filter_nil, List.append_nil]
    exact Ev.step (f := fun k => if (acc.length : Int) = 0 then some (3, 0) else netwrightref01_Resolve.l2 k acc acc (acc.length : Int) 0) (fun k => by simp only [netwrightref01_Resolve.l1]; rw [if_neg (by omega)]) (refres_tail acc (by omega))
  | succ n ih =>
    intro i acc hi hn ha
    have h1 : i < l.length := by omega
    rw [List.drop_eq_getElem_cons h1]
    by_cases he : l[i] = 3
    · refine Ev.step (f := fun k => netwrightref01_Resolve.l1 k acc l (l.length : Int) ((i + 1 : Nat) : Int)) (fun k => by simp only [netwrightref01_Resolve.l1]; rw [if_pos (by omega), if_pos (by omega), if_pos (by omega), rd_nat l i h1, if_pos he, wrap_succ i (by omega)]) ?_
      rw [List.filter_cons_of_neg (by rw [he]; decide)]
      exact ih (i + 1) acc (by omega) (by omega) (by omega)
    · refine Ev.step (f := fun k => netwrightref01_Resolve.l1 k (acc ++ [l[i]]) l (l.length : Int) ((i + 1 : Nat) : Int)) (fun k => by simp only [netwrightref01_Resolve.l1]; rw [if_pos (by omega), if_pos (by omega), if_pos (by omega), rd_nat l i h1, if_neg he, if_pos (by omega), wrap_succ i (by omega)]) ?_
      rw [List.filter_cons_of_pos (by simpa using he), List.append_cons acc l[i] ((l.drop (i + 1)).filter _)]
      exact ih (i + 1) (acc ++ [l[i]]) (by omega) (by omega) (by simp; omega)
/-- What the reference says of a list. -/
def refF (l : List Int) : Int × Int := if (l.all fun x => decide (x ≤ 3)) = true then drvF (l.filter fun x => decide (x ≠ 3)) else (0, 2)
theorem refres_l0 (l : List Int) (hu : U8 l) (hl : l.length < 140737488355328) : ∀ (n i : Nat), i ≤ l.length → l.length - i = n → Ev (fun k => netwrightref01_Resolve.l0 k l l (l.length : Int) (i : Int)) (if ((l.drop i).all fun x => decide (x ≤ 3)) = true then drvF (l.filter fun x => decide (x ≠ 3)) else (0, 2)) := by
  intro n
  induction n with
  | zero =>
    intro i hi hn
    rw [List.drop_of_length_le (by omega)]
    simp only [List.all_nil, if_true]
    have := refres_l1 l hl l.length 0 [] (by omega) (by omega) (by simp)
    exact Ev.step (f := fun k => netwrightref01_Resolve.l1 k [] l (l.length : Int) ((0 : Nat) : Int)) (fun k => by simp only [netwrightref01_Resolve.l0]; rw [if_neg (by omega)]; rfl) (by simpa using this)
  | succ n ih =>
    intro i hi hn
    have h1 : i < l.length := by omega
    rw [List.drop_eq_getElem_cons h1]
    by_cases he : l[i] ≤ 3
    · refine Ev.step (f := fun k => netwrightref01_Resolve.l0 k l l (l.length : Int) ((i + 1 : Nat) : Int)) (fun k => by simp only [netwrightref01_Resolve.l0]; rw [if_pos (by omega), if_pos (by omega), if_pos (by omega), rd_nat l i h1, bit_f _ (hu.at_ i h1).1, decide_eq_true he, wrap_succ i (by omega)]; simp) ?_
      rw [all_yes (decide_eq_true he)]
      exact ih (i + 1) (by omega) (by omega)
    · refine Ev.step (f := fun _ => some (0, 2)) (fun k => by simp only [netwrightref01_Resolve.l0]; rw [if_pos (by omega), if_pos (by omega), if_pos (by omega), rd_nat l i h1, bit_f _ (hu.at_ i h1).1, decide_eq_false he]; simp) ?_
      rw [all_no (decide_eq_false he)]
      exact Ev.now _
theorem refres_ev (l : List Int) (hu : U8 l) (hl : l.length < 140737488355328) : Ev (fun k => netwrightref01_Resolve.f k l) (refF l) := by
  have := refres_l0 l hu hl l.length 0 (by omega) (by omega)
  simpa [netwrightref01_Resolve.f, refF] using this
/-! #### The plain law: what a list is resolved to -/
theorem drv_snoc (d : List Int) (b : Int) (hb : b ≠ 3) (hd : ∀ x ∈ d, x ≠ 3) : (drvF (d ++ [b])).1 = bothF (drvF d).1 b := by
  cases d with
  | nil =>
    simp only [drvF, List.nil_append, List.all_nil, if_true, bothF]
    rw [if_neg (fun h => hb h.symm), if_neg hb]
  | cons a t =>
    have ha : a ≠ 3 := hd a (by simp)
    by_cases ht : (t.all fun x => decide (x = a)) = true
    · by_cases hab : b = a
      · subst hab
        simp [drvF, bothF, ht]
      · have : ¬ a = b := fun e => hab e.symm
        simp [drvF, bothF, ht, hab, this, hb, ha]
    · have h2 : ((t ++ [b]).all fun x => decide (x = a)) = false := by simp at ht ⊢; obtain ⟨x, hx, hn⟩ := ht; exact fun h => absurd (h x hx) hn
      have h3 : (t.all fun x => decide (x = a)) = false := by simpa using ht
      simp only [drvF, List.cons_append, h2, h3]
      simp only [Bool.false_eq_true, if_false, bothF]
      by_cases h2b : (2 : Int) = b
      · rw [if_pos h2b]
      · rw [if_neg h2b, if_neg hb, if_neg (by decide)]
theorem fold_drv (l : List Int) : l.foldl bothF 3 = (drvF (l.filter fun x => decide (x ≠ 3))).1 := by
  have key : ∀ (n : Nat) (l : List Int), l.length = n → l.foldl bothF 3 = (drvF (l.filter fun x => decide (x ≠ 3))).1 := by
    intro n
    induction n with
    | zero => intro l hl; rw [List.length_eq_zero_iff.1 hl]; rfl
    | succ n ih =>
      intro l hl
      obtain ⟨i, b, rfl⟩ : ∃ i b, l = i ++ [b] := ⟨l.dropLast, l.getLast (by intro e; subst e; simp at hl), (List.dropLast_concat_getLast _).symm⟩
      have hi : i.length = n := by simpa using hl
      rw [List.foldl_append, List.filter_append, ih i hi]
      by_cases hb : b = 3
      · subst hb
        simp [bothF]
      · have hf : [b].filter (fun x => decide (x ≠ 3)) = [b] := by simp [hb]
        rw [hf, drv_snoc _ b hb (fun x hx => by simpa using (List.mem_filter.1 hx).2)]
        rfl
  exact key l.length l rfl
theorem drv_ok (d : List Int) : (drvF d).2 = 0 := by
  unfold drvF
  split
  · rfl
  · split <;> rfl
theorem res_ref (l : List Int) : resF 3 l = refF l := by
  unfold resF refF
  split
  · rw [fold_drv]
    exact Prod.ext rfl (drv_ok _).symm
  · rfl
theorem resolves_pure : netwrightlaw01_LogicResolves.Pure := by
  intro l _ hl hw
  have hu := u8_list hw
  obtain ⟨K, hK⟩ := awake_ev
  by_cases h2 : 200 < l.length
  · refine ⟨K, ?_⟩
    unfold netwrightlaw01_LogicResolves.f
    rw [long_f, decide_eq_true h2]
    simp [hK K (Nat.le_refl _)]
  · obtain ⟨K1, h3⟩ := resolve_ev l (by omega)
    obtain ⟨K2, h4⟩ := refres_ev l hu (by omega)
    obtain ⟨K3, h5⟩ := same_self l (by omega)
    refine ⟨K + K1 + K2 + K3, ?_⟩
    unfold netwrightlaw01_LogicResolves.f
    rw [long_f, decide_eq_false h2, copied_f l (by omega)]
    have e1 := h3 (K + K1 + K2 + K3) (by omega)
    have e2 := h4 (K + K1 + K2 + K3) (by omega)
    have e3 := h5 (K + K1 + K2 + K3) (by omega)
    simp only [Option.bind_some, Bool.false_eq_true, if_false]
    simp only [] at e1 e2 e3
    rw [e1]
    simp only [Option.bind_some]
    rw [e2]
    simp only [Option.bind_some]
    rw [res_ref, e3, hK (K + K1 + K2 + K3) (by omega)]
    simp
end Go.Proofs.Ytajpgmpidphmgaa.Pure
