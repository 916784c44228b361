/- Plain facts: vectors and texts. -/
import Derived.Test.YtajpgmpidphmgaaPvB
import Derived.Test.YtajpgmpidphmgaaPAllG28
namespace Go.Proofs.Ytajpgmpidphmgaa.Pure
open Go.RowKit Go.Proofs.Ytajpgmpidphmgaa.Hand Go.Proofs.Ytajpgmpidphmgaa.PAll Go.Proofs.YtajpgmpidphmgaaW.PrintWords Go.Proofs.YtajpgmpidphmgaaW.PrintLast
/-! #### Is -/
theorem refis_l0 (l : List Int) (hu : U8 l) (hl : l.length < 9223372036854775807) : ∀ (n i : Nat), i ≤ l.length → l.length - i = n → Ev (fun k => netwrightref01_Is.l0 k l l (l.length : Int) (i : Int)) (((l.drop i).all fun x => decide (x ≤ 3)) && (decide (1 ≤ l.length) && decide (l.length ≤ 64))) := by
  intro n
  induction n with
  | zero =>
    intro i hi hn
    rw [List.drop_of_length_le (by omega), List.all_nil, Bool.true_and]
    by_cases h1 : 1 ≤ l.length
    · refine Ev.step (f := fun _ => some (decide ((l.length : Int) ≤ 64))) (fun k => by simp only [netwrightref01_Is.l0]; rw [if_neg (by omega), if_pos (by omega)]) ?_
      rw [decide_eq_true h1, Bool.true_and, show decide ((l.length : Int) ≤ 64) = decide (l.length ≤ 64) from decide_eq_decide.2 (by omega)]
      exact Ev.now _
    · refine Ev.step (f := fun _ => some false) (fun k => by simp only [netwrightref01_Is.l0]; rw [if_neg (by omega), if_neg (by omega)]) ?_
      rw [decide_eq_false h1, Bool.false_and]
      exact Ev.now _
  | succ n ih =>
    intro i hi hn
    have h1 : i < l.length := by omega
    rw [List.drop_eq_getElem_cons h1]
    by_cases he : l[i] ≤ 3
    · refine Ev.step (f := fun k => netwrightref01_Is.l0 k l l (l.length : Int) ((i + 1 : Nat) : Int)) (fun k => by simp only [netwrightref01_Is.l0]; rw [if_pos (by omega), if_pos (by omega), if_pos (by omega), rd_nat l i h1, bit_f _ (hu.at_ i h1).1, decide_eq_true he, wrap_succ i (by omega)]; simp) ?_
      rw [all_yes (decide_eq_true he)]
      exact ih (i + 1) (by omega) (by omega)
    · refine Ev.step (f := fun _ => some false) (fun k => by simp only [netwrightref01_Is.l0]; rw [if_pos (by omega), if_pos (by omega), if_pos (by omega), rd_nat l i h1, bit_f _ (hu.at_ i h1).1, decide_eq_false he]; simp) ?_
      rw [all_no (decide_eq_false he), Bool.false_and]
      exact Ev.now _
theorem refis_ev (l : List Int) (hu : U8 l) (hl : l.length < 9223372036854775807) : Ev (fun k => netwrightref01_Is.f k l) (isF l) := by
  have := refis_l0 l hu hl l.length 0 (by omega) (by omega)
  unfold isF
  rw [Bool.and_comm]
  exact this
theorem isF_parts {l : List Int} (h : isF l = true) : 1 ≤ l.length ∧ l.length ≤ 64 ∧ ∀ x ∈ l, x ≤ 3 := by
  unfold isF at h
  simp only [Bool.and_eq_true, decide_eq_true_eq] at h
  exact ⟨h.1.1, h.1.2, fun x hx => of_decide_eq_true (List.all_eq_true.1 h.2 x hx)⟩
theorem isF_mk {l : List Int} (h1 : 1 ≤ l.length) (h2 : l.length ≤ 64) (h3 : ∀ x ∈ l, x ≤ 3) : isF l = true := by
  unfold isF
  simp only [Bool.and_eq_true, decide_eq_true_eq]
  exact ⟨⟨h1, h2⟩, List.all_eq_true.2 fun x hx => decide_eq_true (h3 x hx)⟩
theorem text_f (l : List Int) (hu : U8 l) (h : isF l = true) : logic_Text.f l = some (⟨(textB l).toArray⟩, 0) := by
  unfold logic_Text.f
  rw [if_pos h, if_pos (List.all_eq_true.2 fun x hx => decide_eq_true (hu x hx).1)]
end Go.Proofs.Ytajpgmpidphmgaa.Pure
