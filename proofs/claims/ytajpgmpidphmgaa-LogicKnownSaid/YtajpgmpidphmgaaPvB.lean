/- Plain facts: copies, lengths, comparison. -/
import Derived.Test.YtajpgmpidphmgaaPvA
import Derived.Test.YtajpgmpidphmgaaPAllG48
namespace Go.Proofs.Ytajpgmpidphmgaa.Pure
open Go.RowKit Go.Proofs.Ytajpgmpidphmgaa.Hand Go.Proofs.Ytajpgmpidphmgaa.PAll Go.Proofs.YtajpgmpidphmgaaW.PrintWords Go.Proofs.YtajpgmpidphmgaaW.PrintLast
theorem wrap_succ (i : Nat) (h : i < 9223372036854775807) : wrap64 ((i : Int) + 1) = ((i + 1 : Nat) : Int) := by
  unfold wrap64
  omega
/-- All numbers of a list are of the kind uint8. -/
def U8 (l : List Int) : Prop := ∀ x ∈ l, 0 ≤ x ∧ x ≤ 255
theorem u8_list {l : List Int} (h : ∀ x ∈ l, (Lit.int .u8 x).wf = true) : U8 l := fun x hx => u8_of (h x hx)
theorem U8.at_ {l : List Int} (h : U8 l) (i : Nat) (hi : i < l.length) : 0 ≤ l[i] ∧ l[i] ≤ 255 := h _ (List.getElem_mem hi)
theorem copied_f (l : List Int) (h : l.length < 140737488355328) : netwrightlaw01_copied.f l = some l := by
  unfold netwrightlaw01_copied.f
  simp only [Option.bind_some, List.length_nil, Nat.zero_add, List.nil_append]
  rw [if_pos h]
theorem long_f (l : List Int) : netwrightlaw01_long.f l = some (decide (200 < l.length)) := by
  unfold netwrightlaw01_long.f
  congr 1
  rw [Bool.eq_iff_iff]
  simp
  omega
/-! #### Same -/
theorem same_l0 (a b : List Int) (hab : a.length = b.length) (hl : a.length < 9223372036854775807) : ∀ (d i : Nat), i ≤ a.length → a.length - i = d → Ev (fun k => netwrightref01_Same.l0 k a b (a.length : Int) (i : Int)) (decide (a.drop i = b.drop i)) := by
  intro d
  induction d with
  | zero =>
    intro i hi hd
    refine Ev.step (f := fun _ => some true) (fun k => by simp only [netwrightref01_Same.l0]; rw [if_neg (by omega)]) ?_
    rw [List.drop_of_length_le (by omega), List.drop_of_length_le (by omega)]
    simp only [decide_true]
    exact Ev.now _
  | succ d ih =>
    intro i hi hd
    have h1 : i < a.length := by omega
    have h2 : i < b.length := by omega
    have hr := ih (i + 1) (by omega) (by omega)
    rw [List.drop_eq_getElem_cons h1, List.drop_eq_getElem_cons h2]
    by_cases he : a[i] = b[i]
    · refine Ev.step (f := fun k => netwrightref01_Same.l0 k a b (a.length : Int) ((i + 1 : Nat) : Int)) (fun k => by simp only [netwrightref01_Same.l0]; rw [if_pos (by omega), if_pos (by omega), if_pos (by omega), if_pos (by omega), rd_nat a i h1, rd_nat b i h2, if_pos he, wrap_succ i (by omega)]) ?_
      rw [he]
      rw [decide_eq_decide.2 (show (b[i] :: List.drop (i + 1) a = b[i] :: List.drop (i + 1) b) ↔ (List.drop (i + 1) a = List.drop (i + 1) b) by rw [List.cons.injEq]; exact ⟨fun h => h.2, fun h => ⟨rfl, h⟩⟩)]
      exact hr
    · refine Ev.step (f := fun _ => some false) (fun k => by simp only [netwrightref01_Same.l0]; rw [if_pos (by omega), if_pos (by omega), if_pos (by omega), if_pos (by omega), rd_nat a i h1, rd_nat b i h2, if_neg he]) ?_
      rw [decide_eq_false (fun e => he (List.cons.inj e).1)]
      exact Ev.now _
theorem same_ev (a b : List Int) (hl : a.length < 9223372036854775807) : Ev (fun k => netwrightref01_Same.f k a b) (decide (a = b)) := by
  by_cases h : a.length = b.length
  · refine Ev.congr (f := fun k => netwrightref01_Same.l0 k a b (a.length : Int) ((0 : Nat) : Int)) (fun k => by unfold netwrightref01_Same.f; rw [if_pos (by omega)]; rfl) ?_
    have := same_l0 a b h hl a.length 0 (by omega) (by omega)
    simpa using this
  · refine Ev.congr (f := fun _ => some false) (fun k => by unfold netwrightref01_Same.f; rw [if_neg (by omega)]) ?_
    rw [decide_eq_false (fun e => h (by rw [e]))]
    exact Ev.now _
theorem same_self (a : List Int) (hl : a.length < 9223372036854775807) : Ev (fun k => netwrightref01_Same.f k a a) true := by
  have := same_ev a a hl
  simpa using this
theorem all_yes {p : Int → Bool} {x : Int} {t : List Int} (h : p x = true) : (x :: t).all p = t.all p := by rw [List.all_cons, h, Bool.true_and]
theorem all_no {p : Int → Bool} {x : Int} {t : List Int} (h : p x = false) : (x :: t).all p = false := by rw [List.all_cons, h, Bool.false_and]
end Go.Proofs.Ytajpgmpidphmgaa.Pure
