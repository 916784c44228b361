/- Plain facts: vectors of one length. -/
import Derived.Test.YtajpgmpidphmgaaPvC
import Derived.Test.YtajpgmpidphmgaaPAllG28
namespace Go.Proofs.Ytajpgmpidphmgaa.Pure
open Go.RowKit Go.Proofs.Ytajpgmpidphmgaa.Hand Go.Proofs.Ytajpgmpidphmgaa.PAll Go.Proofs.YtajpgmpidphmgaaW.PrintWords Go.Proofs.YtajpgmpidphmgaaW.PrintLast
theorem rdl_nat (ls : List (List Int)) (i : Nat) (h : i < ls.length) : rd_L1 ls (i : Int) = ls[i] := by simp [rd_L1, List.getD_eq_getElem?_getD, h]
def width (ls : List (List Int)) : Nat := (rd_L1 ls 0).length
/-- One row of a table is a vector as wide as the first. -/
def goodF (ls : List (List Int)) (v : List Int) : Bool := isF v && decide (v.length = width ls)
def col (ls : List (List Int)) (i : Nat) : List Int := ls.map fun v => v.getD i 0
theorem good_at {ls : List (List Int)} (h : ls.all (goodF ls) = true) {v : List Int} (hv : v ∈ ls) : isF v = true ∧ v.length = width ls := by
  have := List.all_eq_true.1 h v hv
  unfold goodF at this
  simpa using this
theorem are_l0 (ls : List (List Int)) (hl : ls.length < 9223372036854775807) : ∀ (n i : Nat), i ≤ ls.length → ls.length - i = n → Ev (fun k => logic_are.l0 k ls ls (ls.length : Int) (i : Int)) ((ls.drop i).all (goodF ls)) := by
  intro n
  induction n with
  | zero =>
    intro i hi hn
    rw [List.drop_of_length_le (by omega)]
    exact Ev.step (f := fun _ => some true) (fun k => by simp only [logic_are.l0]; rw [if_neg (by omega)]) (Ev.now _)
  | succ n ih =>
    intro i hi hn
    have h1 : i < ls.length := by omega
    rw [List.drop_eq_getElem_cons h1, List.all_cons]
    cases he : isF ls[i] with
    | false =>
      rw [show goodF ls ls[i] = false by unfold goodF; rw [he]; rfl, Bool.false_and]
      refine Ev.step (f := fun _ => some false) (fun k => ?_) (Ev.now _)
      simp only [logic_are.l0]
      rw [if_pos (by omega), if_pos (by omega), if_pos (by omega), rdl_nat ls i h1]
      unfold logic_Is.f
      rw [he]
      simp
    | true =>
      by_cases hw : ls[i].length = width ls
      · rw [show goodF ls ls[i] = true by unfold goodF; rw [he, decide_eq_true hw]; rfl, Bool.true_and]
        refine Ev.step (f := fun k => logic_are.l0 k ls ls (ls.length : Int) ((i + 1 : Nat) : Int)) (fun k => ?_) (ih (i + 1) (by omega) (by omega))
        simp only [logic_are.l0]
        rw [if_pos (by omega), if_pos (by omega), if_pos (by omega), rdl_nat ls i h1]
        unfold logic_Is.f
        rw [he]
        simp only [Option.bind_some, if_true]
        rw [if_pos (by omega), if_pos (by unfold width at hw; omega), wrap_succ i (by omega)]
      · rw [show goodF ls ls[i] = false by unfold goodF; rw [decide_eq_false hw, Bool.and_false], Bool.false_and]
        refine Ev.step (f := fun _ => some false) (fun k => ?_) (Ev.now _)
        simp only [logic_are.l0]
        rw [if_pos (by omega), if_pos (by omega), if_pos (by omega), rdl_nat ls i h1]
        unfold logic_Is.f
        rw [he]
        simp only [Option.bind_some, if_true]
        rw [if_pos (by omega), if_neg (by unfold width at hw; omega)]
theorem are_ev (ls : List (List Int)) (hl : ls.length < 9223372036854775807) : Ev (fun k => logic_are.f k ls) (ls.all (goodF ls)) := by
  have := are_l0 ls hl ls.length 0 (by omega) (by omega)
  simpa [logic_are.f] using this
end Go.Proofs.Ytajpgmpidphmgaa.Pure
