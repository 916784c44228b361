/- Part of the proof of LawDriversOrder: every definition and lemma is one that it names. -/
import Derived.Test.YtojankgmedccdaaQPuG
import Derived.Test.YtojankgmedccdaaQPIsx14
import Derived.Test.YtojankgmedccdaaQPRsx5
import Derived.Test.YtojankgmedccdaaQPOrx1
section
namespace Go.Proofs.Ytojankgmedccdaa.Pure
open Go.RowKit Own PTy Hand PIs RowV YtojankgmedccdaaW.PrintWords YtojankgmedccdaaW.PrintLast
def hasV (x : S26) (v : S30) : Bool := decide (v.f0 = x.f0) && (if x.f0 = 1 then (decide (v.f1 = 0) && decide (v.f3.length = 0) && (isF v.f2 && decide (v.f2.length = 1))) else (decide (v.f2.length = 0) && decide (v.f3.length = 0) && (if x.f0 = 2 then (decide (v.f1 = 0) || decide (v.f1 = 1)) else if x.f0 = 3 then (decide (-2147483648 ≤ v.f1) && decide (v.f1 ≤ 2147483647)) else (decide (0 ≤ v.f1) && decide (v.f1 < (x.f3.length : Int))))))
theorem bare_1 (v : S30) : types_bare.f v.f0 v.f1 v.f2 v.f3 false true false = some (decide (v.f1 = 0) && decide (v.f3.length = 0)) := by
  unfold types_bare.f
  by_cases h1 : v.f1 = 0 <;> simp [h1, len_beq]
theorem bare_2 (v : S30) : types_bare.f v.f0 v.f1 v.f2 v.f3 true false false = some (decide (v.f2.length = 0) && decide (v.f3.length = 0)) := by
  unfold types_bare.f
  by_cases h1 : v.f2.length = 0 <;> simp [h1, len_beq]
  all_goals simp_all [len_beq]
theorem sc_f1 (x : S26) (h : scB x = true) : x.f1 = 0 := by
  unfold scB baseB enumB at h
  split at h <;> simp_all
theorem sc_kind (x : S26) (h : scB x = true) : kindB x = true ∨ x.f0 = 5 := by
  by_cases hx : kindB x = true ∨ x.f0 = 5
  · exact hx
  · rw [sc_no x hx] at h; cases h
theorem has_ev (x : S26) (v : S30) (hs : scB x = true) : Ev (fun k => types_has.f k x.f0 x.f1 x.f2 x.f3 x.f4 v.f0 v.f1 v.f2 v.f3) (hasV x v) := by
  have hk := sc_kind x hs
  have h1 := sc_f1 x hs
  rw [kind_dec] at hk
  by_cases h0 : v.f0 = x.f0
  · unfold hasV
    rw [decide_eq_true h0, Bool.true_and]
    by_cases k1 : x.f0 = 1
    · rw [if_pos k1]
      refine Ev.congr (f := fun k => types_has.j0 k x.f0 true x.f0 x.f1 x.f2 x.f3 x.f4 v.f0 v.f1 v.f2 v.f3) (fun k => ?_) (Ev.step (f := fun _ => some (decide (v.f1 = 0) && decide (v.f3.length = 0) && (isF v.f2 && decide (v.f2.length = 1)))) (fun k => ?_) (Ev.now _))
      · unfold types_has.f
        rw [if_pos h0, if_pos k1, k1]; rfl
      · rw [types_has.j0, if_pos rfl, bare_1, h1]
        have hm : mx 0 1 = 1 := rfl
        cases hb : (decide (v.f1 = 0) && decide (v.f3.length = 0)) with
        | false => simp
        | true =>
          rw [Option.bind_some, if_pos rfl, logic_Is.f, Option.bind_some, hm, Bool.true_and]
          cases isF v.f2 with
          | false => rfl
          | true =>
            rw [if_pos rfl, Bool.true_and]
            congr 1; rw [Bool.eq_iff_iff]; simp; omega
    · rw [if_neg k1]
      refine Ev.congr (f := fun k => types_has.j0 k x.f0 false x.f0 x.f1 x.f2 x.f3 x.f4 v.f0 v.f1 v.f2 v.f3) (fun k => ?_) (Ev.step (f := fun _ => some (decide (v.f2.length = 0) && decide (v.f3.length = 0) && (if x.f0 = 2 then (decide (v.f1 = 0) || decide (v.f1 = 1)) else if x.f0 = 3 then (decide (-2147483648 ≤ v.f1) && decide (v.f1 ≤ 2147483647)) else (decide (0 ≤ v.f1) && decide (v.f1 < (x.f3.length : Int)))))) (fun k => ?_) (Ev.now _))
      · unfold types_has.f
        rw [if_pos h0, if_neg k1, show (x.f0 == 4) = false from beq_eq_false_iff_ne.mpr (by omega)]
      · rw [types_has.j0, if_neg (by simp), bare_2]
        cases hb : (decide (v.f2.length = 0) && decide (v.f3.length = 0)) with
        | false =>
          by_cases k2 : x.f0 = 2
          · rw [if_pos k2]; rfl
          by_cases k3 : x.f0 = 3
          · rw [if_neg k2, if_pos k3]; rfl
          rw [if_neg k2, if_neg k3, if_pos (by omega)]; rfl
        | true =>
          by_cases k2 : x.f0 = 2
          · rw [if_pos k2, if_pos k2, Option.bind_some, if_pos rfl, Bool.true_and]
            by_cases q : v.f1 = 0
            · rw [if_pos q, decide_eq_true q]; rfl
            · rw [if_neg q, decide_eq_false q, Bool.false_or]; rfl
          by_cases k3 : x.f0 = 3
          · rw [if_neg k2, if_pos k3, if_neg k2, if_pos k3, Option.bind_some, if_pos rfl, Bool.true_and]
            by_cases q : -2147483648 ≤ v.f1
            · rw [if_pos q, decide_eq_true q, Bool.true_and]
            · rw [if_neg q, decide_eq_false q]; rfl
          rw [if_neg k2, if_neg k3, if_pos (show x.f0 = 5 by omega), if_neg k2, if_neg k3, Option.bind_some, if_pos rfl, Bool.true_and]
          by_cases q : 0 ≤ v.f1
          · rw [if_pos q, decide_eq_true q, Bool.true_and]
          · rw [if_neg q, decide_eq_false q]; rfl
  · have e : hasV x v = false := by unfold hasV; rw [decide_eq_false h0]; rfl
    rw [e]
    exact Ev.congr (fun k => by unfold types_has.f; rw [if_neg h0]) (Ev.now _)
theorem Has_ev (x : S26) (v : S30) (hs : scB x = true) (hl : x.f3.length ≤ maxLen) : Ev (fun k => types_Has.f k x.f0 x.f1 x.f2 x.f3 x.f4 v.f0 v.f1 v.f2 v.f3) (hasV x v) := by
  unfold types_Has.f
  refine Ev.bind (types_sc x (sc_kind x hs) hl) ?_
  rw [hs]
  exact Ev.congr (fun k => by rw [if_pos rfl]) (Ev.bind (has_ev x v hs) (Ev.now _))
end Go.Proofs.Ytojankgmedccdaa.Pure
end
section
namespace Go.Proofs.Ytojankgmedccdaa.Pure
open Go.RowKit Own PTy Hand PIs RowV YtojankgmedccdaaW.PrintWords YtojankgmedccdaaW.PrintLast
open PAw (drivers_copied.f logic_isBit.f logic_both.f logic_both.j0 logic_Resolve.f logic_Resolve.l0 r01Same.f r01Same.l0)
open PRs
theorem few_ex2 (n : Nat) (x : S26) (hx : okT n x) (l : List S30) (hl : ∀ y ∈ l, okV n y) : ∃ t, Ev (fun k => v15few.f k x.f0 x.f1 x.f2 x.f3 x.f4 0 0 [] [] [] l) t ∧ (t = true → l.length ≤ 80) := by
  have hm := ml
  by_cases h8 : l.length ≤ 80
  · have h0 : Ex (fun k => v15few.f k x.f0 x.f1 x.f2 x.f3 x.f4 0 0 [] [] [] l) := by
      cases n with
      | zero => exact hx.elim
      | succ n =>
        refine Ex.congr (f := fun k => v15few.j0 k l (decide ((l.length : Int) > 80)) x.f0 x.f1 x.f2 x.f3 x.f4 0 0 [] [] []) (fun k => by unfold v15few.f; rw [if_neg (by simp)]) ?_
        rw [decide_eq_false (by omega)]
        refine Ex.step (f := fun k => v15few.l0 k (⟨0, 0, [], []⟩ :: l) [] 0 0 x.f0 x.f1 x.f2 x.f3 x.f4) (fun k => ?_) ?_
        · rw [v15few.j0, if_neg (by simp), Option.bind_some, if_pos (by simp; omega)]; rfl
        · refine Ex.step (f := fun k => (r04Small.f k x.f0 x.f1 x.f2 x.f3 x.f4 (⟨0, 0, [], []⟩ :: l)).bind fun t => some t) (fun k => ?_) ?_
          · rw [v15few.l0, if_neg (by omega)]
          · refine Ex.bind (small_ex (n + 1) x hx _ (by simp; omega) (n + 1) (fun y hy => ?_)) fun t => Ex.now t
            rcases List.mem_cons.mp hy with rfl | h
            · exact ⟨by decide, by decide, by simp, by simp, by simp, by simp⟩
            · exact hl y h
    obtain ⟨t, ht⟩ := h0
    exact ⟨t, ht, fun _ => h8⟩
  · refine ⟨false, ?_, by simp⟩
    refine Ev.congr (f := fun k => v15few.j0 k l (decide ((l.length : Int) > 80)) x.f0 x.f1 x.f2 x.f3 x.f4 0 0 [] [] []) (fun k => by unfold v15few.f; rw [if_neg (by simp)]) ?_
    rw [decide_eq_true (by omega)]
    exact Ev.step (f := fun _ => some false) (fun k => by rw [v15few.j0, if_pos rfl]) (Ev.now _)
def bothB (s b : Int) : Int := if s = b ∨ b = 3 then s else if s = 3 then b else 2
def foldB : Int → List Int → Int
  | s, [] => s
  | s, b :: l => foldB (bothB s b) l
theorem both_ev (s b : Int) : Ev (fun k => logic_both.f k s b) (bothB s b) := by
  refine Ev.congr (f := fun k => logic_both.j0 k s b (decide (s = b ∨ b = 3))) (fun k => ?_) (Ev.step (f := fun _ => some (bothB s b)) (fun k => ?_) (Ev.now _))
  · unfold logic_both.f
    by_cases h : s = b
    · rw [if_pos h]; congr 1; simp [h]
    · rw [if_neg h]; congr 1; rw [Bool.eq_iff_iff]; simp [h]
  · rw [logic_both.j0]
    unfold bothB
    by_cases h : s = b ∨ b = 3
    · rw [decide_eq_true h, if_pos rfl, if_pos h]
    · rw [decide_eq_false h, if_neg (by simp), if_neg h]; split <;> rfl
theorem rd_get (l : List Int) (i : Nat) (h : i < l.length) : rd l (i : Int) = l[i] := by
  unfold rd
  rw [List.getD_eq_getElem?_getD, show ((i : Int)).toNat = i from rfl, List.getElem?_eq_getElem h]; rfl
theorem resolve_ev (l : List Int) (hl : l.length ≤ maxLen) (h3 : ∀ b ∈ l, b ≤ 3) : Ev (fun k => logic_Resolve.f k l) (foldB 3 l, 0) := by
  have hm := ml
  have key : ∀ d i s, i + d = l.length → Ev (fun k => logic_Resolve.l0 k s l (l.length : Int) (i : Int)) (foldB s (l.drop i), 0) := by
    intro d
    induction d with
    | zero =>
      intro i s hi
      rw [List.drop_eq_nil_of_le (by omega)]
      exact Ev.step (f := fun _ => some (s, 0)) (fun k => by rw [logic_Resolve.l0, if_neg (by omega)]) (Ev.now _)
    | succ d ih =>
      intro i s hi
      have hi' : i < l.length := by omega
      rw [List.drop_eq_getElem_cons hi']
      refine Ev.step (f := fun k => (logic_both.f k s l[i]).bind fun t => logic_Resolve.l0 k t l (l.length : Int) ((i + 1 : Nat) : Int)) (fun k => ?_) (Ev.bind (both_ev s l[i]) (ih (i + 1) _ (by omega)))
      rw [logic_Resolve.l0, if_pos (by omega), if_pos (by omega), if_pos (by omega), rd_get l i hi', logic_isBit.f, decide_eq_true (h3 _ (List.getElem_mem hi')), Option.bind_some, if_pos rfl, wrap_ok (by omega) (by omega)]
      rfl
  exact key l.length 0 3 (by omega)
end Go.Proofs.Ytojankgmedccdaa.Pure
end
section
namespace Go.Proofs.Ytojankgmedccdaa.Pure
open Go.RowKit Own PTy Hand PIs RowV YtojankgmedccdaaW.PrintWords YtojankgmedccdaaW.PrintLast
open PAw (drivers_copied.f logic_isBit.f logic_both.f logic_both.j0 logic_Resolve.f logic_Resolve.l0 r01Same.f r01Same.l0)
open PRs
theorem has_parts (x : S26) (v : S30) (h : hasV x v = true) : v.f0 = x.f0 ∧ v.f3 = [] ∧ (x.f0 = 1 → v.f2.length = 1) ∧ (x.f0 ≠ 1 → v.f2 = []) ∧ ∀ b ∈ v.f2, b ≤ 3 := by
  unfold hasV at h
  rw [Bool.and_eq_true, decide_eq_true_iff] at h
  obtain ⟨h0, h⟩ := h
  by_cases k1 : x.f0 = 1
  · rw [if_pos k1] at h
    simp only [Bool.and_eq_true, decide_eq_true_iff] at h
    obtain ⟨⟨_, h3⟩, hi, h2⟩ := h
    refine ⟨h0, List.length_eq_zero_iff.mp h3, fun _ => h2, fun h => absurd k1 h, fun b hb => ?_⟩
    unfold isF at hi
    simp only [Bool.and_eq_true, List.all_eq_true, decide_eq_true_iff] at hi
    exact hi.2 b hb
  · rw [if_neg k1] at h
    simp only [Bool.and_eq_true, decide_eq_true_iff] at h
    have e := List.length_eq_zero_iff.mp h.1.1
    exact ⟨h0, List.length_eq_zero_iff.mp h.1.2, fun h => absurd h k1, fun _ => e, fun b hb => by rw [e] at hb; cases hb⟩
theorem same_ev (l : List Int) (hl : l.length ≤ maxLen) : Ev (fun k => r01Same.f k l l) true := by
  have hm := ml
  have key : ∀ d i, i + d = l.length → Ev (fun k => r01Same.l0 k l l (l.length : Int) (i : Int)) true := by
    intro d
    induction d with
    | zero => intro i hi; exact Ev.step (f := fun _ => some true) (fun k => by rw [r01Same.l0, if_neg (by omega)]) (Ev.now _)
    | succ d ih =>
      intro i hi
      refine Ev.step (f := fun k => r01Same.l0 k l l (l.length : Int) ((i + 1 : Nat) : Int)) (fun k => ?_) (ih (i + 1) (by omega))
      rw [r01Same.l0, if_pos (by omega), if_pos (by omega), if_pos (by omega), if_pos (by omega), if_pos rfl, wrap_ok (by omega) (by omega)]
      rfl
  exact Ev.congr (fun k => by unfold r01Same.f; rw [if_pos rfl]; rfl) (key l.length 0 (by omega))
theorem alike_ev (a b : Int) (l : List Int) (hl : l.length ≤ maxLen) : Ev (fun k => r04Alike.f k a b l [] a b l []) true := by
  refine Ev.step (f := fun k => (r01Same.f k l l).bind fun t168 => (if t168 = true then (r04Alike.j0 k false a b l [] a b l []) else (r04Alike.j0 k true a b l [] a b l []))) (fun k => ?_) (Ev.bind (same_ev l hl) ?_)
  · rw [r04Alike.f, if_pos rfl, if_pos rfl]; rfl
  · refine Ev.congr (fun k => by rw [if_pos rfl]) (Ev.step (f := fun k => r04Alike.l0 k 0 0 a b l [] a b l []) (fun k => by rw [r04Alike.j0, if_neg (by simp)]; rfl) ?_)
    exact Ev.step (f := fun _ => some true) (fun k => by rw [r04Alike.l0, if_neg (by omega)]) (Ev.now _)
end Go.Proofs.Ytojankgmedccdaa.Pure
end
section
namespace Go.Proofs.Ytojankgmedccdaa.Pure
open Go.RowKit Own PTy Hand PIs RowV YtojankgmedccdaaW.PrintWords YtojankgmedccdaaW.PrintLast
open PAw (drivers_copied.f logic_isBit.f logic_both.f logic_both.j0 logic_Resolve.f logic_Resolve.l0 r01Same.f r01Same.l0 v15bit.f)
open PRs POr
def bitsOf (l : List S30) : List Int := l.flatMap fun v => v.f2
def resF (x : S26) (l : List S30) : Int × Int × List Int × List S30 × Int :=
  if scB x = true ∧ l ≠ [] ∧ (l.all (hasV x)) = true then
    (if l.length = 1 then ((rd_T30 l 0).f0, (rd_T30 l 0).f1, (rd_T30 l 0).f2, (rd_T30 l 0).f3, 0)
     else if x.f0 = 1 then (1, 0, [foldB 3 (bitsOf l)], [], 0) else (0, 0, [], [], 22))
  else (0, 0, [], [], 2)
theorem rd30_get {l : List S30} {i : Nat} (h : i < l.length) : rd_T30 l (i : Int) = l[i] := by
  unfold rd_T30
  rw [List.getD_eq_getElem?_getD, show ((i : Int)).toNat = i from rfl, List.getElem?_eq_getElem h]; rfl
theorem has_len {x : S26} {v : S30} (h : hasV x v = true) : v.f2.length ≤ 1 := by
  obtain ⟨p0, p3, p1, pn, pb⟩ := has_parts x v h
  by_cases k1 : x.f0 = 1
  · rw [p1 k1]; omega
  · rw [pn k1]; simp
theorem resP_l0 (x : S26) (hs : scB x = true) (h3 : x.f3.length ≤ maxLen) (l : List S30) (hne : l ≠ []) (hl : l.length ≤ 100) : ∀ d i b, i + d = l.length → b.length ≤ i → (∀ z ∈ b, z ≤ 3) → b = bitsOf (l.take i) → (∀ y ∈ l.take i, hasV x y = true) →
    Ev (fun k => drivers_Resolve.l0 k l b l (l.length : Int) (i : Int) x.f0 x.f1 x.f2 x.f3 x.f4) (resF x l) := by
  have hm := ml
  intro d
  induction d with
  | zero =>
    intro i b hi hb hz hbb hj
    rw [List.take_of_length_le (by omega)] at hbb hj
    have hall : l.all (hasV x) = true := List.all_eq_true.mpr hj
    unfold resF
    rw [if_pos ⟨hs, hne, hall⟩]
    have hp : 0 < l.length := List.length_pos_iff.mpr hne
    by_cases h1 : l.length = 1
    · rw [if_pos h1]
      have h80 : (rd_T30 l 0).f2.length ≤ 1 := has_len (hj _ (rd30_mem (i := 0) hp))
      refine Ev.step (f := fun _ => some ((rd_T30 l 0).f0, (rd_T30 l 0).f1, (rd_T30 l 0).f2, (rd_T30 l 0).f3, 0)) (fun k => ?_) (Ev.now _)
      rw [drivers_Resolve.l0, if_neg (by omega), if_pos (by omega), if_pos (by omega)]
      unfold drivers_copied.f api_Bit_68.f
      rw [if_pos (by omega)]; rfl
    · rw [if_neg h1]
      by_cases k1 : x.f0 = 1
      · rw [if_pos k1]
        refine Ev.step (f := fun k => (logic_Resolve.f k b).bind fun bt122 => (some (1, 0, (([bt122.1] : List Int)), ([] : List (S30)), bt122.2))) (fun k => ?_) (Ev.bind (resolve_ev b (by omega) hz) (by rw [hbb]; exact Ev.now _))
        rw [drivers_Resolve.l0, if_neg (by omega), if_neg (by omega), if_pos k1]
      · rw [if_neg k1]
        refine Ev.step (f := fun _ => some (0, 0, [], [], 22)) (fun k => ?_) (Ev.now _)
        rw [drivers_Resolve.l0, if_neg (by omega), if_neg (by omega), if_neg k1]
  | succ d ih =>
    intro i b hi hb hz hbb hj
    have hi' : i < l.length := by omega
    cases hh : hasV x (rd_T30 l (i : Int)) with
    | false =>
      have hno : ¬ (scB x = true ∧ l ≠ [] ∧ (l.all (hasV x)) = true) := by
        intro h
        have := List.all_eq_true.mp h.2.2 _ (rd30_mem hi')
        rw [hh] at this; cases this
      unfold resF
      rw [if_neg hno]
      refine Ev.step (fun k => by rw [drivers_Resolve.l0, if_pos (by omega), if_pos (by omega), if_pos (by omega)]) (Ev.bind (Has_ev x (rd_T30 l (i : Int)) hs h3) ?_)
      rw [hh]; exact Ev.congr (fun k => by rw [if_neg (by simp)]) (Ev.now _)
    | true =>
      obtain ⟨p0, p3, p1, pn, pb⟩ := has_parts x _ hh
      have hlen := has_len hh
      have ht : l.take (i + 1) = l.take i ++ [rd_T30 l (i : Int)] := by rw [rd30_get hi', List.take_succ_eq_append_getElem hi']
      refine Ev.step (fun k => by rw [drivers_Resolve.l0, if_pos (by omega), if_pos (by omega), if_pos (by omega)]) (Ev.bind (Has_ev x (rd_T30 l (i : Int)) hs h3) ?_)
      rw [hh]
      refine Ev.congr (fun k => by rw [if_pos rfl, if_pos (by omega), wrap_ok (n := (i : Int) + 1) (by omega) (by omega)]; rfl) (ih (i + 1) (b ++ (rd_T30 l (i : Int)).f2) (by omega) (by rw [List.length_append]; omega) (fun z h => ?_) ?_ (fun y hy => ?_))
      · rcases List.mem_append.mp h with h | h
        · exact hz z h
        · exact pb z h
      · rw [ht, hbb]; simp [bitsOf]
      · rw [ht] at hy
        rcases List.mem_append.mp hy with h | h
        · exact hj y h
        · rw [List.mem_singleton.mp h]; exact hh
theorem Resolve_ev (x : S26) (h3 : x.f3.length ≤ maxLen) (l : List S30) (hl : l.length ≤ 100) : Ev (fun k => drivers_Resolve.f k x.f0 x.f1 x.f2 x.f3 x.f4 l) (resF x l) := by
  have hm := ml
  have j1 : Ev (fun k => drivers_Resolve.j0 k l true x.f0 x.f1 x.f2 x.f3 x.f4) (0, 0, [], [], 2) := Ev.step (f := fun _ => some (0, 0, [], [], 2)) (fun k => by rw [drivers_Resolve.j0, if_pos rfl]) (Ev.now _)
  unfold drivers_Resolve.f
  have a := scalar_ev x h3
  refine Ev.bind a ?_
  cases hs : scB x with
  | false => exact Ev.congr (fun k => by rw [if_neg (by simp)]) (by unfold resF; rw [if_neg (by simp [hs])]; exact j1)
  | true =>
    by_cases h0 : l.length = 0
    · have e : ((l.length : Int) == 0) = true := by simp [h0]
      exact Ev.congr (fun k => by rw [if_pos rfl, e]) (by unfold resF; rw [if_neg (fun h => h.2.1 (List.length_eq_zero_iff.mp h0))]; exact j1)
    · have e : ((l.length : Int) == 0) = false := beq_eq_false_iff_ne.mpr (by omega)
      have hne : l ≠ [] := fun h => h0 (by rw [h]; rfl)
      exact Ev.congr (fun k => by rw [if_pos rfl, e]) (Ev.step (fun k => by rw [drivers_Resolve.j0, if_neg (by simp), if_pos (by omega), if_pos (by omega)]; rfl) (resP_l0 x hs h3 l hne hl l.length 0 [] (by omega) (by simp) (by simp) (by simp [bitsOf]) (by simp)))
theorem both_comm (s a b : Int) : bothB (bothB s a) b = bothB (bothB s b) a := by
  unfold bothB
  repeat' split
  all_goals (first | rfl | omega)
theorem foldB_app : ∀ (a b : List Int) (s : Int), foldB s (a ++ b) = foldB (foldB s a) b
  | [], _, _ => rfl
  | c :: a, b, s => foldB_app a b (bothB s c)
theorem foldB_perm {l m : List Int} (h : l.Perm m) : ∀ s, foldB s l = foldB s m := by
  induction h with
  | nil => intro s; rfl
  | cons a _ ih => intro s; exact ih _
  | swap a b l => intro s; unfold foldB; unfold foldB; rw [both_comm]
  | trans _ _ h1 h2 => intro s; exact (h1 s).trans (h2 s)
theorem resF_perm (x : S26) {l m : List S30} (h : l.Perm m) : resF x l = resF x m := by
  have e1 : l.all (hasV x) = m.all (hasV x) := h.all_eq
  have e2 := h.length_eq
  have e3 : foldB 3 (bitsOf l) = foldB 3 (bitsOf m) := foldB_perm (h.flatMap_right _) 3
  have e4 : l ≠ [] ↔ m ≠ [] := by rw [← List.length_pos_iff, ← List.length_pos_iff, e2]
  unfold resF
  rw [e1, e3, e2]
  by_cases h1 : m.length = 1
  · obtain ⟨a, rfl⟩ := List.length_eq_one_iff.mp h1
    rw [List.perm_singleton.mp h]
  · rw [if_neg h1, if_neg h1]
    by_cases hc : scB x = true ∧ m ≠ [] ∧ (m.all (hasV x)) = true
    · rw [if_pos hc, if_pos ⟨hc.1, e4.mpr hc.2.1, hc.2.2⟩]
    · rw [if_neg hc, if_neg (fun h => hc ⟨h.1, e4.mp h.2.1, h.2.2⟩)]
theorem resF_len (x : S26) (l : List S30) : (resF x l).2.2.2.1 = [] ∧ (resF x l).2.2.1.length ≤ 1 := by
  unfold resF
  by_cases hc : scB x = true ∧ l ≠ [] ∧ (l.all (hasV x)) = true
  · rw [if_pos hc]
    by_cases h1 : l.length = 1
    · rw [if_pos h1]
      have := List.all_eq_true.mp hc.2.2 _ (rd30_mem (i := 0) (by omega))
      exact ⟨(has_parts x _ this).2.1, has_len this⟩
    · rw [if_neg h1]; split <;> simp
  · rw [if_neg hc]; simp
theorem resF_z (x : S26) (hx : x.f0 = 1) (l : List S30) (h0 : (resF x l).2.2.2.2 = 0) : resF x ([⟨1, 0, [3], []⟩] ++ l ++ [⟨1, 0, [3], []⟩]) = resF x l := by
  have hz : hasV x ⟨1, 0, [3], []⟩ = true := by unfold hasV; rw [if_pos hx, hx]; decide
  by_cases hc : scB x = true ∧ l ≠ [] ∧ (l.all (hasV x)) = true
  · have hl := List.length_pos_iff.mpr hc.2.1
    have hall : (([⟨1, 0, [3], []⟩] ++ l ++ [⟨1, 0, [3], []⟩] : List S30).all (hasV x)) = true := by
      rw [List.all_append, List.all_append, hc.2.2]; simp [hz]
    have hb : foldB 3 (bitsOf ([⟨1, 0, [3], []⟩] ++ l ++ [⟨1, 0, [3], []⟩])) = foldB 3 (bitsOf l) := by
      have e : bitsOf ([⟨1, 0, [3], []⟩] ++ l ++ [⟨1, 0, [3], []⟩]) = 3 :: (bitsOf l ++ [3]) := by simp [bitsOf]
      rw [e]
      show foldB (bothB 3 3) (bitsOf l ++ [3]) = _
      rw [foldB_app]
      show bothB (foldB (bothB 3 3) (bitsOf l)) 3 = _
      unfold bothB; simp
    unfold resF
    rw [if_pos ⟨hc.1, by simp, hall⟩, if_pos hc, if_neg (by simp), if_pos hx, hb]
    by_cases h1 : l.length = 1
    · rw [if_pos h1]
      obtain ⟨a, rfl⟩ := List.length_eq_one_iff.mp h1
      have ha : hasV x a = true := by simpa using hc.2.2
      have hr : rd_T30 [a] 0 = a := rfl
      rw [hr]
      obtain ⟨p0, p3, p1, _, _⟩ := has_parts x a ha
      unfold hasV at ha
      rw [if_pos hx] at ha
      simp only [Bool.and_eq_true, decide_eq_true_iff] at ha
      obtain ⟨q, hq⟩ := List.length_eq_one_iff.mp (p1 hx)
      have e : bitsOf [a] = [q] := by simp [bitsOf, hq]
      rw [e, p0, p3, hx, ha.2.1.1, hq]
      show (1, 0, [bothB 3 q], ([] : List S30), (0 : Int)) = _
      have : bothB 3 q = q := by unfold bothB; split <;> omega
      rw [this]
    · rw [if_neg h1, if_pos hx]
  · unfold resF at h0
    rw [if_neg hc] at h0
    exact absurd h0 (by decide)
theorem swap_set (m : List S30) (i j : Nat) (hi : i < m.length) (hj : j < m.length) : ((m.set i (rd_T30 m (j : Int))).set j (rd_T30 m (i : Int))).Perm m := by
  rw [rd30_get hi, rd30_get hj]; exact List.set_set_perm hi hj
theorem turn_perm (l : List S30) (k : Nat) : (([] ++ l.drop k) ++ l.take k).Perm l := by
  rw [List.nil_append]
  exact (List.perm_append_comm).trans (by rw [List.take_append_drop])
theorem order_j1 (x : S26) (h3 : x.f3.length ≤ maxLen) (l : List S30) (hl : l.length ≤ 40) (b : Bool) (hb : b = true → x.f0 = 1 ∧ (resF x l).2.2.2.2 = 0) : Ev (fun k => v15DriversOrder.j1 k l b x.f0 x.f1 x.f2 x.f3 x.f4 (resF x l).1 (resF x l).2.1 (resF x l).2.2.1 (resF x l).2.2.2.1) true := by
  have hm := ml
  have ha : Ev (fun k => (v15awake.f k).bind fun t => some t) true := Ev.now true
  cases b with
  | false => exact Ev.step (fun k => by rw [v15DriversOrder.j1, if_neg (by simp)]) ha
  | true =>
    obtain ⟨h1, h0⟩ := hb rfl
    have hz := resF_z x h1 l h0
    refine Ev.step (f := fun k => (PRs.drivers_Resolve.f k x.f0 x.f1 x.f2 x.f3 x.f4 ([⟨1, 0, [3], []⟩] ++ l ++ [⟨1, 0, [3], []⟩])).bind fun bt232 => (if bt232.2.2.2.2 = 0 then ((PRs.r04Alike.f k bt232.1 bt232.2.1 bt232.2.2.1 bt232.2.2.2.1 (resF x l).1 (resF x l).2.1 (resF x l).2.2.1 (resF x l).2.2.2.1).bind fun t242 => (if t242 = true then ((v15awake.f k).bind fun t243 => (some t243)) else (none))) else (none))) (fun k => ?_) (Ev.bind (Resolve_ev x h3 _ (by simp; omega)) ?_)
    · rw [v15DriversOrder.j1, if_pos rfl]
      unfold v15bit.f
      rw [Option.bind_some, Option.bind_some, if_pos (by simp; omega), Option.bind_some, Option.bind_some, Option.bind_some, if_pos (by simp; omega)]
    · rw [hz]
      obtain ⟨p1, p2⟩ := resF_len x l
      refine Ev.congr (fun k => by rw [if_pos h0]) (Ev.bind (a := true) ?_ (Ev.congr (fun k => by rw [if_pos rfl]) ha))
      rw [p1]; exact alike_ev _ _ _ (by omega)
theorem order_law (n : Nat) (x : S26) (hx : okT n x) (l : List S30) (hv : ∀ y ∈ l, okV n y) (a b : Int) (ha0 : 0 ≤ a) (ha1 : a ≤ 255) (hb0 : 0 ≤ b) (hb1 : b ≤ 255) : ∃ K, v15DriversOrder.f K x.f0 x.f1 x.f2 x.f3 x.f4 l a b = some true := by
  have hm := ml
  have h3 : x.f3.length ≤ maxLen := by
    cases n with
    | zero => exact hx.elim
    | succ n => exact hx.2.2.2.2.1
  refine Ev.rounds (g := fun k => v15DriversOrder.f k x.f0 x.f1 x.f2 x.f3 x.f4 l a b) ?_
  unfold v15DriversOrder.f
  obtain ⟨t, ht, h8⟩ := few_ex2 n x hx l hv
  have ha : Ev (fun k => (v15awake.f k).bind fun t => some t) true := Ev.now true
  have j1 : Ev (fun k => v15DriversOrder.j0 k l true x.f0 x.f1 x.f2 x.f3 x.f4 a b) true := Ev.step (fun k => by rw [v15DriversOrder.j0, if_pos rfl]) ha
  refine Ev.bind ht ?_
  cases t with
  | false => exact Ev.congr (fun k => by rw [if_neg (by simp)]) j1
  | true =>
    by_cases h0 : (l.length : Int) = 0
    · exact Ev.congr (fun k => by rw [if_pos rfl, if_pos h0]) j1
    by_cases h4 : (l.length : Int) > 40
    · exact Ev.congr (fun k => by rw [if_pos rfl, if_neg h0, decide_eq_true h4]) j1
    refine Ev.congr (f := fun k => v15DriversOrder.j0 k l false x.f0 x.f1 x.f2 x.f3 x.f4 a b) (fun k => by rw [if_pos rfl, if_neg h0, decide_eq_false h4]) ?_
    obtain ⟨q, hq, hq2⟩ : ∃ q : Nat, Int.tmod (wrap64 a) (l.length : Int) = (q : Int) ∧ q < l.length := by
      rw [wrap_ok (by omega) (by omega), Int.tmod_eq_emod_of_nonneg ha0]
      exact ⟨(a % (l.length : Int)).toNat, by have := Int.emod_nonneg a h0; omega, by have := Int.emod_nonneg a h0; have := Int.emod_lt_of_pos a (show 0 < (l.length : Int) by omega); omega⟩
    obtain ⟨m, hmm⟩ : ∃ m, m = ([] ++ l.drop q) ++ l.take q := ⟨_, rfl⟩
    have hp : m.Perm l := hmm ▸ turn_perm l q
    have hlen := hp.length_eq
    obtain ⟨i, hi, hi2⟩ : ∃ i : Nat, Int.tmod (wrap64 b) (m.length : Int) = (i : Int) ∧ i < m.length := by
      rw [wrap_ok (by omega) (by omega), Int.tmod_eq_emod_of_nonneg hb0]
      exact ⟨(b % (m.length : Int)).toNat, by have := Int.emod_nonneg b (show (m.length : Int) ≠ 0 by omega); omega, by have := Int.emod_nonneg b (show (m.length : Int) ≠ 0 by omega); have := Int.emod_lt_of_pos b (show 0 < (m.length : Int) by omega); omega⟩
    obtain ⟨j, hj, hj2⟩ : ∃ j : Nat, ((Int.tdiv a 8) % 256) % (m.length : Int) = (j : Int) ∧ j < m.length := by
      generalize (Int.tdiv a 8) % 256 = c
      exact ⟨(c % (m.length : Int)).toNat, by have := Int.emod_nonneg c (show (m.length : Int) ≠ 0 by omega); omega, by have := Int.emod_nonneg c (show (m.length : Int) ≠ 0 by omega); have := Int.emod_lt_of_pos c (show 0 < (m.length : Int) by omega); omega⟩
    obtain ⟨s, hs⟩ : ∃ s, s = (m.set i (rd_T30 m (j : Int))).set j (rd_T30 m (i : Int)) := ⟨_, rfl⟩
    have hps : s.Perm l := (hs ▸ swap_set m i j hi2 hj2).trans hp
    have hsl := hps.length_eq
    have hr : resF x s = resF x l := resF_perm x hps
    refine Ev.step (f := fun k => (PRs.drivers_Resolve.f k x.f0 x.f1 x.f2 x.f3 x.f4 l).bind fun bt183 => ((PRs.drivers_Resolve.f k x.f0 x.f1 x.f2 x.f3 x.f4 s).bind fun bt193 => ((PRs.r04Alike.f k bt183.1 bt183.2.1 bt183.2.2.1 bt183.2.2.2.1 bt193.1 bt193.2.1 bt193.2.2.1 bt193.2.2.2.1).bind fun t203 => (if t203 = true then (if bt183.2.2.2.2 = bt193.2.2.2.2 then (if x.f0 = 1 then (v15DriversOrder.j1 k l (bt183.2.2.2.2 == 0) x.f0 x.f1 x.f2 x.f3 x.f4 bt183.1 bt183.2.1 bt183.2.2.1 bt183.2.2.2.1) else (v15DriversOrder.j1 k l false x.f0 x.f1 x.f2 x.f3 x.f4 bt183.1 bt183.2.1 bt183.2.2.1 bt183.2.2.2.1)) else (none)) else (none))))) (fun k => ?_) (Ev.bind (Resolve_ev x h3 l (by omega)) (Ev.bind (Resolve_ev x h3 s (by omega)) ?_))
    · have hd : (l.drop q).length + (l.take q).length = l.length := by rw [List.length_drop, List.length_take]; omega
      rw [v15DriversOrder.j0, if_neg (by simp), if_neg h0]
      simp only [Option.bind_some, hq]
      rw [if_pos (by omega), if_pos (by omega), show ((q : Int)).toNat = q from rfl, if_pos (by simp; omega), if_pos (by simp; omega), ← hmm]
      simp only [hi, hj]
      rw [if_neg (by omega), if_pos (by omega), if_pos (by omega), if_pos (by omega), if_pos (by omega), show ((i : Int)).toNat = i from rfl, show ((j : Int)).toNat = j from rfl, eta30, eta30, ← hs]
    · rw [hr]
      obtain ⟨p1, p2⟩ := resF_len x l
      refine Ev.bind (a := true) (by rw [p1]; exact alike_ev _ _ _ (by omega)) ?_
      by_cases k1 : x.f0 = 1
      · exact Ev.congr (fun k => by rw [if_pos rfl, if_pos rfl, if_pos k1]) (order_j1 x h3 l (by omega) _ fun h => ⟨k1, beq_iff_eq.mp h⟩)
      · exact Ev.congr (fun k => by rw [if_pos rfl, if_pos rfl, if_neg k1]) (order_j1 x h3 l (by omega) _ fun h => by cases h)
end Go.Proofs.Ytojankgmedccdaa.Pure
end
