/- Part of the proof of LawDriversResolves: every definition and lemma is one that it names. -/
import Derived.Test.YtojankgmedccdaaZPuG
import Derived.Test.YtojankgmedccdaaZPIsx14
namespace Go.Proofs.Ytojankgmedccdaa.Pure
open Go.RowKit Own PTy Hand PIs RowV YtojankgmedccdaaW.PrintWords YtojankgmedccdaaW.PrintLast
theorem bit_b (b : Int) (h : 0 ≤ b) : r01Bit.f b = some (decide (b ≤ 3)) := by
  unfold r01Bit.f
  by_cases h0 : b = 0
  · rw [if_pos h0, decide_eq_true (by omega)]
  by_cases h1 : b = 1
  · rw [if_neg h0, if_pos h1, decide_eq_true (by omega)]
  by_cases h2 : b = 2
  · rw [if_neg h0, if_neg h1, if_pos h2, decide_eq_true (by omega)]
  rw [if_neg h0, if_neg h1, if_neg h2]
  congr 1
  rw [Bool.eq_iff_iff]; simp; omega
theorem isRef_ev (l : List Int) (hl : l.length ≤ maxLen) (hp : ∀ b ∈ l, 0 ≤ b) : Ev (fun k => r01Is.f k l) (isF l) := by
  have hm := ml
  have key : ∀ d i, i + d = l.length → Ev (fun k => r01Is.l0 k l l (l.length : Int) (i : Int)) ((l.drop i).all (fun x => decide (x ≤ 3)) && (decide (1 ≤ l.length) && decide (l.length ≤ 64))) := by
    intro d
    induction d with
    | zero =>
      intro i hi
      rw [List.drop_eq_nil_of_le (by omega)]
      refine Ev.step (f := fun _ => some (decide (1 ≤ l.length) && decide (l.length ≤ 64))) (fun k => ?_) (by simpa using Ev.now _)
      rw [r01Is.l0, if_neg (by omega)]
      by_cases h : (l.length : Int) ≥ 1
      · rw [if_pos h, decide_eq_true (show 1 ≤ l.length by omega), Bool.true_and]; congr 1; rw [Bool.eq_iff_iff]; simp; omega
      · rw [if_neg h, decide_eq_false (show ¬ 1 ≤ l.length by omega)]; rfl
    | succ d ih =>
      intro i hi
      have hi' : i < l.length := by omega
      have he : rd l (i : Int) = l[i] := by
        unfold rd
        rw [List.getD_eq_getElem?_getD, show ((i : Int)).toNat = i from rfl, List.getElem?_eq_getElem hi']; rfl
      rw [List.drop_eq_getElem_cons hi', List.all_cons]
      by_cases h3 : l[i] ≤ 3
      · refine Ev.step (f := fun k => r01Is.l0 k l l (l.length : Int) ((i + 1 : Nat) : Int)) (fun k => ?_) (by simpa [h3] using ih (i + 1) (by omega))
        rw [r01Is.l0, if_pos (by omega), if_pos (by omega), if_pos (by omega), he, bit_b _ (hp _ (List.getElem_mem hi')), decide_eq_true h3, Option.bind_some, if_pos rfl, wrap_ok (by omega) (by omega)]
        rfl
      · refine Ev.step (f := fun _ => some false) (fun k => ?_) (by simpa [h3] using Ev.now _)
        rw [r01Is.l0, if_pos (by omega), if_pos (by omega), if_pos (by omega), he, bit_b _ (hp _ (List.getElem_mem hi')), decide_eq_false h3, Option.bind_some, if_neg (by simp)]
  have := key l.length 0 (by omega)
  have e : ((l.drop 0).all (fun x => decide (x ≤ 3)) && (decide (1 ≤ l.length) && decide (l.length ≤ 64))) = isF l := by
    unfold isF; rw [List.drop_zero, Bool.and_comm]
  rw [e] at this
  exact this
def hasV (x : S26) (v : S30) : Bool := decide (v.f0 = x.f0) && (if x.f0 = 1 then (decide (v.f1 = 0) && decide (v.f3.length = 0) && (isF v.f2 && decide (v.f2.length = 1))) else (decide (v.f2.length = 0) && decide (v.f3.length = 0) && (if x.f0 = 2 then (decide (v.f1 = 0) || decide (v.f1 = 1)) else if x.f0 = 3 then (decide (-2147483648 ≤ v.f1) && decide (v.f1 ≤ 2147483647)) else (decide (0 ≤ v.f1) && decide (v.f1 < (x.f3.length : Int))))))
theorem bare_1 (v : S30) : types_bare.f v.f0 v.f1 v.f2 v.f3 false true false = some (decide (v.f1 = 0) && decide (v.f3.length = 0)) := by
  unfold types_bare.f
  by_cases h1 : v.f1 = 0 <;> simp [h1, len_beq]
theorem bare_2 (v : S30) : types_bare.f v.f0 v.f1 v.f2 v.f3 true false false = some (decide (v.f2.length = 0) && decide (v.f3.length = 0)) := by
  unfold types_bare.f
  by_cases h1 : v.f2.length = 0 <;> simp [h1, len_beq]
  all_goals simp_all [len_beq]
theorem sc_f1 (x : S26) (h : scB x = true) : x.f1 = 0 := by
  unfold scB baseB enumB at h
  split at h <;> simp_all
theorem sc_kind (x : S26) (h : scB x = true) : kindB x = true ∨ x.f0 = 5 := by
  by_cases hx : kindB x = true ∨ x.f0 = 5
  · exact hx
  · rw [sc_no x hx] at h; cases h
theorem has_ev (x : S26) (v : S30) (hs : scB x = true) : Ev (fun k => types_has.f k x.f0 x.f1 x.f2 x.f3 x.f4 v.f0 v.f1 v.f2 v.f3) (hasV x v) := by
  have hk := sc_kind x hs
  have h1 := sc_f1 x hs
  rw [kind_dec] at hk
  by_cases h0 : v.f0 = x.f0
  · unfold hasV
    rw [decide_eq_true h0, Bool.true_and]
    by_cases k1 : x.f0 = 1
    · rw [if_pos k1]
      refine Ev.congr (f := fun k => types_has.j0 k x.f0 true x.f0 x.f1 x.f2 x.f3 x.f4 v.f0 v.f1 v.f2 v.f3) (fun k => ?_) (Ev.step (f := fun _ => some (decide (v.f1 = 0) && decide (v.f3.length = 0) && (isF v.f2 && decide (v.f2.length = 1)))) (fun k => ?_) (Ev.now _))
      · unfold types_has.f
        rw [if_pos h0, if_pos k1, k1]; rfl
      · rw [types_has.j0, if_pos rfl, bare_1, h1]
        have hm : mx 0 1 = 1 := rfl
        cases hb : (decide (v.f1 = 0) && decide (v.f3.length = 0)) with
        | false => simp
        | true =>
          rw [Option.bind_some, if_pos rfl, logic_Is.f, Option.bind_some, hm, Bool.true_and]
          cases isF v.f2 with
          | false => rfl
          | true =>
            rw [if_pos rfl, Bool.true_and]
            congr 1; rw [Bool.eq_iff_iff]; simp; omega
    · rw [if_neg k1]
      refine Ev.congr (f := fun k => types_has.j0 k x.f0 false x.f0 x.f1 x.f2 x.f3 x.f4 v.f0 v.f1 v.f2 v.f3) (fun k => ?_) (Ev.step (f := fun _ => some (decide (v.f2.length = 0) && decide (v.f3.length = 0) && (if x.f0 = 2 then (decide (v.f1 = 0) || decide (v.f1 = 1)) else if x.f0 = 3 then (decide (-2147483648 ≤ v.f1) && decide (v.f1 ≤ 2147483647)) else (decide (0 ≤ v.f1) && decide (v.f1 < (x.f3.length : Int)))))) (fun k => ?_) (Ev.now _))
      · unfold types_has.f
        rw [if_pos h0, if_neg k1, show (x.f0 == 4) = false from beq_eq_false_iff_ne.mpr (by omega)]
      · rw [types_has.j0, if_neg (by simp), bare_2]
        cases hb : (decide (v.f2.length = 0) && decide (v.f3.length = 0)) with
        | false =>
          by_cases k2 : x.f0 = 2
          · rw [if_pos k2]; rfl
          by_cases k3 : x.f0 = 3
          · rw [if_neg k2, if_pos k3]; rfl
          rw [if_neg k2, if_neg k3, if_pos (by omega)]; rfl
        | true =>
          by_cases k2 : x.f0 = 2
          · rw [if_pos k2, if_pos k2, Option.bind_some, if_pos rfl, Bool.true_and]
            by_cases q : v.f1 = 0
            · rw [if_pos q, decide_eq_true q]; rfl
            · rw [if_neg q, decide_eq_false q, Bool.false_or]; rfl
          by_cases k3 : x.f0 = 3
          · rw [if_neg k2, if_pos k3, if_neg k2, if_pos k3, Option.bind_some, if_pos rfl, Bool.true_and]
            by_cases q : -2147483648 ≤ v.f1
            · rw [if_pos q, decide_eq_true q, Bool.true_and]
            · rw [if_neg q, decide_eq_false q]; rfl
          rw [if_neg k2, if_neg k3, if_pos (show x.f0 = 5 by omega), if_neg k2, if_neg k3, Option.bind_some, if_pos rfl, Bool.true_and]
          by_cases q : 0 ≤ v.f1
          · rw [if_pos q, decide_eq_true q, Bool.true_and]
          · rw [if_neg q, decide_eq_false q]; rfl
  · have e : hasV x v = false := by unfold hasV; rw [decide_eq_false h0]; rfl
    rw [e]
    exact Ev.congr (fun k => by unfold types_has.f; rw [if_neg h0]) (Ev.now _)
theorem hasRef_j0 (x : S26) (v : S30) (hs : scB x = true) (hl : v.f2.length ≤ maxLen) (hp : ∀ b ∈ v.f2, 0 ≤ b) : Ev (fun k => r04Has.j0 k (v.f0 != x.f0) x.f0 x.f1 x.f2 x.f3 x.f4 v.f0 v.f1 v.f2 v.f3) (hasV x v) := by
  have hk := sc_kind x hs
  rw [kind_dec] at hk
  by_cases h0 : v.f0 = x.f0
  · have e0 : (v.f0 != x.f0) = false := by simp [h0]
    rw [e0]
    unfold hasV
    rw [decide_eq_true h0, Bool.true_and]
    by_cases k1 : x.f0 = 1
    · rw [if_pos k1]
      refine Ev.step (f := fun k => if v.f1 = 0 then (if (v.f2.length : Int) = 1 then ((r01Is.f k v.f2).bind fun t208 => (if t208 = true then (some ((v.f3.length : Int) == 0)) else (some false))) else (some false)) else (some false)) (fun k => by rw [r04Has.j0, if_neg (by simp), if_pos k1]) ?_
      by_cases q1 : v.f1 = 0
      · by_cases q2 : v.f2.length = 1
        · rw [decide_eq_true q1, decide_eq_true q2]
          refine Ev.congr (f := fun k => (r01Is.f k v.f2).bind fun t208 => (if t208 = true then (some ((v.f3.length : Int) == 0)) else (some false))) (fun k => by rw [if_pos q1, if_pos (by omega)]) (Ev.bind (isRef_ev _ hl hp) ?_)
          refine Ev.congr (f := fun _ => some (true && decide (v.f3.length = 0) && (isF v.f2 && true))) (fun k => ?_) (Ev.now _)
          cases isF v.f2 with
          | false => simp
          | true => simp [len_beq]
        · rw [decide_eq_false q2]
          exact Ev.congr (fun k => by rw [if_pos q1, if_neg (by omega)]) (by simpa using Ev.now _)
      · rw [decide_eq_false q1]
        exact Ev.congr (fun k => by rw [if_neg q1]) (by simpa using Ev.now _)
    · rw [if_neg k1]
      by_cases k2 : x.f0 = 2
      · rw [if_pos k2]
        refine Ev.step (f := fun _ => some (decide (v.f2.length = 0) && decide (v.f3.length = 0) && (decide (v.f1 = 0) || decide (v.f1 = 1)))) (fun k => ?_) (Ev.now _)
        rw [r04Has.j0, if_neg (by simp), if_neg k1, if_pos k2]
        by_cases q1 : v.f1 = 0
        · by_cases q2 : v.f2.length = 0
          · rw [if_pos q1, if_pos (by omega), len_beq]; simp [q1, q2]
          · rw [if_pos q1, if_neg (by omega)]; simp [show ¬ v.f2 = [] from fun e => q2 (by rw [e]; rfl)]
        · by_cases q3 : v.f1 = 1
          · by_cases q2 : v.f2.length = 0
            · rw [if_neg q1, if_pos q3, if_pos (by omega), len_beq]; simp [q3, q2]
            · rw [if_neg q1, if_pos q3, if_neg (by omega)]; simp [show ¬ v.f2 = [] from fun e => q2 (by rw [e]; rfl)]
          · rw [if_neg q1, if_neg q3]; simp [q1, q3]
      · rw [if_neg k2]
        by_cases k3 : x.f0 = 3
        · rw [if_pos k3]
          refine Ev.step (f := fun _ => some (decide (v.f2.length = 0) && decide (v.f3.length = 0) && (decide (-2147483648 ≤ v.f1) && decide (v.f1 ≤ 2147483647)))) (fun k => ?_) (Ev.now _)
          rw [r04Has.j0, if_neg (by simp), if_neg k1, if_neg k2, if_pos k3]
          unfold r02Fits.f
          by_cases q1 : -2147483648 ≤ v.f1
          · by_cases q3 : v.f1 ≤ 2147483647
            · rw [if_pos q1, decide_eq_true q1, decide_eq_true q3, Option.bind_some, if_pos rfl]
              by_cases q2 : v.f2.length = 0
              · rw [if_pos (by omega), len_beq]; simp [q2]
              · rw [if_neg (by omega)]; simp [show ¬ v.f2 = [] from fun e => q2 (by rw [e]; rfl)]
            · rw [if_pos q1, decide_eq_false q3]; simp
          · rw [if_neg q1, decide_eq_false q1]; simp
        · rw [if_neg k3]
          refine Ev.step (f := fun _ => some (decide (v.f2.length = 0) && decide (v.f3.length = 0) && (decide (0 ≤ v.f1) && decide (v.f1 < (x.f3.length : Int))))) (fun k => ?_) (Ev.now _)
          rw [r04Has.j0, if_neg (by simp), if_neg k1, if_neg k2, if_neg k3, if_neg (by omega), if_pos (show x.f0 = 5 by omega)]
          by_cases q1 : 0 ≤ v.f1
          · by_cases q3 : v.f1 < (x.f3.length : Int)
            · rw [if_pos q1, if_pos q3, decide_eq_true q1, decide_eq_true q3]
              by_cases q2 : v.f2.length = 0
              · rw [if_pos (by omega), len_beq]; simp [q2]
              · rw [if_neg (by omega)]; simp [show ¬ v.f2 = [] from fun e => q2 (by rw [e]; rfl)]
            · rw [if_pos q1, if_neg q3, decide_eq_false q3]; simp
          · rw [if_neg q1, decide_eq_false q1]; simp
  · have e : hasV x v = false := by unfold hasV; rw [decide_eq_false h0]; rfl
    rw [e]
    exact Ev.step (f := fun _ => some false) (fun k => by rw [r04Has.j0, if_pos (by simpa using h0)]) (Ev.now _)
theorem Has_ev (x : S26) (v : S30) (hs : scB x = true) (hl : x.f3.length ≤ maxLen) : Ev (fun k => types_Has.f k x.f0 x.f1 x.f2 x.f3 x.f4 v.f0 v.f1 v.f2 v.f3) (hasV x v) := by
  unfold types_Has.f
  refine Ev.bind (types_sc x (sc_kind x hs) hl) ?_
  rw [hs]
  exact Ev.congr (fun k => by rw [if_pos rfl]) (Ev.bind (has_ev x v hs) (Ev.now _))
theorem HasRef_ev (n : Nat) (x : S26) (hx : okT n x) (v : S30) (hv : okV n v) (hs : scB x = true) : Ev (fun k => r04Has.f k x.f0 x.f1 x.f2 x.f3 x.f4 v.f0 v.f1 v.f2 v.f3) (hasV x v) := by
  cases n with
  | zero => exact hx.elim
  | succ n =>
    obtain ⟨_, _, h2, _, hl, _, _⟩ := hx
    obtain ⟨_, _, hb, hl2, _, _⟩ := hv
    refine Ev.step (fun k => by rw [r04Has.f]) (Ev.bind (ref_sc x (sc_kind x hs) h2 hl) ?_)
    rw [hs]
    refine Ev.congr (fun k => by rw [if_pos rfl]) (hasRef_j0 x v hs hl2 fun b h => ?_)
    have := hb b h
    unfold Lit.wf at this
    rw [Bool.and_eq_true, decide_eq_true_iff] at this
    exact this.1
end Go.Proofs.Ytojankgmedccdaa.Pure
