/- Part of the proof of LawDriversResolves: every definition and lemma is one that it names. -/
import Derived.Test.YtojankgmedccdaaZPuR
namespace Go.Proofs.Ytojankgmedccdaa.Pure
open Go.RowKit Own PTy Hand PIs RowV YtojankgmedccdaaW.PrintWords YtojankgmedccdaaW.PrintLast
open PAw (drivers_copied.f logic_isBit.f logic_both.f logic_both.j0 logic_Resolve.f logic_Resolve.l0 r01Same.f r01Same.l0)
open PRs
theorem has_parts (x : S26) (v : S30) (h : hasV x v = true) : v.f0 = x.f0 ∧ v.f3 = [] ∧ (x.f0 = 1 → v.f2.length = 1) ∧ (x.f0 ≠ 1 → v.f2 = []) ∧ ∀ b ∈ v.f2, b ≤ 3 := by
  unfold hasV at h
  rw [Bool.and_eq_true, decide_eq_true_iff] at h
  obtain ⟨h0, h⟩ := h
  by_cases k1 : x.f0 = 1
  · rw [if_pos k1] at h
    simp only [Bool.and_eq_true, decide_eq_true_iff] at h
    obtain ⟨⟨_, h3⟩, hi, h2⟩ := h
    refine ⟨h0, List.length_eq_zero_iff.mp h3, fun _ => h2, fun h => absurd k1 h, fun b hb => ?_⟩
    unfold isF at hi
    simp only [Bool.and_eq_true, List.all_eq_true, decide_eq_true_iff] at hi
    exact hi.2 b hb
  · rw [if_neg k1] at h
    simp only [Bool.and_eq_true, decide_eq_true_iff] at h
    have e := List.length_eq_zero_iff.mp h.1.1
    exact ⟨h0, List.length_eq_zero_iff.mp h.1.2, fun h => absurd h k1, fun _ => e, fun b hb => by rw [e] at hb; cases hb⟩
theorem one_get (l : List Int) (h : l.length = 1) : [rd l 0] = l := by
  match l, h with
  | [a], _ => rfl
theorem res_l0 (n : Nat) (x : S26) (hx : okT n x) (hs : scB x = true) (l : List S30) (hl : l.length ≤ 80) (hv : ∀ y ∈ l, okV n y) : ∀ d i b, i + d = l.length → b.length ≤ i → (∀ z ∈ b, 0 ≤ z ∧ z ≤ 3) → (∀ j : Nat, j < i → hasV x (rd_T30 l (j : Int)) = true) →
    ∃ r, Ev (fun k => drivers_Resolve.l0 k l b l (l.length : Int) (i : Int) x.f0 x.f1 x.f2 x.f3 x.f4) r ∧ Ev (fun k => r15Resolve.l0 k l b l (l.length : Int) (i : Int) x.f0 x.f1 x.f2 x.f3 x.f4) r ∧ r.2.2.2.1 = [] ∧ r.2.2.1.length ≤ 80 := by
  have hm := ml
  have h3 : x.f3.length ≤ maxLen := by
    cases n with
    | zero => exact hx.elim
    | succ n => exact hx.2.2.2.2.1
  intro d
  induction d with
  | zero =>
    intro i b hi hb hz hj
    by_cases h1 : l.length = 1
    · obtain ⟨p0, p3, p1, pn, _⟩ := has_parts x _ (hj 0 (by omega))
      have h80 : (rd_T30 l 0).f2.length ≤ 80 := by
        by_cases k1 : x.f0 = 1
        · have q : (rd_T30 l 0).f2.length = 1 := p1 k1
          omega
        · have q : (rd_T30 l 0).f2 = [] := pn k1
          rw [q]; simp
      refine ⟨((rd_T30 l 0).f0, (rd_T30 l 0).f1, (rd_T30 l 0).f2, (rd_T30 l 0).f3, 0), Ev.step (f := fun _ => some ((rd_T30 l 0).f0, (rd_T30 l 0).f1, (rd_T30 l 0).f2, (rd_T30 l 0).f3, 0)) (fun k => ?_) (Ev.now _), Ev.step (f := fun _ => some ((rd_T30 l 0).f0, (rd_T30 l 0).f1, (rd_T30 l 0).f2, (rd_T30 l 0).f3, 0)) (fun k => ?_) (Ev.now _), p3, ?_⟩
      · rw [drivers_Resolve.l0, if_neg (by omega), if_pos (by omega), if_pos (by omega)]
        unfold drivers_copied.f api_Bit_68.f
        rw [if_pos (by omega)]; rfl
      · rw [r15Resolve.l0, if_neg (by omega), if_pos (by omega), if_pos (by omega)]
        unfold r15own.f
        have p3' : (rd_T30 l 0).f3 = [] := p3
        have p0' : (rd_T30 l 0).f0 = x.f0 := p0
        rw [p3']
        by_cases k1 : x.f0 = 1
        · have q : (rd_T30 l 0).f2.length = 1 := p1 k1
          rw [if_pos (p0'.trans k1), if_pos (by omega), one_get _ q]; rfl
        · have q : (rd_T30 l 0).f2 = [] := pn k1
          rw [if_neg (fun e => k1 (p0'.symm.trans e)), q]; rfl
      · exact h80
    · by_cases k1 : x.f0 = 1
      · refine ⟨(1, 0, [foldB 3 b], [], 0), Ev.step (f := fun k => (logic_Resolve.f k b).bind fun bt122 => (some (1, 0, (([bt122.1] : List Int)), ([] : List (S30)), bt122.2))) (fun k => ?_) (Ev.bind (resolve_ev b (by omega) fun z h => (hz z h).2) (Ev.now _)), Ev.step (f := fun k => (r01Resolve.f k b).bind fun bt161 => (some (1, 0, (([bt161.1] : List Int)), ([] : List (S30)), 0))) (fun k => ?_) (Ev.bind (resRef_ev b (by omega) hz) (by rw [fold_ref]; exact Ev.now _)), rfl, by simp⟩
        · rw [drivers_Resolve.l0, if_neg (by omega), if_neg (by omega), if_pos k1]
        · rw [r15Resolve.l0, if_neg (by omega), if_neg (by omega), if_pos k1]
      · refine ⟨(0, 0, [], [], 22), Ev.step (f := fun _ => some (0, 0, [], [], 22)) (fun k => ?_) (Ev.now _), Ev.step (f := fun _ => some (0, 0, [], [], 22)) (fun k => ?_) (Ev.now _), rfl, by simp⟩
        · rw [drivers_Resolve.l0, if_neg (by omega), if_neg (by omega), if_neg k1]
        · rw [r15Resolve.l0, if_neg (by omega), if_neg (by omega), if_neg k1]
  | succ d ih =>
    intro i b hi hb hz hj
    have hi' : i < l.length := by omega
    have hv' := hv _ (rd30_mem hi')
    cases hh : hasV x (rd_T30 l (i : Int)) with
    | false =>
      refine ⟨(0, 0, [], [], 2), Ev.step (f := fun k => (types_Has.f k x.f0 x.f1 x.f2 x.f3 x.f4 ((rd_T30 l (i : Int)).f0) ((rd_T30 l (i : Int)).f1) ((rd_T30 l (i : Int)).f2) ((rd_T30 l (i : Int)).f3)).bind fun t109 => (if t109 = true then (if b.length + ((rd_T30 l (i : Int)).f2).length < 140737488355328 then (drivers_Resolve.l0 k l (b ++ ((rd_T30 l (i : Int)).f2)) l (l.length : Int) (wrap64 ((i : Int) + 1)) x.f0 x.f1 x.f2 x.f3 x.f4) else (none)) else (some (0, 0, ([] : List Int), ([] : List (S30)), 2)))) (fun k => ?_) (Ev.bind (Has_ev x (rd_T30 l (i : Int)) hs h3) ?_), Ev.step (f := fun k => (r04Has.f k x.f0 x.f1 x.f2 x.f3 x.f4 ((rd_T30 l (i : Int)).f0) ((rd_T30 l (i : Int)).f1) ((rd_T30 l (i : Int)).f2) ((rd_T30 l (i : Int)).f3)).bind fun t109 => (if t109 = true then (if b.length + ((rd_T30 l (i : Int)).f2).length < 140737488355328 then (r15Resolve.l0 k l (b ++ ((rd_T30 l (i : Int)).f2)) l (l.length : Int) (wrap64 ((i : Int) + 1)) x.f0 x.f1 x.f2 x.f3 x.f4) else (none)) else (some (0, 0, ([] : List Int), ([] : List (S30)), 2)))) (fun k => ?_) (Ev.bind (HasRef_ev n x hx (rd_T30 l (i : Int)) hv' hs) ?_), rfl, by simp⟩
      · rw [drivers_Resolve.l0, if_pos (by omega), if_pos (by omega), if_pos (by omega)]
      · rw [hh]; exact Ev.congr (fun k => by rw [if_neg (by simp)]) (Ev.now _)
      · rw [r15Resolve.l0, if_pos (by omega), if_pos (by omega), if_pos (by omega)]
      · rw [hh]; exact Ev.congr (fun k => by rw [if_neg (by simp)]) (Ev.now _)
    | true =>
      obtain ⟨p0, p3, p1, pn, pb⟩ := has_parts x _ hh
      have hlen : (rd_T30 l (i : Int)).f2.length ≤ 1 := by
        by_cases k1 : x.f0 = 1
        · rw [p1 k1]; omega
        · rw [pn k1]; simp
      have hp : ∀ z ∈ (rd_T30 l (i : Int)).f2, 0 ≤ z := by
        intro z h
        cases n with
        | zero => exact hx.elim
        | succ n =>
          have := hv'.2.2.1 z h
          unfold Lit.wf at this
          rw [Bool.and_eq_true, decide_eq_true_iff] at this
          exact this.1
      obtain ⟨r, r1, r2, r3⟩ := ih (i + 1) (b ++ (rd_T30 l (i : Int)).f2) (by omega) (by rw [List.length_append]; omega) (fun z h => by
        rcases List.mem_append.mp h with h | h
        · exact hz z h
        · exact ⟨hp z h, pb z h⟩) (fun j hji => by
        by_cases e : j = i
        · rw [e]; exact hh
        · exact hj j (by omega))
      refine ⟨r, Ev.step (f := fun k => (types_Has.f k x.f0 x.f1 x.f2 x.f3 x.f4 ((rd_T30 l (i : Int)).f0) ((rd_T30 l (i : Int)).f1) ((rd_T30 l (i : Int)).f2) ((rd_T30 l (i : Int)).f3)).bind fun t109 => (if t109 = true then (if b.length + ((rd_T30 l (i : Int)).f2).length < 140737488355328 then (drivers_Resolve.l0 k l (b ++ ((rd_T30 l (i : Int)).f2)) l (l.length : Int) (wrap64 ((i : Int) + 1)) x.f0 x.f1 x.f2 x.f3 x.f4) else (none)) else (some (0, 0, ([] : List Int), ([] : List (S30)), 2)))) (fun k => ?_) (Ev.bind (Has_ev x (rd_T30 l (i : Int)) hs h3) ?_), Ev.step (f := fun k => (r04Has.f k x.f0 x.f1 x.f2 x.f3 x.f4 ((rd_T30 l (i : Int)).f0) ((rd_T30 l (i : Int)).f1) ((rd_T30 l (i : Int)).f2) ((rd_T30 l (i : Int)).f3)).bind fun t109 => (if t109 = true then (if b.length + ((rd_T30 l (i : Int)).f2).length < 140737488355328 then (r15Resolve.l0 k l (b ++ ((rd_T30 l (i : Int)).f2)) l (l.length : Int) (wrap64 ((i : Int) + 1)) x.f0 x.f1 x.f2 x.f3 x.f4) else (none)) else (some (0, 0, ([] : List Int), ([] : List (S30)), 2)))) (fun k => ?_) (Ev.bind (HasRef_ev n x hx (rd_T30 l (i : Int)) hv' hs) ?_), r3⟩
      · rw [drivers_Resolve.l0, if_pos (by omega), if_pos (by omega), if_pos (by omega)]
      · rw [hh]; exact Ev.congr (fun k => by rw [if_pos rfl, if_pos (by omega), wrap_ok (n := (i : Int) + 1) (by omega) (by omega)]; rfl) r1
      · rw [r15Resolve.l0, if_pos (by omega), if_pos (by omega), if_pos (by omega)]
      · rw [hh]; exact Ev.congr (fun k => by rw [if_pos rfl, if_pos (by omega), wrap_ok (n := (i : Int) + 1) (by omega) (by omega)]; rfl) r2
theorem res_both (n : Nat) (x : S26) (hx : okT n x) (l : List S30) (hl : l.length ≤ 80) (hv : ∀ y ∈ l, okV n y) :
    ∃ r, Ev (fun k => drivers_Resolve.f k x.f0 x.f1 x.f2 x.f3 x.f4 l) r ∧ Ev (fun k => r15Resolve.f k x.f0 x.f1 x.f2 x.f3 x.f4 l) r ∧ r.2.2.2.1 = [] ∧ r.2.2.1.length ≤ 80 := by
  have hm := ml
  have h3 : x.f3.length ≤ maxLen := by
    cases n with
    | zero => exact hx.elim
    | succ n => exact hx.2.2.2.2.1
  have j1 : Ev (fun k => drivers_Resolve.j0 k l true x.f0 x.f1 x.f2 x.f3 x.f4) (0, 0, [], [], 2) := Ev.step (f := fun _ => some (0, 0, [], [], 2)) (fun k => by rw [drivers_Resolve.j0, if_pos rfl]) (Ev.now _)
  have j2 : Ev (fun k => r15Resolve.j0 k l true x.f0 x.f1 x.f2 x.f3 x.f4) (0, 0, [], [], 2) := Ev.step (f := fun _ => some (0, 0, [], [], 2)) (fun k => by rw [r15Resolve.j0, if_pos rfl]) (Ev.now _)
  unfold drivers_Resolve.f r15Resolve.f
  cases hs : scB x with
  | false =>
    have a := scalar_ev x h3
    have b := scalar_ref n x hx
    rw [hs] at a b
    exact ⟨_, Ev.bind a (Ev.congr (fun k => by rw [if_neg (by simp)]) j1), Ev.bind b (Ev.congr (fun k => by rw [if_neg (by simp)]) j2), rfl, by simp⟩
  | true =>
    have a := scalar_ev x h3
    have b := scalar_ref n x hx
    rw [hs] at a b
    by_cases h0 : l.length = 0
    · have e : ((l.length : Int) == 0) = true := by simp [h0]
      exact ⟨_, Ev.bind a (Ev.congr (fun k => by rw [if_pos rfl, e]) j1), Ev.bind b (Ev.congr (fun k => by rw [if_pos rfl, e]) j2), rfl, by simp⟩
    · have e : ((l.length : Int) == 0) = false := beq_eq_false_iff_ne.mpr (by omega)
      obtain ⟨r, r1, r2, r3⟩ := res_l0 n x hx hs l hl hv l.length 0 [] (by omega) (by simp) (by simp) (by omega)
      refine ⟨r, Ev.bind a (Ev.congr (fun k => by rw [if_pos rfl, e]) (Ev.step (fun k => by rw [drivers_Resolve.j0, if_neg (by simp), if_pos (by omega), if_pos (by omega)]; rfl) r1)), Ev.bind b (Ev.congr (fun k => by rw [if_pos rfl, e]) (Ev.step (fun k => by rw [r15Resolve.j0, if_neg (by simp)]; rfl) r2)), r3⟩
theorem same_ev (l : List Int) (hl : l.length ≤ maxLen) : Ev (fun k => r01Same.f k l l) true := by
  have hm := ml
  have key : ∀ d i, i + d = l.length → Ev (fun k => r01Same.l0 k l l (l.length : Int) (i : Int)) true := by
    intro d
    induction d with
    | zero => intro i hi; exact Ev.step (f := fun _ => some true) (fun k => by rw [r01Same.l0, if_neg (by omega)]) (Ev.now _)
    | succ d ih =>
      intro i hi
      refine Ev.step (f := fun k => r01Same.l0 k l l (l.length : Int) ((i + 1 : Nat) : Int)) (fun k => ?_) (ih (i + 1) (by omega))
      rw [r01Same.l0, if_pos (by omega), if_pos (by omega), if_pos (by omega), if_pos (by omega), if_pos rfl, wrap_ok (by omega) (by omega)]
      rfl
  exact Ev.congr (fun k => by unfold r01Same.f; rw [if_pos rfl]; rfl) (key l.length 0 (by omega))
theorem alike_ev (a b : Int) (l : List Int) (hl : l.length ≤ maxLen) : Ev (fun k => r04Alike.f k a b l [] a b l []) true := by
  refine Ev.step (f := fun k => (r01Same.f k l l).bind fun t168 => (if t168 = true then (r04Alike.j0 k false a b l [] a b l []) else (r04Alike.j0 k true a b l [] a b l []))) (fun k => ?_) (Ev.bind (same_ev l hl) ?_)
  · rw [r04Alike.f, if_pos rfl, if_pos rfl]; rfl
  · refine Ev.congr (fun k => by rw [if_pos rfl]) (Ev.step (f := fun k => r04Alike.l0 k 0 0 a b l [] a b l []) (fun k => by rw [r04Alike.j0, if_neg (by simp)]; rfl) ?_)
    exact Ev.step (f := fun _ => some true) (fun k => by rw [r04Alike.l0, if_neg (by omega)]) (Ev.now _)
theorem res_law (n : Nat) (x : S26) (hx : okT n x) (l : List S30) (hv : ∀ y ∈ l, okV n y) : ∃ K, v15DriversResolves.f K x.f0 x.f1 x.f2 x.f3 x.f4 l = some true := by
  have hm := ml
  refine Ev.rounds (g := fun k => v15DriversResolves.f k x.f0 x.f1 x.f2 x.f3 x.f4 l) ?_
  unfold v15DriversResolves.f
  obtain ⟨t, ht, h8⟩ := few_ex2 n x hx l hv
  have ha : Ev (fun k => (v15awake.f k).bind fun t => some t) true := Ev.now true
  refine Ev.bind ht ?_
  cases t with
  | false => exact Ev.congr (fun k => by rw [if_neg (by simp)]) ha
  | true =>
    obtain ⟨⟨r0, r1, r2, r3, r4⟩, e1, e2, e3, e4⟩ := res_both n x hx l (h8 rfl) hv
    obtain rfl : r3 = [] := e3
    refine Ev.congr (fun k => by rw [if_pos rfl]) (Ev.bind e1 (Ev.bind e2 (Ev.bind (alike_ev r0 r1 r2 (by have : r2.length ≤ 80 := e4; omega)) ?_)))
    exact Ev.congr (fun k => by rw [if_pos rfl, if_pos rfl]) ha
end Go.Proofs.Ytojankgmedccdaa.Pure
