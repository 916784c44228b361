/- Part of the proof of LawDriversResolves: every definition and lemma is one that it names. -/
import Derived.Test.YtojankgmedccdaaZPuF
namespace Go.Proofs.Ytojankgmedccdaa.Pure
open Go.RowKit Own PTy Hand PIs RowV YtojankgmedccdaaW.PrintWords YtojankgmedccdaaW.PrintLast
theorem len_beq {α : Type} (l : List α) : ((l.length : Int) == 0) = decide (l = []) := by
  rw [Bool.eq_iff_iff]; simp
theorem plain_f (x : S26) : types_plain.f x.f0 x.f1 x.f2 x.f3 x.f4 false false false = some (baseB x) := by
  unfold types_plain.f baseB
  by_cases h1 : x.f1 = 0 <;> by_cases h2 : x.f2.size = 0 <;> by_cases h3 : x.f3.length = 0 <;> simp [h1, h2, h3, nil_size]
  all_goals simp_all [len_beq]
theorem plain_e (x : S26) : types_plain.f x.f0 x.f1 x.f2 x.f3 x.f4 false true false = some (decide (x.f1 = 0) && decide (x.f4.length = 0)) := by
  unfold types_plain.f
  by_cases h1 : x.f1 = 0 <;> simp [h1, len_beq]
theorem kind_dec (x : S26) : kindB x = true ↔ x.f0 = 1 ∨ x.f0 = 2 ∨ x.f0 = 3 := by unfold kindB; simp [or_assoc]
theorem types_base (x : S26) (h : kindB x = true) : Ev (fun k => types_Valid.f k x.f0 x.f1 x.f2 x.f3 x.f4) (baseB x) := by
  rw [kind_dec] at h
  refine Ev.step (f := fun k => types_Valid.j0 k x.f0 true x.f0 x.f1 x.f2 x.f3 x.f4) (fun k => ?_) (Ev.step (f := fun _ => some (baseB x)) (fun k => ?_) (Ev.now _))
  · rw [types_Valid.f]
    rcases h with h | h | h <;> rw [h] <;> rfl
  · rw [types_Valid.j0, if_pos rfl, plain_f]; rfl
theorem types_enum (x : S26) (h : x.f0 = 5) (hl : x.f3.length ≤ maxLen) : Ev (fun k => types_Valid.f k x.f0 x.f1 x.f2 x.f3 x.f4) (enumB x) := by
  refine Ev.step (f := fun k => types_Valid.j0 k x.f0 false x.f0 x.f1 x.f2 x.f3 x.f4) (fun k => ?_) ?_
  · rw [types_Valid.f]
    rw [h]; rfl
  by_cases hb : (decide (x.f1 = 0) && decide (x.f4.length = 0)) = true
  · refine Ev.step (f := fun k => (types_isEnum.f k x.f0 x.f1 x.f2 x.f3 x.f4).bind fun t145 => (some t145)) (fun k => ?_) ?_
    · rw [types_Valid.j0, if_neg (by simp), if_neg (by omega), if_pos h, plain_e, hb]
      simp
    · unfold enumB
      rw [hb, Bool.true_and]
      exact Ev.bind (isEnum_ev x hl) (Ev.now _)
  · refine Ev.step (f := fun _ => some (enumB x)) (fun k => ?_) (Ev.now _)
    have hb' : (decide (x.f1 = 0) && decide (x.f4.length = 0)) = false := by simpa using hb
    unfold enumB
    rw [types_Valid.j0, if_neg (by simp), if_neg (by omega), if_pos h, plain_e, hb']
    simp
theorem ref_start (x : S26) : ∀ k, r04Valid.f (k + 1) x.f0 x.f1 x.f2 x.f3 x.f4 = r04Valid.j0 k (decide (x.f2.size = 0) && decide (x.f3.length = 0)) x.f0 x.f1 x.f2 x.f3 x.f4 := by
  intro k
  rw [r04Valid.f]
  by_cases h : x.f2.size = 0
  · rw [if_pos ((nil_size _).mpr h), decide_eq_true h]
    congr 1
    simp only [Bool.true_and]
    rw [Bool.eq_iff_iff]
    simp
  · rw [if_neg (fun e => h ((nil_size _).mp e)), decide_eq_false h]; rfl
theorem ref_base (x : S26) (h : kindB x = true) : Ev (fun k => r04Valid.f k x.f0 x.f1 x.f2 x.f3 x.f4) (baseB x) := by
  rw [kind_dec] at h
  refine Ev.step (ref_start x) ?_
  refine Ev.step (f := fun k => r04Valid.j1 k (decide (x.f2.size = 0) && decide (x.f3.length = 0)) x.f0 true x.f0 x.f1 x.f2 x.f3 x.f4) (fun k => ?_) (Ev.step (f := fun _ => some (baseB x)) (fun k => ?_) (Ev.now _))
  · rw [r04Valid.j0]
    rcases h with h | h | h <;> rw [h] <;> rfl
  · rw [r04Valid.j1, if_pos rfl]
    unfold baseB
    by_cases h1 : x.f1 = 0 <;> by_cases h2 : x.f2.size = 0 <;> by_cases h3 : x.f3.length = 0 <;> simp [h1, h2, h3]
    all_goals simp_all [len_beq]
theorem ref_j1 (x : S26) (b : Bool) (h : ¬ kindB x = true) : ∀ k, r04Valid.j0 (k + 1) b x.f0 x.f1 x.f2 x.f3 x.f4 = r04Valid.j1 k b x.f0 false x.f0 x.f1 x.f2 x.f3 x.f4 := by
  intro k
  rw [kind_dec] at h
  have h1 : ¬ x.f0 = 1 := fun e => h (.inl e)
  have h2 : ¬ x.f0 = 2 := fun e => h (.inr (.inl e))
  have h3 : (x.f0 == 3) = false := beq_eq_false_iff_ne.mpr fun e => h (.inr (.inr e))
  rw [r04Valid.j0, if_neg h1, if_neg h2, h3]
theorem ref_j2 (x : S26) (b : Bool) (hl : x.f3.length ≤ maxLen) : Ev (fun k => r04Valid.j2 k b x.f0 x.f1 x.f2 x.f3 x.f4) (!b && okFrom x.f3 x.f3.length 0) := by
  cases b with
  | true => exact Ev.step (f := fun _ => some false) (fun k => by rw [r04Valid.j2, if_pos rfl]) (Ev.now _)
  | false => exact Ev.step (f := fun k => r04Valid.l0 k x.f3 (x.f3.length : Int) ((0 : Nat) : Int) x.f0 x.f1 x.f2 x.f3 x.f4) (fun k => by rw [r04Valid.j2, if_neg (by simp)]; rfl) (by simpa using valid_l0 x.f3 hl x.f0 x.f1 x.f2 x.f4 x.f3.length 0 (by omega))
theorem ref_enum (x : S26) (h : x.f0 = 5) (hs : x.f2.size ≤ maxLen) (hl : x.f3.length ≤ maxLen) : Ev (fun k => r04Valid.f k x.f0 x.f1 x.f2 x.f3 x.f4) (enumB x) := by
  have hk : ¬ kindB x = true := by rw [kind_dec]; omega
  refine Ev.step (ref_start x) (Ev.step (ref_j1 x _ hk) ?_)
  refine Ev.step (f := fun k => if x.f1 = 0 then (if (x.f4.length : Int) = 0 then ((r04path.f k x.f2).bind fun t177 => (if t177 = true then (if (x.f3.length : Int) < 1 then (r04Valid.j2 k true x.f0 x.f1 x.f2 x.f3 x.f4) else (r04Valid.j2 k (decide ((x.f3.length : Int) > 16)) x.f0 x.f1 x.f2 x.f3 x.f4)) else (r04Valid.j2 k true x.f0 x.f1 x.f2 x.f3 x.f4))) else (r04Valid.j2 k true x.f0 x.f1 x.f2 x.f3 x.f4)) else (r04Valid.j2 k true x.f0 x.f1 x.f2 x.f3 x.f4)) (fun k => ?_) ?_
  · rw [r04Valid.j1, if_neg (by simp), if_neg (by omega), if_neg (by omega), if_pos h]
  have hf := ref_j2 x true hl
  simp only [Bool.not_true, Bool.false_and] at hf
  by_cases h1 : x.f1 = 0
  · by_cases h4 : x.f4.length = 0
    · refine Ev.congr (f := fun k => (r04path.f k x.f2).bind fun t177 => (if t177 = true then (if (x.f3.length : Int) < 1 then (r04Valid.j2 k true x.f0 x.f1 x.f2 x.f3 x.f4) else (r04Valid.j2 k (decide ((x.f3.length : Int) > 16)) x.f0 x.f1 x.f2 x.f3 x.f4)) else (r04Valid.j2 k true x.f0 x.f1 x.f2 x.f3 x.f4))) (fun k => by rw [if_pos h1, if_pos (by omega)]) (Ev.bind (path_ev x.f2 hs) ?_)
      unfold enumB namesB
      rw [decide_eq_true h1, decide_eq_true h4]
      cases hp : pathB x.f2 with
      | false => exact Ev.congr (fun k => by rw [if_neg (by simp)]) (by simpa using hf)
      | true =>
        by_cases h2 : (x.f3.length : Int) < 1
        · rw [decide_eq_false (show ¬ 1 ≤ x.f3.length by omega)]
          exact Ev.congr (fun k => by rw [if_pos rfl, if_pos h2]) (by simpa using hf)
        · rw [decide_eq_true (show 1 ≤ x.f3.length by omega)]
          refine Ev.congr (f := fun k => r04Valid.j2 k (decide ((x.f3.length : Int) > 16)) x.f0 x.f1 x.f2 x.f3 x.f4) (fun k => by rw [if_pos rfl, if_neg h2]) ?_
          have := ref_j2 x (decide ((x.f3.length : Int) > 16)) hl
          have e : (!decide ((x.f3.length : Int) > 16)) = decide (x.f3.length ≤ 16) := by rw [Bool.eq_iff_iff]; simp; omega
          rw [e] at this
          simpa using this
    · have e : enumB x = false := by unfold enumB; simp [h4]
      rw [e]
      exact Ev.congr (fun k => by rw [if_pos h1, if_neg (by omega)]) hf
  · have e : enumB x = false := by unfold enumB; simp [h1]
    rw [e]
    exact Ev.congr (fun k => by rw [if_neg h1]) hf
theorem ref_ex : ∀ n (x : S26), okT n x → Ex (fun k => r04Valid.f k x.f0 x.f1 x.f2 x.f3 x.f4)
  | 0, _, h => h.elim
  | n + 1, x, ⟨_, _, hs, _, hl, _, h7⟩ => by
    by_cases hk : kindB x = true
    · exact ⟨_, ref_base x hk⟩
    by_cases h5 : x.f0 = 5
    · exact ⟨_, ref_enum x h5 hs hl⟩
    refine Ex.step (ref_start x) (Ex.step (ref_j1 x _ hk) (Ex.step (fun k => by rw [r04Valid.j1, if_neg (by simp)]) ?_))
    refine Ex.ite (Ex.ite (Ex.ite (Ex.ite (Ex.now _) (Ex.now _)) (Ex.now _)) (Ex.now _)) (Ex.ite (Ex.ite (Ex.ite (Ex.ite ?_ (Ex.now _)) (Ex.now _)) (Ex.now _)) ?_)
    · by_cases h4 : x.f4.length = 1
      · refine Ex.congr (f := fun k => if ((rd_T26 x.f4 0).f0) = 6 then (some false) else ((r04Valid.f k ((rd_T26 x.f4 0).f0) ((rd_T26 x.f4 0).f1) ((rd_T26 x.f4 0).f2) ((rd_T26 x.f4 0).f3) ((rd_T26 x.f4 0).f4)).bind fun t176 => (some t176))) (fun k => by rw [if_pos (by omega), if_pos (by omega)]) ?_
        exact Ex.ite (Ex.now _) (Ex.bind (ref_ex n _ (h7 _ (rd26_mem (i := 0) (by omega)))) fun t => Ex.now _)
      · exact Ex.congr (fun k => by rw [if_neg (by omega)]) (Ex.now false)
    · exact Ex.congr (fun k => by rw [if_neg h5]) (Ex.now false)
theorem types_sc (x : S26) (hx : kindB x = true ∨ x.f0 = 5) (hl : x.f3.length ≤ maxLen) : Ev (fun k => types_Valid.f k x.f0 x.f1 x.f2 x.f3 x.f4) (scB x) := by
  by_cases hk : kindB x = true
  · unfold scB; rw [if_pos hk]; exact types_base x hk
  · have h5 : x.f0 = 5 := hx.resolve_left hk
    unfold scB; rw [if_neg hk, decide_eq_true h5, Bool.true_and]; exact types_enum x h5 hl
theorem ref_sc (x : S26) (hx : kindB x = true ∨ x.f0 = 5) (hs : x.f2.size ≤ maxLen) (hl : x.f3.length ≤ maxLen) : Ev (fun k => r04Valid.f k x.f0 x.f1 x.f2 x.f3 x.f4) (scB x) := by
  by_cases hk : kindB x = true
  · unfold scB; rw [if_pos hk]; exact ref_base x hk
  · have h5 : x.f0 = 5 := hx.resolve_left hk
    unfold scB; rw [if_neg hk, decide_eq_true h5, Bool.true_and]; exact ref_enum x h5 hs hl
theorem sc_no (x : S26) (hx : ¬ (kindB x = true ∨ x.f0 = 5)) : scB x = false := by
  unfold scB
  rw [if_neg (fun h => hx (.inl h)), decide_eq_false (fun h => hx (.inr h))]
  rfl
theorem scalar_ev (x : S26) (hl : x.f3.length ≤ maxLen) : Ev (fun k => drivers_Scalar.f k x.f0 x.f1 x.f2 x.f3 x.f4) (scB x) := by
  by_cases hx : kindB x = true ∨ x.f0 = 5
  · refine Ev.congr (f := fun k => (types_Valid.f k x.f0 x.f1 x.f2 x.f3 x.f4).bind fun t => some t) (fun k => ?_) (Ev.bind (types_sc x hx hl) (Ev.now _))
    unfold drivers_Scalar.f
    rw [kind_dec] at hx
    by_cases h1 : x.f0 = 1
    · rw [if_pos h1]
    by_cases h2 : x.f0 = 2
    · rw [if_neg h1, if_pos h2]
    by_cases h3 : x.f0 = 3
    · rw [if_neg h1, if_neg h2, if_pos h3]
    rw [if_neg h1, if_neg h2, if_neg h3, if_pos (by omega)]
  · rw [sc_no x hx]
    refine Ev.congr (f := fun _ => some false) (fun k => ?_) (Ev.now _)
    unfold drivers_Scalar.f
    rw [kind_dec] at hx
    rw [if_neg (by omega), if_neg (by omega), if_neg (by omega), if_neg (by omega)]
theorem scalar_ref (n : Nat) (x : S26) (hx : okT n x) : Ev (fun k => r15Scalar.f k x.f0 x.f1 x.f2 x.f3 x.f4) (scB x) := by
  cases n with
  | zero => exact hx.elim
  | succ n =>
    obtain ⟨_, _, hs, _, hl, _, _⟩ := id hx
    by_cases hk : kindB x = true ∨ x.f0 = 5
    · unfold r15Scalar.f
      refine Ev.bind (ref_sc x hk hs hl) ?_
      cases scB x with
      | false => exact Ev.congr (fun k => by rw [if_neg (by simp)]) (Ev.now _)
      | true =>
        refine Ev.congr (f := fun _ => some true) (fun k => ?_) (Ev.now _)
        rw [if_pos rfl]
        rw [kind_dec] at hk
        by_cases h1 : x.f0 = 1
        · rw [if_pos h1]
        by_cases h2 : x.f0 = 2
        · rw [if_neg h1, if_pos h2]
        by_cases h3 : x.f0 = 3
        · rw [if_neg h1, if_neg h2, if_pos h3]
        rw [if_neg h1, if_neg h2, if_neg h3, show x.f0 = 5 by omega]
        rfl
    · rw [sc_no x hk]
      obtain ⟨t, ht⟩ := ref_ex (n + 1) x hx
      unfold r15Scalar.f
      refine Ev.bind ht ?_
      refine Ev.congr (f := fun _ => some false) (fun k => ?_) (Ev.now _)
      rw [kind_dec] at hk
      cases t with
      | false => rfl
      | true =>
        rw [if_pos rfl, if_neg (by omega), if_neg (by omega), if_neg (by omega)]
        congr 1
        exact beq_eq_false_iff_ne.mpr (by omega)
end Go.Proofs.Ytojankgmedccdaa.Pure
