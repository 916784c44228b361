/- Plain facts: Join, and its reference. -/
import Derived.Test.YtajpgmpidphmgaaPuC
import Derived.Test.YtajpgmpidphmgaaPAllx6
namespace Go.Proofs.Ytajpgmpidphmgaa.Pure
open Go.RowKit Go.Proofs.Ytajpgmpidphmgaa.Hand Go.Proofs.Ytajpgmpidphmgaa.PAll Go.Proofs.YtajpgmpidphmgaaW.PrintWords Go.Proofs.YtajpgmpidphmgaaW.PrintLast
theorem rdl_nat (ls : List (List Int)) (i : Nat) (h : i < ls.length) : rd_L1 ls (i : Int) = ls[i] := by simp [rd_L1, List.getD_eq_getElem?_getD, h]
def width (ls : List (List Int)) : Nat := (rd_L1 ls 0).length
/-- One row of a table is a vector as wide as the first. -/
def goodF (ls : List (List Int)) (v : List Int) : Bool := isF v && decide (v.length = width ls)
def col (ls : List (List Int)) (i : Nat) : List Int := ls.map fun v => v.getD i 0
theorem good_at {ls : List (List Int)} (h : ls.all (goodF ls) = true) {v : List Int} (hv : v ∈ ls) : isF v = true ∧ v.length = width ls := by
  have := List.all_eq_true.1 h v hv
  unfold goodF at this
  simpa using this
theorem are_l0 (ls : List (List Int)) (hl : ls.length < 9223372036854775807) : ∀ (n i : Nat), i ≤ ls.length → ls.length - i = n → Ev (fun k => logic_are.l0 k ls ls (ls.length : Int) (i : Int)) ((ls.drop i).all (goodF ls)) := by
  intro n
  induction n with
  | zero =>
    intro i hi hn
    rw [List.drop_of_length_le (by omega)]
    exact Ev.step (f := fun _ => some true) (fun k => by simp only [logic_are.l0]; rw [if_neg (by omega)]) (Ev.now _)
  | succ n ih =>
    intro i hi hn
    have h1 : i < ls.length := by omega
    rw [List.drop_eq_getElem_cons h1, List.all_cons]
    cases he : isF ls[i] with
    | false =>
      rw [show goodF ls ls[i] = false by unfold goodF; rw [he]; rfl, Bool.false_and]
      refine Ev.step (f := fun _ => some false) (fun k => ?_) (Ev.now _)
      simp only [logic_are.l0]
      rw [if_pos (by omega), if_pos (by omega), if_pos (by omega), rdl_nat ls i h1]
      unfold logic_Is.f
      rw [he]
      simp
    | true =>
      by_cases hw : ls[i].length = width ls
      · rw [show goodF ls ls[i] = true by unfold goodF; rw [he, decide_eq_true hw]; rfl, Bool.true_and]
        refine Ev.step (f := fun k => logic_are.l0 k ls ls (ls.length : Int) ((i + 1 : Nat) : Int)) (fun k => ?_) (ih (i + 1) (by omega) (by omega))
        simp only [logic_are.l0]
        rw [if_pos (by omega), if_pos (by omega), if_pos (by omega), rdl_nat ls i h1]
        unfold logic_Is.f
        rw [he]
        simp only [Option.bind_some, if_true]
        rw [if_pos (by omega), if_pos (by unfold width at hw; omega), wrap_succ i (by omega)]
      · rw [show goodF ls ls[i] = false by unfold goodF; rw [decide_eq_false hw, Bool.and_false], Bool.false_and]
        refine Ev.step (f := fun _ => some false) (fun k => ?_) (Ev.now _)
        simp only [logic_are.l0]
        rw [if_pos (by omega), if_pos (by omega), if_pos (by omega), rdl_nat ls i h1]
        unfold logic_Is.f
        rw [he]
        simp only [Option.bind_some, if_true]
        rw [if_pos (by omega), if_neg (by unfold width at hw; omega)]
theorem are_ev (ls : List (List Int)) (hl : ls.length < 9223372036854775807) : Ev (fun k => logic_are.f k ls) (ls.all (goodF ls)) := by
  have := are_l0 ls hl ls.length 0 (by omega) (by omega)
  simpa [logic_are.f] using this
theorem set_step (o v : List Int) (i : Nat) (h1 : i < o.length) (h2 : i < v.length) :
    (o.set i (bothF o[i] v[i])).take (i + 1) ++ List.zipWith bothF ((o.set i (bothF o[i] v[i])).drop (i + 1)) (v.drop (i + 1)) = o.take i ++ List.zipWith bothF (o.drop i) (v.drop i) := by
  rw [List.drop_set_of_lt (by omega), List.drop_eq_getElem_cons h1, List.drop_eq_getElem_cons h2, List.zipWith_cons_cons, List.set_eq_take_append_cons_drop, if_pos h1]
  have e : (List.take i o).length = i := by rw [List.length_take]; omega
  rw [List.take_append, e]
  simp
  exact List.take_of_length_le (by omega)
theorem join_l1 (vs : List (List Int)) (A B : Int) (r : List Int × Int) (v : List Int) (hl : v.length < 9223372036854775807) : ∀ (n i : Nat) (o : List Int), i ≤ v.length → v.length - i = n → o.length = v.length →
    Ev (fun k => logic_Join.l0 k (o.take i ++ List.zipWith bothF (o.drop i) (v.drop i)) vs A (wrap64 (B + 1))) r → Ev (fun k => logic_Join.l1 k o vs A B v (v.length : Int) (i : Int)) r := by
  intro n
  induction n with
  | zero =>
    intro i o hi hn ho hk
    rw [List.drop_of_length_le (show v.length ≤ i by omega), List.zipWith_nil_right, List.append_nil, List.take_of_length_le (by omega)] at hk
    exact Ev.step (f := fun k => logic_Join.l0 k o vs A (wrap64 (B + 1))) (fun k => by simp only [logic_Join.l1]; rw [if_neg (by omega)]) hk
  | succ n ih =>
    intro i o hi hn ho hk
    have h1 : i < v.length := by omega
    have h2 : i < o.length := by omega
    rw [← set_step o v i h2 h1] at hk
    obtain ⟨K, hK⟩ := ih (i + 1) (o.set i (bothF o[i] v[i])) (by omega) (by omega) (by rw [List.length_set]; exact ho) hk
    refine ⟨K + 2, fun k hk => ?_⟩
    obtain ⟨m, rfl⟩ : ∃ m, k = m + 1 := ⟨k - 1, by omega⟩
    simp only [logic_Join.l1]
    rw [if_pos (by omega), if_pos (by omega), if_pos (by omega), if_pos (by omega), rd_nat o i h2, rd_nat v i h1, both_f m (by omega)]
    simp only [Option.bind_some, Int.toNat_natCast]
    rw [wrap_succ i (by omega)]
    exact hK m (by omega)
theorem join_l0 (vs : List (List Int)) (hl : vs.length < 9223372036854775807) : ∀ (n i : Nat) (o : List Int), i ≤ vs.length → vs.length - i = n → o.length < 9223372036854775807 → (∀ v ∈ vs, v.length = o.length) →
    Ev (fun k => logic_Join.l0 k o vs (vs.length : Int) (i : Int)) ((vs.drop i).foldl (List.zipWith bothF) o, 0) := by
  intro n
  induction n with
  | zero =>
    intro i o hi hn ho hv
    rw [List.drop_of_length_le (by omega)]
    exact Ev.step (f := fun _ => some (o, 0)) (fun k => by simp only [logic_Join.l0]; rw [if_neg (by omega)]) (Ev.now _)
  | succ n ih =>
    intro i o hi hn ho hv
    have h1 : i < vs.length := by omega
    have h2 := hv vs[i] (List.getElem_mem h1)
    rw [List.drop_eq_getElem_cons h1, List.foldl_cons]
    have h3 : (List.zipWith bothF o vs[i]).length = o.length := by rw [List.length_zipWith]; omega
    have hr := ih (i + 1) (List.zipWith bothF o vs[i]) (by omega) (by omega) (by omega) (fun v hvs => by rw [h3]; exact hv v hvs)
    rw [← wrap_succ i (by omega)] at hr
    have hs := join_l1 vs (vs.length : Int) (i : Int) ((vs.drop (i + 1)).foldl (List.zipWith bothF) (List.zipWith bothF o vs[i]), 0) vs[i] (by omega) vs[i].length 0 o (by omega) (by omega) h2.symm (by simpa using hr)
    refine Ev.step (f := fun k => logic_Join.l1 k o vs (vs.length : Int) (i : Int) vs[i] (vs[i].length : Int) ((0 : Nat) : Int)) (fun k => ?_) hs
    simp only [logic_Join.l0]
    rw [if_pos (by omega), if_pos (by omega), if_pos (by omega), rdl_nat vs i h1]
    rfl
/-- What Join says. -/
def joinF (ls : List (List Int)) : List Int × Int := if 0 < ls.length ∧ ls.all (goodF ls) = true then ((ls.drop 1).foldl (List.zipWith bothF) (rd_L1 ls 0), 0) else ([], 2)
theorem join_ev (ls : List (List Int)) (hl : ls.length < 9223372036854775807) : Ev (fun k => logic_Join.f k ls) (joinF ls) := by
  by_cases h0 : ls.length = 0
  · rw [show joinF ls = ([], 2) by unfold joinF; rw [if_neg (fun h => by omega)]]
    refine Ev.congr (f := fun k => logic_Join.j0 k ls true) (fun k => by unfold logic_Join.f; rw [if_pos (by omega)]) ?_
    exact Ev.step (f := fun _ => some ([], 2)) (fun k => by simp only [logic_Join.j0, if_true]) (Ev.now _)
  · refine Ev.congr (f := fun k => (logic_are.f k ls).bind fun t => logic_Join.j0 k ls (!t)) (fun k => by unfold logic_Join.f; rw [if_neg (by omega)]) ?_
    refine Ev.bind (are_ev ls hl) ?_
    cases hg : ls.all (goodF ls) with
    | false =>
      rw [show joinF ls = ([], 2) by unfold joinF; rw [if_neg (fun h => by rw [hg] at h; cases h.2)]]
      exact Ev.step (f := fun _ => some ([], 2)) (fun k => by simp only [logic_Join.j0, Bool.not_false, if_true]) (Ev.now _)
    | true =>
      rw [show joinF ls = ((ls.drop 1).foldl (List.zipWith bothF) (rd_L1 ls 0), 0) by unfold joinF; rw [if_pos ⟨by omega, hg⟩]]
      have hm : rd_L1 ls 0 = ls[0] := rdl_nat ls 0 (by omega)
      have hp : (rd_L1 ls 0).length ≤ 64 := by rw [hm]; exact (isF_parts (good_at hg (List.getElem_mem (by omega))).1).2.1
      have hj := join_l0 (ls.drop 1) (by rw [List.length_drop]; omega) (ls.drop 1).length 0 (rd_L1 ls 0) (by omega) (by omega) (by omega) (fun v hv => (good_at hg (List.mem_of_mem_drop hv)).2)
      refine Ev.step (f := fun k => logic_Join.l0 k (rd_L1 ls 0) (ls.drop 1) ((ls.drop 1).length : Int) ((0 : Nat) : Int)) (fun k => ?_) (by simpa using hj)
      simp only [logic_Join.j0, Bool.not_true, Bool.false_eq_true, if_false]
      rw [if_pos (by omega)]
      unfold api_Bit_54.f
      rw [if_pos (by omega)]
      simp only [Option.bind_some]
      rw [if_pos (by omega)]
      rfl
/-! #### the reference's -/
theorem refjoin_l2 (ls : List (List Int)) (hl : ls.length < 140737488355328) (x6 : List Int) (w i : Nat) (r : List Int × Int) (hw : ∀ v ∈ ls, i < v.length) (hu : U8 (col ls i)) (h6 : x6.length < 140737488355328)
    (hk : Ev (fun k => netwrightref01_Join.l1 k ls (x6 ++ [(refF (col ls i)).1]) (w : Int) (wrap64 ((i : Int) + 1))) r) : ∀ (n j : Nat) (acc : List Int), j ≤ ls.length → ls.length - j = n → acc = (col ls i).take j →
    Ev (fun k => netwrightref01_Join.l2 k ls x6 (i : Int) acc (w : Int) (i : Int) ls (ls.length : Int) (j : Int)) r := by
  intro n
  have hc : (col ls i).length = ls.length := by unfold col; rw [List.length_map]
  induction n with
  | zero =>
    intro j acc hj hn ha
    rw [List.take_of_length_le (by omega)] at ha
    subst ha
    refine Ev.step (f := fun k => (netwrightref01_Resolve.f k (col ls i)).bind fun b => netwrightref01_Join.l1 k ls (x6 ++ [b.1]) (w : Int) (wrap64 ((i : Int) + 1))) (fun k => ?_) (Ev.bind (refres_ev _ hu (by omega)) hk)
    simp only [netwrightref01_Join.l2]
    rw [if_neg (by omega)]
    simp only [if_pos h6]
  | succ n ih =>
    intro j acc hj hn ha
    have h1 : j < ls.length := by omega
    have h2 : i < ls[j].length := hw _ (List.getElem_mem h1)
    refine Ev.step (f := fun k => netwrightref01_Join.l2 k ls x6 (i : Int) (acc ++ [ls[j][i]]) (w : Int) (i : Int) ls (ls.length : Int) ((j + 1 : Nat) : Int)) (fun k => ?_) (ih (j + 1) (acc ++ [ls[j][i]]) (by omega) (by omega) ?_)
    · simp only [netwrightref01_Join.l2]
      rw [if_pos (by omega), if_pos (by omega), if_pos (by omega), rdl_nat ls j h1, if_pos (by omega), if_pos (by omega), if_pos (by rw [ha, List.length_take]; omega), rd_nat _ i h2, wrap_succ j (by omega)]
    · rw [ha, List.take_add_one, List.getElem?_eq_getElem (by omega)]
      congr 1
      show [_] = [_]
      congr 1
      unfold col
      rw [List.getElem_map, List.getD_eq_getElem?_getD, List.getElem?_eq_getElem h2]
      rfl
theorem refjoin_l1 (ls : List (List Int)) (hl : ls.length < 140737488355328) (w : Nat) (hwl : w < 140737488355328) (hw : ∀ v ∈ ls, v.length = w) (hu : ∀ i, U8 (col ls i)) : ∀ (n i : Nat) (acc : List Int), i ≤ w → w - i = n → acc = (List.range i).map (fun i => (refF (col ls i)).1) →
    Ev (fun k => netwrightref01_Join.l1 k ls acc (w : Int) (i : Int)) ((List.range w).map (fun i => (refF (col ls i)).1), 0) := by
  intro n
  induction n with
  | zero =>
    intro i acc hi hn ha
    obtain rfl : i = w := by omega
    subst ha
    exact Ev.step (f := fun _ => some _) (fun k => by simp only [netwrightref01_Join.l1]; rw [if_neg (by omega)]) (Ev.now _)
  | succ n ih =>
    intro i acc hi hn ha
    have hr := ih (i + 1) (acc ++ [(refF (col ls i)).1]) (by omega) (by omega) (by rw [ha, List.range_succ, List.map_append]; rfl)
    rw [← wrap_succ i (by omega)] at hr
    have hs := refjoin_l2 ls hl acc w i _ (fun v hv => by rw [hw v hv]; omega) (hu i) (by rw [ha, List.length_map, List.length_range]; omega) hr ls.length 0 [] (by omega) (by omega) (by rw [List.take_zero])
    exact Ev.step (f := fun k => netwrightref01_Join.l2 k ls acc (i : Int) [] (w : Int) (i : Int) ls (ls.length : Int) ((0 : Nat) : Int)) (fun k => by simp only [netwrightref01_Join.l1]; rw [if_pos (by omega)]; rfl) hs
theorem refjoin_l0 (ls : List (List Int)) (hu : ∀ v ∈ ls, U8 v) (hlv : ∀ v ∈ ls, v.length < 9223372036854775807) (hl : ls.length < 9223372036854775807) (h0 : 0 < ls.length) (r : List Int × Int)
    (hr : ls.all (goodF ls) = true → Ev (fun k => netwrightref01_Join.l1 k ls [] (width ls : Int) 0) r) : ∀ (n i : Nat), i ≤ ls.length → ls.length - i = n → ((ls.take i).all (goodF ls) = true) →
    Ev (fun k => netwrightref01_Join.l0 k ls ls (ls.length : Int) (i : Int)) (if ls.all (goodF ls) = true then r else ([], 2)) := by
  intro n
  induction n with
  | zero =>
    intro i hi hn ht
    rw [List.take_of_length_le (by omega)] at ht
    rw [if_pos ht]
    refine Ev.step (f := fun k => netwrightref01_Join.l1 k ls [] (width ls : Int) 0) (fun k => ?_) (hr ht)
    simp only [netwrightref01_Join.l0]
    rw [if_neg (by omega), if_pos (by omega)]
    rfl
  | succ n ih =>
    intro i hi hn ht
    have h1 : i < ls.length := by omega
    have hm : ls[i] ∈ ls := List.getElem_mem h1
    have no : goodF ls ls[i] = false → (if ls.all (goodF ls) = true then r else ([], 2)) = ([], 2) := by
      intro hf
      rw [if_neg (fun h => by have := List.all_eq_true.1 h _ hm; rw [hf] at this; cases this)]
    cases he : isF ls[i] with
    | false =>
      rw [no (by unfold goodF; rw [he]; rfl)]
      obtain ⟨K, hK⟩ := refis_ev ls[i] (hu _ hm) (hlv _ hm)
      refine ⟨K + 1, fun k hk => ?_⟩
      obtain ⟨m, rfl⟩ : ∃ m, k = m + 1 := ⟨k - 1, by omega⟩
      have q : netwrightref01_Is.f m ls[i] = _ := hK m (by omega)
      simp only [netwrightref01_Join.l0]
      rw [if_pos (by omega), if_pos (by omega), if_pos (by omega), rdl_nat ls i h1, q, he]
      simp
    | true =>
      obtain ⟨K, hK⟩ := refis_ev ls[i] (hu _ hm) (hlv _ hm)
      by_cases hw : ls[i].length = width ls
      · have hg : goodF ls ls[i] = true := by unfold goodF; rw [he, decide_eq_true hw]; rfl
        obtain ⟨K1, hK1⟩ := ih (i + 1) (by omega) (by omega) (by rw [List.take_add_one, List.getElem?_eq_getElem h1, List.all_append, ht]; simp [hg])
        refine ⟨K + K1 + 1, fun k hk => ?_⟩
        obtain ⟨m, rfl⟩ : ∃ m, k = m + 1 := ⟨k - 1, by omega⟩
        have q : netwrightref01_Is.f m ls[i] = _ := hK m (by omega)
        simp only [netwrightref01_Join.l0]
        rw [if_pos (by omega), if_pos (by omega), if_pos (by omega), rdl_nat ls i h1, q, he]
        simp only [Option.bind_some, if_true]
        rw [if_pos (by omega), if_pos (by unfold width at hw; omega), wrap_succ i (by omega)]
        exact hK1 m (by omega)
      · rw [no (by unfold goodF; rw [decide_eq_false hw, Bool.and_false])]
        refine ⟨K + 1, fun k hk => ?_⟩
        obtain ⟨m, rfl⟩ : ∃ m, k = m + 1 := ⟨k - 1, by omega⟩
        have q : netwrightref01_Is.f m ls[i] = _ := hK m (by omega)
        simp only [netwrightref01_Join.l0]
        rw [if_pos (by omega), if_pos (by omega), if_pos (by omega), rdl_nat ls i h1, q, he]
        simp only [Option.bind_some, if_true]
        rw [if_pos (by omega), if_neg (by unfold width at hw; omega)]
def refjoinF (ls : List (List Int)) : List Int × Int := if 0 < ls.length ∧ ls.all (goodF ls) = true then ((List.range (width ls)).map (fun i => (refF (col ls i)).1), 0) else ([], 2)
theorem col_u8 {ls : List (List Int)} (hu : ∀ v ∈ ls, U8 v) (i : Nat) : U8 (col ls i) := by
  intro x hx
  obtain ⟨v, hv, rfl⟩ := List.mem_map.1 hx
  rw [List.getD_eq_getElem?_getD]
  by_cases h : i < v.length
  · rw [List.getElem?_eq_getElem h]
    exact hu v hv _ (List.getElem_mem h)
  · rw [List.getElem?_eq_none (by omega)]
    exact ⟨by decide, by decide⟩
theorem refjoin_ev (ls : List (List Int)) (hu : ∀ v ∈ ls, U8 v) (hlv : ∀ v ∈ ls, v.length < 9223372036854775807) (hl : ls.length < 140737488355328) : Ev (fun k => netwrightref01_Join.f k ls) (refjoinF ls) := by
  by_cases h0 : ls.length = 0
  · rw [show refjoinF ls = ([], 2) by unfold refjoinF; rw [if_neg (fun h => by omega)]]
    exact Ev.congr (f := fun _ => some ([], 2)) (fun k => by unfold netwrightref01_Join.f; rw [if_pos (by omega)]) (Ev.now _)
  · refine Ev.congr (f := fun k => netwrightref01_Join.l0 k ls ls (ls.length : Int) ((0 : Nat) : Int)) (fun k => by unfold netwrightref01_Join.f; rw [if_neg (by omega)]; rfl) ?_
    have hr := refjoin_l0 ls hu hlv (by omega) (by omega) ((List.range (width ls)).map (fun i => (refF (col ls i)).1), 0) (fun hg => ?_) ls.length 0 (by omega) (by omega) (by rw [List.take_zero]; rfl)
    · rw [show refjoinF ls = if ls.all (goodF ls) = true then ((List.range (width ls)).map (fun i => (refF (col ls i)).1), 0) else ([], 2) by
        unfold refjoinF
        by_cases hg : ls.all (goodF ls) = true
        · rw [if_pos ⟨by omega, hg⟩, if_pos hg]
        · rw [if_neg (fun h => hg h.2), if_neg hg]]
      exact hr
    · have hm : rd_L1 ls 0 = ls[0] := rdl_nat ls 0 (by omega)
      have hp : width ls ≤ 64 := by unfold width; rw [hm]; exact (isF_parts (good_at hg (List.getElem_mem (by omega))).1).2.1
      exact refjoin_l1 ls hl (width ls) (by omega) (fun v hv => (good_at hg hv).2) (fun i => col_u8 hu i) (width ls) 0 [] (by omega) (by omega) (by rw [List.range_zero]; rfl)
/-! #### both say the same -/
theorem fold_zip : ∀ (vs : List (List Int)) (o : List Int), (∀ v ∈ vs, v.length = o.length) → (vs.foldl (List.zipWith bothF) o).length = o.length ∧ ∀ i, i < o.length → (vs.foldl (List.zipWith bothF) o).getD i 0 = (vs.map fun v => v.getD i 0).foldl bothF (o.getD i 0) := by
  intro vs
  induction vs with
  | nil => intro o _; exact ⟨rfl, fun i _ => rfl⟩
  | cons v vs ih =>
    intro o h
    have h1 := h v (List.mem_cons_self)
    have h3 : (List.zipWith bothF o v).length = o.length := by rw [List.length_zipWith]; omega
    obtain ⟨e1, e2⟩ := ih (List.zipWith bothF o v) (fun u hu => by rw [h3]; exact h u (List.mem_cons_of_mem _ hu))
    refine ⟨by rw [List.foldl_cons, e1, h3], fun i hi => ?_⟩
    rw [List.foldl_cons, e2 i (by omega), List.map_cons, List.foldl_cons]
    congr 1
    have h4 : i < v.length := by omega
    simp [List.getD_eq_getElem?_getD, hi, h4, h3]
theorem bothF_three (x : Int) : bothF 3 x = x := by
  unfold bothF
  repeat' split
  all_goals omega
theorem join_same (ls : List (List Int)) : joinF ls = refjoinF ls := by
  unfold joinF refjoinF
  by_cases h : 0 < ls.length ∧ ls.all (goodF ls) = true
  · rw [if_pos h, if_pos h]
    congr 1
    obtain ⟨h0, hg⟩ := h
    have hm : rd_L1 ls 0 = ls[0] := rdl_nat ls 0 (by omega)
    have hc : ls = rd_L1 ls 0 :: ls.drop 1 := by
      rw [hm]
      conv => lhs; rw [← List.drop_zero (l := ls), List.drop_eq_getElem_cons h0]
    obtain ⟨e1, e2⟩ := fold_zip (ls.drop 1) (rd_L1 ls 0) (fun v hv => (good_at hg (List.mem_of_mem_drop hv)).2)
    refine List.ext_getElem (by rw [e1, List.length_map, List.length_range]; rfl) (fun i hi1 hi2 => ?_)
    have hi : i < (rd_L1 ls 0).length := by rw [e1] at hi1; exact hi1
    have e3 := e2 i hi
    rw [List.getD_eq_getElem?_getD, List.getElem?_eq_getElem hi1] at e3
    rw [List.getElem_map, List.getElem_range, ← res_ref]
    refine Eq.trans e3 ?_
    have e4 : col ls i = (rd_L1 ls 0).getD i 0 :: (ls.drop 1).map (fun v => v.getD i 0) := by
      unfold col
      conv => lhs; rw [hc]
      rfl
    unfold resF
    rw [if_pos ?_]
    · show _ = List.foldl bothF 3 (col ls i)
      rw [e4, List.foldl_cons, bothF_three]
    · refine List.all_eq_true.2 fun x hx => decide_eq_true ?_
      obtain ⟨v, hv, rfl⟩ := List.mem_map.1 hx
      obtain ⟨g1, g2⟩ := good_at hg hv
      have h5 : i < v.length := by rw [g2]; exact hi
      rw [List.getD_eq_getElem?_getD, List.getElem?_eq_getElem h5]
      exact (isF_parts g1).2.2 _ (List.getElem_mem h5)
  · rw [if_neg h, if_neg h]
theorem joins_l0 (ls : List (List Int)) (hu : ∀ v ∈ ls, U8 v) (hl : ls.length ≤ 40) : ∀ (n i : Nat), i ≤ ls.length → ls.length - i = n → (∀ v ∈ ls.take i, v.length ≤ 200) →
    Ev (fun k => netwrightlaw01_LogicJoins.l0 k ls (ls.take i) ls (ls.length : Int) (i : Int)) true := by
  intro n
  obtain ⟨K, hK⟩ := awake_ev
  induction n with
  | zero =>
    intro i hi hn ht
    rw [List.take_of_length_le (by omega)] at ht ⊢
    obtain ⟨K1, hK1⟩ := join_ev ls (by omega)
    obtain ⟨K2, hK2⟩ := refjoin_ev ls hu (fun v hv => by have := ht v hv; omega) (by omega)
    have hw : (refjoinF ls).1.length < 9223372036854775807 := by
      unfold refjoinF
      by_cases h : 0 < ls.length ∧ ls.all (goodF ls) = true
      · rw [if_pos h]
        have hm : rd_L1 ls 0 = ls[0] := rdl_nat ls 0 h.1
        have hp : width ls ≤ 64 := by unfold width; rw [hm]; exact (isF_parts (good_at h.2 (List.getElem_mem h.1)).1).2.1
        show ((List.range (width ls)).map (fun i => (refF (col ls i)).1)).length < _
        rw [List.length_map, List.length_range]
        omega
      · rw [if_neg h]
        show 0 < 9223372036854775807
        omega
    obtain ⟨K3, hK3⟩ := same_self (refjoinF ls).1 hw
    refine ⟨K + K1 + K2 + K3 + 1, fun k hk => ?_⟩
    obtain ⟨m, rfl⟩ : ∃ m, k = m + 1 := ⟨k - 1, by omega⟩
    have q1 : logic_Join.f m ls = _ := hK1 m (by omega)
    have q2 : netwrightref01_Join.f m ls = _ := hK2 m (by omega)
    have q3 : netwrightref01_Same.f m (refjoinF ls).1 (refjoinF ls).1 = _ := hK3 m (by omega)
    simp only [netwrightlaw01_LogicJoins.l0]
    rw [if_neg (by omega), q1, q2, join_same]
    simp only [Option.bind_some]
    rw [q3, hK m (by omega)]
    simp
  | succ n ih =>
    intro i hi hn ht
    have h1 : i < ls.length := by omega
    by_cases hb : 200 < ls[i].length
    · refine ⟨K + 1, fun k hk => ?_⟩
      obtain ⟨m, rfl⟩ : ∃ m, k = m + 1 := ⟨k - 1, by omega⟩
      simp only [netwrightlaw01_LogicJoins.l0]
      rw [if_pos (by omega), if_pos (by omega), if_pos (by omega), rdl_nat ls i h1, long_f, decide_eq_true hb]
      simp only [Option.bind_some, if_true, hK m (by omega)]
    · have e : ls.take (i + 1) = ls.take i ++ [ls[i]] := by rw [List.take_add_one, List.getElem?_eq_getElem h1]; rfl
      refine Ev.step (f := fun k => netwrightlaw01_LogicJoins.l0 k ls (ls.take (i + 1)) ls (ls.length : Int) ((i + 1 : Nat) : Int)) (fun k => ?_) (ih (i + 1) (by omega) (by omega) ?_)
      · simp only [netwrightlaw01_LogicJoins.l0]
        rw [if_pos (by omega), if_pos (by omega), if_pos (by omega), rdl_nat ls i h1, long_f, decide_eq_false hb, copied_f _ (by omega)]
        simp only [Option.bind_some, Bool.false_eq_true, if_false]
        rw [if_pos (by rw [List.length_take]; omega), wrap_succ i (by omega), e]
      · intro v hv
        rw [e] at hv
        rcases List.mem_append.1 hv with hv | hv
        · exact ht v hv
        · rw [List.mem_singleton.1 hv]
          omega
theorem joins_pure (ls : List (List Int)) (hu : ∀ v ∈ ls, U8 v) : ∃ k, netwrightlaw01_LogicJoins.f k ls = some true := by
  by_cases h : ls.length ≤ 40
  · obtain ⟨K, hK⟩ := joins_l0 ls hu h ls.length 0 (by omega) (by omega) (by rw [List.take_zero]; exact fun v hv => by cases hv)
    refine ⟨K, ?_⟩
    unfold netwrightlaw01_LogicJoins.f
    rw [if_neg (by omega)]
    exact hK K (Nat.le_refl _)
  · obtain ⟨K, hK⟩ := awake_ev
    refine ⟨K, ?_⟩
    unfold netwrightlaw01_LogicJoins.f
    rw [if_pos (by omega), hK K (Nat.le_refl _)]
    rfl
end Go.Proofs.Ytajpgmpidphmgaa.Pure
