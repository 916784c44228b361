/- Lemmas for LawDriversTakes. -/
import Derived.Test.YtojankgmedccdaaYTPuG
import Derived.Test.YtojankgmedccdaaYTPRsx5
import Derived.Test.YtojankgmedccdaaYTPGnF5
section
namespace Go.Proofs.Ytojankgmedccdaa.Pure
open Go.RowKit Own PTy Hand PIs RowV YtojankgmedccdaaW.PrintWords YtojankgmedccdaaW.PrintLast
theorem Oa (b : Int) (h : 0 ≤ b) : GL.f b = some (decide (b ≤ 3)) := by
  unfold GL.f
  by_cases h0 : b = 0
  · rw [if_pos h0, decide_eq_true (by omega)]
  by_cases h1 : b = 1
  · rw [if_neg h0, if_pos h1, decide_eq_true (by omega)]
  by_cases h2 : b = 2
  · rw [if_neg h0, if_neg h1, if_pos h2, decide_eq_true (by omega)]
  rw [if_neg h0, if_neg h1, if_neg h2]
  congr 1
  rw [Bool.eq_iff_iff]; simp; omega
theorem NQ (l : List Int) (j : l.length ≤ maxLen) (hp : ∀ b ∈ l, 0 ≤ b) : Ev (fun k => EC.f k l) (isF l) := by
  have hm := ml
  have key : ∀ d i, i + d = l.length → Ev (fun k => EC.l0 k l l (l.length : Int) (i : Int)) ((l.drop i).all (fun x => decide (x ≤ 3)) && (decide (1 ≤ l.length) && decide (l.length ≤ 64))) := by
    intro d
    induction d with
    | zero =>
      intro i hi
      rw [List.drop_eq_nil_of_le (by omega)]
      refine Ev.step (f := fun _ => some (decide (1 ≤ l.length) && decide (l.length ≤ 64))) (fun k => ?_) (by simpa using Ev.now _)
      rw [EC.l0, if_neg (by omega)]
      by_cases h : (l.length : Int) ≥ 1
      · rw [if_pos h, decide_eq_true (show 1 ≤ l.length by omega), Bool.true_and]; congr 1; rw [Bool.eq_iff_iff]; simp; omega
      · rw [if_neg h, decide_eq_false (show ¬ 1 ≤ l.length by omega)]; rfl
    | succ d g =>
      intro i hi
      have a : i < l.length := by omega
      have c : rd l (i : Int) = l[i] := by
        unfold rd
        rw [List.getD_eq_getElem?_getD, show ((i : Int)).toNat = i from rfl, List.getElem?_eq_getElem a]; rfl
      rw [List.drop_eq_getElem_cons a, List.all_cons]
      by_cases h3 : l[i] ≤ 3
      · refine Ev.step (f := fun k => EC.l0 k l l (l.length : Int) ((i + 1 : Nat) : Int)) (fun k => ?_) (by simpa [h3] using g (i + 1) (by omega))
        rw [EC.l0, if_pos (by omega), if_pos (by omega), if_pos (by omega), c, Oa _ (hp _ (List.getElem_mem a)), decide_eq_true h3, Option.bind_some, if_pos rfl, CY (by omega) (by omega)]
        rfl
      · refine Ev.step (f := fun _ => some false) (fun k => ?_) (by simpa [h3] using Ev.now _)
        rw [EC.l0, if_pos (by omega), if_pos (by omega), if_pos (by omega), c, Oa _ (hp _ (List.getElem_mem a)), decide_eq_false h3, Option.bind_some, if_neg (by simp)]
  have := key l.length 0 (by omega)
  have e : ((l.drop 0).all (fun x => decide (x ≤ 3)) && (decide (1 ≤ l.length) && decide (l.length ≤ 64))) = isF l := by
    unfold isF; rw [List.drop_zero, Bool.and_comm]
  rw [e] at this
  exact this
def Ed (x : S26) (v : S30) : Bool := decide (v.f0 = x.f0) && (if x.f0 = 1 then (decide (v.f1 = 0) && decide (v.f3.length = 0) && (isF v.f2 && decide (v.f2.length = 1))) else (decide (v.f2.length = 0) && decide (v.f3.length = 0) && (if x.f0 = 2 then (decide (v.f1 = 0) || decide (v.f1 = 1)) else if x.f0 = 3 then (decide (-2147483648 ≤ v.f1) && decide (v.f1 ≤ 2147483647)) else (decide (0 ≤ v.f1) && decide (v.f1 < (x.f3.length : Int))))))
theorem O7 (v : S30) : Bv.f v.f0 v.f1 v.f2 v.f3 false true false = some (decide (v.f1 = 0) && decide (v.f3.length = 0)) := by
  unfold Bv.f
  by_cases h1 : v.f1 = 0 <;> simp [h1, Ec]
theorem O8 (v : S30) : Bv.f v.f0 v.f1 v.f2 v.f3 true false false = some (decide (v.f2.length = 0) && decide (v.f3.length = 0)) := by
  unfold Bv.f
  by_cases h1 : v.f2.length = 0 <;> simp [h1, Ec]
  all_goals simp_all [Ec]
theorem Pt (x : S26) (h : scB x = true) : x.f1 = 0 := by
  unfold scB G7 GD at h
  split at h <;> simp_all
theorem II (x : S26) (h : scB x = true) : Eu x = true ∨ x.f0 = 5 := by
  by_cases hx : Eu x = true ∨ x.f0 = 5
  · exact hx
  · rw [ND x hx] at h; cases h
theorem O9 (x : S26) (v : S30) (a : scB x = true) : Ev (fun k => Ck.f k x.f0 x.f1 x.f2 x.f3 x.f4 v.f0 v.f1 v.f2 v.f3) (Ed x v) := by
  have b := II x a
  have h1 := Pt x a
  rw [EJ] at b
  by_cases h0 : v.f0 = x.f0
  · unfold Ed
    rw [decide_eq_true h0, Bool.true_and]
    by_cases k1 : x.f0 = 1
    · rw [if_pos k1]
      refine Ev.congr (f := fun k => Ck.j0 k x.f0 true x.f0 x.f1 x.f2 x.f3 x.f4 v.f0 v.f1 v.f2 v.f3) (fun k => ?_) (Ev.step (f := fun _ => some (decide (v.f1 = 0) && decide (v.f3.length = 0) && (isF v.f2 && decide (v.f2.length = 1)))) (fun k => ?_) (Ev.now _))
      · unfold Ck.f
        rw [if_pos h0, if_pos k1, k1]; rfl
      · rw [Ck.j0, if_pos rfl, O7, h1]
        have hm : mx 0 1 = 1 := rfl
        cases hb : (decide (v.f1 = 0) && decide (v.f3.length = 0)) with
        | false => simp
        | true =>
          rw [Option.bind_some, if_pos rfl, Fu.f, Option.bind_some, hm, Bool.true_and]
          cases isF v.f2 with
          | false => rfl
          | true =>
            rw [if_pos rfl, Bool.true_and]
            congr 1; rw [Bool.eq_iff_iff]; simp; omega
    · rw [if_neg k1]
      refine Ev.congr (f := fun k => Ck.j0 k x.f0 false x.f0 x.f1 x.f2 x.f3 x.f4 v.f0 v.f1 v.f2 v.f3) (fun k => ?_) (Ev.step (f := fun _ => some (decide (v.f2.length = 0) && decide (v.f3.length = 0) && (if x.f0 = 2 then (decide (v.f1 = 0) || decide (v.f1 = 1)) else if x.f0 = 3 then (decide (-2147483648 ≤ v.f1) && decide (v.f1 ≤ 2147483647)) else (decide (0 ≤ v.f1) && decide (v.f1 < (x.f3.length : Int)))))) (fun k => ?_) (Ev.now _))
      · unfold Ck.f
        rw [if_pos h0, if_neg k1, show (x.f0 == 4) = false from beq_eq_false_iff_ne.mpr (by omega)]
      · rw [Ck.j0, if_neg (by simp), O8]
        cases hb : (decide (v.f2.length = 0) && decide (v.f3.length = 0)) with
        | false =>
          by_cases k2 : x.f0 = 2
          · rw [if_pos k2]; rfl
          by_cases k3 : x.f0 = 3
          · rw [if_neg k2, if_pos k3]; rfl
          rw [if_neg k2, if_neg k3, if_pos (by omega)]; rfl
        | true =>
          by_cases k2 : x.f0 = 2
          · rw [if_pos k2, if_pos k2, Option.bind_some, if_pos rfl, Bool.true_and]
            by_cases q : v.f1 = 0
            · rw [if_pos q, decide_eq_true q]; rfl
            · rw [if_neg q, decide_eq_false q, Bool.false_or]; rfl
          by_cases k3 : x.f0 = 3
          · rw [if_neg k2, if_pos k3, if_neg k2, if_pos k3, Option.bind_some, if_pos rfl, Bool.true_and]
            by_cases q : -2147483648 ≤ v.f1
            · rw [if_pos q, decide_eq_true q, Bool.true_and]
            · rw [if_neg q, decide_eq_false q]; rfl
          rw [if_neg k2, if_neg k3, if_pos (show x.f0 = 5 by omega), if_neg k2, if_neg k3, Option.bind_some, if_pos rfl, Bool.true_and]
          by_cases q : 0 ≤ v.f1
          · rw [if_pos q, decide_eq_true q, Bool.true_and]
          · rw [if_neg q, decide_eq_false q]; rfl
  · have e : Ed x v = false := by unfold Ed; rw [decide_eq_false h0]; rfl
    rw [e]
    exact Ev.congr (fun k => by unfold Ck.f; rw [if_neg h0]) (Ev.now _)
theorem L9 (x : S26) (v : S30) (g : scB x = true) (d : v.f2.length ≤ maxLen) (hp : ∀ b ∈ v.f2, 0 ≤ b) : Ev (fun k => CX.j0 k (v.f0 != x.f0) x.f0 x.f1 x.f2 x.f3 x.f4 v.f0 v.f1 v.f2 v.f3) (Ed x v) := by
  have c := II x g
  rw [EJ] at c
  by_cases h0 : v.f0 = x.f0
  · have a : (v.f0 != x.f0) = false := by simp [h0]
    rw [a]
    unfold Ed
    rw [decide_eq_true h0, Bool.true_and]
    by_cases k1 : x.f0 = 1
    · rw [if_pos k1]
      refine Ev.step (f := fun k => if v.f1 = 0 then (if (v.f2.length : Int) = 1 then ((EC.f k v.f2).bind fun t208 => (if t208 = true then (some ((v.f3.length : Int) == 0)) else (some false))) else (some false)) else (some false)) (fun k => by rw [CX.j0, if_neg (by simp), if_pos k1]) ?_
      by_cases q1 : v.f1 = 0
      · by_cases q2 : v.f2.length = 1
        · rw [decide_eq_true q1, decide_eq_true q2]
          refine Ev.congr (f := fun k => (EC.f k v.f2).bind fun t208 => (if t208 = true then (some ((v.f3.length : Int) == 0)) else (some false))) (fun k => by rw [if_pos q1, if_pos (by omega)]) (Ev.bind (NQ _ d hp) ?_)
          refine Ev.congr (f := fun _ => some (true && decide (v.f3.length = 0) && (isF v.f2 && true))) (fun k => ?_) (Ev.now _)
          cases isF v.f2 with
          | false => simp
          | true => simp [Ec]
        · rw [decide_eq_false q2]
          exact Ev.congr (fun k => by rw [if_pos q1, if_neg (by omega)]) (by simpa using Ev.now _)
      · rw [decide_eq_false q1]
        exact Ev.congr (fun k => by rw [if_neg q1]) (by simpa using Ev.now _)
    · rw [if_neg k1]
      by_cases k2 : x.f0 = 2
      · rw [if_pos k2]
        refine Ev.step (f := fun _ => some (decide (v.f2.length = 0) && decide (v.f3.length = 0) && (decide (v.f1 = 0) || decide (v.f1 = 1)))) (fun k => ?_) (Ev.now _)
        rw [CX.j0, if_neg (by simp), if_neg k1, if_pos k2]
        by_cases q1 : v.f1 = 0
        · by_cases q2 : v.f2.length = 0
          · rw [if_pos q1, if_pos (by omega), Ec]; simp [q1, q2]
          · rw [if_pos q1, if_neg (by omega)]; simp [show ¬ v.f2 = [] from fun e => q2 (by rw [e]; rfl)]
        · by_cases q3 : v.f1 = 1
          · by_cases q2 : v.f2.length = 0
            · rw [if_neg q1, if_pos q3, if_pos (by omega), Ec]; simp [q3, q2]
            · rw [if_neg q1, if_pos q3, if_neg (by omega)]; simp [show ¬ v.f2 = [] from fun e => q2 (by rw [e]; rfl)]
          · rw [if_neg q1, if_neg q3]; simp [q1, q3]
      · rw [if_neg k2]
        by_cases k3 : x.f0 = 3
        · rw [if_pos k3]
          refine Ev.step (f := fun _ => some (decide (v.f2.length = 0) && decide (v.f3.length = 0) && (decide (-2147483648 ≤ v.f1) && decide (v.f1 ≤ 2147483647)))) (fun k => ?_) (Ev.now _)
          rw [CX.j0, if_neg (by simp), if_neg k1, if_neg k2, if_pos k3]
          unfold FY.f
          by_cases q1 : -2147483648 ≤ v.f1
          · by_cases q3 : v.f1 ≤ 2147483647
            · rw [if_pos q1, decide_eq_true q1, decide_eq_true q3, Option.bind_some, if_pos rfl]
              by_cases q2 : v.f2.length = 0
              · rw [if_pos (by omega), Ec]; simp [q2]
              · rw [if_neg (by omega)]; simp [show ¬ v.f2 = [] from fun e => q2 (by rw [e]; rfl)]
            · rw [if_pos q1, decide_eq_false q3]; simp
          · rw [if_neg q1, decide_eq_false q1]; simp
        · rw [if_neg k3]
          refine Ev.step (f := fun _ => some (decide (v.f2.length = 0) && decide (v.f3.length = 0) && (decide (0 ≤ v.f1) && decide (v.f1 < (x.f3.length : Int))))) (fun k => ?_) (Ev.now _)
          rw [CX.j0, if_neg (by simp), if_neg k1, if_neg k2, if_neg k3, if_neg (by omega), if_pos (show x.f0 = 5 by omega)]
          by_cases q1 : 0 ≤ v.f1
          · by_cases q3 : v.f1 < (x.f3.length : Int)
            · rw [if_pos q1, if_pos q3, decide_eq_true q1, decide_eq_true q3]
              by_cases q2 : v.f2.length = 0
              · rw [if_pos (by omega), Ec]; simp [q2]
              · rw [if_neg (by omega)]; simp [show ¬ v.f2 = [] from fun e => q2 (by rw [e]; rfl)]
            · rw [if_pos q1, if_neg q3, decide_eq_false q3]; simp
          · rw [if_neg q1, decide_eq_false q1]; simp
  · have e : Ed x v = false := by unfold Ed; rw [decide_eq_false h0]; rfl
    rw [e]
    exact Ev.step (f := fun _ => some false) (fun k => by rw [CX.j0, if_pos (by simpa using h0)]) (Ev.now _)
theorem NR (x : S26) (v : S30) (a : scB x = true) (b : x.f3.length ≤ maxLen) : Ev (fun k => Cm.f k x.f0 x.f1 x.f2 x.f3 x.f4 v.f0 v.f1 v.f2 v.f3) (Ed x v) := by
  unfold Cm.f
  refine Ev.bind (KE x (II x a) b) ?_
  rw [a]
  exact Ev.congr (fun k => by rw [if_pos rfl]) (Ev.bind (O9 x v a) (Ev.now _))
theorem JN (n : Nat) (x : S26) (d : okT n x) (v : S30) (j : okV n v) (c : scB x = true) : Ev (fun k => CX.f k x.f0 x.f1 x.f2 x.f3 x.f4 v.f0 v.f1 v.f2 v.f3) (Ed x v) := by
  cases n with
  | zero => exact d.elim
  | succ n =>
    obtain ⟨_, _, e, _, i, _, _⟩ := d
    obtain ⟨_, _, g, a, _, _⟩ := j
    refine Ev.step (fun k => by rw [CX.f]) (Ev.bind (NC x (II x c) e i) ?_)
    rw [c]
    refine Ev.congr (fun k => by rw [if_pos rfl]) (L9 x v c a fun b h => ?_)
    have := g b h
    unfold Lit.wf at this
    rw [Bool.and_eq_true, decide_eq_true_iff] at this
    exact this.1
def GU (x : S26) (l : List S63) : Nat → Nat → Int → Bool
  | 0, _, _ => true
  | d + 1, i, u => !decide ((AA l (i : Int)).f0 ≤ u) && (!decide ((AA l (i : Int)).f0 > 2000000) && (Ed x (AA l (i : Int)).f1 && GU x l d (i + 1) (AA l (i : Int)).f0))
theorem Iq {l : List S63} {i : Nat} (h : i < l.length) : AA l (i : Int) ∈ l := by
  unfold AA
  rw [List.getD_eq_getElem?_getD, show ((i : Int)).toNat = i from rfl, List.getElem?_eq_getElem h]
  exact List.getElem_mem h
theorem Pv (x : S26) (b : scB x = true) (a : x.f3.length ≤ maxLen) (l : List S63) (e : l.length ≤ maxLen) : ∀ d i u, i + d = l.length → Ev (fun k => BK.l0 k u l (l.length : Int) (i : Int) x.f0 x.f1 x.f2 x.f3 x.f4) (GU x l d i u) := by
  have hm := ml
  intro d
  induction d with
  | zero =>
    intro i u hi
    exact Ev.step (f := fun _ => some true) (fun k => by rw [BK.l0, if_neg (by omega)]) (Ev.now _)
  | succ d c =>
    intro i u hi
    simp only [GU]
    by_cases h1 : (AA l (i : Int)).f0 ≤ u
    · exact Ev.step (f := fun _ => some false) (fun k => by rw [BK.l0, if_pos (by omega), if_pos (by omega), if_pos (by omega), if_pos h1]) (by simpa [h1] using Ev.now _)
    by_cases h2 : (AA l (i : Int)).f0 > 2000000
    · exact Ev.step (f := fun _ => some false) (fun k => by rw [BK.l0, if_pos (by omega), if_pos (by omega), if_pos (by omega), if_neg h1, if_pos h2]) (by simpa [h2] using Ev.now _)
    rw [decide_eq_false h1, decide_eq_false h2]
    refine Ev.step (fun k => by rw [BK.l0, if_pos (by omega), if_pos (by omega), if_pos (by omega), if_neg h1, if_neg h2, CY (by omega) (by omega)]) (Ev.bind (NR x (AA l (i : Int)).f1 b a) ?_)
    cases Ed x (AA l (i : Int)).f1 with
    | false => exact Ev.congr (fun k => by rw [if_neg (by simp)]) (by simpa using Ev.now _)
    | true => exact Ev.congr (fun k => by rw [if_pos rfl]) (by simpa using c (i + 1) _ (by omega))
theorem NS (n : Nat) (x : S26) (c : okT n x) (a : scB x = true) (l : List S63) (g : l.length ≤ maxLen) (b : ∀ y ∈ l, okV n y.f1) : ∀ d i u, i + d = l.length → Ev (fun k => DV.l0 k u l (l.length : Int) (i : Int) x.f0 x.f1 x.f2 x.f3 x.f4) (GU x l d i u) := by
  have hm := ml
  intro d
  induction d with
  | zero =>
    intro i u hi
    exact Ev.step (f := fun _ => some true) (fun k => by rw [DV.l0, if_neg (by omega)]) (Ev.now _)
  | succ d e =>
    intro i u hi
    simp only [GU]
    by_cases h1 : (AA l (i : Int)).f0 ≤ u
    · exact Ev.step (f := fun _ => some false) (fun k => by rw [DV.l0, if_pos (by omega), if_pos (by omega), if_pos (by omega), if_pos h1]) (by simpa [h1] using Ev.now _)
    by_cases h2 : (AA l (i : Int)).f0 > 2000000
    · exact Ev.step (f := fun _ => some false) (fun k => by rw [DV.l0, if_pos (by omega), if_pos (by omega), if_pos (by omega), if_neg h1, if_pos h2]) (by simpa [h2] using Ev.now _)
    rw [decide_eq_false h1, decide_eq_false h2]
    refine Ev.step (fun k => by rw [DV.l0, if_pos (by omega), if_pos (by omega), if_pos (by omega), if_neg h1, if_neg h2, CY (by omega) (by omega)]) (Ev.bind (JN n x c (AA l (i : Int)).f1 (b _ (Iq (by omega))) a) ?_)
    cases Ed x (AA l (i : Int)).f1 with
    | false => exact Ev.congr (fun k => by rw [if_neg (by simp)]) (by simpa using Ev.now _)
    | true => exact Ev.congr (fun k => by rw [if_pos rfl]) (by simpa using e (i + 1) _ (by omega))
def FC (x : S26) (v : S30) (l : List S63) : Bool := scB x && (Ed x v && (decide (l.length ≤ 64) && GU x l l.length 0 (-1)))
theorem NT (l : List S63) : (decide ((l.length : Int) > 64)) = !decide (l.length ≤ 64) := by rw [Bool.eq_iff_iff]; simp; omega
theorem Ob (x : S26) (a : x.f3.length ≤ maxLen) (v : S30) (l : List S63) (c : l.length ≤ maxLen) : Ev (fun k => BK.f k x.f0 x.f1 x.f2 x.f3 x.f4 v.f0 v.f1 v.f2 v.f3 l) (FC x v l) := by
  unfold BK.f FC
  have b : Ev (fun k => BK.j0 k true x.f0 x.f1 x.f2 x.f3 x.f4 v.f0 v.f1 v.f2 v.f3 l) false := Ev.step (f := fun _ => some false) (fun k => by rw [BK.j0, if_pos rfl]) (Ev.now _)
  refine Ev.bind (Lu x a) ?_
  cases hs : scB x with
  | false => exact Ev.congr (fun k => by rw [if_neg (by simp)]) (by simpa using b)
  | true =>
    refine Ev.congr (fun k => by rw [if_pos rfl]) (Ev.bind (NR x v hs a) ?_)
    cases Ed x v with
    | false => exact Ev.congr (fun k => by rw [if_neg (by simp)]) (by simpa using b)
    | true =>
      refine Ev.congr (fun k => by rw [if_pos rfl, NT]) ?_
      cases decide (l.length ≤ 64) with
      | false => simpa using b
      | true => exact Ev.step (f := fun k => BK.l0 k (-1) l (l.length : Int) ((0 : Nat) : Int) x.f0 x.f1 x.f2 x.f3 x.f4) (fun k => by rw [BK.j0, if_neg (by simp)]; rfl) (by simpa using Pv x hs a l c l.length 0 (-1) (by omega))
theorem KH (n : Nat) (x : S26) (b : okT n x) (v : S30) (d : okV n v) (l : List S63) (c : l.length ≤ maxLen) (e : ∀ y ∈ l, okV n y.f1) : Ev (fun k => DV.f k x.f0 x.f1 x.f2 x.f3 x.f4 v.f0 v.f1 v.f2 v.f3 l) (FC x v l) := by
  unfold DV.f FC
  have a : Ev (fun k => DV.j0 k true x.f0 x.f1 x.f2 x.f3 x.f4 v.f0 v.f1 v.f2 v.f3 l) false := Ev.step (f := fun _ => some false) (fun k => by rw [DV.j0, if_pos rfl]) (Ev.now _)
  refine Ev.bind (Kq n x b) ?_
  cases hs : scB x with
  | false => exact Ev.congr (fun k => by rw [if_neg (by simp)]) (by simpa using a)
  | true =>
    refine Ev.congr (fun k => by rw [if_pos rfl]) (Ev.bind (JN n x b v d hs) ?_)
    cases Ed x v with
    | false => exact Ev.congr (fun k => by rw [if_neg (by simp)]) (by simpa using a)
    | true =>
      refine Ev.congr (fun k => by rw [if_pos rfl, NT]) ?_
      cases decide (l.length ≤ 64) with
      | false => simpa using a
      | true => exact Ev.step (f := fun k => DV.l0 k (-1) l (l.length : Int) ((0 : Nat) : Int) x.f0 x.f1 x.f2 x.f3 x.f4) (fun k => by rw [DV.j0, if_neg (by simp)]; rfl) (by simpa using NS n x b hs l c e l.length 0 (-1) (by omega))
end Go.Proofs.Ytojankgmedccdaa.Pure
end
section
namespace Go.Proofs.Ytojankgmedccdaa.Pure
open Go.RowKit Own PTy Hand PIs RowV YtojankgmedccdaaW.PrintWords YtojankgmedccdaaW.PrintLast
open PAw (r01Same.f r01Same.l0)
open PGn
def ExQ {α : Type} (g : Nat → Option α) (Q : α → Prop) : Prop := ∃ t, Ev g t ∧ Q t
section
variable {α β : Type} {g f : Nat → Option α} {Q : α → Prop}
theorem ExQ.now (t : α) (h : Q t) : ExQ (fun _ => some t) Q := ⟨t, Ev.now t, h⟩
theorem ExQ.step (h : ∀ k, g (k + 1) = f k) (a : ExQ f Q) : ExQ g Q := ⟨a.choose, Ev.step h a.choose_spec.1, a.choose_spec.2⟩
theorem ExQ.congr (h : ∀ k, g k = f k) (a : ExQ f Q) : ExQ g Q := ⟨a.choose, Ev.congr h a.choose_spec.1, a.choose_spec.2⟩
theorem ExQ.ite {c : Prop} [Decidable c] (h1 : c → ExQ g Q) (a : ¬ c → ExQ f Q) : ExQ (fun k => if c then g k else f k) Q := by
  by_cases h : c
  · simpa [h] using h1 h
  · simpa [h] using a h
theorem ExQ.bind {R : β → Prop} {g : Nat → Option β} {f : Nat → β → Option α} (h : ExQ g R) (b : ∀ t, R t → ExQ (fun k => f k t) Q) : ExQ (fun k => (g k).bind (f k)) Q := by
  obtain ⟨t, d, hr⟩ := h
  obtain ⟨r, a, c⟩ := b t hr
  exact ⟨r, Ev.bind d a, c⟩
theorem ExQ.of (h : Ex g) : ExQ g (fun _ => True) := ⟨h.choose, h.choose_spec, trivial⟩
end
def smV : Nat → S30 → Prop
  | 0, _ => False
  | m + 1, v => v.f2.length ≤ 9000 ∧ v.f3.length ≤ 9000 ∧ ∀ y ∈ v.f3, smV m y
theorem KI : ∀ m (v : S30), okV m v → ∀ a : Int, 0 ≤ a → a ≤ 9000 → ExQ (fun k => CU.f k v.f0 v.f1 v.f2 v.f3 a) (fun r => r < a ∧ (0 ≤ r → smV m v))
  | 0, _, h, _, _, _ => h.elim
  | m + 1, v, ⟨_, _, _, h4, h5, h6⟩, a, ha, ha9 => by
    have hm := ml
    refine ExQ.step (fun k => by rw [CU.f]) ?_
    obtain ⟨g, w⟩ : ∃ g, g = a - 1 - (v.f2.length : Int) := ⟨_, rfl⟩
    have z : wrap64 (a - wrap64 (1 + (v.f2.length : Int))) = g := by unfold wrap64; omega
    rw [z]
    have key : ∀ d i, i + d = v.f3.length → ∀ b : Int, b ≤ 9000 → ExQ (fun k => CU.l0 k b v.f3 (v.f3.length : Int) (i : Int)) (fun r => r ≤ b ∧ (0 ≤ r → (d : Int) ≤ b - r ∧ ∀ j, i ≤ j → j < v.f3.length → smV m (AB v.f3 (j : Int)))) := by
      intro d
      induction d with
      | zero =>
        intro i hi b s
        refine ExQ.step (f := fun _ => some b) (fun k => by rw [CU.l0, if_neg (by omega)]) (ExQ.now b ⟨by omega, fun _ => ⟨by omega, fun j h1 q => by omega⟩⟩)
      | succ d D =>
        intro i hi b s
        by_cases hn : b < 0
        · exact ExQ.step (f := fun _ => some b) (fun k => by rw [CU.l0, if_pos (by omega), if_pos (by omega), if_pos (by omega), if_pos hn]) (ExQ.now b ⟨by omega, fun h => by omega⟩)
        · refine ExQ.step (fun k => by rw [CU.l0, if_pos (by omega), if_pos (by omega), if_pos (by omega), if_neg hn, CY (n := (i : Int) + 1) (by omega) (by omega)]) (ExQ.bind (KI m _ (h6 _ (Fx (i := i) (by omega))) b (by omega) s) fun t x => ?_)
          obtain ⟨r, hr, o, c⟩ := D (i + 1) (by omega) t (by omega)
          refine ⟨r, hr, by omega, fun l => ?_⟩
          obtain ⟨G, p⟩ := c l
          refine ⟨by omega, fun j h1 q => ?_⟩
          by_cases e : j = i
          · rw [e]; exact x.2 (by omega)
          · exact p j (by omega) q
    obtain ⟨r, hr, o, c⟩ := key v.f3.length 0 (by omega) g (by omega)
    refine ⟨r, hr, by omega, fun l => ?_⟩
    obtain ⟨G, p⟩ := c l
    refine ⟨by omega, by omega, fun y B => ?_⟩
    obtain ⟨j, u, e⟩ := List.mem_iff_getElem.mp B
    have := p j (by omega) u
    unfold AB at this
    rw [List.getD_eq_getElem?_getD, show ((j : Int)).toNat = j from rfl, List.getElem?_eq_getElem u] at this
    exact e ▸ this
theorem NU (l : List S30) (q : l.length ≤ maxLen) (m : Nat) (g : ∀ y ∈ l, okV m y) : ExQ (fun k => BC.l2 k l (l.length : Int) 0) (fun t => t = true → ∀ j, j < l.length → smV m (AB l (j : Int))) := by
  have hm := ml
  have key : ∀ d i, i + d = l.length → ExQ (fun k => BC.l2 k l (l.length : Int) (i : Int)) (fun t => t = true → ∀ j, i ≤ j → j < l.length → smV m (AB l (j : Int))) := by
    intro d
    induction d with
    | zero => exact fun i hi => ExQ.step (f := fun _ => some true) (fun k => by rw [BC.l2, if_neg (by omega)]) (ExQ.now _ fun _ j h1 b => by omega)
    | succ d o =>
      intro i hi
      refine ExQ.step (fun k => by rw [BC.l2, if_pos (by omega), if_pos (by omega), if_pos (by omega), CY (n := (i : Int) + 1) (by omega) (by omega)]) (ExQ.bind (KI m _ (g _ (Fx (i := i) (by omega))) 9000 (by omega) (by omega)) fun t c => ExQ.ite (fun _ => ExQ.now false (by simp)) fun p => ?_)
      obtain ⟨r, hr, a⟩ := o (i + 1) (by omega)
      refine ⟨r, hr, fun e j h1 b => ?_⟩
      by_cases ej : j = i
      · rw [ej]; exact c.2 (by omega)
      · exact a e j (by omega) b
  obtain ⟨r, hr, a⟩ := key l.length 0 (by omega)
  exact ⟨r, hr, fun e j h => a e j (by omega) h⟩
theorem NV (n : Nat) (x : S26) (e : okT n x) (l : List S30) (o : l.length ≤ maxLen) (m : Nat) (p : ∀ y ∈ l, okV m y) : ExQ (fun k => BC.f k x.f0 x.f1 x.f2 x.f3 x.f4 l) (fun t => t = true → ∀ j, j < l.length → smV m (AB l (j : Int))) := by
  have hm := ml
  cases n with
  | zero => exact e.elim
  | succ n =>
    obtain ⟨_, _, _, _, q, r, h⟩ := e
    have h1 : ∀ d i, i + d = x.f4.length → ExQ (fun k => BC.l1 k l x.f4 (x.f4.length : Int) (i : Int)) (fun t => t = true → ∀ j, j < l.length → smV m (AB l (j : Int))) := by
      intro d
      induction d with
      | zero => exact fun i hi => ExQ.step (fun k => by rw [BC.l1, if_neg (by omega)] <;> rfl) (NU l o m p)
      | succ d c =>
        intro i hi
        exact ExQ.step (fun k => by rw [BC.l1, if_pos (by omega), if_pos (by omega), if_pos (by omega), CY (n := (i : Int) + 1) (by omega) (by omega)] <;> rfl) (ExQ.ite (fun _ => ExQ.now false (by simp)) fun _ => ExQ.bind (ExQ.of (J8 n _ (h _ (Io (i := i) (by omega))) [] (by simp) 0 (by simp))) fun t _ => ExQ.ite (fun _ => c (i + 1) (by omega)) fun _ => ExQ.now false (by simp))
    have g : ∀ d i, i + d = x.f3.length → ExQ (fun k => BC.l0 k l x.f3 (x.f3.length : Int) (i : Int) x.f0 x.f1 x.f2 x.f3 x.f4) (fun t => t = true → ∀ j, j < l.length → smV m (AB l (j : Int))) := by
      intro d
      induction d with
      | zero => exact fun i hi => ExQ.step (fun k => by rw [BC.l0, if_neg (by omega)] <;> rfl) (h1 x.f4.length 0 (by omega))
      | succ d c =>
        intro i hi
        exact ExQ.step (fun k => by rw [BC.l0, if_pos (by omega), if_pos (by omega), if_pos (by omega), CY (n := (i : Int) + 1) (by omega) (by omega)] <;> rfl) (ExQ.ite (fun _ => ExQ.now false (by simp)) fun _ => c (i + 1) (by omega))
    have a : ∀ b, ExQ (fun k => BC.j0 k l b x.f0 x.f1 x.f2 x.f3 x.f4) (fun t => t = true → ∀ j, j < l.length → smV m (AB l (j : Int))) := fun b =>
      ExQ.step (fun k => by rw [BC.j0] <;> rfl) (ExQ.ite (fun _ => ExQ.now false (by simp)) fun _ => g x.f3.length 0 (by omega))
    exact ExQ.step (fun k => by rw [BC.f]) (ExQ.ite (fun _ => a _) fun _ => ExQ.ite (fun _ => a _) fun _ => a _)
theorem PD (n : Nat) (x : S26) (G : okT n x) (v : S30) (D : okV n v) (l : List S63) (z : ∀ y ∈ l, okV n y.f1) (a : List S30) (s : ∀ y ∈ a, okV n y) :
    ExQ (fun k => Cx.f k x.f0 x.f1 x.f2 x.f3 x.f4 v.f0 v.f1 v.f2 v.f3 l a) (fun t => t = true → l.length ≤ 80 ∧ a.length ≤ 80 ∧ smV n v ∧ (∀ y ∈ a, smV n y) ∧ ∀ y ∈ l, smV n y.f1) := by
  have hm := ml
  have m : ExQ (fun k => Cx.j0 k a true x.f0 x.f1 x.f2 x.f3 x.f4 v.f0 v.f1 v.f2 v.f3 l) (fun t => t = true → l.length ≤ 80 ∧ a.length ≤ 80 ∧ smV n v ∧ (∀ y ∈ a, smV n y) ∧ ∀ y ∈ l, smV n y.f1) :=
    ExQ.step (f := fun _ => some false) (fun k => by rw [Cx.j0, if_pos rfl]) (ExQ.now _ (by simp))
  unfold Cx.f
  by_cases h8 : (l.length : Int) > 80
  · exact ExQ.congr (fun k => by rw [if_pos h8]) m
  by_cases h9 : (a.length : Int) > 80
  · exact ExQ.congr (fun k => by rw [if_neg h8, decide_eq_true h9]) m
  refine ExQ.congr (f := fun k => Cx.j0 k a false x.f0 x.f1 x.f2 x.f3 x.f4 v.f0 v.f1 v.f2 v.f3 l) (fun k => by rw [if_neg h8, decide_eq_false h9]) ?_
  have key : ∀ d i, i + d = l.length → ∀ ys : List S30, ys.length = a.length + 1 + i → (∀ y ∈ ys, okV n y) → (∀ y ∈ (v :: a), y ∈ ys) → (∀ j, j < i → (AA l (j : Int)).f1 ∈ ys) → ExQ (fun k => Cx.l0 k ys l (l.length : Int) (i : Int) x.f0 x.f1 x.f2 x.f3 x.f4) (fun t => t = true → l.length ≤ 80 ∧ a.length ≤ 80 ∧ smV n v ∧ (∀ y ∈ a, smV n y) ∧ ∀ y ∈ l, smV n y.f1) := by
    intro d
    induction d with
    | zero =>
      intro i hi ys w r c q
      refine ExQ.step (fun k => by rw [Cx.l0, if_neg (by omega)]) (ExQ.bind (NV n x G ys (by omega) n r) fun t B => ⟨t, Ev.now t, fun e => ?_⟩)
      have b : ∀ y ∈ ys, smV n y := by
        intro y u
        obtain ⟨j, g, p⟩ := List.mem_iff_getElem.mp u
        have := B e j g
        unfold AB at this
        rw [List.getD_eq_getElem?_getD, show ((j : Int)).toNat = j from rfl, List.getElem?_eq_getElem g] at this
        exact p ▸ this
      refine ⟨by omega, by omega, b _ (c v (by simp)), fun y h => b _ (c y (by simp [h])), fun y h => ?_⟩
      obtain ⟨j, g, p⟩ := List.mem_iff_getElem.mp h
      have := b _ (q j (by omega))
      unfold AA at this
      rw [List.getD_eq_getElem?_getD, show ((j : Int)).toNat = j from rfl, List.getElem?_eq_getElem g] at this
      exact p ▸ this
    | succ d I =>
      intro i hi ys w r c q
      have o : AA l (i : Int) ∈ l := by
        unfold AA
        rw [List.getD_eq_getElem?_getD, show ((i : Int)).toNat = i from rfl, List.getElem?_eq_getElem (by omega)]
        exact List.getElem_mem _
      refine ExQ.step (fun k => by rw [Cx.l0, if_pos (by omega), if_pos (by omega), if_pos (by omega), if_pos (by omega), CY (n := (i : Int) + 1) (by omega) (by omega), JM] <;> rfl) (I (i + 1) (by omega) (ys ++ [(AA l (i : Int)).f1]) (by rw [List.length_append, w]; rfl) (fun y h => ?_) (fun y h => List.mem_append_left _ (c y h)) (fun j h => ?_))
      · rcases List.mem_append.mp h with h | h
        · exact r y h
        · rw [List.mem_singleton.mp h]; exact z _ o
      · by_cases e : j = i
        · rw [e]; exact List.mem_append_right _ (by simp)
        · exact List.mem_append_left _ (q j (by omega))
  refine ExQ.step (fun k => ?_) (key l.length 0 (by omega) (v :: a) (by simp) (fun y h => ?_) (fun y h => h) (by omega))
  · rw [Cx.j0, if_neg (by simp), Option.bind_some, if_pos (by simp; omega), JM]; rfl
  · rcases List.mem_cons.mp h with rfl | h
    · exact D
    · exact s y h
theorem NW {l : List S30} {i : Nat} (h : i < l.length) : AB l (i : Int) = l[i] := by
  unfold AB
  rw [List.getD_eq_getElem?_getD, show ((i : Int)).toNat = i from rfl, List.getElem?_eq_getElem h]; rfl
theorem GV {l : List S63} {i : Nat} (h : i < l.length) : AA l (i : Int) = l[i] := by
  unfold AA
  rw [List.getD_eq_getElem?_getD, show ((i : Int)).toNat = i from rfl, List.getElem?_eq_getElem h]; rfl
theorem Jk : ∀ m (v : S30), smV m v → Ev (fun k => Bp.f k v.f0 v.f1 v.f2 v.f3) (v.f0, v.f1, v.f2, v.f3)
  | 0, _, h => h.elim
  | m + 1, v, ⟨h1, h2, h3⟩ => by
    have hm := ml
    refine Ev.step (fun k => by rw [Bp.f, Option.bind_some, if_pos (by simp; omega)]) ?_
    have key : ∀ d i, i + d = v.f3.length → Ev (fun k => Bp.l0 k v.f3 (v.f3.length : Int) (i : Int) v.f0 v.f1 v.f2 (v.f3.take i)) (v.f0, v.f1, v.f2, v.f3) := by
      intro d
      induction d with
      | zero =>
        intro i hi
        rw [List.take_of_length_le (by omega)]
        exact Ev.step (f := fun _ => some (v.f0, v.f1, v.f2, v.f3)) (fun k => by rw [Bp.l0, if_neg (by omega)]) (Ev.now _)
      | succ d b =>
        intro i hi
        have a : i < v.f3.length := by omega
        refine Ev.step (fun k => by rw [Bp.l0, if_pos (by omega), if_pos (by omega), if_pos (by omega), CY (n := (i : Int) + 1) (by omega) (by omega)]) (Ev.bind (Jk m _ (h3 _ (Fx a))) ?_)
        refine Ev.congr (f := fun k => Bp.l0 k v.f3 (v.f3.length : Int) ((i + 1 : Nat) : Int) v.f0 v.f1 v.f2 (v.f3.take (i + 1))) (fun k => ?_) (b (i + 1) (by omega))
        rw [if_pos (by rw [List.length_take]; omega), List.take_succ_eq_append_getElem a, JM, NW a]; rfl
    simpa using key v.f3.length 0 (by omega)
theorem NY (x : S63) : (⟨x.f0, x.f1⟩ : S63) = x := by cases x; rfl
theorem PE (m : Nat) (v : S30) (b : smV m v) (l : List S63) (g : l.length ≤ 100) (c : ∀ y ∈ l, smV m y.f1) : Ev (fun k => Cj.f k v.f0 v.f1 v.f2 v.f3 l) (v.f0, v.f1, v.f2, v.f3, l) := by
  have hm := ml
  unfold Cj.f
  refine Ev.bind (Jk m v b) ?_
  have key : ∀ d i, i + d = l.length → Ev (fun k => Cj.l0 k l (l.length : Int) (i : Int) v.f0 v.f1 v.f2 v.f3 (l.take i)) (v.f0, v.f1, v.f2, v.f3, l) := by
    intro d
    induction d with
    | zero =>
      intro i hi
      rw [List.take_of_length_le (by omega)]
      exact Ev.step (f := fun _ => some (v.f0, v.f1, v.f2, v.f3, l)) (fun k => by rw [Cj.l0, if_neg (by omega)]) (Ev.now _)
    | succ d e =>
      intro i hi
      have a : i < l.length := by omega
      refine Ev.step (fun k => by rw [Cj.l0, if_pos (by omega), if_pos (by omega), if_pos (by omega), CY (n := (i : Int) + 1) (by omega) (by omega)]) (Ev.bind (Jk m _ (c _ (Iq a))) ?_)
      refine Ev.congr (f := fun k => Cj.l0 k l (l.length : Int) ((i + 1 : Nat) : Int) v.f0 v.f1 v.f2 v.f3 (l.take (i + 1))) (fun k => ?_) (e (i + 1) (by omega))
      rw [if_pos (by rw [List.length_take]; omega), List.take_succ_eq_append_getElem a, JM, NY, GV a]; rfl
  simpa using key l.length 0 (by omega)
theorem NZ (l : List Int) (b : l.length ≤ maxLen) : Ev (fun k => r01Same.f k l l) true := by
  have hm := ml
  have key : ∀ d i, i + d = l.length → Ev (fun k => r01Same.l0 k l l (l.length : Int) (i : Int)) true := by
    intro d
    induction d with
    | zero => intro i hi; exact Ev.step (f := fun _ => some true) (fun k => by rw [r01Same.l0, if_neg (by omega)]) (Ev.now _)
    | succ d a =>
      intro i hi
      refine Ev.step (f := fun k => r01Same.l0 k l l (l.length : Int) ((i + 1 : Nat) : Int)) (fun k => ?_) (a (i + 1) (by omega))
      rw [r01Same.l0, if_pos (by omega), if_pos (by omega), if_pos (by omega), if_pos (by omega), if_pos rfl, CY (by omega) (by omega)]
      rfl
  exact Ev.congr (fun k => by unfold r01Same.f; rw [if_pos rfl]; rfl) (key l.length 0 (by omega))
theorem Ir : ∀ m (v : S30), smV m v → Ev (fun k => PGn.Bd.f k v.f0 v.f1 v.f2 v.f3 v.f0 v.f1 v.f2 v.f3) true
  | 0, _, h => h.elim
  | m + 1, v, ⟨h1, h2, h3⟩ => by
    have hm := ml
    refine Ev.step (fun k => by rw [PGn.Bd.f, if_pos rfl, if_pos rfl]) (Ev.bind (NZ v.f2 (by omega)) (Ev.congr (fun k => by rw [if_pos rfl, bne_self_eq_false]) (Ev.step (fun k => by rw [PGn.Bd.j0, if_neg (by simp)]) ?_)))
    have key : ∀ d i, i + d = v.f3.length → Ev (fun k => PGn.Bd.l0 k (v.f3.length : Int) (i : Int) v.f0 v.f1 v.f2 v.f3 v.f0 v.f1 v.f2 v.f3) true := by
      intro d
      induction d with
      | zero => intro i hi; exact Ev.step (f := fun _ => some true) (fun k => by rw [PGn.Bd.l0, if_neg (by omega)]) (Ev.now _)
      | succ d a =>
        intro i hi
        exact Ev.step (fun k => by rw [PGn.Bd.l0, if_pos (by omega), if_pos (by omega), if_pos (by omega), if_pos (by omega), CY (n := (i : Int) + 1) (by omega) (by omega)]) (Ev.bind (Ir m _ (h3 _ (Fx (i := i) (by omega)))) (Ev.congr (fun k => by rw [if_pos rfl]; rfl) (a (i + 1) (by omega))))
    exact key v.f3.length 0 (by omega)
theorem Kv (m : Nat) (v : S30) (a : smV m v) (l : List S63) (e : l.length ≤ maxLen) (b : ∀ y ∈ l, smV m y.f1) : Ev (fun k => Bw.f k v.f0 v.f1 v.f2 v.f3 l v.f0 v.f1 v.f2 v.f3 l) true := by
  have hm := ml
  unfold Bw.f
  refine Ev.bind (Ir m v a) (Ev.congr (fun k => by rw [if_pos rfl, bne_self_eq_false]) (Ev.step (fun k => by rw [Bw.j0, if_neg (by simp)]) ?_))
  have key : ∀ d i, i + d = l.length → Ev (fun k => Bw.l0 k (l.length : Int) (i : Int) v.f0 v.f1 v.f2 v.f3 l v.f0 v.f1 v.f2 v.f3 l) true := by
    intro d
    induction d with
    | zero => intro i hi; exact Ev.step (f := fun _ => some true) (fun k => by rw [Bw.l0, if_neg (by omega)]) (Ev.now _)
    | succ d c =>
      intro i hi
      exact Ev.step (fun k => by rw [Bw.l0, if_pos (by omega), if_pos (by omega), if_pos (by omega), if_pos (by omega), if_pos rfl, CY (n := (i : Int) + 1) (by omega) (by omega)]) (Ev.bind (Ir m _ (b _ (Iq (i := i) (by omega)))) (Ev.congr (fun k => by rw [if_pos rfl]; rfl) (c (i + 1) (by omega))))
  exact key l.length 0 (by omega)
end Go.Proofs.Ytojankgmedccdaa.Pure
end
section
namespace Go.Proofs.Ytojankgmedccdaa.Pure
open Go.RowKit Own PTy Hand PIs RowV YtojankgmedccdaaW.PrintWords YtojankgmedccdaaW.PrintLast
open PAw (drivers_copied.f logic_isBit.f logic_both.f logic_both.j0 logic_Resolve.f logic_Resolve.l0 r01Same.f r01Same.l0)
open PRs
end Go.Proofs.Ytojankgmedccdaa.Pure
end
section
namespace Go.Proofs.Ytojankgmedccdaa.Pure
open Go.RowKit Own PTy Hand PIs RowV YtojankgmedccdaaW.PrintWords YtojankgmedccdaaW.PrintLast
open PAw (drivers_copied.f logic_isBit.f logic_both.f logic_both.j0 logic_Resolve.f logic_Resolve.l0 r01Same.f r01Same.l0)
open PRs
theorem JO (x : S26) (v : S30) (h : Ed x v = true) : v.f0 = x.f0 ∧ v.f3 = [] ∧ (x.f0 = 1 → v.f2.length = 1) ∧ (x.f0 ≠ 1 → v.f2 = []) ∧ ∀ b ∈ v.f2, b ≤ 3 := by
  unfold Ed at h
  rw [Bool.and_eq_true, decide_eq_true_iff] at h
  obtain ⟨c, h⟩ := h
  by_cases k1 : x.f0 = 1
  · rw [if_pos k1] at h
    simp only [Bool.and_eq_true, decide_eq_true_iff] at h
    obtain ⟨⟨_, g⟩, hi, d⟩ := h
    refine ⟨c, List.length_eq_zero_iff.mp g, fun _ => d, fun h => absurd k1 h, fun b a => ?_⟩
    unfold isF at hi
    simp only [Bool.and_eq_true, List.all_eq_true, decide_eq_true_iff] at hi
    exact hi.2 b a
  · rw [if_neg k1] at h
    simp only [Bool.and_eq_true, decide_eq_true_iff] at h
    have e := List.length_eq_zero_iff.mp h.1.1
    exact ⟨c, List.length_eq_zero_iff.mp h.1.2, fun h => absurd h k1, fun _ => e, fun b a => by rw [e] at a; cases a⟩
theorem OJ (l : List Int) (h : l.length = 1) : [rd l 0] = l := by
  match l, h with
  | [a], _ => rfl
end Go.Proofs.Ytojankgmedccdaa.Pure
end
section
namespace Go.Proofs.Ytojankgmedccdaa.Pure
open Go.RowKit Own PTy Hand PIs RowV YtojankgmedccdaaW.PrintWords YtojankgmedccdaaW.PrintLast
open PAw (drivers_behind.f drivers_copied.f api_Bit_96.f api_Bit_96.l0)
open PGn
def okL (x : S26) : Int → List S63 → Prop
  | _, [] => True
  | u, c :: r => u < c.f0 ∧ c.f0 ≤ 2000000 ∧ Ed x c.f1 = true ∧ okL x c.f0 r
theorem MB (x : S26) (l : List S63) : ∀ d i u, i + d = l.length → GU x l d i u = true → okL x u (l.drop i) := by
  intro d
  induction d with
  | zero => intro i u hi _; rw [List.drop_eq_nil_of_le (by omega)]; trivial
  | succ d b =>
    intro i u hi h
    have a : i < l.length := by omega
    rw [List.drop_eq_getElem_cons a]
    simp only [GU, Bool.and_eq_true, Bool.not_eq_true', decide_eq_false_iff_not, GV a] at h
    exact ⟨by omega, by omega, h.2.2.1, b (i + 1) _ (by omega) h.2.2.2⟩
theorem LP {x : S26} : ∀ {u : Int} {l : List S63}, okL x u l → ∀ y ∈ l, u < y.f0 ∧ y.f0 ≤ 2000000 ∧ Ed x y.f1 = true
  | _, [], _, _, h => by cases h
  | u, c :: r, ⟨h1, h2, h3, h4⟩, y, h => by
    rcases List.mem_cons.mp h with rfl | h
    · exact ⟨h1, h2, h3⟩
    · obtain ⟨d, a, b⟩ := LP h4 y h
      exact ⟨by omega, a, b⟩
theorem KJ {x : S26} {v : S30} {l : List S63} (h : FC x v l = true) : scB x = true ∧ Ed x v = true ∧ l.length ≤ 64 ∧ okL x (-1) l := by
  unfold FC at h
  simp only [Bool.and_eq_true, decide_eq_true_iff] at h
  exact ⟨h.1, h.2.1, h.2.2.1, by simpa using MB x l l.length 0 (-1) (by omega) h.2.2.2⟩
theorem OL {x : S26} {v : S30} (h : Ed x v = true) : v.f2.length ≤ 1 := by
  obtain ⟨c, d, a, b, e⟩ := JO x v h
  by_cases k1 : x.f0 = 1
  · rw [a k1]; omega
  · rw [b k1]; simp
theorem Jl (x : S26) (v : S30) (c : Ed x v = true) : FT.f v.f0 v.f1 v.f2 v.f3 = some (v.f0, v.f1, v.f2, v.f3) := by
  obtain ⟨b, g, d, h, _⟩ := JO x v c
  unfold FT.f
  rw [g]
  by_cases k1 : x.f0 = 1
  · have a := d k1
    rw [if_pos (b.trans k1), if_pos (by omega), OJ _ a]
  · rw [if_neg (fun e => k1 (b.symm.trans e)), h k1]
theorem Ho (x : S26) (v : S30) (a : Ed x v = true) : drivers_copied.f v.f0 v.f1 v.f2 v.f3 = some (v.f0, v.f1, v.f2, v.f3) := by
  have := OL a
  unfold drivers_copied.f El.f
  rw [if_pos (by omega)]; rfl
def FZ (l : List S63) (now : Int) : Bool := match l with | [] => false | c :: _ => decide (c.f0 < now)
theorem MC (a b : Int) (m : List Int) (p : List S30) (l : List S63) (now : Int) : drivers_behind.f a b m p l now = some (FZ l now) := by
  unfold drivers_behind.f FZ
  cases l with
  | nil => rfl
  | cons c r => rw [if_pos (by simp)]; first | rfl | (rw [if_pos (by simp)]; rfl)
theorem Kw (a b : Int) (m : List Int) (p : List S30) (l : List S63) (now : Int) : EW.f a b m p l now = some (FZ l now) := by
  unfold EW.f FZ
  cases l with
  | nil => rfl
  | cons c r => rw [if_pos (by simp)]; first | rfl | (rw [if_pos (by simp)]; rfl)
end Go.Proofs.Ytojankgmedccdaa.Pure
end
section
namespace Go.Proofs.Ytojankgmedccdaa.Pure
open Go.RowKit Own PTy Hand PIs RowV YtojankgmedccdaaW.PrintWords YtojankgmedccdaaW.PrintLast
open PAw (drivers_all.f drivers_all.l0)
open PGn
theorem Na (x : S26) (l : List S63) (e : l.length ≤ 100) (b : ∀ y ∈ l, Ed x y.f1 = true) : Ev (fun k => drivers_all.f k l) l := by
  have hm := ml
  unfold drivers_all.f
  have key : ∀ d i, i + d = l.length → Ev (fun k => drivers_all.l0 k (l.take i) l (l.length : Int) (i : Int)) l := by
    intro d
    induction d with
    | zero =>
      intro i hi
      rw [List.take_of_length_le (by omega)]
      exact Ev.step (f := fun _ => some l) (fun k => by rw [drivers_all.l0, if_neg (by omega)]) (Ev.now _)
    | succ d c =>
      intro i hi
      have a : i < l.length := by omega
      have hg : AA l (i : Int) = l[i] := GV a
      refine Ev.step (f := fun k => drivers_all.l0 k (l.take (i + 1)) l (l.length : Int) ((i + 1 : Nat) : Int)) (fun k => ?_) (c (i + 1) (by omega))
      rw [drivers_all.l0, if_pos (by omega), if_pos (by omega), if_pos (by omega), hg, Ho x _ (b _ (List.getElem_mem a)), Option.bind_some, if_pos (by rw [List.length_take]; omega), CY (n := (i : Int) + 1) (by omega) (by omega), JM, NY, List.take_succ_eq_append_getElem a]; rfl
  exact Ev.congr (fun k => by rw [if_pos (by omega), if_pos (by omega)]) (by simpa using key l.length 0 (by omega))
def LQ (x : S26) (v : S30) (l : List S63) : Int × Int := if FC x v l = true then (match l with | [] => (0, 4) | c :: _ => (c.f0, 0)) else (0, 2)
theorem OM (x : S26) (a : x.f3.length ≤ maxLen) (v : S30) (l : List S63) (b : l.length ≤ maxLen) : Ev (fun k => PGn.DD.f k x.f0 x.f1 x.f2 x.f3 x.f4 v.f0 v.f1 v.f2 v.f3 l) (LQ x v l) := by
  unfold PGn.DD.f LQ
  refine Ev.bind (Ob x a v l b) ?_
  cases hp : FC x v l with
  | false => rw [if_neg (by simp)]; exact Ev.congr (fun k => by rw [if_neg (by simp)]) (Ev.now _)
  | true =>
    rw [if_pos rfl]
    cases l with
    | nil => exact Ev.congr (fun k => by rw [if_pos rfl, if_pos (by simp)]) (Ev.now _)
    | cons c r => exact Ev.congr (fun k => by rw [if_pos rfl, if_neg (by simp; omega), if_pos (by simp)]; rfl) (Ev.now _)
theorem Nb (n : Nat) (x : S26) (d : okT n x) (v : S30) (b : okV n v) (l : List S63) (a : l.length ≤ maxLen) (e : ∀ y ∈ l, okV n y.f1) : Ev (fun k => FJ.f k x.f0 x.f1 x.f2 x.f3 x.f4 v.f0 v.f1 v.f2 v.f3 l) (LQ x v l) := by
  unfold FJ.f LQ
  refine Ev.bind (KH n x d v b l a e) ?_
  cases hp : FC x v l with
  | false => rw [if_neg (by simp)]; exact Ev.congr (fun k => by rw [if_neg (by simp)]) (Ev.now _)
  | true =>
    rw [if_pos rfl]
    cases l with
    | nil => exact Ev.congr (fun k => by rw [if_pos rfl, if_pos (by simp)]) (Ev.now _)
    | cons c r => exact Ev.congr (fun k => by rw [if_pos rfl, if_neg (by simp; omega), if_pos (by simp)]; rfl) (Ev.now _)
def Ky (v : S30) (l : List S63) (now : Int) : S30 × List S63 × Bool := match l with
  | [] => (v, [], false)
  | c :: r => if c.f0 = now then (c.f1, r, true) else (v, c :: r, false)
def KL (p : S30 × List S63 × Bool) : Int × Int × List Int × List S30 × List S63 × Bool × Int := (p.1.f0, p.1.f1, p.1.f2, p.1.f3, p.2.1, p.2.2, 0)
def JP (x : S26) (v : S30) (l : List S63) (now : Int) : Int × Int × List Int × List S30 × List S63 × Bool × Int :=
  if FC x v l = true ∧ 0 ≤ now ∧ now ≤ 2000000 then (if FZ l now = true then (0, 0, [], [], [], false, 5) else KL (Ky v l now)) else (0, 0, [], [], [], false, 2)
theorem KM (x : S26) (v : S30) (l : List S63) (a : l.length ≤ 100) (b : Ed x v = true) (c : ∀ y ∈ l, Ed x y.f1 = true) : Ev (fun k => Ah.j1 k true v.f0 v.f1 v.f2 v.f3 l) (KL (v, l, false)) :=
  Ev.step (fun k => by rw [Ah.j1, if_pos rfl, Ho x v b, Option.bind_some]) (Ev.bind (Na x l a c) (Ev.now _))
theorem Nc (x : S26) (v : S30) (c : S63) (r : List S63) (e : (c :: r).length ≤ 100) (b : ∀ y ∈ c :: r, Ed x y.f1 = true) : Ev (fun k => Ah.j1 k false v.f0 v.f1 v.f2 v.f3 (c :: r)) (KL (c.f1, r, true)) := by
  have d := b c List.mem_cons_self
  refine Ev.step (f := fun k => (drivers_all.f k r).bind fun a => (some (c.f1.f0, c.f1.f1, c.f1.f2, c.f1.f3, a, true, 0))) (fun k => ?_) (Ev.bind (Na x r (by simp at e; omega) fun y h => b y (List.mem_cons_of_mem _ h)) (Ev.now _))
  rw [Ah.j1, if_neg (by simp), if_pos (by simp), show AA (c :: r) 0 = c from rfl, Ho x c.f1 d, Option.bind_some, if_pos (by simp; omega)]; rfl
theorem GX (v : S30) (c : S63) (r : List S63) (now : Int) : Ky v (c :: r) now = if c.f0 = now then (c.f1, r, true) else (v, c :: r, false) := rfl
theorem OO (x : S26) (j : x.f3.length ≤ maxLen) (v : S30) (l : List S63) (n : l.length ≤ maxLen) (now : Int) : Ev (fun k => Ah.f k x.f0 x.f1 x.f2 x.f3 x.f4 v.f0 v.f1 v.f2 v.f3 l now) (JP x v l now) := by
  have a : Ev (fun k => Ah.j0 k now true v.f0 v.f1 v.f2 v.f3 l) (0, 0, [], [], [], false, 2) := Ev.step (f := fun _ => some (0, 0, [], [], [], false, 2)) (fun k => by rw [Ah.j0, if_pos rfl]) (Ev.now _)
  unfold Ah.f JP
  refine Ev.bind (Ob x j v l n) ?_
  cases hp : FC x v l with
  | false => rw [if_neg (by simp)]; exact Ev.congr (fun k => by rw [if_neg (by simp)]) a
  | true =>
    refine Ev.congr (fun k => by rw [if_pos rfl]) ?_
    by_cases h1 : now < 0
    · rw [if_neg (by omega)]; exact Ev.congr (fun k => by rw [if_pos h1]) a
    by_cases h2 : now > 2000000
    · rw [if_neg (by omega)]; exact Ev.congr (fun k => by rw [if_neg h1, decide_eq_true h2]) a
    rw [if_pos ⟨rfl, by omega, by omega⟩]
    refine Ev.congr (fun k => by rw [if_neg h1, decide_eq_false h2]) (Ev.step (fun k => by rw [Ah.j0, if_neg (by simp), MC, Option.bind_some]) ?_)
    cases hb : FZ l now with
    | true =>
      show Ev _ ((0 : Int), (0 : Int), ([] : List Int), ([] : List S30), ([] : List S63), false, (5 : Int))
      exact Ev.congr (fun k => by rw [if_pos rfl]) (Ev.now _)
    | false =>
      obtain ⟨o, i, m, b⟩ := KJ hp
      rw [if_neg (by simp)]
      have g : ∀ y ∈ l, Ed x y.f1 = true := fun y h => (LP b y h).2.2
      cases l with
      | nil => exact Ev.congr (fun k => by rw [if_neg (by simp), if_pos (by simp)]) (KM x v [] (by simp) i g)
      | cons c r =>
        by_cases e : c.f0 = now
        · have d := Nc x v c r (by omega) g
          rw [GX, if_pos e]
          refine Ev.congr (fun k => ?_) d
          rw [if_neg (by simp), if_neg (by simp; omega), if_pos (by simp), show AA (c :: r) 0 = c from rfl, show (c.f0 != now) = false from bne_eq_false_iff_eq.mpr e]
        · have d := KM x v (c :: r) (by omega) i g
          rw [GX, if_neg e]
          refine Ev.congr (fun k => ?_) d
          rw [if_neg (by simp), if_neg (by simp; omega), if_pos (by simp), show AA (c :: r) 0 = c from rfl, show (c.f0 != now) = true from bne_iff_ne.mpr e]
theorem Iu (x : S26) (l : List S63) (j : l.length ≤ 100) (now : Int) (v : S30) (is : Bool) : ∀ d i u out, i + d = l.length → out.length ≤ i → okL x u (l.drop i) → now ≤ u →
    Ev (fun k => Bh.l0 k now is l (l.length : Int) (i : Int) v.f0 v.f1 v.f2 v.f3 out) (KL (v, out ++ l.drop i, is)) := by
  have hm := ml
  intro d
  induction d with
  | zero =>
    intro i u out hi ho _ _
    rw [List.drop_eq_nil_of_le (by omega), List.append_nil]
    exact Ev.step (f := fun _ => some (KL (v, out, is))) (fun k => by rw [Bh.l0, if_neg (by omega)]; rfl) (Ev.now _)
  | succ d h =>
    intro i u out hi ho c m
    have a : i < l.length := by omega
    rw [List.drop_eq_getElem_cons a] at c ⊢
    obtain ⟨h1, _, g, hr⟩ := c
    have hg : AA l (i : Int) = l[i] := GV a
    have e : ¬ l[i].f0 = now := by omega
    have b := h (i + 1) _ (out ++ [l[i]]) (by omega) (Nat.le_trans (Nat.le_of_eq (List.length_append ..)) (by show out.length + 1 ≤ i + 1; omega)) hr (by omega)
    rw [List.append_assoc, List.singleton_append] at b
    refine Ev.step (f := fun k => Bh.l0 k now is l (l.length : Int) ((i + 1 : Nat) : Int) v.f0 v.f1 v.f2 v.f3 (out ++ [l[i]])) (fun k => ?_) b
    rw [Bh.l0, if_pos (by omega), if_pos (by omega), if_pos (by omega), hg, if_neg e, Jl x _ g, Option.bind_some, if_pos (by omega), CY (n := (i : Int) + 1) (by omega) (by omega), JM, NY]; rfl
theorem Nf (n : Nat) (x : S26) (s : okT n x) (v : S30) (q : okV n v) (l : List S63) (p : l.length ≤ maxLen) (u : ∀ y ∈ l, okV n y.f1) (now : Int) : Ev (fun k => Bh.f k x.f0 x.f1 x.f2 x.f3 x.f4 v.f0 v.f1 v.f2 v.f3 l now) (JP x v l now) := by
  have hm := ml
  have d : Ev (fun k => Bh.j0 k now true v.f0 v.f1 v.f2 v.f3 l) (0, 0, [], [], [], false, 2) := Ev.step (f := fun _ => some (0, 0, [], [], [], false, 2)) (fun k => by rw [Bh.j0, if_pos rfl]) (Ev.now _)
  unfold Bh.f JP
  refine Ev.bind (KH n x s v q l p u) ?_
  cases hp : FC x v l with
  | false => rw [if_neg (by simp)]; exact Ev.congr (fun k => by rw [if_neg (by simp)]) d
  | true =>
    refine Ev.congr (fun k => by rw [if_pos rfl]) ?_
    by_cases h1 : now < 0
    · rw [if_neg (by omega)]; exact Ev.congr (fun k => by rw [if_pos h1]) d
    by_cases h2 : now > 2000000
    · rw [if_neg (by omega)]; exact Ev.congr (fun k => by rw [if_neg h1, decide_eq_true h2]) d
    rw [if_pos ⟨rfl, by omega, by omega⟩]
    refine Ev.congr (fun k => by rw [if_neg h1, decide_eq_false h2]) (Ev.step (fun k => by rw [Bh.j0, if_neg (by simp), Kw, Option.bind_some]) ?_)
    cases hb : FZ l now with
    | true =>
      show Ev _ ((0 : Int), (0 : Int), ([] : List Int), ([] : List S30), ([] : List S63), false, (5 : Int))
      exact Ev.congr (fun k => by rw [if_pos rfl]) (Ev.now _)
    | false =>
      obtain ⟨z, g, o, a⟩ := KJ hp
      rw [if_neg (by simp)]
      refine Ev.congr (f := fun k => Bh.l0 k now false l (l.length : Int) ((0 : Nat) : Int) v.f0 v.f1 v.f2 v.f3 []) (fun k => by rw [if_neg (by simp), Jl x v g, Option.bind_some]; rfl) ?_
      cases hl' : l with
      | nil => exact Iu x [] (by simp) now v false 0 0 now [] rfl (by simp) trivial (by omega)
      | cons c r =>
        rw [GX, ← hl']
        rw [hl'] at a hb
        have m : l[0]'(by rw [hl']; simp) = c := by simp [hl']
        unfold FZ at hb
        simp only [decide_eq_false_iff_not] at hb
        obtain ⟨_, w, i, j⟩ := a
        have hd : l.drop 1 = r := by rw [hl']; rfl
        have h : l.length = r.length + 1 := by rw [hl']; rfl
        by_cases e : c.f0 = now
        · have b := Iu x l (by omega) now c.f1 true r.length 1 c.f0 [] (by omega) (by simp) (by rw [hd]; exact j) (by omega)
          rw [hd, List.nil_append] at b
          rw [if_pos e]
          refine Ev.step (f := fun k => Bh.l0 k now true l (l.length : Int) ((1 : Nat) : Int) c.f1.f0 c.f1.f1 c.f1.f2 c.f1.f3 []) (fun k => ?_) b
          have hg : AA l ((0 : Nat) : Int) = c := by rw [GV (by omega), m]
          rw [Bh.l0, if_pos (by omega), if_pos (by omega), if_pos (by omega), hg, if_pos e, Jl x _ i, Option.bind_some, show wrap64 (((0 : Nat) : Int) + 1) = ((1 : Nat) : Int) from CY (by omega) (by omega)]
        · have b := Iu x l (by omega) now v false l.length 0 now [] (by omega) (by simp) (by rw [List.drop_zero, hl']; exact ⟨by omega, w, i, j⟩) (by omega)
          rw [List.drop_zero, List.nil_append] at b
          rw [if_neg e]
          exact b
theorem Ng (m : Nat) (x : S26) (v : S30) (a : smV m v) (l : List S63) (d : ∀ y ∈ l, smV m y.f1) (now : Int) : ∃ (u : S30) (r : List S63) (b : Bool) (e : Int), JP x v l now = (u.f0, u.f1, u.f2, u.f3, r, b, e) ∧ smV m u ∧ r.length ≤ l.length ∧ ∀ y ∈ r, smV m y.f1 := by
  have g : smV m ⟨0, 0, [], []⟩ := by cases m with | zero => exact a.elim | succ m => exact ⟨by simp, by simp, by simp⟩
  unfold JP
  split
  · split
    · exact ⟨⟨0, 0, [], []⟩, [], false, 5, rfl, g, by simp, by simp⟩
    · unfold Ky
      cases l with
      | nil => exact ⟨v, [], false, 0, rfl, a, by simp, by simp⟩
      | cons c r =>
        simp only
        split
        · exact ⟨c.f1, r, true, 0, rfl, d c List.mem_cons_self, by simp, fun y h => d y (List.mem_cons_of_mem _ h)⟩
        · exact ⟨v, c :: r, false, 0, rfl, a, by simp, d⟩
  · exact ⟨⟨0, 0, [], []⟩, [], false, 2, rfl, g, by simp, by simp⟩
theorem ME (n : Nat) (x : S26) (c : okT n x) (v : S30) (h : okV n v) (l : List S63) (d : l.length ≤ maxLen) (i : ∀ y ∈ l, okV n y.f1) (a : Int) : ∃ K, BL.f K x.f0 x.f1 x.f2 x.f3 x.f4 v.f0 v.f1 v.f2 v.f3 l a = some true := by
  have hm := ml
  have j : x.f3.length ≤ maxLen := by
    cases n with
    | zero => exact c.elim
    | succ n => exact c.2.2.2.2.1
  refine Ev.rounds (g := fun k => BL.f k x.f0 x.f1 x.f2 x.f3 x.f4 v.f0 v.f1 v.f2 v.f3 l a) ?_
  unfold BL.f
  obtain ⟨t, D, w⟩ := PD n x c v h l i [] (by simp)
  have m : Ev (fun k => (Dt.f k).bind fun t => some t) true := Ev.now true
  refine Ev.bind D ?_
  cases t with
  | false => exact Ev.congr (fun k => by rw [if_neg (by simp)]) m
  | true =>
    obtain ⟨z, _, p, _, o⟩ := w rfl
    have ho := PE n v p l (by omega) o
    obtain ⟨u, r, b, e, B, G, J, I⟩ := Ng n x v p l o a
    have q := OO x j v l d a
    have s := Nf n x c v h l d i a
    rw [B] at q s
    refine Ev.congr (fun k => by rw [if_pos rfl]) (Ev.bind ho (Ev.bind (OM x j v l d) (Ev.bind (Nb n x c v h l d i) (Ev.bind ho (Ev.bind q (Ev.bind s ?_))))))
    refine Ev.congr (fun k => by rw [if_pos rfl, if_pos rfl]) (Ev.bind (Kv n u G r (by omega) I) ?_)
    exact Ev.congr (fun k => by rw [if_pos rfl, if_pos (by simp), if_pos rfl]) m
end Go.Proofs.Ytojankgmedccdaa.Pure
end
