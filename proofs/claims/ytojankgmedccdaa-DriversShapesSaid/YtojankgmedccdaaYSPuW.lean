/- Part of the proof of LawDriversShapes: every definition and lemma is one that it names. -/
import Derived.Test.YtojankgmedccdaaYSPuG
import Derived.Test.YtojankgmedccdaaYSPIsx14
import Derived.Test.YtojankgmedccdaaYSPGnF35
import Derived.Test.YtojankgmedccdaaYSPGnF26
import Derived.Test.YtojankgmedccdaaYSPRsx5
import Derived.Test.YtojankgmedccdaaYSPGnF33
import Derived.Test.YtojankgmedccdaaYSPGnF34
import Derived.Test.YtojankgmedccdaaYSPGnF7
section
namespace Go.Proofs.Ytojankgmedccdaa.Pure
open Go.RowKit Own PTy Hand PIs RowV YtojankgmedccdaaW.PrintWords YtojankgmedccdaaW.PrintLast
theorem Oi (b : Int) (h : 0 ≤ b) : GY.f b = some (decide (b ≤ 3)) := by
  unfold GY.f
  by_cases h0 : b = 0
  · rw [if_pos h0, decide_eq_true (by omega)]
  by_cases h1 : b = 1
  · rw [if_neg h0, if_pos h1, decide_eq_true (by omega)]
  by_cases h2 : b = 2
  · rw [if_neg h0, if_neg h1, if_pos h2, decide_eq_true (by omega)]
  rw [if_neg h0, if_neg h1, if_neg h2]
  congr 1
  rw [Bool.eq_iff_iff]; simp; omega
theorem Na (l : List Int) (j : l.length ≤ maxLen) (hp : ∀ b ∈ l, 0 ≤ b) : Ev (fun k => Dw.f k l) (isF l) := by
  have hm := ml
  have key : ∀ d i, i + d = l.length → Ev (fun k => Dw.l0 k l l (l.length : Int) (i : Int)) ((l.drop i).all (fun x => decide (x ≤ 3)) && (decide (1 ≤ l.length) && decide (l.length ≤ 64))) := by
    intro d
    induction d with
    | zero =>
      intro i hi
      rw [List.drop_eq_nil_of_le (by omega)]
      refine Ev.step (f := fun _ => some (decide (1 ≤ l.length) && decide (l.length ≤ 64))) (fun k => ?_) (by simpa using Ev.now _)
      rw [Dw.l0, if_neg (by omega)]
      by_cases h : (l.length : Int) ≥ 1
      · rw [if_pos h, decide_eq_true (show 1 ≤ l.length by omega), Bool.true_and]; congr 1; rw [Bool.eq_iff_iff]; simp; omega
      · rw [if_neg h, decide_eq_false (show ¬ 1 ≤ l.length by omega)]; rfl
    | succ d g =>
      intro i hi
      have a : i < l.length := by omega
      have c : rd l (i : Int) = l[i] := by
        unfold rd
        rw [List.getD_eq_getElem?_getD, show ((i : Int)).toNat = i from rfl, List.getElem?_eq_getElem a]; rfl
      rw [List.drop_eq_getElem_cons a, List.all_cons]
      by_cases h3 : l[i] ≤ 3
      · refine Ev.step (f := fun k => Dw.l0 k l l (l.length : Int) ((i + 1 : Nat) : Int)) (fun k => ?_) (by simpa [h3] using g (i + 1) (by omega))
        rw [Dw.l0, if_pos (by omega), if_pos (by omega), if_pos (by omega), c, Oi _ (hp _ (List.getElem_mem a)), decide_eq_true h3, Option.bind_some, if_pos rfl, CR (by omega) (by omega)]
        rfl
      · refine Ev.step (f := fun _ => some false) (fun k => ?_) (by simpa [h3] using Ev.now _)
        rw [Dw.l0, if_pos (by omega), if_pos (by omega), if_pos (by omega), c, Oi _ (hp _ (List.getElem_mem a)), decide_eq_false h3, Option.bind_some, if_neg (by simp)]
  have := key l.length 0 (by omega)
  have e : ((l.drop 0).all (fun x => decide (x ≤ 3)) && (decide (1 ≤ l.length) && decide (l.length ≤ 64))) = isF l := by
    unfold isF; rw [List.drop_zero, Bool.and_comm]
  rw [e] at this
  exact this
def EI (x : S26) (v : S30) : Bool := decide (v.f0 = x.f0) && (if x.f0 = 1 then (decide (v.f1 = 0) && decide (v.f3.length = 0) && (isF v.f2 && decide (v.f2.length = 1))) else (decide (v.f2.length = 0) && decide (v.f3.length = 0) && (if x.f0 = 2 then (decide (v.f1 = 0) || decide (v.f1 = 1)) else if x.f0 = 3 then (decide (-2147483648 ≤ v.f1) && decide (v.f1 ≤ 2147483647)) else (decide (0 ≤ v.f1) && decide (v.f1 < (x.f3.length : Int))))))
theorem PK (v : S30) : Bw.f v.f0 v.f1 v.f2 v.f3 false true false = some (decide (v.f1 = 0) && decide (v.f3.length = 0)) := by
  unfold Bw.f
  by_cases h1 : v.f1 = 0 <;> simp [h1, ET]
theorem PM (v : S30) : Bw.f v.f0 v.f1 v.f2 v.f3 true false false = some (decide (v.f2.length = 0) && decide (v.f3.length = 0)) := by
  unfold Bw.f
  by_cases h1 : v.f2.length = 0 <;> simp [h1, ET]
  all_goals simp_all [ET]
theorem P7 (x : S26) (h : scB x = true) : x.f1 = 0 := by
  unfold scB Hm GJ at h
  split at h <;> simp_all
theorem IU (x : S26) (h : scB x = true) : En x = true ∨ x.f0 = 5 := by
  by_cases hx : En x = true ∨ x.f0 = 5
  · exact hx
  · rw [NM x hx] at h; cases h
theorem PN (x : S26) (v : S30) (a : scB x = true) : Ev (fun k => Bq.f k x.f0 x.f1 x.f2 x.f3 x.f4 v.f0 v.f1 v.f2 v.f3) (EI x v) := by
  have b := IU x a
  have h1 := P7 x a
  rw [EB] at b
  by_cases h0 : v.f0 = x.f0
  · unfold EI
    rw [decide_eq_true h0, Bool.true_and]
    by_cases k1 : x.f0 = 1
    · rw [if_pos k1]
      refine Ev.congr (f := fun k => Bq.j0 k x.f0 true x.f0 x.f1 x.f2 x.f3 x.f4 v.f0 v.f1 v.f2 v.f3) (fun k => ?_) (Ev.step (f := fun _ => some (decide (v.f1 = 0) && decide (v.f3.length = 0) && (isF v.f2 && decide (v.f2.length = 1)))) (fun k => ?_) (Ev.now _))
      · unfold Bq.f
        rw [if_pos h0, if_pos k1, k1]; rfl
      · rw [Bq.j0, if_pos rfl, PK, h1]
        have hm : mx 0 1 = 1 := rfl
        cases hb : (decide (v.f1 = 0) && decide (v.f3.length = 0)) with
        | false => simp
        | true =>
          rw [Option.bind_some, if_pos rfl, Fu.f, Option.bind_some, hm, Bool.true_and]
          cases isF v.f2 with
          | false => rfl
          | true =>
            rw [if_pos rfl, Bool.true_and]
            congr 1; rw [Bool.eq_iff_iff]; simp; omega
    · rw [if_neg k1]
      refine Ev.congr (f := fun k => Bq.j0 k x.f0 false x.f0 x.f1 x.f2 x.f3 x.f4 v.f0 v.f1 v.f2 v.f3) (fun k => ?_) (Ev.step (f := fun _ => some (decide (v.f2.length = 0) && decide (v.f3.length = 0) && (if x.f0 = 2 then (decide (v.f1 = 0) || decide (v.f1 = 1)) else if x.f0 = 3 then (decide (-2147483648 ≤ v.f1) && decide (v.f1 ≤ 2147483647)) else (decide (0 ≤ v.f1) && decide (v.f1 < (x.f3.length : Int)))))) (fun k => ?_) (Ev.now _))
      · unfold Bq.f
        rw [if_pos h0, if_neg k1, show (x.f0 == 4) = false from beq_eq_false_iff_ne.mpr (by omega)]
      · rw [Bq.j0, if_neg (by simp), PM]
        cases hb : (decide (v.f2.length = 0) && decide (v.f3.length = 0)) with
        | false =>
          by_cases k2 : x.f0 = 2
          · rw [if_pos k2]; rfl
          by_cases k3 : x.f0 = 3
          · rw [if_neg k2, if_pos k3]; rfl
          rw [if_neg k2, if_neg k3, if_pos (by omega)]; rfl
        | true =>
          by_cases k2 : x.f0 = 2
          · rw [if_pos k2, if_pos k2, Option.bind_some, if_pos rfl, Bool.true_and]
            by_cases q : v.f1 = 0
            · rw [if_pos q, decide_eq_true q]; rfl
            · rw [if_neg q, decide_eq_false q, Bool.false_or]; rfl
          by_cases k3 : x.f0 = 3
          · rw [if_neg k2, if_pos k3, if_neg k2, if_pos k3, Option.bind_some, if_pos rfl, Bool.true_and]
            by_cases q : -2147483648 ≤ v.f1
            · rw [if_pos q, decide_eq_true q, Bool.true_and]
            · rw [if_neg q, decide_eq_false q]; rfl
          rw [if_neg k2, if_neg k3, if_pos (show x.f0 = 5 by omega), if_neg k2, if_neg k3, Option.bind_some, if_pos rfl, Bool.true_and]
          by_cases q : 0 ≤ v.f1
          · rw [if_pos q, decide_eq_true q, Bool.true_and]
          · rw [if_neg q, decide_eq_false q]; rfl
  · have e : EI x v = false := by unfold EI; rw [decide_eq_false h0]; rfl
    rw [e]
    exact Ev.congr (fun k => by unfold Bq.f; rw [if_neg h0]) (Ev.now _)
theorem MH (x : S26) (v : S30) (g : scB x = true) (d : v.f2.length ≤ maxLen) (hp : ∀ b ∈ v.f2, 0 ≤ b) : Ev (fun k => CY.j0 k (v.f0 != x.f0) x.f0 x.f1 x.f2 x.f3 x.f4 v.f0 v.f1 v.f2 v.f3) (EI x v) := by
  have c := IU x g
  rw [EB] at c
  by_cases h0 : v.f0 = x.f0
  · have a : (v.f0 != x.f0) = false := by simp [h0]
    rw [a]
    unfold EI
    rw [decide_eq_true h0, Bool.true_and]
    by_cases k1 : x.f0 = 1
    · rw [if_pos k1]
      refine Ev.step (f := fun k => if v.f1 = 0 then (if (v.f2.length : Int) = 1 then ((Dw.f k v.f2).bind fun t208 => (if t208 = true then (some ((v.f3.length : Int) == 0)) else (some false))) else (some false)) else (some false)) (fun k => by rw [CY.j0, if_neg (by simp), if_pos k1]) ?_
      by_cases q1 : v.f1 = 0
      · by_cases q2 : v.f2.length = 1
        · rw [decide_eq_true q1, decide_eq_true q2]
          refine Ev.congr (f := fun k => (Dw.f k v.f2).bind fun t208 => (if t208 = true then (some ((v.f3.length : Int) == 0)) else (some false))) (fun k => by rw [if_pos q1, if_pos (by omega)]) (Ev.bind (Na _ d hp) ?_)
          refine Ev.congr (f := fun _ => some (true && decide (v.f3.length = 0) && (isF v.f2 && true))) (fun k => ?_) (Ev.now _)
          cases isF v.f2 with
          | false => simp
          | true => simp [ET]
        · rw [decide_eq_false q2]
          exact Ev.congr (fun k => by rw [if_pos q1, if_neg (by omega)]) (by simpa using Ev.now _)
      · rw [decide_eq_false q1]
        exact Ev.congr (fun k => by rw [if_neg q1]) (by simpa using Ev.now _)
    · rw [if_neg k1]
      by_cases k2 : x.f0 = 2
      · rw [if_pos k2]
        refine Ev.step (f := fun _ => some (decide (v.f2.length = 0) && decide (v.f3.length = 0) && (decide (v.f1 = 0) || decide (v.f1 = 1)))) (fun k => ?_) (Ev.now _)
        rw [CY.j0, if_neg (by simp), if_neg k1, if_pos k2]
        by_cases q1 : v.f1 = 0
        · by_cases q2 : v.f2.length = 0
          · rw [if_pos q1, if_pos (by omega), ET]; simp [q1, q2]
          · rw [if_pos q1, if_neg (by omega)]; simp [show ¬ v.f2 = [] from fun e => q2 (by rw [e]; rfl)]
        · by_cases q3 : v.f1 = 1
          · by_cases q2 : v.f2.length = 0
            · rw [if_neg q1, if_pos q3, if_pos (by omega), ET]; simp [q3, q2]
            · rw [if_neg q1, if_pos q3, if_neg (by omega)]; simp [show ¬ v.f2 = [] from fun e => q2 (by rw [e]; rfl)]
          · rw [if_neg q1, if_neg q3]; simp [q1, q3]
      · rw [if_neg k2]
        by_cases k3 : x.f0 = 3
        · rw [if_pos k3]
          refine Ev.step (f := fun _ => some (decide (v.f2.length = 0) && decide (v.f3.length = 0) && (decide (-2147483648 ≤ v.f1) && decide (v.f1 ≤ 2147483647)))) (fun k => ?_) (Ev.now _)
          rw [CY.j0, if_neg (by simp), if_neg k1, if_neg k2, if_pos k3]
          unfold FX.f
          by_cases q1 : -2147483648 ≤ v.f1
          · by_cases q3 : v.f1 ≤ 2147483647
            · rw [if_pos q1, decide_eq_true q1, decide_eq_true q3, Option.bind_some, if_pos rfl]
              by_cases q2 : v.f2.length = 0
              · rw [if_pos (by omega), ET]; simp [q2]
              · rw [if_neg (by omega)]; simp [show ¬ v.f2 = [] from fun e => q2 (by rw [e]; rfl)]
            · rw [if_pos q1, decide_eq_false q3]; simp
          · rw [if_neg q1, decide_eq_false q1]; simp
        · rw [if_neg k3]
          refine Ev.step (f := fun _ => some (decide (v.f2.length = 0) && decide (v.f3.length = 0) && (decide (0 ≤ v.f1) && decide (v.f1 < (x.f3.length : Int))))) (fun k => ?_) (Ev.now _)
          rw [CY.j0, if_neg (by simp), if_neg k1, if_neg k2, if_neg k3, if_neg (by omega), if_pos (show x.f0 = 5 by omega)]
          by_cases q1 : 0 ≤ v.f1
          · by_cases q3 : v.f1 < (x.f3.length : Int)
            · rw [if_pos q1, if_pos q3, decide_eq_true q1, decide_eq_true q3]
              by_cases q2 : v.f2.length = 0
              · rw [if_pos (by omega), ET]; simp [q2]
              · rw [if_neg (by omega)]; simp [show ¬ v.f2 = [] from fun e => q2 (by rw [e]; rfl)]
            · rw [if_pos q1, if_neg q3, decide_eq_false q3]; simp
          · rw [if_neg q1, decide_eq_false q1]; simp
  · have e : EI x v = false := by unfold EI; rw [decide_eq_false h0]; rfl
    rw [e]
    exact Ev.step (f := fun _ => some false) (fun k => by rw [CY.j0, if_pos (by simpa using h0)]) (Ev.now _)
theorem Js (x : S26) (v : S30) (a : scB x = true) (b : x.f3.length ≤ maxLen) : Ev (fun k => Bo.f k x.f0 x.f1 x.f2 x.f3 x.f4 v.f0 v.f1 v.f2 v.f3) (EI x v) := by
  unfold Bo.f
  refine Ev.bind (KO x (IU x a) b) ?_
  rw [a]
  exact Ev.congr (fun k => by rw [if_pos rfl]) (Ev.bind (PN x v a) (Ev.now _))
theorem Ja (n : Nat) (x : S26) (d : okT n x) (v : S30) (j : okV n v) (c : scB x = true) : Ev (fun k => CY.f k x.f0 x.f1 x.f2 x.f3 x.f4 v.f0 v.f1 v.f2 v.f3) (EI x v) := by
  cases n with
  | zero => exact d.elim
  | succ n =>
    obtain ⟨_, _, e, _, i, _, _⟩ := d
    obtain ⟨_, _, g, a, _, _⟩ := j
    refine Ev.step (fun k => by rw [CY.f]) (Ev.bind (NL x (IU x c) e i) ?_)
    rw [c]
    refine Ev.congr (fun k => by rw [if_pos rfl]) (MH x v c a fun b h => ?_)
    have := g b h
    unfold Lit.wf at this
    rw [Bool.and_eq_true, decide_eq_true_iff] at this
    exact this.1
def Gd (x : S26) (l : List S63) : Nat → Nat → Int → Bool
  | 0, _, _ => true
  | d + 1, i, u => !decide ((AA l (i : Int)).f0 ≤ u) && (!decide ((AA l (i : Int)).f0 > 2000000) && (EI x (AA l (i : Int)).f1 && Gd x l d (i + 1) (AA l (i : Int)).f0))
theorem I5 {l : List S63} {i : Nat} (h : i < l.length) : AA l (i : Int) ∈ l := by
  unfold AA
  rw [List.getD_eq_getElem?_getD, show ((i : Int)).toNat = i from rfl, List.getElem?_eq_getElem h]
  exact List.getElem_mem h
theorem P8 (x : S26) (b : scB x = true) (a : x.f3.length ≤ maxLen) (l : List S63) (e : l.length ≤ maxLen) : ∀ d i u, i + d = l.length → Ev (fun k => BO.l0 k u l (l.length : Int) (i : Int) x.f0 x.f1 x.f2 x.f3 x.f4) (Gd x l d i u) := by
  have hm := ml
  intro d
  induction d with
  | zero =>
    intro i u hi
    exact Ev.step (f := fun _ => some true) (fun k => by rw [BO.l0, if_neg (by omega)]) (Ev.now _)
  | succ d c =>
    intro i u hi
    simp only [Gd]
    by_cases h1 : (AA l (i : Int)).f0 ≤ u
    · exact Ev.step (f := fun _ => some false) (fun k => by rw [BO.l0, if_pos (by omega), if_pos (by omega), if_pos (by omega), if_pos h1]) (by simpa [h1] using Ev.now _)
    by_cases h2 : (AA l (i : Int)).f0 > 2000000
    · exact Ev.step (f := fun _ => some false) (fun k => by rw [BO.l0, if_pos (by omega), if_pos (by omega), if_pos (by omega), if_neg h1, if_pos h2]) (by simpa [h2] using Ev.now _)
    rw [decide_eq_false h1, decide_eq_false h2]
    refine Ev.step (fun k => by rw [BO.l0, if_pos (by omega), if_pos (by omega), if_pos (by omega), if_neg h1, if_neg h2, CR (by omega) (by omega)]) (Ev.bind (Js x (AA l (i : Int)).f1 b a) ?_)
    cases EI x (AA l (i : Int)).f1 with
    | false => exact Ev.congr (fun k => by rw [if_neg (by simp)]) (by simpa using Ev.now _)
    | true => exact Ev.congr (fun k => by rw [if_pos rfl]) (by simpa using c (i + 1) _ (by omega))
theorem Nb (n : Nat) (x : S26) (c : okT n x) (a : scB x = true) (l : List S63) (g : l.length ≤ maxLen) (b : ∀ y ∈ l, okV n y.f1) : ∀ d i u, i + d = l.length → Ev (fun k => DK.l0 k u l (l.length : Int) (i : Int) x.f0 x.f1 x.f2 x.f3 x.f4) (Gd x l d i u) := by
  have hm := ml
  intro d
  induction d with
  | zero =>
    intro i u hi
    exact Ev.step (f := fun _ => some true) (fun k => by rw [DK.l0, if_neg (by omega)]) (Ev.now _)
  | succ d e =>
    intro i u hi
    simp only [Gd]
    by_cases h1 : (AA l (i : Int)).f0 ≤ u
    · exact Ev.step (f := fun _ => some false) (fun k => by rw [DK.l0, if_pos (by omega), if_pos (by omega), if_pos (by omega), if_pos h1]) (by simpa [h1] using Ev.now _)
    by_cases h2 : (AA l (i : Int)).f0 > 2000000
    · exact Ev.step (f := fun _ => some false) (fun k => by rw [DK.l0, if_pos (by omega), if_pos (by omega), if_pos (by omega), if_neg h1, if_pos h2]) (by simpa [h2] using Ev.now _)
    rw [decide_eq_false h1, decide_eq_false h2]
    refine Ev.step (fun k => by rw [DK.l0, if_pos (by omega), if_pos (by omega), if_pos (by omega), if_neg h1, if_neg h2, CR (by omega) (by omega)]) (Ev.bind (Ja n x c (AA l (i : Int)).f1 (b _ (I5 (by omega))) a) ?_)
    cases EI x (AA l (i : Int)).f1 with
    | false => exact Ev.congr (fun k => by rw [if_neg (by simp)]) (by simpa using Ev.now _)
    | true => exact Ev.congr (fun k => by rw [if_pos rfl]) (by simpa using e (i + 1) _ (by omega))
def GG (x : S26) (v : S30) (l : List S63) : Bool := scB x && (EI x v && (decide (l.length ≤ 64) && Gd x l l.length 0 (-1)))
theorem Nc (l : List S63) : (decide ((l.length : Int) > 64)) = !decide (l.length ≤ 64) := by rw [Bool.eq_iff_iff]; simp; omega
theorem P9 (x : S26) (a : x.f3.length ≤ maxLen) (v : S30) (l : List S63) (c : l.length ≤ maxLen) : Ev (fun k => BO.f k x.f0 x.f1 x.f2 x.f3 x.f4 v.f0 v.f1 v.f2 v.f3 l) (GG x v l) := by
  unfold BO.f GG
  have b : Ev (fun k => BO.j0 k true x.f0 x.f1 x.f2 x.f3 x.f4 v.f0 v.f1 v.f2 v.f3 l) false := Ev.step (f := fun _ => some false) (fun k => by rw [BO.j0, if_pos rfl]) (Ev.now _)
  refine Ev.bind (L6 x a) ?_
  cases hs : scB x with
  | false => exact Ev.congr (fun k => by rw [if_neg (by simp)]) (by simpa using b)
  | true =>
    refine Ev.congr (fun k => by rw [if_pos rfl]) (Ev.bind (Js x v hs a) ?_)
    cases EI x v with
    | false => exact Ev.congr (fun k => by rw [if_neg (by simp)]) (by simpa using b)
    | true =>
      refine Ev.congr (fun k => by rw [if_pos rfl, Nc]) ?_
      cases decide (l.length ≤ 64) with
      | false => simpa using b
      | true => exact Ev.step (f := fun k => BO.l0 k (-1) l (l.length : Int) ((0 : Nat) : Int) x.f0 x.f1 x.f2 x.f3 x.f4) (fun k => by rw [BO.j0, if_neg (by simp)]; rfl) (by simpa using P8 x hs a l c l.length 0 (-1) (by omega))
theorem Nf (n : Nat) (x : S26) (b : okT n x) (v : S30) (d : okV n v) (l : List S63) (c : l.length ≤ maxLen) (e : ∀ y ∈ l, okV n y.f1) : Ev (fun k => DK.f k x.f0 x.f1 x.f2 x.f3 x.f4 v.f0 v.f1 v.f2 v.f3 l) (GG x v l) := by
  unfold DK.f GG
  have a : Ev (fun k => DK.j0 k true x.f0 x.f1 x.f2 x.f3 x.f4 v.f0 v.f1 v.f2 v.f3 l) false := Ev.step (f := fun _ => some false) (fun k => by rw [DK.j0, if_pos rfl]) (Ev.now _)
  refine Ev.bind (Kz n x b) ?_
  cases hs : scB x with
  | false => exact Ev.congr (fun k => by rw [if_neg (by simp)]) (by simpa using a)
  | true =>
    refine Ev.congr (fun k => by rw [if_pos rfl]) (Ev.bind (Ja n x b v d hs) ?_)
    cases EI x v with
    | false => exact Ev.congr (fun k => by rw [if_neg (by simp)]) (by simpa using a)
    | true =>
      refine Ev.congr (fun k => by rw [if_pos rfl, Nc]) ?_
      cases decide (l.length ≤ 64) with
      | false => simpa using a
      | true => exact Ev.step (f := fun k => DK.l0 k (-1) l (l.length : Int) ((0 : Nat) : Int) x.f0 x.f1 x.f2 x.f3 x.f4) (fun k => by rw [DK.j0, if_neg (by simp)]; rfl) (by simpa using Nb n x b hs l c e l.length 0 (-1) (by omega))
end Go.Proofs.Ytojankgmedccdaa.Pure
end
section
namespace Go.Proofs.Ytojankgmedccdaa.Pure
open Go.RowKit Own PTy Hand PIs RowV YtojankgmedccdaaW.PrintWords YtojankgmedccdaaW.PrintLast
open PAw (r01Same.f r01Same.l0)
open PGn
def ExQ {α : Type} (g : Nat → Option α) (Q : α → Prop) : Prop := ∃ t, Ev g t ∧ Q t
section
variable {α β : Type} {g f : Nat → Option α} {Q : α → Prop}
theorem ExQ.now (t : α) (h : Q t) : ExQ (fun _ => some t) Q := ⟨t, Ev.now t, h⟩
theorem ExQ.step (h : ∀ k, g (k + 1) = f k) (a : ExQ f Q) : ExQ g Q := ⟨a.choose, Ev.step h a.choose_spec.1, a.choose_spec.2⟩
theorem ExQ.congr (h : ∀ k, g k = f k) (a : ExQ f Q) : ExQ g Q := ⟨a.choose, Ev.congr h a.choose_spec.1, a.choose_spec.2⟩
theorem ExQ.ite {c : Prop} [Decidable c] (h1 : c → ExQ g Q) (a : ¬ c → ExQ f Q) : ExQ (fun k => if c then g k else f k) Q := by
  by_cases h : c
  · simpa [h] using h1 h
  · simpa [h] using a h
theorem ExQ.bind {R : β → Prop} {g : Nat → Option β} {f : Nat → β → Option α} (h : ExQ g R) (b : ∀ t, R t → ExQ (fun k => f k t) Q) : ExQ (fun k => (g k).bind (f k)) Q := by
  obtain ⟨t, d, hr⟩ := h
  obtain ⟨r, a, c⟩ := b t hr
  exact ⟨r, Ev.bind d a, c⟩
theorem ExQ.of (h : Ex g) : ExQ g (fun _ => True) := ⟨h.choose, h.choose_spec, trivial⟩
end
def smV : Nat → S30 → Prop
  | 0, _ => False
  | m + 1, v => v.f2.length ≤ 9000 ∧ v.f3.length ≤ 9000 ∧ ∀ y ∈ v.f3, smV m y
theorem KR : ∀ m (v : S30), okV m v → ∀ a : Int, 0 ≤ a → a ≤ 9000 → ExQ (fun k => CS.f k v.f0 v.f1 v.f2 v.f3 a) (fun r => r < a ∧ (0 ≤ r → smV m v))
  | 0, _, h, _, _, _ => h.elim
  | m + 1, v, ⟨_, _, _, h4, h5, h6⟩, a, ha, ha9 => by
    have hm := ml
    refine ExQ.step (fun k => by rw [CS.f]) ?_
    obtain ⟨g, w⟩ : ∃ g, g = a - 1 - (v.f2.length : Int) := ⟨_, rfl⟩
    have z : wrap64 (a - wrap64 (1 + (v.f2.length : Int))) = g := by unfold wrap64; omega
    rw [z]
    have key : ∀ d i, i + d = v.f3.length → ∀ b : Int, b ≤ 9000 → ExQ (fun k => CS.l0 k b v.f3 (v.f3.length : Int) (i : Int)) (fun r => r ≤ b ∧ (0 ≤ r → (d : Int) ≤ b - r ∧ ∀ j, i ≤ j → j < v.f3.length → smV m (AB v.f3 (j : Int)))) := by
      intro d
      induction d with
      | zero =>
        intro i hi b s
        refine ExQ.step (f := fun _ => some b) (fun k => by rw [CS.l0, if_neg (by omega)]) (ExQ.now b ⟨by omega, fun _ => ⟨by omega, fun j h1 q => by omega⟩⟩)
      | succ d D =>
        intro i hi b s
        by_cases hn : b < 0
        · exact ExQ.step (f := fun _ => some b) (fun k => by rw [CS.l0, if_pos (by omega), if_pos (by omega), if_pos (by omega), if_pos hn]) (ExQ.now b ⟨by omega, fun h => by omega⟩)
        · refine ExQ.step (fun k => by rw [CS.l0, if_pos (by omega), if_pos (by omega), if_pos (by omega), if_neg hn, CR (n := (i : Int) + 1) (by omega) (by omega)]) (ExQ.bind (KR m _ (h6 _ (Fx (i := i) (by omega))) b (by omega) s) fun t x => ?_)
          obtain ⟨r, hr, o, c⟩ := D (i + 1) (by omega) t (by omega)
          refine ⟨r, hr, by omega, fun l => ?_⟩
          obtain ⟨G, p⟩ := c l
          refine ⟨by omega, fun j h1 q => ?_⟩
          by_cases e : j = i
          · rw [e]; exact x.2 (by omega)
          · exact p j (by omega) q
    obtain ⟨r, hr, o, c⟩ := key v.f3.length 0 (by omega) g (by omega)
    refine ⟨r, hr, by omega, fun l => ?_⟩
    obtain ⟨G, p⟩ := c l
    refine ⟨by omega, by omega, fun y B => ?_⟩
    obtain ⟨j, u, e⟩ := List.mem_iff_getElem.mp B
    have := p j (by omega) u
    unfold AB at this
    rw [List.getD_eq_getElem?_getD, show ((j : Int)).toNat = j from rfl, List.getElem?_eq_getElem u] at this
    exact e ▸ this
theorem Ng (l : List S30) (q : l.length ≤ maxLen) (m : Nat) (g : ∀ y ∈ l, okV m y) : ExQ (fun k => BD.l2 k l (l.length : Int) 0) (fun t => t = true → ∀ j, j < l.length → smV m (AB l (j : Int))) := by
  have hm := ml
  have key : ∀ d i, i + d = l.length → ExQ (fun k => BD.l2 k l (l.length : Int) (i : Int)) (fun t => t = true → ∀ j, i ≤ j → j < l.length → smV m (AB l (j : Int))) := by
    intro d
    induction d with
    | zero => exact fun i hi => ExQ.step (f := fun _ => some true) (fun k => by rw [BD.l2, if_neg (by omega)]) (ExQ.now _ fun _ j h1 b => by omega)
    | succ d o =>
      intro i hi
      refine ExQ.step (fun k => by rw [BD.l2, if_pos (by omega), if_pos (by omega), if_pos (by omega), CR (n := (i : Int) + 1) (by omega) (by omega)]) (ExQ.bind (KR m _ (g _ (Fx (i := i) (by omega))) 9000 (by omega) (by omega)) fun t c => ExQ.ite (fun _ => ExQ.now false (by simp)) fun p => ?_)
      obtain ⟨r, hr, a⟩ := o (i + 1) (by omega)
      refine ⟨r, hr, fun e j h1 b => ?_⟩
      by_cases ej : j = i
      · rw [ej]; exact c.2 (by omega)
      · exact a e j (by omega) b
  obtain ⟨r, hr, a⟩ := key l.length 0 (by omega)
  exact ⟨r, hr, fun e j h => a e j (by omega) h⟩
theorem Nh (n : Nat) (x : S26) (e : okT n x) (l : List S30) (o : l.length ≤ maxLen) (m : Nat) (p : ∀ y ∈ l, okV m y) : ExQ (fun k => BD.f k x.f0 x.f1 x.f2 x.f3 x.f4 l) (fun t => t = true → ∀ j, j < l.length → smV m (AB l (j : Int))) := by
  have hm := ml
  cases n with
  | zero => exact e.elim
  | succ n =>
    obtain ⟨_, _, _, _, q, r, h⟩ := e
    have h1 : ∀ d i, i + d = x.f4.length → ExQ (fun k => BD.l1 k l x.f4 (x.f4.length : Int) (i : Int)) (fun t => t = true → ∀ j, j < l.length → smV m (AB l (j : Int))) := by
      intro d
      induction d with
      | zero => exact fun i hi => ExQ.step (fun k => by rw [BD.l1, if_neg (by omega)] <;> rfl) (Ng l o m p)
      | succ d c =>
        intro i hi
        exact ExQ.step (fun k => by rw [BD.l1, if_pos (by omega), if_pos (by omega), if_pos (by omega), CR (n := (i : Int) + 1) (by omega) (by omega)] <;> rfl) (ExQ.ite (fun _ => ExQ.now false (by simp)) fun _ => ExQ.bind (ExQ.of (KI n _ (h _ (I4 (i := i) (by omega))) [] (by simp) 0 (by simp))) fun t _ => ExQ.ite (fun _ => c (i + 1) (by omega)) fun _ => ExQ.now false (by simp))
    have g : ∀ d i, i + d = x.f3.length → ExQ (fun k => BD.l0 k l x.f3 (x.f3.length : Int) (i : Int) x.f0 x.f1 x.f2 x.f3 x.f4) (fun t => t = true → ∀ j, j < l.length → smV m (AB l (j : Int))) := by
      intro d
      induction d with
      | zero => exact fun i hi => ExQ.step (fun k => by rw [BD.l0, if_neg (by omega)] <;> rfl) (h1 x.f4.length 0 (by omega))
      | succ d c =>
        intro i hi
        exact ExQ.step (fun k => by rw [BD.l0, if_pos (by omega), if_pos (by omega), if_pos (by omega), CR (n := (i : Int) + 1) (by omega) (by omega)] <;> rfl) (ExQ.ite (fun _ => ExQ.now false (by simp)) fun _ => c (i + 1) (by omega))
    have a : ∀ b, ExQ (fun k => BD.j0 k l b x.f0 x.f1 x.f2 x.f3 x.f4) (fun t => t = true → ∀ j, j < l.length → smV m (AB l (j : Int))) := fun b =>
      ExQ.step (fun k => by rw [BD.j0] <;> rfl) (ExQ.ite (fun _ => ExQ.now false (by simp)) fun _ => g x.f3.length 0 (by omega))
    exact ExQ.step (fun k => by rw [BD.f]) (ExQ.ite (fun _ => a _) fun _ => ExQ.ite (fun _ => a _) fun _ => a _)
theorem PO (n : Nat) (x : S26) (G : okT n x) (v : S30) (D : okV n v) (l : List S63) (z : ∀ y ∈ l, okV n y.f1) (a : List S30) (s : ∀ y ∈ a, okV n y) :
    ExQ (fun k => Cw.f k x.f0 x.f1 x.f2 x.f3 x.f4 v.f0 v.f1 v.f2 v.f3 l a) (fun t => t = true → l.length ≤ 80 ∧ a.length ≤ 80 ∧ smV n v ∧ (∀ y ∈ a, smV n y) ∧ ∀ y ∈ l, smV n y.f1) := by
  have hm := ml
  have m : ExQ (fun k => Cw.j0 k a true x.f0 x.f1 x.f2 x.f3 x.f4 v.f0 v.f1 v.f2 v.f3 l) (fun t => t = true → l.length ≤ 80 ∧ a.length ≤ 80 ∧ smV n v ∧ (∀ y ∈ a, smV n y) ∧ ∀ y ∈ l, smV n y.f1) :=
    ExQ.step (f := fun _ => some false) (fun k => by rw [Cw.j0, if_pos rfl]) (ExQ.now _ (by simp))
  unfold Cw.f
  by_cases h8 : (l.length : Int) > 80
  · exact ExQ.congr (fun k => by rw [if_pos h8]) m
  by_cases h9 : (a.length : Int) > 80
  · exact ExQ.congr (fun k => by rw [if_neg h8, decide_eq_true h9]) m
  refine ExQ.congr (f := fun k => Cw.j0 k a false x.f0 x.f1 x.f2 x.f3 x.f4 v.f0 v.f1 v.f2 v.f3 l) (fun k => by rw [if_neg h8, decide_eq_false h9]) ?_
  have key : ∀ d i, i + d = l.length → ∀ ys : List S30, ys.length = a.length + 1 + i → (∀ y ∈ ys, okV n y) → (∀ y ∈ (v :: a), y ∈ ys) → (∀ j, j < i → (AA l (j : Int)).f1 ∈ ys) → ExQ (fun k => Cw.l0 k ys l (l.length : Int) (i : Int) x.f0 x.f1 x.f2 x.f3 x.f4) (fun t => t = true → l.length ≤ 80 ∧ a.length ≤ 80 ∧ smV n v ∧ (∀ y ∈ a, smV n y) ∧ ∀ y ∈ l, smV n y.f1) := by
    intro d
    induction d with
    | zero =>
      intro i hi ys w r c q
      refine ExQ.step (fun k => by rw [Cw.l0, if_neg (by omega)]) (ExQ.bind (Nh n x G ys (by omega) n r) fun t B => ⟨t, Ev.now t, fun e => ?_⟩)
      have b : ∀ y ∈ ys, smV n y := by
        intro y u
        obtain ⟨j, g, p⟩ := List.mem_iff_getElem.mp u
        have := B e j g
        unfold AB at this
        rw [List.getD_eq_getElem?_getD, show ((j : Int)).toNat = j from rfl, List.getElem?_eq_getElem g] at this
        exact p ▸ this
      refine ⟨by omega, by omega, b _ (c v (by simp)), fun y h => b _ (c y (by simp [h])), fun y h => ?_⟩
      obtain ⟨j, g, p⟩ := List.mem_iff_getElem.mp h
      have := b _ (q j (by omega))
      unfold AA at this
      rw [List.getD_eq_getElem?_getD, show ((j : Int)).toNat = j from rfl, List.getElem?_eq_getElem g] at this
      exact p ▸ this
    | succ d I =>
      intro i hi ys w r c q
      have o : AA l (i : Int) ∈ l := by
        unfold AA
        rw [List.getD_eq_getElem?_getD, show ((i : Int)).toNat = i from rfl, List.getElem?_eq_getElem (by omega)]
        exact List.getElem_mem _
      refine ExQ.step (fun k => by rw [Cw.l0, if_pos (by omega), if_pos (by omega), if_pos (by omega), if_pos (by omega), CR (n := (i : Int) + 1) (by omega) (by omega), JY] <;> rfl) (I (i + 1) (by omega) (ys ++ [(AA l (i : Int)).f1]) (by rw [List.length_append, w]; rfl) (fun y h => ?_) (fun y h => List.mem_append_left _ (c y h)) (fun j h => ?_))
      · rcases List.mem_append.mp h with h | h
        · exact r y h
        · rw [List.mem_singleton.mp h]; exact z _ o
      · by_cases e : j = i
        · rw [e]; exact List.mem_append_right _ (by simp)
        · exact List.mem_append_left _ (q j (by omega))
  refine ExQ.step (fun k => ?_) (key l.length 0 (by omega) (v :: a) (by simp) (fun y h => ?_) (fun y h => h) (by omega))
  · rw [Cw.j0, if_neg (by simp), Option.bind_some, if_pos (by simp; omega), JY]; rfl
  · rcases List.mem_cons.mp h with rfl | h
    · exact D
    · exact s y h
theorem Nk {l : List S30} {i : Nat} (h : i < l.length) : AB l (i : Int) = l[i] := by
  unfold AB
  rw [List.getD_eq_getElem?_getD, show ((i : Int)).toNat = i from rfl, List.getElem?_eq_getElem h]; rfl
theorem Ho {l : List S63} {i : Nat} (h : i < l.length) : AA l (i : Int) = l[i] := by
  unfold AA
  rw [List.getD_eq_getElem?_getD, show ((i : Int)).toNat = i from rfl, List.getElem?_eq_getElem h]; rfl
theorem Jt : ∀ m (v : S30), smV m v → Ev (fun k => Bt.f k v.f0 v.f1 v.f2 v.f3) (v.f0, v.f1, v.f2, v.f3)
  | 0, _, h => h.elim
  | m + 1, v, ⟨h1, h2, h3⟩ => by
    have hm := ml
    refine Ev.step (fun k => by rw [Bt.f, Option.bind_some, if_pos (by simp; omega)]) ?_
    have key : ∀ d i, i + d = v.f3.length → Ev (fun k => Bt.l0 k v.f3 (v.f3.length : Int) (i : Int) v.f0 v.f1 v.f2 (v.f3.take i)) (v.f0, v.f1, v.f2, v.f3) := by
      intro d
      induction d with
      | zero =>
        intro i hi
        rw [List.take_of_length_le (by omega)]
        exact Ev.step (f := fun _ => some (v.f0, v.f1, v.f2, v.f3)) (fun k => by rw [Bt.l0, if_neg (by omega)]) (Ev.now _)
      | succ d b =>
        intro i hi
        have a : i < v.f3.length := by omega
        refine Ev.step (fun k => by rw [Bt.l0, if_pos (by omega), if_pos (by omega), if_pos (by omega), CR (n := (i : Int) + 1) (by omega) (by omega)]) (Ev.bind (Jt m _ (h3 _ (Fx a))) ?_)
        refine Ev.congr (f := fun k => Bt.l0 k v.f3 (v.f3.length : Int) ((i + 1 : Nat) : Int) v.f0 v.f1 v.f2 (v.f3.take (i + 1))) (fun k => ?_) (b (i + 1) (by omega))
        rw [if_pos (by rw [List.length_take]; omega), List.take_succ_eq_append_getElem a, JY, Nk a]; rfl
    simpa using key v.f3.length 0 (by omega)
theorem Nl (x : S63) : (⟨x.f0, x.f1⟩ : S63) = x := by cases x; rfl
theorem PP (m : Nat) (v : S30) (b : smV m v) (l : List S63) (g : l.length ≤ 100) (c : ∀ y ∈ l, smV m y.f1) : Ev (fun k => Cz.f k v.f0 v.f1 v.f2 v.f3 l) (v.f0, v.f1, v.f2, v.f3, l) := by
  have hm := ml
  unfold Cz.f
  refine Ev.bind (Jt m v b) ?_
  have key : ∀ d i, i + d = l.length → Ev (fun k => Cz.l0 k l (l.length : Int) (i : Int) v.f0 v.f1 v.f2 v.f3 (l.take i)) (v.f0, v.f1, v.f2, v.f3, l) := by
    intro d
    induction d with
    | zero =>
      intro i hi
      rw [List.take_of_length_le (by omega)]
      exact Ev.step (f := fun _ => some (v.f0, v.f1, v.f2, v.f3, l)) (fun k => by rw [Cz.l0, if_neg (by omega)]) (Ev.now _)
    | succ d e =>
      intro i hi
      have a : i < l.length := by omega
      refine Ev.step (fun k => by rw [Cz.l0, if_pos (by omega), if_pos (by omega), if_pos (by omega), CR (n := (i : Int) + 1) (by omega) (by omega)]) (Ev.bind (Jt m _ (c _ (I5 a))) ?_)
      refine Ev.congr (f := fun k => Cz.l0 k l (l.length : Int) ((i + 1 : Nat) : Int) v.f0 v.f1 v.f2 v.f3 (l.take (i + 1))) (fun k => ?_) (e (i + 1) (by omega))
      rw [if_pos (by rw [List.length_take]; omega), List.take_succ_eq_append_getElem a, JY, Nl, Ho a]; rfl
  simpa using key l.length 0 (by omega)
theorem Nn (l : List Int) (b : l.length ≤ maxLen) : Ev (fun k => r01Same.f k l l) true := by
  have hm := ml
  have key : ∀ d i, i + d = l.length → Ev (fun k => r01Same.l0 k l l (l.length : Int) (i : Int)) true := by
    intro d
    induction d with
    | zero => intro i hi; exact Ev.step (f := fun _ => some true) (fun k => by rw [r01Same.l0, if_neg (by omega)]) (Ev.now _)
    | succ d a =>
      intro i hi
      refine Ev.step (f := fun k => r01Same.l0 k l l (l.length : Int) ((i + 1 : Nat) : Int)) (fun k => ?_) (a (i + 1) (by omega))
      rw [r01Same.l0, if_pos (by omega), if_pos (by omega), if_pos (by omega), if_pos (by omega), if_pos rfl, CR (by omega) (by omega)]
      rfl
  exact Ev.congr (fun k => by unfold r01Same.f; rw [if_pos rfl]; rfl) (key l.length 0 (by omega))
theorem I6 : ∀ m (v : S30), smV m v → Ev (fun k => PGn.Be.f k v.f0 v.f1 v.f2 v.f3 v.f0 v.f1 v.f2 v.f3) true
  | 0, _, h => h.elim
  | m + 1, v, ⟨h1, h2, h3⟩ => by
    have hm := ml
    refine Ev.step (fun k => by rw [PGn.Be.f, if_pos rfl, if_pos rfl]) (Ev.bind (Nn v.f2 (by omega)) (Ev.congr (fun k => by rw [if_pos rfl, bne_self_eq_false]) (Ev.step (fun k => by rw [PGn.Be.j0, if_neg (by simp)]) ?_)))
    have key : ∀ d i, i + d = v.f3.length → Ev (fun k => PGn.Be.l0 k (v.f3.length : Int) (i : Int) v.f0 v.f1 v.f2 v.f3 v.f0 v.f1 v.f2 v.f3) true := by
      intro d
      induction d with
      | zero => intro i hi; exact Ev.step (f := fun _ => some true) (fun k => by rw [PGn.Be.l0, if_neg (by omega)]) (Ev.now _)
      | succ d a =>
        intro i hi
        exact Ev.step (fun k => by rw [PGn.Be.l0, if_pos (by omega), if_pos (by omega), if_pos (by omega), if_pos (by omega), CR (n := (i : Int) + 1) (by omega) (by omega)]) (Ev.bind (I6 m _ (h3 _ (Fx (i := i) (by omega)))) (Ev.congr (fun k => by rw [if_pos rfl]; rfl) (a (i + 1) (by omega))))
    exact key v.f3.length 0 (by omega)
theorem I7 (m : Nat) (v : S30) (a : smV m v) (l : List S63) (e : l.length ≤ maxLen) (b : ∀ y ∈ l, smV m y.f1) : Ev (fun k => CL.f k v.f0 v.f1 v.f2 v.f3 l v.f0 v.f1 v.f2 v.f3 l) true := by
  have hm := ml
  unfold CL.f
  refine Ev.bind (I6 m v a) (Ev.congr (fun k => by rw [if_pos rfl, bne_self_eq_false]) (Ev.step (fun k => by rw [CL.j0, if_neg (by simp)]) ?_))
  have key : ∀ d i, i + d = l.length → Ev (fun k => CL.l0 k (l.length : Int) (i : Int) v.f0 v.f1 v.f2 v.f3 l v.f0 v.f1 v.f2 v.f3 l) true := by
    intro d
    induction d with
    | zero => intro i hi; exact Ev.step (f := fun _ => some true) (fun k => by rw [CL.l0, if_neg (by omega)]) (Ev.now _)
    | succ d c =>
      intro i hi
      exact Ev.step (fun k => by rw [CL.l0, if_pos (by omega), if_pos (by omega), if_pos (by omega), if_pos (by omega), if_pos rfl, CR (n := (i : Int) + 1) (by omega) (by omega)]) (Ev.bind (I6 m _ (b _ (I5 (i := i) (by omega)))) (Ev.congr (fun k => by rw [if_pos rfl]; rfl) (c (i + 1) (by omega))))
  exact key l.length 0 (by omega)
theorem MI (m : Nat) (l : List S63) (a : l.length ≤ maxLen) (b : ∀ y ∈ l, smV m y.f1) : Ev (fun k => Dr.f k l l) true := by
  unfold Dr.f
  cases m with
  | zero =>
    have : l = [] := List.eq_nil_iff_forall_not_mem.mpr fun y h => b y h
    subst this
    exact Ev.bind (I7 1 ⟨0, 0, [], []⟩ ⟨by simp, by simp, by simp⟩ [] a (by simp)) (Ev.now _)
  | succ m => exact Ev.bind (I7 (m + 1) ⟨0, 0, [], []⟩ ⟨by simp, by simp, by simp⟩ l a b) (Ev.now _)
end Go.Proofs.Ytojankgmedccdaa.Pure
end
section
namespace Go.Proofs.Ytojankgmedccdaa.Pure
open Go.RowKit Own PTy Hand PIs RowV YtojankgmedccdaaW.PrintWords YtojankgmedccdaaW.PrintLast
open PAw (drivers_copied.f logic_isBit.f logic_both.f logic_both.j0 logic_Resolve.f logic_Resolve.l0 r01Same.f r01Same.l0)
open PRs
theorem Ju (l : List Int) (i : Nat) (h : i < l.length) : rd l (i : Int) = l[i] := by
  unfold rd
  rw [List.getD_eq_getElem?_getD, show ((i : Int)).toNat = i from rfl, List.getElem?_eq_getElem h]; rfl
end Go.Proofs.Ytojankgmedccdaa.Pure
end
section
namespace Go.Proofs.Ytojankgmedccdaa.Pure
open Go.RowKit Own PTy Hand PIs RowV YtojankgmedccdaaW.PrintWords YtojankgmedccdaaW.PrintLast
open PAw (drivers_copied.f logic_isBit.f logic_both.f logic_both.j0 logic_Resolve.f logic_Resolve.l0 r01Same.f r01Same.l0)
open PRs
theorem Ey (x : S26) (v : S30) (h : EI x v = true) : v.f0 = x.f0 ∧ v.f3 = [] ∧ (x.f0 = 1 → v.f2.length = 1) ∧ (x.f0 ≠ 1 → v.f2 = []) ∧ ∀ b ∈ v.f2, b ≤ 3 := by
  unfold EI at h
  rw [Bool.and_eq_true, decide_eq_true_iff] at h
  obtain ⟨c, h⟩ := h
  by_cases k1 : x.f0 = 1
  · rw [if_pos k1] at h
    simp only [Bool.and_eq_true, decide_eq_true_iff] at h
    obtain ⟨⟨_, g⟩, hi, d⟩ := h
    refine ⟨c, List.length_eq_zero_iff.mp g, fun _ => d, fun h => absurd k1 h, fun b a => ?_⟩
    unfold isF at hi
    simp only [Bool.and_eq_true, List.all_eq_true, decide_eq_true_iff] at hi
    exact hi.2 b a
  · rw [if_neg k1] at h
    simp only [Bool.and_eq_true, decide_eq_true_iff] at h
    have e := List.length_eq_zero_iff.mp h.1.1
    exact ⟨c, List.length_eq_zero_iff.mp h.1.2, fun h => absurd h k1, fun _ => e, fun b a => by rw [e] at a; cases a⟩
theorem OV (l : List Int) (h : l.length = 1) : [rd l 0] = l := by
  match l, h with
  | [a], _ => rfl
end Go.Proofs.Ytojankgmedccdaa.Pure
end
section
namespace Go.Proofs.Ytojankgmedccdaa.Pure
open Go.RowKit Own PTy Hand PIs RowV YtojankgmedccdaaW.PrintWords YtojankgmedccdaaW.PrintLast
open PAw (drivers_behind.f drivers_copied.f api_Bit_96.f api_Bit_96.l0)
open PGn
def okL (x : S26) : Int → List S63 → Prop
  | _, [] => True
  | u, c :: r => u < c.f0 ∧ c.f0 ≤ 2000000 ∧ EI x c.f1 = true ∧ okL x c.f0 r
theorem MJ (x : S26) (l : List S63) : ∀ d i u, i + d = l.length → Gd x l d i u = true → okL x u (l.drop i) := by
  intro d
  induction d with
  | zero => intro i u hi _; rw [List.drop_eq_nil_of_le (by omega)]; trivial
  | succ d b =>
    intro i u hi h
    have a : i < l.length := by omega
    rw [List.drop_eq_getElem_cons a]
    simp only [Gd, Bool.and_eq_true, Bool.not_eq_true', decide_eq_false_iff_not, Ho a] at h
    exact ⟨by omega, by omega, h.2.2.1, b (i + 1) _ (by omega) h.2.2.2⟩
theorem KS {x : S26} {v : S30} {l : List S63} (h : GG x v l = true) : scB x = true ∧ EI x v = true ∧ l.length ≤ 64 ∧ okL x (-1) l := by
  unfold GG at h
  simp only [Bool.and_eq_true, decide_eq_true_iff] at h
  exact ⟨h.1, h.2.1, h.2.2.1, by simpa using MJ x l l.length 0 (-1) (by omega) h.2.2.2⟩
theorem Jv {x : S26} {v : S30} (h : EI x v = true) : v.f2.length ≤ 1 := by
  obtain ⟨c, d, a, b, e⟩ := Ey x v h
  by_cases k1 : x.f0 = 1
  · rw [a k1]; omega
  · rw [b k1]; simp
def eqV (v w : S30) : Bool := decide (v.f1 = w.f1) && decide (v.f2 = w.f2)
theorem OW (l m : List Int) (j : l.length ≤ maxLen) (c : m.length ≤ maxLen) : Ev (fun k => api_Bit_96.f k l m) (decide (l = m)) := by
  have hm := ml
  unfold api_Bit_96.f
  by_cases h : l.length = m.length
  · have key : ∀ d i, i + d = l.length → Ev (fun k => api_Bit_96.l0 k l m (l.length : Int) (i : Int)) (decide (l.drop i = m.drop i)) := by
      intro d
      induction d with
      | zero =>
        intro i hi
        rw [List.drop_eq_nil_of_le (by omega), List.drop_eq_nil_of_le (by omega)]
        exact Ev.step (f := fun _ => some true) (fun k => by rw [api_Bit_96.l0, if_neg (by omega)]) (by simpa using Ev.now _)
      | succ d g =>
        intro i hi
        have a : i < l.length := by omega
        have b : i < m.length := by omega
        rw [List.drop_eq_getElem_cons a, List.drop_eq_getElem_cons b]
        have hd : l[i] = m[i] → decide (l[i] :: l.drop (i + 1) = m[i] :: m.drop (i + 1)) = decide (l.drop (i + 1) = m.drop (i + 1)) := fun e => by rw [e]; exact decide_eq_decide.mpr ⟨fun h => (List.cons.inj h).2, fun h => by rw [h]⟩
        have hn : l[i] ≠ m[i] → decide (l[i] :: l.drop (i + 1) = m[i] :: m.drop (i + 1)) = false := fun e => decide_eq_false fun h => e (List.cons.inj h).1
        by_cases e : l[i] = m[i]
        · refine Ev.step (f := fun k => api_Bit_96.l0 k l m (l.length : Int) ((i + 1 : Nat) : Int)) (fun k => ?_) (by rw [hd e]; exact g (i + 1) (by omega))
          rw [api_Bit_96.l0, if_pos (by omega), if_pos (by omega), if_pos (by omega), if_pos (by omega), Ju l i a, Ju m i b, if_pos e, CR (by omega) (by omega)]
          rfl
        · refine Ev.step (f := fun _ => some false) (fun k => ?_) (by rw [hn e]; exact Ev.now _)
          rw [api_Bit_96.l0, if_pos (by omega), if_pos (by omega), if_pos (by omega), if_pos (by omega), Ju l i a, Ju m i b, if_neg e]
    exact Ev.congr (fun k => by rw [if_pos (by omega)]) (by simpa using key l.length 0 (by omega))
  · have e : decide (l = m) = false := decide_eq_false fun e => h (by rw [e])
    rw [e]
    exact Ev.congr (fun k => by rw [if_neg (by omega)]) (Ev.now _)
theorem Np (x : S26) (h : scB x = true) (g : x.f3.length ≤ maxLen) (v w : S30) (c : EI x v = true) (d : EI x w = true) : Ev (fun k => PGn.CP.f k x.f0 x.f1 x.f2 x.f3 x.f4 v.f0 v.f1 v.f2 v.f3 w.f0 w.f1 w.f2 w.f3) (eqV v w) := by
  have hm := ml
  have l1 := Jv c
  have l2 := Jv d
  have i := (Ey x v c).2.1
  have j := (Ey x w d).2.1
  have a := Js x v h g
  have b := Js x w h g
  rw [c] at a
  rw [d] at b
  have key : Ev (fun k => PGn.CV.f k v.f0 v.f1 v.f2 v.f3 w.f0 w.f1 w.f2 w.f3) (eqV v w) := by
    refine Ev.step (fun k => by rw [PGn.CV.f]) ?_
    unfold eqV
    by_cases e : v.f1 = w.f1
    · refine Ev.congr (fun k => by rw [if_pos e]) (Ev.bind (OW v.f2 w.f2 (by omega) (by omega)) ?_)
      rw [decide_eq_true e, Bool.true_and]
      by_cases e2 : v.f2 = w.f2
      · rw [decide_eq_true e2]
        exact Ev.congr (fun k => by rw [if_pos rfl, i, j]; rfl) (Ev.now true)
      · rw [decide_eq_false e2]
        exact Ev.congr (fun k => by rw [if_neg (by simp)]) (Ev.now false)
    · rw [decide_eq_false e, Bool.false_and]
      exact Ev.congr (fun k => by rw [if_neg e]) (Ev.now false)
  unfold PGn.CP.f PGn.Cu.f
  refine Ev.bind (a := (eqV v w, 0)) (Ev.bind a (Ev.congr (fun k => by rw [if_pos rfl]) (Ev.bind b (Ev.congr (fun k => by rw [if_pos rfl]) (Ev.bind key (Ev.now _)))))) ?_
  cases eqV v w with
  | true => exact Ev.congr (fun k => by rw [if_pos rfl]; rfl) (Ev.now _)
  | false => exact Ev.congr (fun k => by rw [if_neg (by simp)]) (Ev.now _)
theorem KT (x : S26) (v w : S30) (g : EI x v = true) (h : EI x w = true) : FY.f v.f0 v.f1 v.f2 v.f3 w.f0 w.f1 w.f2 w.f3 = some (eqV v w) := by
  obtain ⟨i, _, m, n, _⟩ := Ey x v g
  obtain ⟨q, _, o, p, _⟩ := Ey x w h
  unfold FY.f eqV
  by_cases k1 : x.f0 = 1
  · have a := m k1
    have b := o k1
    rw [if_pos (i.trans k1), if_pos (by omega), if_pos (by omega)]
    obtain ⟨c, l⟩ := List.length_eq_one_iff.mp a
    obtain ⟨d, hd⟩ := List.length_eq_one_iff.mp b
    have j : v.f1 = 0 := by
      unfold EI at g
      rw [if_pos k1] at g
      simp only [Bool.and_eq_true, decide_eq_true_iff] at g
      exact g.2.1.1
    have k : w.f1 = 0 := by
      unfold EI at h
      rw [if_pos k1] at h
      simp only [Bool.and_eq_true, decide_eq_true_iff] at h
      exact h.2.1.1
    rw [l, hd, j, k]
    congr 1
    rw [Bool.eq_iff_iff]
    show (c == d) = true ↔ _
    simp
  · have a := n k1
    have b := p k1
    rw [if_neg (fun e => k1 (i.symm.trans e)), a, b]
    congr 1
    rw [Bool.eq_iff_iff]
    simp
theorem OX (x : S26) (v : S30) (c : EI x v = true) : Gz.f v.f0 v.f1 v.f2 v.f3 = some (v.f0, v.f1, v.f2, v.f3) := by
  obtain ⟨b, g, d, h, _⟩ := Ey x v c
  unfold Gz.f
  rw [g]
  by_cases k1 : x.f0 = 1
  · have a := d k1
    rw [if_pos (b.trans k1), if_pos (by omega), OV _ a]
  · rw [if_neg (fun e => k1 (b.symm.trans e)), h k1]
theorem MK (x : S26) (v : S30) (a : EI x v = true) : drivers_copied.f v.f0 v.f1 v.f2 v.f3 = some (v.f0, v.f1, v.f2, v.f3) := by
  have := Jv a
  unfold drivers_copied.f Ef.f
  rw [if_pos (by omega)]; rfl
def GH (l : List S63) (now : Int) : Bool := match l with | [] => false | c :: _ => decide (c.f0 < now)
theorem ML (a b : Int) (m : List Int) (p : List S30) (l : List S63) (now : Int) : drivers_behind.f a b m p l now = some (GH l now) := by
  unfold drivers_behind.f GH
  cases l with
  | nil => rfl
  | cons c r => rw [if_pos (by simp)]; first | rfl | (rw [if_pos (by simp)]; rfl)
theorem K3 (a b : Int) (m : List Int) (p : List S30) (l : List S63) (now : Int) : EL.f a b m p l now = some (GH l now) := by
  unfold EL.f GH
  cases l with
  | nil => rfl
  | cons c r => rw [if_pos (by simp)]; first | rfl | (rw [if_pos (by simp)]; rfl)
def EU (e : Int) : S30 → List S63 → List S63
  | _, [] => []
  | v, c :: r => if c.f0 > e then [] else if eqV v c.f1 = true then EU e c.f1 r else c :: EU e c.f1 r
theorem G5 (e : Int) : ∀ (l : List S63) (v : S30), ∀ y ∈ EU e v l, y ∈ l
  | [], _, y, h => by cases h
  | c :: r, v, y, h => by
    unfold EU at h
    split at h
    · cases h
    · split at h
      · exact List.mem_cons_of_mem _ (G5 e r _ y h)
      · rcases List.mem_cons.mp h with rfl | h
        · exact List.mem_cons_self
        · exact List.mem_cons_of_mem _ (G5 e r _ y h)
theorem G6 (e : Int) : ∀ (l : List S63) (v : S30), (EU e v l).length ≤ l.length
  | [], _ => by simp [EU]
  | c :: r, v => by
    unfold EU
    split
    · simp
    · split
      · have := G6 e r c.f1; simp; omega
      · have := G6 e r c.f1; simp; omega
theorem Nq (x : S26) (m : scB x = true) (j : x.f3.length ≤ maxLen) (e : Int) (l : List S63) (o : l.length ≤ 100) : ∀ d i u out (v : S30), i + d = l.length → out.length ≤ i → okL x u (l.drop i) → EI x v = true →
    Ev (fun k => PGn.Ai.l0 k e out l (l.length : Int) (i : Int) x.f0 x.f1 x.f2 x.f3 x.f4 v.f0 v.f1 v.f2 v.f3) (out ++ EU e v (l.drop i), 0) := by
  have hm := ml
  intro d
  induction d with
  | zero =>
    intro i u out v hi ho _ g
    rw [List.drop_eq_nil_of_le (by omega)]
    exact Ev.step (f := fun _ => some (out, 0)) (fun k => by rw [PGn.Ai.l0, if_neg (by omega)]) (by simpa [EU] using Ev.now _)
  | succ d h =>
    intro i u out v hi ho b g
    have a : i < l.length := by omega
    rw [List.drop_eq_getElem_cons a] at b ⊢
    obtain ⟨_, _, c, hr⟩ := b
    have hg : AA l (i : Int) = l[i] := Ho a
    by_cases h1 : l[i].f0 > e
    · unfold EU
      rw [if_pos h1]
      exact Ev.step (f := fun _ => some (out, 0)) (fun k => by rw [PGn.Ai.l0, if_pos (by omega), if_pos (by omega), if_pos (by omega), hg, if_pos h1]) (by simpa using Ev.now _)
    · unfold EU
      rw [if_neg h1]
      refine Ev.step (fun k => by rw [PGn.Ai.l0, if_pos (by omega), if_pos (by omega), if_pos (by omega), hg, if_neg h1, CR (n := (i : Int) + 1) (by omega) (by omega)]) (Ev.bind (Np x m j v l[i].f1 g c) ?_)
      cases he : eqV v l[i].f1 with
      | true => exact Ev.congr (fun k => by rw [if_pos rfl] <;> rfl) (by simpa using h (i + 1) _ out l[i].f1 (by omega) (by omega) hr c)
      | false =>
        refine Ev.congr (f := fun k => PGn.Ai.l0 k e (out ++ [l[i]]) l (l.length : Int) ((i + 1 : Nat) : Int) x.f0 x.f1 x.f2 x.f3 x.f4 l[i].f1.f0 l[i].f1.f1 l[i].f1.f2 l[i].f1.f3) (fun k => ?_) (by simpa using h (i + 1) _ (out ++ [l[i]]) l[i].f1 (by omega) (Nat.le_trans (Nat.le_of_eq (List.length_append ..)) (by show out.length + 1 ≤ i + 1; omega)) hr c)
        rw [if_neg (by simp), MK x _ c, Option.bind_some, if_pos (by omega), JY, Nl] <;> rfl
def Fg (e : Int) : S30 → List S63 → List S63
  | _, [] => []
  | v, c :: r => if c.f0 ≤ e then (if eqV v c.f1 = true then Fg e c.f1 r else c :: Fg e c.f1 r) else Fg e c.f1 r
theorem I8 (x : S26) (e : Int) : ∀ (l : List S63) (u : Int) (v : S30), okL x u l → e ≤ u → Fg e v l = []
  | [], _, _, _, _ => rfl
  | c :: r, u, v, ⟨h1, _, _, h4⟩, hu => by
    unfold Fg
    rw [if_neg (by omega), I8 x e r c.f0 c.f1 h4 (by omega)]
theorem Jb (x : S26) (e : Int) : ∀ (l : List S63) (u : Int) (v : S30), okL x u l → Fg e v l = EU e v l
  | [], _, _, _ => rfl
  | c :: r, u, v, ⟨_, _, _, h4⟩ => by
    unfold Fg EU
    by_cases h : c.f0 ≤ e
    · rw [if_pos h, if_neg (show ¬ c.f0 > e by omega), Jb x e r c.f0 c.f1 h4]
    · rw [if_neg h, if_pos (show c.f0 > e by omega), I8 x e r c.f0 c.f1 h4 (by omega)]
theorem MM (x : S26) (e : Int) (l : List S63) (j : l.length ≤ 100) : ∀ d i u out (v : S30), i + d = l.length → out.length ≤ i → okL x u (l.drop i) → EI x v = true →
    Ev (fun k => Bc.l0 k e out l (l.length : Int) (i : Int) v.f0 v.f1 v.f2 v.f3) (out ++ Fg e v (l.drop i), 0) := by
  have hm := ml
  intro d
  induction d with
  | zero =>
    intro i u out v hi ho _ g
    rw [List.drop_eq_nil_of_le (by omega)]
    exact Ev.step (f := fun _ => some (out, 0)) (fun k => by rw [Bc.l0, if_neg (by omega)]) (by simpa [Fg] using Ev.now _)
  | succ d h =>
    intro i u out v hi ho c g
    have b : i < l.length := by omega
    rw [List.drop_eq_getElem_cons b] at c ⊢
    obtain ⟨_, _, a, hr⟩ := c
    have hg : AA l (i : Int) = l[i] := Ho b
    unfold Fg
    by_cases h1 : l[i].f0 ≤ e
    · rw [if_pos h1]
      cases he : eqV v l[i].f1 with
      | true =>
        refine Ev.step (f := fun k => Bc.l0 k e out l (l.length : Int) ((i + 1 : Nat) : Int) l[i].f1.f0 l[i].f1.f1 l[i].f1.f2 l[i].f1.f3) (fun k => ?_) (by simpa using h (i + 1) _ out l[i].f1 (by omega) (by omega) hr a)
        rw [Bc.l0, if_pos (by omega), if_pos (by omega), if_pos (by omega), hg, if_pos h1, CR (n := (i : Int) + 1) (by omega) (by omega), KT x v _ g a, he, Option.bind_some, if_pos rfl]; rfl
      | false =>
        refine Ev.step (f := fun k => Bc.l0 k e (out ++ [l[i]]) l (l.length : Int) ((i + 1 : Nat) : Int) l[i].f1.f0 l[i].f1.f1 l[i].f1.f2 l[i].f1.f3) (fun k => ?_) (by simpa using h (i + 1) _ (out ++ [l[i]]) l[i].f1 (by omega) (Nat.le_trans (Nat.le_of_eq (List.length_append ..)) (by show out.length + 1 ≤ i + 1; omega)) hr a)
        rw [Bc.l0, if_pos (by omega), if_pos (by omega), if_pos (by omega), hg, if_pos h1, CR (n := (i : Int) + 1) (by omega) (by omega), KT x v _ g a, he, Option.bind_some, if_neg (by simp), OX x _ a, Option.bind_some, if_pos (by omega), JY, Nl]; rfl
    · rw [if_neg h1]
      refine Ev.step (f := fun k => Bc.l0 k e out l (l.length : Int) ((i + 1 : Nat) : Int) l[i].f1.f0 l[i].f1.f1 l[i].f1.f2 l[i].f1.f3) (fun k => ?_) (h (i + 1) _ out l[i].f1 (by omega) (by omega) hr a)
      rw [Bc.l0, if_pos (by omega), if_pos (by omega), if_pos (by omega), hg, if_neg h1, CR (n := (i : Int) + 1) (by omega) (by omega)]; rfl
def G7 (x : S26) (v : S30) (l : List S63) (a b : Int) : List S63 × Int :=
  if GG x v l = true ∧ (0 ≤ a ∧ 0 ≤ b) ∧ a ≤ 2000000 ∧ b ≤ 2000000 then (if GH l a = true then ([], 5) else (EU b v l, 0)) else ([], 2)
theorem Nr (x : S26) (e : x.f3.length ≤ maxLen) (v : S30) (l : List S63) (h : l.length ≤ maxLen) (a b : Int) : Ev (fun k => PGn.Ai.f k x.f0 x.f1 x.f2 x.f3 x.f4 v.f0 v.f1 v.f2 v.f3 l a b) (G7 x v l a b) := by
  have c : Ev (fun k => PGn.Ai.j0 k a b true x.f0 x.f1 x.f2 x.f3 x.f4 v.f0 v.f1 v.f2 v.f3 l) ([], 2) := Ev.step (f := fun _ => some ([], 2)) (fun k => by rw [PGn.Ai.j0, if_pos rfl]) (Ev.now _)
  unfold PGn.Ai.f G7
  refine Ev.bind (P9 x e v l h) ?_
  cases hp : GG x v l with
  | false => rw [if_neg (by simp)]; exact Ev.congr (fun k => by rw [if_neg (by simp)]) c
  | true =>
    refine Ev.congr (fun k => by rw [if_pos rfl]) ?_
    by_cases h1 : mn a b < 0
    · rw [if_neg (by unfold mn at h1; split at h1 <;> omega)]
      exact Ev.congr (fun k => by rw [if_pos h1]) c
    by_cases h2 : mx a b > 2000000
    · rw [if_neg (by unfold mx at h2; split at h2 <;> omega)]
      exact Ev.congr (fun k => by rw [if_neg h1, decide_eq_true h2]) c
    rw [if_pos ⟨rfl, ⟨by unfold mn at h1; split at h1 <;> omega, by unfold mn at h1; split at h1 <;> omega⟩, by unfold mx at h2; split at h2 <;> omega, by unfold mx at h2; split at h2 <;> omega⟩]
    refine Ev.congr (fun k => by rw [if_neg h1, decide_eq_false h2]) (Ev.step (fun k => by rw [PGn.Ai.j0, if_neg (by simp), ML, Option.bind_some]) ?_)
    cases hb : GH l a with
    | true =>
      show Ev _ (([] : List S63), (5 : Int))
      exact Ev.congr (fun k => by rw [if_pos rfl]) (Ev.now _)
    | false =>
      obtain ⟨i, j, g, d⟩ := KS hp
      exact Ev.congr (fun k => by rw [if_neg (by simp)]) (by simpa using Nq x i e b l (by omega) l.length 0 (-1) [] v (by omega) (by simp) d j)
theorem MN (n : Nat) (x : S26) (j : okT n x) (v : S30) (i : okV n v) (l : List S63) (h : l.length ≤ maxLen) (m : ∀ y ∈ l, okV n y.f1) (a b : Int) : Ev (fun k => Bc.f k x.f0 x.f1 x.f2 x.f3 x.f4 v.f0 v.f1 v.f2 v.f3 l a b) (G7 x v l a b) := by
  have c : Ev (fun k => Bc.j0 k a b true v.f0 v.f1 v.f2 v.f3 l) ([], 2) := Ev.step (f := fun _ => some ([], 2)) (fun k => by rw [Bc.j0, if_pos rfl]) (Ev.now _)
  unfold Bc.f G7
  refine Ev.bind (Nf n x j v i l h m) ?_
  cases hp : GG x v l with
  | false => rw [if_neg (by simp)]; exact Ev.congr (fun k => by rw [if_neg (by simp)]) c
  | true =>
    refine Ev.congr (fun k => by rw [if_pos rfl]) ?_
    by_cases h1 : a < 0
    · rw [if_neg (by omega)]; exact Ev.congr (fun k => by rw [if_pos h1]) c
    by_cases h2 : a > 2000000
    · rw [if_neg (by omega)]; exact Ev.congr (fun k => by rw [if_neg h1, if_pos h2]) c
    by_cases h4 : b < 0
    · rw [if_neg (by omega)]; exact Ev.congr (fun k => by rw [if_neg h1, if_neg h2, if_pos h4]) c
    by_cases h5 : b > 2000000
    · rw [if_neg (by omega)]; exact Ev.congr (fun k => by rw [if_neg h1, if_neg h2, if_neg h4, decide_eq_true h5]) c
    rw [if_pos ⟨rfl, by omega, by omega, by omega⟩]
    refine Ev.congr (fun k => by rw [if_neg h1, if_neg h2, if_neg h4, decide_eq_false h5]) (Ev.step (fun k => by rw [Bc.j0, if_neg (by simp), K3, Option.bind_some]) ?_)
    cases hb : GH l a with
    | true =>
      show Ev _ (([] : List S63), (5 : Int))
      exact Ev.congr (fun k => by rw [if_pos rfl]) (Ev.now _)
    | false =>
      obtain ⟨o, e, g, d⟩ := KS hp
      rw [if_neg (by simp), ← Jb x b l (-1) v d]
      exact Ev.congr (fun k => by rw [if_neg (by simp)]) (by simpa using MM x b l (by omega) l.length 0 (-1) [] v (by omega) (by simp) d e)
theorem K4 (x : S26) (v : S30) (l : List S63) (a b : Int) : (∀ y ∈ (G7 x v l a b).1, y ∈ l) ∧ (G7 x v l a b).1.length ≤ l.length := by
  unfold G7
  split
  · split
    · exact ⟨by simp, by simp⟩
    · exact ⟨G5 b l v, G6 b l v⟩
  · exact ⟨by simp, by simp⟩
end Go.Proofs.Ytojankgmedccdaa.Pure
end
section
namespace Go.Proofs.Ytojankgmedccdaa.Pure
open Go.RowKit Own PTy Hand PIs RowV YtojankgmedccdaaW.PrintWords YtojankgmedccdaaW.PrintLast
open PGn
theorem K5 (n : Nat) (x : S26) (c : okT n x) (v : S30) (i : okV n v) (l : List S63) (e : l.length ≤ maxLen) (j : ∀ y ∈ l, okV n y.f1) (a b : Int) : ∃ K, Bp.f K x.f0 x.f1 x.f2 x.f3 x.f4 v.f0 v.f1 v.f2 v.f3 l a b = some true := by
  have hm := ml
  have o : x.f3.length ≤ maxLen := by
    cases n with
    | zero => exact c.elim
    | succ n => exact c.2.2.2.2.1
  refine Ev.rounds (g := fun k => Bp.f k x.f0 x.f1 x.f2 x.f3 x.f4 v.f0 v.f1 v.f2 v.f3 l a b) ?_
  unfold Bp.f
  obtain ⟨t, r, p⟩ := PO n x c v i l j [] (by simp)
  have d : Ev (fun k => (EC.f k).bind fun t => some t) true := Ev.now true
  refine Ev.bind r ?_
  cases t with
  | false => exact Ev.congr (fun k => by rw [if_neg (by simp)]) d
  | true =>
    obtain ⟨q, _, u, _, m⟩ := p rfl
    obtain ⟨s, w⟩ := K4 x v l a b
    refine Ev.congr (fun k => by rw [if_pos rfl]) (Ev.bind (PP n v u l (by omega) m) (Ev.bind (Nr x o v l e a b) (Ev.bind (MN n x c v i l e j a b) (Ev.bind (MI n _ (by omega) fun y h => m y (s y h)) ?_))))
    exact Ev.congr (fun k => by rw [if_pos rfl, if_pos rfl]) d
end Go.Proofs.Ytojankgmedccdaa.Pure
end
