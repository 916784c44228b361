/- Lemmas for LawDriversGives. -/
import Derived.Test.YtojankgmedccdaaYGPuG
import Derived.Test.YtojankgmedccdaaYGPRsx5
import Derived.Test.YtojankgmedccdaaYGPGnF10
section
namespace Go.Proofs.Ytojankgmedccdaa.Pure
open Go.RowKit Own PTy Hand PIs RowV YtojankgmedccdaaW.PrintWords YtojankgmedccdaaW.PrintLast
def Df (x : S26) (v : S30) : Bool := decide (v.f0 = x.f0) && (if x.f0 = 1 then (decide (v.f1 = 0) && decide (v.f3.length = 0) && (isF v.f2 && decide (v.f2.length = 1))) else (decide (v.f2.length = 0) && decide (v.f3.length = 0) && (if x.f0 = 2 then (decide (v.f1 = 0) || decide (v.f1 = 1)) else if x.f0 = 3 then (decide (-2147483648 ≤ v.f1) && decide (v.f1 ≤ 2147483647)) else (decide (0 ≤ v.f1) && decide (v.f1 < (x.f3.length : Int))))))
theorem PG (v : S30) : Br.f v.f0 v.f1 v.f2 v.f3 false true false = some (decide (v.f1 = 0) && decide (v.f3.length = 0)) := by
  unfold Br.f
  by_cases h1 : v.f1 = 0 <;> simp [h1, Gr]
theorem PH (v : S30) : Br.f v.f0 v.f1 v.f2 v.f3 true false false = some (decide (v.f2.length = 0) && decide (v.f3.length = 0)) := by
  unfold Br.f
  by_cases h1 : v.f2.length = 0 <;> simp [h1, Gr]
  all_goals simp_all [Gr]
theorem Px (x : S26) (h : scB x = true) : x.f1 = 0 := by
  unfold scB I9 JA at h
  split at h <;> simp_all
theorem LH (x : S26) (h : scB x = true) : GV x = true ∨ x.f0 = 5 := by
  by_cases hx : GV x = true ∨ x.f0 = 5
  · exact hx
  · rw [OZ x hx] at h; cases h
theorem PI (x : S26) (v : S30) (a : scB x = true) : Ev (fun k => Cf.f k x.f0 x.f1 x.f2 x.f3 x.f4 v.f0 v.f1 v.f2 v.f3) (Df x v) := by
  have b := LH x a
  have h1 := Px x a
  rw [Gs] at b
  by_cases h0 : v.f0 = x.f0
  · unfold Df
    rw [decide_eq_true h0, Bool.true_and]
    by_cases k1 : x.f0 = 1
    · rw [if_pos k1]
      refine Ev.congr (f := fun k => Cf.j0 k x.f0 true x.f0 x.f1 x.f2 x.f3 x.f4 v.f0 v.f1 v.f2 v.f3) (fun k => ?_) (Ev.step (f := fun _ => some (decide (v.f1 = 0) && decide (v.f3.length = 0) && (isF v.f2 && decide (v.f2.length = 1)))) (fun k => ?_) (Ev.now _))
      · unfold Cf.f
        rw [if_pos h0, if_pos k1, k1]; rfl
      · rw [Cf.j0, if_pos rfl, PG, h1]
        have hm : mx 0 1 = 1 := rfl
        cases hb : (decide (v.f1 = 0) && decide (v.f3.length = 0)) with
        | false => simp
        | true =>
          rw [Option.bind_some, if_pos rfl, FT.f, Option.bind_some, hm, Bool.true_and]
          cases isF v.f2 with
          | false => rfl
          | true =>
            rw [if_pos rfl, Bool.true_and]
            congr 1; rw [Bool.eq_iff_iff]; simp; omega
    · rw [if_neg k1]
      refine Ev.congr (f := fun k => Cf.j0 k x.f0 false x.f0 x.f1 x.f2 x.f3 x.f4 v.f0 v.f1 v.f2 v.f3) (fun k => ?_) (Ev.step (f := fun _ => some (decide (v.f2.length = 0) && decide (v.f3.length = 0) && (if x.f0 = 2 then (decide (v.f1 = 0) || decide (v.f1 = 1)) else if x.f0 = 3 then (decide (-2147483648 ≤ v.f1) && decide (v.f1 ≤ 2147483647)) else (decide (0 ≤ v.f1) && decide (v.f1 < (x.f3.length : Int)))))) (fun k => ?_) (Ev.now _))
      · unfold Cf.f
        rw [if_pos h0, if_neg k1, show (x.f0 == 4) = false from beq_eq_false_iff_ne.mpr (by omega)]
      · rw [Cf.j0, if_neg (by simp), PH]
        cases hb : (decide (v.f2.length = 0) && decide (v.f3.length = 0)) with
        | false =>
          by_cases k2 : x.f0 = 2
          · rw [if_pos k2]; rfl
          by_cases k3 : x.f0 = 3
          · rw [if_neg k2, if_pos k3]; rfl
          rw [if_neg k2, if_neg k3, if_pos (by omega)]; rfl
        | true =>
          by_cases k2 : x.f0 = 2
          · rw [if_pos k2, if_pos k2, Option.bind_some, if_pos rfl, Bool.true_and]
            by_cases q : v.f1 = 0
            · rw [if_pos q, decide_eq_true q]; rfl
            · rw [if_neg q, decide_eq_false q, Bool.false_or]; rfl
          by_cases k3 : x.f0 = 3
          · rw [if_neg k2, if_pos k3, if_neg k2, if_pos k3, Option.bind_some, if_pos rfl, Bool.true_and]
            by_cases q : -2147483648 ≤ v.f1
            · rw [if_pos q, decide_eq_true q, Bool.true_and]
            · rw [if_neg q, decide_eq_false q]; rfl
          rw [if_neg k2, if_neg k3, if_pos (show x.f0 = 5 by omega), if_neg k2, if_neg k3, Option.bind_some, if_pos rfl, Bool.true_and]
          by_cases q : 0 ≤ v.f1
          · rw [if_pos q, decide_eq_true q, Bool.true_and]
          · rw [if_neg q, decide_eq_false q]; rfl
  · have e : Df x v = false := by unfold Df; rw [decide_eq_false h0]; rfl
    rw [e]
    exact Ev.congr (fun k => by unfold Cf.f; rw [if_neg h0]) (Ev.now _)
theorem G8 (x : S26) (v : S30) (a : scB x = true) (hl : x.f3.length ≤ maxLen) : Ev (fun k => CL.f k x.f0 x.f1 x.f2 x.f3 x.f4 v.f0 v.f1 v.f2 v.f3) (Df x v) := by
  unfold CL.f
  refine Ev.bind (Jz x (LH x a) hl) ?_
  rw [a]
  exact Ev.congr (fun k => by rw [if_pos rfl]) (Ev.bind (PI x v a) (Ev.now _))
def F9 (x : S26) (l : List S63) : Nat → Nat → Int → Bool
  | 0, _, _ => true
  | d + 1, i, u => !decide ((AA l (i : Int)).f0 ≤ u) && (!decide ((AA l (i : Int)).f0 > 2000000) && (Df x (AA l (i : Int)).f1 && F9 x l d (i + 1) (AA l (i : Int)).f0))
theorem J4 {l : List S63} {i : Nat} (h : i < l.length) : AA l (i : Int) ∈ l := by
  unfold AA
  rw [List.getD_eq_getElem?_getD, show ((i : Int)).toNat = i from rfl, List.getElem?_eq_getElem h]
  exact List.getElem_mem h
theorem Py (x : S26) (b : scB x = true) (a : x.f3.length ≤ maxLen) (l : List S63) (hl : l.length ≤ maxLen) : ∀ d i u, i + d = l.length → Ev (fun k => Aq.l0 k u l (l.length : Int) (i : Int) x.f0 x.f1 x.f2 x.f3 x.f4) (F9 x l d i u) := by
  have hm := ml
  intro d
  induction d with
  | zero =>
    intro i u hi
    exact Ev.step (f := fun _ => some true) (fun k => by rw [Aq.l0, if_neg (by omega)]) (Ev.now _)
  | succ d c =>
    intro i u hi
    simp only [F9]
    by_cases h1 : (AA l (i : Int)).f0 ≤ u
    · exact Ev.step (f := fun _ => some false) (fun k => by rw [Aq.l0, if_pos (by omega), if_pos (by omega), if_pos (by omega), if_pos h1]) (by simpa [h1] using Ev.now _)
    by_cases h2 : (AA l (i : Int)).f0 > 2000000
    · exact Ev.step (f := fun _ => some false) (fun k => by rw [Aq.l0, if_pos (by omega), if_pos (by omega), if_pos (by omega), if_neg h1, if_pos h2]) (by simpa [h2] using Ev.now _)
    rw [decide_eq_false h1, decide_eq_false h2]
    refine Ev.step (fun k => by rw [Aq.l0, if_pos (by omega), if_pos (by omega), if_pos (by omega), if_neg h1, if_neg h2, CG (by omega) (by omega)]) (Ev.bind (G8 x (AA l (i : Int)).f1 b a) ?_)
    cases Df x (AA l (i : Int)).f1 with
    | false => exact Ev.congr (fun k => by rw [if_neg (by simp)]) (by simpa using Ev.now _)
    | true => exact Ev.congr (fun k => by rw [if_pos rfl]) (by simpa using c (i + 1) _ (by omega))
def D5 (x : S26) (v : S30) (l : List S63) : Bool := scB x && (Df x v && (decide (l.length ≤ 64) && F9 x l l.length 0 (-1)))
theorem PK (l : List S63) : (decide ((l.length : Int) > 64)) = !decide (l.length ≤ 64) := by rw [Bool.eq_iff_iff]; simp; omega
theorem NU (x : S26) (a : x.f3.length ≤ maxLen) (v : S30) (l : List S63) (hl : l.length ≤ maxLen) : Ev (fun k => Aq.f k x.f0 x.f1 x.f2 x.f3 x.f4 v.f0 v.f1 v.f2 v.f3 l) (D5 x v l) := by
  unfold Aq.f D5
  have b : Ev (fun k => Aq.j0 k true x.f0 x.f1 x.f2 x.f3 x.f4 v.f0 v.f1 v.f2 v.f3 l) false := Ev.step (f := fun _ => some false) (fun k => by rw [Aq.j0, if_pos rfl]) (Ev.now _)
  refine Ev.bind (Lr x a) ?_
  cases hs : scB x with
  | false => exact Ev.congr (fun k => by rw [if_neg (by simp)]) (by simpa using b)
  | true =>
    refine Ev.congr (fun k => by rw [if_pos rfl]) (Ev.bind (G8 x v hs a) ?_)
    cases Df x v with
    | false => exact Ev.congr (fun k => by rw [if_neg (by simp)]) (by simpa using b)
    | true =>
      refine Ev.congr (fun k => by rw [if_pos rfl, PK]) ?_
      cases decide (l.length ≤ 64) with
      | false => simpa using b
      | true => exact Ev.step (f := fun k => Aq.l0 k (-1) l (l.length : Int) ((0 : Nat) : Int) x.f0 x.f1 x.f2 x.f3 x.f4) (fun k => by rw [Aq.j0, if_neg (by simp)]; rfl) (by simpa using Py x hs a l hl l.length 0 (-1) (by omega))
end Go.Proofs.Ytojankgmedccdaa.Pure
end
section
namespace Go.Proofs.Ytojankgmedccdaa.Pure
open Go.RowKit Own PTy Hand PIs RowV YtojankgmedccdaaW.PrintWords YtojankgmedccdaaW.PrintLast
open PAw (r01Same.f r01Same.l0)
open PGn
def ExQ {α : Type} (g : Nat → Option α) (Q : α → Prop) : Prop := ∃ t, Ev g t ∧ Q t
section
variable {α β : Type} {g f : Nat → Option α} {Q : α → Prop}
theorem ExQ.now (t : α) (h : Q t) : ExQ (fun _ => some t) Q := ⟨t, Ev.now t, h⟩
theorem ExQ.step (h : ∀ k, g (k + 1) = f k) (a : ExQ f Q) : ExQ g Q := ⟨a.choose, Ev.step h a.choose_spec.1, a.choose_spec.2⟩
theorem ExQ.congr (h : ∀ k, g k = f k) (a : ExQ f Q) : ExQ g Q := ⟨a.choose, Ev.congr h a.choose_spec.1, a.choose_spec.2⟩
theorem ExQ.ite {c : Prop} [Decidable c] (h1 : c → ExQ g Q) (a : ¬ c → ExQ f Q) : ExQ (fun k => if c then g k else f k) Q := by
  by_cases h : c
  · simpa [h] using h1 h
  · simpa [h] using a h
theorem ExQ.bind {R : β → Prop} {g : Nat → Option β} {f : Nat → β → Option α} (h : ExQ g R) (b : ∀ t, R t → ExQ (fun k => f k t) Q) : ExQ (fun k => (g k).bind (f k)) Q := by
  obtain ⟨t, d, hr⟩ := h
  obtain ⟨r, a, c⟩ := b t hr
  exact ⟨r, Ev.bind d a, c⟩
theorem ExQ.of (h : Ex g) : ExQ g (fun _ => True) := ⟨h.choose, h.choose_spec, trivial⟩
end
def smV : Nat → S30 → Prop
  | 0, _ => False
  | m + 1, v => v.f2.length ≤ 9000 ∧ v.f3.length ≤ 9000 ∧ ∀ y ∈ v.f3, smV m y
theorem J5 : ∀ m (v : S30), okV m v → ∀ a : Int, 0 ≤ a → a ≤ 9000 → ExQ (fun k => CK.f k v.f0 v.f1 v.f2 v.f3 a) (fun r => r < a ∧ (0 ≤ r → smV m v))
  | 0, _, h, _, _, _ => h.elim
  | m + 1, v, ⟨_, _, _, h4, h5, h6⟩, a, ha, ha9 => by
    have hm := ml
    refine ExQ.step (fun k => by rw [CK.f]) ?_
    obtain ⟨g, u⟩ : ∃ g, g = a - 1 - (v.f2.length : Int) := ⟨_, rfl⟩
    have x : wrap64 (a - wrap64 (1 + (v.f2.length : Int))) = g := by unfold wrap64; omega
    rw [x]
    have key : ∀ d i, i + d = v.f3.length → ∀ b : Int, b ≤ 9000 → ExQ (fun k => CK.l0 k b v.f3 (v.f3.length : Int) (i : Int)) (fun r => r ≤ b ∧ (0 ≤ r → (d : Int) ≤ b - r ∧ ∀ j, i ≤ j → j < v.f3.length → smV m (AC v.f3 (j : Int)))) := by
      intro d
      induction d with
      | zero =>
        intro i hi b q
        refine ExQ.step (f := fun _ => some b) (fun k => by rw [CK.l0, if_neg (by omega)]) (ExQ.now b ⟨by omega, fun _ => ⟨by omega, fun j h1 p => by omega⟩⟩)
      | succ d B =>
        intro i hi b q
        by_cases hn : b < 0
        · exact ExQ.step (f := fun _ => some b) (fun k => by rw [CK.l0, if_pos (by omega), if_pos (by omega), if_pos (by omega), if_pos hn]) (ExQ.now b ⟨by omega, fun h => by omega⟩)
        · refine ExQ.step (fun k => by rw [CK.l0, if_pos (by omega), if_pos (by omega), if_pos (by omega), if_neg hn, CG (n := (i : Int) + 1) (by omega) (by omega)]) (ExQ.bind (J5 m _ (h6 _ (EX (i := i) (by omega))) b (by omega) q) fun t w => ?_)
          obtain ⟨r, hr, l, c⟩ := B (i + 1) (by omega) t (by omega)
          refine ⟨r, hr, by omega, fun h0 => ?_⟩
          obtain ⟨D, o⟩ := c h0
          refine ⟨by omega, fun j h1 p => ?_⟩
          by_cases e : j = i
          · rw [e]; exact w.2 (by omega)
          · exact o j (by omega) p
    obtain ⟨r, hr, l, c⟩ := key v.f3.length 0 (by omega) g (by omega)
    refine ⟨r, hr, by omega, fun h0 => ?_⟩
    obtain ⟨D, o⟩ := c h0
    refine ⟨by omega, by omega, fun y z => ?_⟩
    obtain ⟨j, s, e⟩ := List.mem_iff_getElem.mp z
    have := o j (by omega) s
    unfold AC at this
    rw [List.getD_eq_getElem?_getD, show ((j : Int)).toNat = j from rfl, List.getElem?_eq_getElem s] at this
    exact e ▸ this
theorem NV (l : List S30) (hl : l.length ≤ maxLen) (m : Nat) (hv : ∀ y ∈ l, okV m y) : ExQ (fun k => BB.l2 k l (l.length : Int) 0) (fun t => t = true → ∀ j, j < l.length → smV m (AC l (j : Int))) := by
  have hm := ml
  have key : ∀ d i, i + d = l.length → ExQ (fun k => BB.l2 k l (l.length : Int) (i : Int)) (fun t => t = true → ∀ j, i ≤ j → j < l.length → smV m (AC l (j : Int))) := by
    intro d
    induction d with
    | zero => exact fun i hi => ExQ.step (f := fun _ => some true) (fun k => by rw [BB.l2, if_neg (by omega)]) (ExQ.now _ fun _ j h1 b => by omega)
    | succ d g =>
      intro i hi
      refine ExQ.step (fun k => by rw [BB.l2, if_pos (by omega), if_pos (by omega), if_pos (by omega), CG (n := (i : Int) + 1) (by omega) (by omega)]) (ExQ.bind (J5 m _ (hv _ (EX (i := i) (by omega))) 9000 (by omega) (by omega)) fun t c => ExQ.ite (fun _ => ExQ.now false (by simp)) fun h0 => ?_)
      obtain ⟨r, hr, a⟩ := g (i + 1) (by omega)
      refine ⟨r, hr, fun e j h1 b => ?_⟩
      by_cases ej : j = i
      · rw [ej]; exact c.2 (by omega)
      · exact a e j (by omega) b
  obtain ⟨r, hr, a⟩ := key l.length 0 (by omega)
  exact ⟨r, hr, fun e j h => a e j (by omega) h⟩
theorem NW (n : Nat) (x : S26) (e : okT n x) (l : List S30) (hl : l.length ≤ maxLen) (m : Nat) (hv : ∀ y ∈ l, okV m y) : ExQ (fun k => BB.f k x.f0 x.f1 x.f2 x.f3 x.f4 l) (fun t => t = true → ∀ j, j < l.length → smV m (AC l (j : Int))) := by
  have hm := ml
  cases n with
  | zero => exact e.elim
  | succ n =>
    obtain ⟨_, _, _, _, h, o, g⟩ := e
    have h1 : ∀ d i, i + d = x.f4.length → ExQ (fun k => BB.l1 k l x.f4 (x.f4.length : Int) (i : Int)) (fun t => t = true → ∀ j, j < l.length → smV m (AC l (j : Int))) := by
      intro d
      induction d with
      | zero => exact fun i hi => ExQ.step (fun k => by rw [BB.l1, if_neg (by omega)] <;> rfl) (NV l hl m hv)
      | succ d c =>
        intro i hi
        exact ExQ.step (fun k => by rw [BB.l1, if_pos (by omega), if_pos (by omega), if_pos (by omega), CG (n := (i : Int) + 1) (by omega) (by omega)] <;> rfl) (ExQ.ite (fun _ => ExQ.now false (by simp)) fun _ => ExQ.bind (ExQ.of (Jv n _ (g _ (Jt (i := i) (by omega))) [] (by simp) 0 (by simp))) fun t _ => ExQ.ite (fun _ => c (i + 1) (by omega)) fun _ => ExQ.now false (by simp))
    have h0 : ∀ d i, i + d = x.f3.length → ExQ (fun k => BB.l0 k l x.f3 (x.f3.length : Int) (i : Int) x.f0 x.f1 x.f2 x.f3 x.f4) (fun t => t = true → ∀ j, j < l.length → smV m (AC l (j : Int))) := by
      intro d
      induction d with
      | zero => exact fun i hi => ExQ.step (fun k => by rw [BB.l0, if_neg (by omega)] <;> rfl) (h1 x.f4.length 0 (by omega))
      | succ d c =>
        intro i hi
        exact ExQ.step (fun k => by rw [BB.l0, if_pos (by omega), if_pos (by omega), if_pos (by omega), CG (n := (i : Int) + 1) (by omega) (by omega)] <;> rfl) (ExQ.ite (fun _ => ExQ.now false (by simp)) fun _ => c (i + 1) (by omega))
    have a : ∀ b, ExQ (fun k => BB.j0 k l b x.f0 x.f1 x.f2 x.f3 x.f4) (fun t => t = true → ∀ j, j < l.length → smV m (AC l (j : Int))) := fun b =>
      ExQ.step (fun k => by rw [BB.j0] <;> rfl) (ExQ.ite (fun _ => ExQ.now false (by simp)) fun _ => h0 x.f3.length 0 (by omega))
    exact ExQ.step (fun k => by rw [BB.f]) (ExQ.ite (fun _ => a _) fun _ => ExQ.ite (fun _ => a _) fun _ => a _)
theorem PM (n : Nat) (x : S26) (z : okT n x) (v : S30) (hv : okV n v) (l : List S63) (hl : ∀ y ∈ l, okV n y.f1) (a : List S30) (r : ∀ y ∈ a, okV n y) :
    ExQ (fun k => Cq.f k x.f0 x.f1 x.f2 x.f3 x.f4 v.f0 v.f1 v.f2 v.f3 l a) (fun t => t = true → l.length ≤ 80 ∧ a.length ≤ 80 ∧ smV n v ∧ (∀ y ∈ a, smV n y) ∧ ∀ y ∈ l, smV n y.f1) := by
  have hm := ml
  have g : ExQ (fun k => Cq.j0 k a true x.f0 x.f1 x.f2 x.f3 x.f4 v.f0 v.f1 v.f2 v.f3 l) (fun t => t = true → l.length ≤ 80 ∧ a.length ≤ 80 ∧ smV n v ∧ (∀ y ∈ a, smV n y) ∧ ∀ y ∈ l, smV n y.f1) :=
    ExQ.step (f := fun _ => some false) (fun k => by rw [Cq.j0, if_pos rfl]) (ExQ.now _ (by simp))
  unfold Cq.f
  by_cases h8 : (l.length : Int) > 80
  · exact ExQ.congr (fun k => by rw [if_pos h8]) g
  by_cases h9 : (a.length : Int) > 80
  · exact ExQ.congr (fun k => by rw [if_neg h8, decide_eq_true h9]) g
  refine ExQ.congr (f := fun k => Cq.j0 k a false x.f0 x.f1 x.f2 x.f3 x.f4 v.f0 v.f1 v.f2 v.f3 l) (fun k => by rw [if_neg h8, decide_eq_false h9]) ?_
  have key : ∀ d i, i + d = l.length → ∀ ys : List S30, ys.length = a.length + 1 + i → (∀ y ∈ ys, okV n y) → (∀ y ∈ (v :: a), y ∈ ys) → (∀ j, j < i → (AA l (j : Int)).f1 ∈ ys) → ExQ (fun k => Cq.l0 k ys l (l.length : Int) (i : Int) x.f0 x.f1 x.f2 x.f3 x.f4) (fun t => t = true → l.length ≤ 80 ∧ a.length ≤ 80 ∧ smV n v ∧ (∀ y ∈ a, smV n y) ∧ ∀ y ∈ l, smV n y.f1) := by
    intro d
    induction d with
    | zero =>
      intro i hi ys u q b p
      refine ExQ.step (fun k => by rw [Cq.l0, if_neg (by omega)]) (ExQ.bind (NW n x z ys (by omega) n q) fun t w => ⟨t, Ev.now t, fun e => ?_⟩)
      have hall : ∀ y ∈ ys, smV n y := by
        intro y s
        obtain ⟨j, c, o⟩ := List.mem_iff_getElem.mp s
        have := w e j c
        unfold AC at this
        rw [List.getD_eq_getElem?_getD, show ((j : Int)).toNat = j from rfl, List.getElem?_eq_getElem c] at this
        exact o ▸ this
      refine ⟨by omega, by omega, hall _ (b v (by simp)), fun y h => hall _ (b y (by simp [h])), fun y h => ?_⟩
      obtain ⟨j, c, o⟩ := List.mem_iff_getElem.mp h
      have := hall _ (p j (by omega))
      unfold AA at this
      rw [List.getD_eq_getElem?_getD, show ((j : Int)).toNat = j from rfl, List.getElem?_eq_getElem c] at this
      exact o ▸ this
    | succ d B =>
      intro i hi ys u q b p
      have m : AA l (i : Int) ∈ l := by
        unfold AA
        rw [List.getD_eq_getElem?_getD, show ((i : Int)).toNat = i from rfl, List.getElem?_eq_getElem (by omega)]
        exact List.getElem_mem _
      refine ExQ.step (fun k => by rw [Cq.l0, if_pos (by omega), if_pos (by omega), if_pos (by omega), if_pos (by omega), CG (n := (i : Int) + 1) (by omega) (by omega), IZ] <;> rfl) (B (i + 1) (by omega) (ys ++ [(AA l (i : Int)).f1]) (by rw [List.length_append, u]; rfl) (fun y h => ?_) (fun y h => List.mem_append_left _ (b y h)) (fun j h => ?_))
      · rcases List.mem_append.mp h with h | h
        · exact q y h
        · rw [List.mem_singleton.mp h]; exact hl _ m
      · by_cases e : j = i
        · rw [e]; exact List.mem_append_right _ (by simp)
        · exact List.mem_append_left _ (p j (by omega))
  refine ExQ.step (fun k => ?_) (key l.length 0 (by omega) (v :: a) (by simp) (fun y h => ?_) (fun y h => h) (by omega))
  · rw [Cq.j0, if_neg (by simp), Option.bind_some, if_pos (by simp; omega), IZ]; rfl
  · rcases List.mem_cons.mp h with rfl | h
    · exact hv
    · exact r y h
theorem Gt {l : List S30} {i : Nat} (h : i < l.length) : AC l (i : Int) = l[i] := by
  unfold AC
  rw [List.getD_eq_getElem?_getD, show ((i : Int)).toNat = i from rfl, List.getElem?_eq_getElem h]; rfl
theorem FX {l : List S63} {i : Nat} (h : i < l.length) : AA l (i : Int) = l[i] := by
  unfold AA
  rw [List.getD_eq_getElem?_getD, show ((i : Int)).toNat = i from rfl, List.getElem?_eq_getElem h]; rfl
theorem JY : ∀ m (v : S30), smV m v → Ev (fun k => Bo.f k v.f0 v.f1 v.f2 v.f3) (v.f0, v.f1, v.f2, v.f3)
  | 0, _, h => h.elim
  | m + 1, v, ⟨h1, h2, h3⟩ => by
    have hm := ml
    refine Ev.step (fun k => by rw [Bo.f, Option.bind_some, if_pos (by simp; omega)]) ?_
    have key : ∀ d i, i + d = v.f3.length → Ev (fun k => Bo.l0 k v.f3 (v.f3.length : Int) (i : Int) v.f0 v.f1 v.f2 (v.f3.take i)) (v.f0, v.f1, v.f2, v.f3) := by
      intro d
      induction d with
      | zero =>
        intro i hi
        rw [List.take_of_length_le (by omega)]
        exact Ev.step (f := fun _ => some (v.f0, v.f1, v.f2, v.f3)) (fun k => by rw [Bo.l0, if_neg (by omega)]) (Ev.now _)
      | succ d b =>
        intro i hi
        have a : i < v.f3.length := by omega
        refine Ev.step (fun k => by rw [Bo.l0, if_pos (by omega), if_pos (by omega), if_pos (by omega), CG (n := (i : Int) + 1) (by omega) (by omega)]) (Ev.bind (JY m _ (h3 _ (EX a))) ?_)
        refine Ev.congr (f := fun k => Bo.l0 k v.f3 (v.f3.length : Int) ((i + 1 : Nat) : Int) v.f0 v.f1 v.f2 (v.f3.take (i + 1))) (fun k => ?_) (b (i + 1) (by omega))
        rw [if_pos (by rw [List.length_take]; omega), List.take_succ_eq_append_getElem a, IZ, Gt a]; rfl
    simpa using key v.f3.length 0 (by omega)
theorem NY (x : S63) : (⟨x.f0, x.f1⟩ : S63) = x := by cases x; rfl
theorem PN (m : Nat) (v : S30) (hv : smV m v) (l : List S63) (hl : l.length ≤ 100) (b : ∀ y ∈ l, smV m y.f1) : Ev (fun k => Cv.f k v.f0 v.f1 v.f2 v.f3 l) (v.f0, v.f1, v.f2, v.f3, l) := by
  have hm := ml
  unfold Cv.f
  refine Ev.bind (JY m v hv) ?_
  have key : ∀ d i, i + d = l.length → Ev (fun k => Cv.l0 k l (l.length : Int) (i : Int) v.f0 v.f1 v.f2 v.f3 (l.take i)) (v.f0, v.f1, v.f2, v.f3, l) := by
    intro d
    induction d with
    | zero =>
      intro i hi
      rw [List.take_of_length_le (by omega)]
      exact Ev.step (f := fun _ => some (v.f0, v.f1, v.f2, v.f3, l)) (fun k => by rw [Cv.l0, if_neg (by omega)]) (Ev.now _)
    | succ d c =>
      intro i hi
      have a : i < l.length := by omega
      refine Ev.step (fun k => by rw [Cv.l0, if_pos (by omega), if_pos (by omega), if_pos (by omega), CG (n := (i : Int) + 1) (by omega) (by omega)]) (Ev.bind (JY m _ (b _ (J4 a))) ?_)
      refine Ev.congr (f := fun k => Cv.l0 k l (l.length : Int) ((i + 1 : Nat) : Int) v.f0 v.f1 v.f2 v.f3 (l.take (i + 1))) (fun k => ?_) (c (i + 1) (by omega))
      rw [if_pos (by rw [List.length_take]; omega), List.take_succ_eq_append_getElem a, IZ, NY, FX a]; rfl
  simpa using key l.length 0 (by omega)
theorem NZ (l : List Int) (hl : l.length ≤ maxLen) : Ev (fun k => r01Same.f k l l) true := by
  have hm := ml
  have key : ∀ d i, i + d = l.length → Ev (fun k => r01Same.l0 k l l (l.length : Int) (i : Int)) true := by
    intro d
    induction d with
    | zero => intro i hi; exact Ev.step (f := fun _ => some true) (fun k => by rw [r01Same.l0, if_neg (by omega)]) (Ev.now _)
    | succ d a =>
      intro i hi
      refine Ev.step (f := fun k => r01Same.l0 k l l (l.length : Int) ((i + 1 : Nat) : Int)) (fun k => ?_) (a (i + 1) (by omega))
      rw [r01Same.l0, if_pos (by omega), if_pos (by omega), if_pos (by omega), if_pos (by omega), if_pos rfl, CG (by omega) (by omega)]
      rfl
  exact Ev.congr (fun k => by unfold r01Same.f; rw [if_pos rfl]; rfl) (key l.length 0 (by omega))
theorem J6 : ∀ m (v : S30), smV m v → Ev (fun k => PGn.Bi.f k v.f0 v.f1 v.f2 v.f3 v.f0 v.f1 v.f2 v.f3) true
  | 0, _, h => h.elim
  | m + 1, v, ⟨h1, h2, h3⟩ => by
    have hm := ml
    refine Ev.step (fun k => by rw [PGn.Bi.f, if_pos rfl, if_pos rfl]) (Ev.bind (NZ v.f2 (by omega)) (Ev.congr (fun k => by rw [if_pos rfl, bne_self_eq_false]) (Ev.step (fun k => by rw [PGn.Bi.j0, if_neg (by simp)]) ?_)))
    have key : ∀ d i, i + d = v.f3.length → Ev (fun k => PGn.Bi.l0 k (v.f3.length : Int) (i : Int) v.f0 v.f1 v.f2 v.f3 v.f0 v.f1 v.f2 v.f3) true := by
      intro d
      induction d with
      | zero => intro i hi; exact Ev.step (f := fun _ => some true) (fun k => by rw [PGn.Bi.l0, if_neg (by omega)]) (Ev.now _)
      | succ d a =>
        intro i hi
        exact Ev.step (fun k => by rw [PGn.Bi.l0, if_pos (by omega), if_pos (by omega), if_pos (by omega), if_pos (by omega), CG (n := (i : Int) + 1) (by omega) (by omega)]) (Ev.bind (J6 m _ (h3 _ (EX (i := i) (by omega)))) (Ev.congr (fun k => by rw [if_pos rfl]; rfl) (a (i + 1) (by omega))))
    exact key v.f3.length 0 (by omega)
end Go.Proofs.Ytojankgmedccdaa.Pure
end
section
namespace Go.Proofs.Ytojankgmedccdaa.Pure
open Go.RowKit Own PTy Hand PIs RowV YtojankgmedccdaaW.PrintWords YtojankgmedccdaaW.PrintLast
open PAw (drivers_copied.f logic_isBit.f logic_both.f logic_both.j0 logic_Resolve.f logic_Resolve.l0 r01Same.f r01Same.l0)
open PRs
theorem Fp (l : List Int) (i : Nat) (h : i < l.length) : rd l (i : Int) = l[i] := by
  unfold rd
  rw [List.getD_eq_getElem?_getD, show ((i : Int)).toNat = i from rfl, List.getElem?_eq_getElem h]; rfl
end Go.Proofs.Ytojankgmedccdaa.Pure
end
section
namespace Go.Proofs.Ytojankgmedccdaa.Pure
open Go.RowKit Own PTy Hand PIs RowV YtojankgmedccdaaW.PrintWords YtojankgmedccdaaW.PrintLast
open PAw (drivers_copied.f logic_isBit.f logic_both.f logic_both.j0 logic_Resolve.f logic_Resolve.l0 r01Same.f r01Same.l0)
open PRs
theorem G9 (x : S26) (v : S30) (h : Df x v = true) : v.f0 = x.f0 ∧ v.f3 = [] ∧ (x.f0 = 1 → v.f2.length = 1) ∧ (x.f0 ≠ 1 → v.f2 = []) ∧ ∀ b ∈ v.f2, b ≤ 3 := by
  unfold Df at h
  rw [Bool.and_eq_true, decide_eq_true_iff] at h
  obtain ⟨h0, h⟩ := h
  by_cases k1 : x.f0 = 1
  · rw [if_pos k1] at h
    simp only [Bool.and_eq_true, decide_eq_true_iff] at h
    obtain ⟨⟨_, d⟩, hi, c⟩ := h
    refine ⟨h0, List.length_eq_zero_iff.mp d, fun _ => c, fun h => absurd k1 h, fun b a => ?_⟩
    unfold isF at hi
    simp only [Bool.and_eq_true, List.all_eq_true, decide_eq_true_iff] at hi
    exact hi.2 b a
  · rw [if_neg k1] at h
    simp only [Bool.and_eq_true, decide_eq_true_iff] at h
    have e := List.length_eq_zero_iff.mp h.1.1
    exact ⟨h0, List.length_eq_zero_iff.mp h.1.2, fun h => absurd h k1, fun _ => e, fun b a => by rw [e] at a; cases a⟩
end Go.Proofs.Ytojankgmedccdaa.Pure
end
section
namespace Go.Proofs.Ytojankgmedccdaa.Pure
open Go.RowKit Own PTy Hand PIs RowV YtojankgmedccdaaW.PrintWords YtojankgmedccdaaW.PrintLast
open PAw (drivers_behind.f drivers_copied.f api_Bit_96.f api_Bit_96.l0)
open PGn
def okL (x : S26) : Int → List S63 → Prop
  | _, [] => True
  | u, c :: r => u < c.f0 ∧ c.f0 ≤ 2000000 ∧ Df x c.f1 = true ∧ okL x c.f0 r
theorem Lx (x : S26) (l : List S63) : ∀ d i u, i + d = l.length → F9 x l d i u = true → okL x u (l.drop i) := by
  intro d
  induction d with
  | zero => intro i u hi _; rw [List.drop_eq_nil_of_le (by omega)]; trivial
  | succ d b =>
    intro i u hi h
    have a : i < l.length := by omega
    rw [List.drop_eq_getElem_cons a]
    simp only [F9, Bool.and_eq_true, Bool.not_eq_true', decide_eq_false_iff_not, FX a] at h
    exact ⟨by omega, by omega, h.2.2.1, b (i + 1) _ (by omega) h.2.2.2⟩
theorem Hz {x : S26} : ∀ {u : Int} {l : List S63}, okL x u l → ∀ y ∈ l, u < y.f0 ∧ y.f0 ≤ 2000000 ∧ Df x y.f1 = true
  | _, [], _, _, h => by cases h
  | u, c :: r, ⟨h1, h2, h3, h4⟩, y, h => by
    rcases List.mem_cons.mp h with rfl | h
    · exact ⟨h1, h2, h3⟩
    · obtain ⟨d, a, b⟩ := Hz h4 y h
      exact ⟨by omega, a, b⟩
theorem Kl {x : S26} {u a : Int} {l : List S63} (h : okL x u l) (b : a ≤ u) : okL x a l := by
  cases l with
  | nil => trivial
  | cons c r => exact ⟨by have := h.1; omega, h.2⟩
theorem FY {x : S26} {v : S30} {l : List S63} (h : D5 x v l = true) : scB x = true ∧ Df x v = true ∧ l.length ≤ 64 ∧ okL x (-1) l := by
  unfold D5 at h
  simp only [Bool.and_eq_true, decide_eq_true_iff] at h
  exact ⟨h.1, h.2.1, h.2.2.1, by simpa using Lx x l l.length 0 (-1) (by omega) h.2.2.2⟩
theorem JZ {x : S26} {v : S30} (h : Df x v = true) : v.f2.length ≤ 1 := by
  obtain ⟨c, d, a, b, e⟩ := G9 x v h
  by_cases k1 : x.f0 = 1
  · rw [a k1]; omega
  · rw [b k1]; simp
def eqV (v w : S30) : Bool := decide (v.f1 = w.f1) && decide (v.f2 = w.f2)
theorem OM (l m : List Int) (hl : l.length ≤ maxLen) (c : m.length ≤ maxLen) : Ev (fun k => api_Bit_96.f k l m) (decide (l = m)) := by
  have hm := ml
  unfold api_Bit_96.f
  by_cases h : l.length = m.length
  · have key : ∀ d i, i + d = l.length → Ev (fun k => api_Bit_96.l0 k l m (l.length : Int) (i : Int)) (decide (l.drop i = m.drop i)) := by
      intro d
      induction d with
      | zero =>
        intro i hi
        rw [List.drop_eq_nil_of_le (by omega), List.drop_eq_nil_of_le (by omega)]
        exact Ev.step (f := fun _ => some true) (fun k => by rw [api_Bit_96.l0, if_neg (by omega)]) (by simpa using Ev.now _)
      | succ d g =>
        intro i hi
        have a : i < l.length := by omega
        have b : i < m.length := by omega
        rw [List.drop_eq_getElem_cons a, List.drop_eq_getElem_cons b]
        have hd : l[i] = m[i] → decide (l[i] :: l.drop (i + 1) = m[i] :: m.drop (i + 1)) = decide (l.drop (i + 1) = m.drop (i + 1)) := fun e => by rw [e]; exact decide_eq_decide.mpr ⟨fun h => (List.cons.inj h).2, fun h => by rw [h]⟩
        have hn : l[i] ≠ m[i] → decide (l[i] :: l.drop (i + 1) = m[i] :: m.drop (i + 1)) = false := fun e => decide_eq_false fun h => e (List.cons.inj h).1
        by_cases e : l[i] = m[i]
        · refine Ev.step (f := fun k => api_Bit_96.l0 k l m (l.length : Int) ((i + 1 : Nat) : Int)) (fun k => ?_) (by rw [hd e]; exact g (i + 1) (by omega))
          rw [api_Bit_96.l0, if_pos (by omega), if_pos (by omega), if_pos (by omega), if_pos (by omega), Fp l i a, Fp m i b, if_pos e, CG (by omega) (by omega)]
          rfl
        · refine Ev.step (f := fun _ => some false) (fun k => ?_) (by rw [hn e]; exact Ev.now _)
          rw [api_Bit_96.l0, if_pos (by omega), if_pos (by omega), if_pos (by omega), if_pos (by omega), Fp l i a, Fp m i b, if_neg e]
    exact Ev.congr (fun k => by rw [if_pos (by omega)]) (by simpa using key l.length 0 (by omega))
  · have e : decide (l = m) = false := decide_eq_false fun e => h (by rw [e])
    rw [e]
    exact Ev.congr (fun k => by rw [if_neg (by omega)]) (Ev.now _)
theorem Na (x : S26) (g : scB x = true) (d : x.f3.length ≤ maxLen) (v w : S30) (hv : Df x v = true) (c : Df x w = true) : Ev (fun k => PGn.Cm.f k x.f0 x.f1 x.f2 x.f3 x.f4 v.f0 v.f1 v.f2 v.f3 w.f0 w.f1 w.f2 w.f3) (eqV v w) := by
  have hm := ml
  have l1 := JZ hv
  have l2 := JZ c
  have h := (G9 x v hv).2.1
  have i := (G9 x w c).2.1
  have a := G8 x v g d
  have b := G8 x w g d
  rw [hv] at a
  rw [c] at b
  have key : Ev (fun k => PGn.Da.f k v.f0 v.f1 v.f2 v.f3 w.f0 w.f1 w.f2 w.f3) (eqV v w) := by
    refine Ev.step (fun k => by rw [PGn.Da.f]) ?_
    unfold eqV
    by_cases e : v.f1 = w.f1
    · refine Ev.congr (fun k => by rw [if_pos e]) (Ev.bind (OM v.f2 w.f2 (by omega) (by omega)) ?_)
      rw [decide_eq_true e, Bool.true_and]
      by_cases e2 : v.f2 = w.f2
      · rw [decide_eq_true e2]
        exact Ev.congr (fun k => by rw [if_pos rfl, h, i]; rfl) (Ev.now true)
      · rw [decide_eq_false e2]
        exact Ev.congr (fun k => by rw [if_neg (by simp)]) (Ev.now false)
    · rw [decide_eq_false e, Bool.false_and]
      exact Ev.congr (fun k => by rw [if_neg e]) (Ev.now false)
  unfold PGn.Cm.f PGn.Dz.f
  refine Ev.bind (a := (eqV v w, 0)) (Ev.bind a (Ev.congr (fun k => by rw [if_pos rfl]) (Ev.bind b (Ev.congr (fun k => by rw [if_pos rfl]) (Ev.bind key (Ev.now _)))))) ?_
  cases eqV v w with
  | true => exact Ev.congr (fun k => by rw [if_pos rfl]; rfl) (Ev.now _)
  | false => exact Ev.congr (fun k => by rw [if_neg (by simp)]) (Ev.now _)
theorem GL (x : S26) (v : S30) (hv : Df x v = true) : drivers_copied.f v.f0 v.f1 v.f2 v.f3 = some (v.f0, v.f1, v.f2, v.f3) := by
  have := JZ hv
  unfold drivers_copied.f EQ.f
  rw [if_pos (by omega)]; rfl
def Eu (l : List S63) (now : Int) : Bool := match l with | [] => false | c :: _ => decide (c.f0 < now)
theorem JB (a b : Int) (m : List Int) (p : List S30) (l : List S63) (now : Int) : drivers_behind.f a b m p l now = some (Eu l now) := by
  unfold drivers_behind.f Eu
  cases l with
  | nil => rfl
  | cons c r => rw [if_pos (by simp)]; first | rfl | (rw [if_pos (by simp)]; rfl)
end Go.Proofs.Ytojankgmedccdaa.Pure
end
section
namespace Go.Proofs.Ytojankgmedccdaa.Pure
open Go.RowKit Own PTy Hand PIs RowV YtojankgmedccdaaW.PrintWords YtojankgmedccdaaW.PrintLast
open PAw (drivers_all.f drivers_all.l0 drivers_rising.f drivers_rising.l0)
open PGn
theorem LJ (x : S26) (l : List S63) (hl : l.length ≤ 100) (hv : ∀ y ∈ l, Df x y.f1 = true) : Ev (fun k => drivers_all.f k l) l := by
  have hm := ml
  unfold drivers_all.f
  have key : ∀ d i, i + d = l.length → Ev (fun k => drivers_all.l0 k (l.take i) l (l.length : Int) (i : Int)) l := by
    intro d
    induction d with
    | zero =>
      intro i hi
      rw [List.take_of_length_le (by omega)]
      exact Ev.step (f := fun _ => some l) (fun k => by rw [drivers_all.l0, if_neg (by omega)]) (Ev.now _)
    | succ d b =>
      intro i hi
      have a : i < l.length := by omega
      have hg : AA l (i : Int) = l[i] := FX a
      refine Ev.step (f := fun k => drivers_all.l0 k (l.take (i + 1)) l (l.length : Int) ((i + 1 : Nat) : Int)) (fun k => ?_) (b (i + 1) (by omega))
      rw [drivers_all.l0, if_pos (by omega), if_pos (by omega), if_pos (by omega), hg, GL x _ (hv _ (List.getElem_mem a)), Option.bind_some, if_pos (by rw [List.length_take]; omega), CG (n := (i : Int) + 1) (by omega) (by omega), IZ, NY, List.take_succ_eq_append_getElem a]; rfl
  exact Ev.congr (fun k => by rw [if_pos (by omega), if_pos (by omega)]) (by simpa using key l.length 0 (by omega))
def Db : Int → List Int → Bool
  | _, [] => true
  | u, n :: r => !decide (n ≤ u) && (!decide (n > 1000000) && Db n r)
theorem EY : ∀ {u : Int} {l : List Int}, Db u l = true → ∀ n ∈ l, u < n ∧ n ≤ 1000000
  | _, [], _, _, h => by cases h
  | u, a :: r, hr, n, h => by
    simp only [Db, Bool.and_eq_true, Bool.not_eq_true', decide_eq_false_iff_not] at hr
    rcases List.mem_cons.mp h with rfl | h
    · exact ⟨by omega, by omega⟩
    · obtain ⟨c, b⟩ := EY hr.2.2 n h
      exact ⟨by omega, b⟩
theorem L6 (l : List Int) (hl : l.length ≤ maxLen) : Ev (fun k => drivers_rising.f k l) (Db (-1) l) := by
  have hm := ml
  unfold drivers_rising.f
  have key : ∀ d i u, i + d = l.length → Ev (fun k => drivers_rising.l0 k u l (l.length : Int) (i : Int)) (Db u (l.drop i)) := by
    intro d
    induction d with
    | zero =>
      intro i u hi
      rw [List.drop_eq_nil_of_le (by omega)]
      exact Ev.step (f := fun _ => some true) (fun k => by rw [drivers_rising.l0, if_neg (by omega)]) (Ev.now _)
    | succ d b =>
      intro i u hi
      have a : i < l.length := by omega
      rw [List.drop_eq_getElem_cons a]
      have hg := Fp l i a
      show Ev _ (!decide (l[i] ≤ u) && (!decide (l[i] > 1000000) && Db l[i] (l.drop (i + 1))))
      by_cases h1 : l[i] ≤ u
      · rw [decide_eq_true h1]
        exact Ev.step (f := fun _ => some false) (fun k => by rw [drivers_rising.l0, if_pos (by omega), if_pos (by omega), if_pos (by omega), hg, if_pos h1]) (Ev.now _)
      by_cases h2 : l[i] > 1000000
      · rw [decide_eq_true h2, decide_eq_false h1]
        exact Ev.step (f := fun _ => some false) (fun k => by rw [drivers_rising.l0, if_pos (by omega), if_pos (by omega), if_pos (by omega), hg, if_neg h1, if_pos h2]) (Ev.now _)
      rw [decide_eq_false h1, decide_eq_false h2]
      exact Ev.step (fun k => by rw [drivers_rising.l0, if_pos (by omega), if_pos (by omega), if_pos (by omega), hg, if_neg h1, if_neg h2, CG (n := (i : Int) + 1) (by omega) (by omega)] <;> rfl) (b (i + 1) l[i] (by omega))
  exact key l.length 0 (-1) (by omega)
def FZ (l : List S63) (t : Int) : Nat := l.findIdx fun c => decide (t ≤ c.f0)
theorem LK (l : List S63) (t : Int) : FZ l t ≤ l.length := List.findIdx_le_length
theorem J7 (l : List S63) (t : Int) (i : Nat) (h : i < FZ l t) (hi : i < l.length) : l[i].f0 < t := by
  have := List.not_of_lt_findIdx (p := fun c : S63 => decide (t ≤ c.f0)) (xs := l) h
  simpa using this
def J8 (l : List S63) (v0 : S30) : Nat → Nat
  | 0 => 0
  | n + 1 => if eqV ((AA l (n : Int)).f1) v0 = true then J8 l v0 n else n + 1
def EA (now : Int) (vals : List S30) (after : List Int) : List S63 := List.zipWith (fun v n => (⟨now + n, v⟩ : S63)) vals after
def J9 (l : List S63) (now : Int) (vals : List S30) (after : List Int) (tr : Bool) : Nat := if tr = true then 0 else J8 l (AC vals 0) (FZ l (now + rd after 0))
def Km (v : S30) (l : List S63) (now : Int) (vals : List S30) (after : List Int) (s f : Nat) : Int × Int × List Int × List S30 × List S63 × Int :=
  if s - f + vals.length > 64 then (0, 0, [], [], [], 3) else (v.f0, v.f1, v.f2, v.f3, (l.take s).drop f ++ EA now vals after, 0)
def Fq (x : S26) (v : S30) (l : List S63) (now : Int) (vals : List S30) (after : List Int) (tr : Bool) : Int × Int × List Int × List S30 × List S63 × Int :=
  if D5 x v l = true ∧ 0 ≤ now ∧ now ≤ 1000000 ∧ 1 ≤ vals.length ∧ vals.length ≤ 64 ∧ after.length = vals.length ∧ Db (-1) after = true ∧ vals.all (Df x) = true then
    (if Eu l now = true then (0, 0, [], [], [], 5) else Km v l now vals after (FZ l (now + rd after 0)) (J9 l now vals after tr))
  else (0, 0, [], [], [], 2)
theorem L8 (x : S26) (v : S30) (now : Int) (h0 : 0 ≤ now) (h1 : now ≤ 1000000) (vals : List S30) (hn : vals.length ≤ 64) (after : List Int) (ha : after.length = vals.length) (hr : Db (-1) after = true) (hall : ∀ y ∈ vals, Df x y = true) : ∀ d i out, i + d = vals.length → out.length ≤ 64 + i →
    Ev (fun k => PGn.AJ.l2 k vals (vals.length : Int) (i : Int) now after v.f0 v.f1 v.f2 v.f3 out) (v.f0, v.f1, v.f2, v.f3, out ++ EA now (vals.drop i) (after.drop i), 0) := by
  have hm := ml
  intro d
  induction d with
  | zero =>
    intro i out hi ho
    rw [List.drop_eq_nil_of_le (show vals.length ≤ i by omega)]
    exact Ev.step (f := fun _ => some (v.f0, v.f1, v.f2, v.f3, out, 0)) (fun k => by rw [PGn.AJ.l2, if_neg (by omega)]) (by simpa [EA] using Ev.now _)
  | succ d g =>
    intro i out hi ho
    have a : i < vals.length := by omega
    have b : i < after.length := by omega
    have hg := Gt (l := vals) a
    have c := Fp after i b
    have h := EY hr _ (List.getElem_mem b)
    have e := g (i + 1) (out ++ [⟨now + after[i], vals[i]⟩]) (by omega) (Nat.le_trans (Nat.le_of_eq (List.length_append ..)) (by show out.length + 1 ≤ 64 + (i + 1); omega))
    rw [List.drop_eq_getElem_cons a, List.drop_eq_getElem_cons b]
    show Ev _ (v.f0, v.f1, v.f2, v.f3, out ++ (⟨now + after[i], vals[i]⟩ :: EA now (vals.drop (i + 1)) (after.drop (i + 1))), 0)
    rw [List.append_assoc, List.singleton_append] at e
    refine Ev.step (f := fun k => PGn.AJ.l2 k vals (vals.length : Int) ((i + 1 : Nat) : Int) now after v.f0 v.f1 v.f2 v.f3 (out ++ [⟨now + after[i], vals[i]⟩])) (fun k => ?_) e
    rw [PGn.AJ.l2, if_pos (by omega), if_pos (by omega), if_pos (by omega), if_pos (by omega), hg, c, GL x _ (hall _ (List.getElem_mem a)), Option.bind_some, if_pos (by omega), CG (n := (i : Int) + 1) (by omega) (by omega), CG (n := now + after[i]) (by omega) (by omega), IZ]; rfl
theorem HY (x : S26) (v : S30) (hv : Df x v = true) (l : List S63) (hl : l.length ≤ 64) (hok : okL x (-1) l) (now : Int) (h0 : 0 ≤ now) (h1 : now ≤ 1000000) (vals : List S30) (hn : vals.length ≤ 64) (after : List Int) (ha : after.length = vals.length) (hr : Db (-1) after = true) (hall : ∀ y ∈ vals, Df x y = true) (s f : Nat) (c : s ≤ l.length) (g : f ≤ s) : Ev (fun k => PGn.AJ.j4 k vals (s : Int) (f : Int) v.f0 v.f1 v.f2 v.f3 l now after) (Km v l now vals after s f) := by
  have hm := ml
  have b : wrap64 (wrap64 ((s : Int) - (f : Int)) + (vals.length : Int)) = ((s - f + vals.length : Nat) : Int) := by rw [CG (n := (s : Int) - (f : Int)) (by omega) (by omega), CG (by omega) (by omega)]; omega
  unfold Km
  by_cases h : s - f + vals.length > 64
  · rw [if_pos h]
    exact Ev.step (f := fun _ => some (0, 0, [], [], [], 3)) (fun k => by rw [PGn.AJ.j4, b, if_pos (by omega)]) (Ev.now _)
  · rw [if_neg h]
    have a : ((l.take s).drop f).length = s - f := by rw [List.length_drop, List.length_take]; omega
    have e := L8 x v now h0 h1 vals hn after ha hr hall vals.length 0 ((l.take s).drop f) (by omega) (by omega)
    rw [List.drop_zero, List.drop_zero] at e
    refine Ev.step (fun k => by rw [PGn.AJ.j4, b, if_neg (by omega), GL x v hv, Option.bind_some, if_pos (by omega), if_pos (by omega), if_pos (by omega), show ((s : Int)).toNat = s from rfl, show ((f : Int)).toNat = f from rfl] <;> rfl) (Ev.bind (LJ x _ (by omega) fun y d => (Hz hok y (List.mem_of_mem_take (List.mem_of_mem_drop d))).2.2) e)
theorem L9 (x : S26) (m : scB x = true) (d : x.f3.length ≤ maxLen) (v : S30) (hv : Df x v = true) (l : List S63) (hl : l.length ≤ 64) (hok : okL x (-1) l) (now : Int) (h0 : 0 ≤ now) (h1 : now ≤ 1000000) (vals : List S30) (j : 1 ≤ vals.length) (hn : vals.length ≤ 64) (after : List Int) (ha : after.length = vals.length) (hr : Db (-1) after = true) (hall : ∀ y ∈ vals, Df x y = true) (s : Nat) (a : s ≤ l.length) : ∀ n, n ≤ s → Ev (fun k => PGn.AJ.l1 k vals (s : Int) (n : Int) x.f0 x.f1 x.f2 x.f3 x.f4 v.f0 v.f1 v.f2 v.f3 l now after) (Km v l now vals after s (J8 l (AC vals 0) n)) := by
  have hm := ml
  intro n
  induction n with
  | zero =>
    intro _
    exact Ev.step (fun k => by rw [PGn.AJ.l1, if_neg (by omega)]) (HY x v hv l hl hok now h0 h1 vals hn after ha hr hall s 0 a (by omega))
  | succ n p =>
    intro c
    have o : wrap64 (((n + 1 : Nat) : Int) - 1) = (n : Int) := by rw [CG (by omega) (by omega)]; omega
    have g := (Hz hok _ (J4 (l := l) (i := n) (by omega))).2.2
    have h := hall _ (EX (l := vals) (i := 0) (by omega))
    refine Ev.step (fun k => by rw [PGn.AJ.l1, o, if_pos (by omega), if_pos (by omega), if_pos (by omega), if_pos (by omega)] <;> rfl) (Ev.bind (Na x m d _ _ g h) ?_)
    unfold J8
    by_cases e : eqV ((AA l (n : Int)).f1) (AC vals ((0 : Nat) : Int)) = true
    · have b : eqV ((AA l (n : Int)).f1) (AC vals 0) = true := e
      rw [if_pos b]
      exact Ev.congr (fun k => by rw [e, if_pos rfl]) (p (by omega))
    · have b : ¬ eqV ((AA l (n : Int)).f1) (AC vals 0) = true := e
      rw [if_neg b]
      exact Ev.congr (fun k => by rw [if_neg e]) (HY x v hv l hl hok now h0 h1 vals hn after ha hr hall s (n + 1) a c)
end Go.Proofs.Ytojankgmedccdaa.Pure
end
section
namespace Go.Proofs.Ytojankgmedccdaa.Pure
open Go.RowKit Own PTy Hand PIs RowV YtojankgmedccdaaW.PrintWords YtojankgmedccdaaW.PrintLast
open PGn
def Od (v : S30) (l : List S63) (now : Int) (vals : List S30) (after : List Int) (tr : Bool) : Int × Int × List Int × List S30 × List S63 × Int :=
  if Eu l now = true then (0, 0, [], [], [], 5) else Km v l now vals after (FZ l (now + rd after 0)) (J9 l now vals after tr)
theorem rd0 (after : List Int) (h : 0 < after.length) (hr : Db (-1) after = true) : 0 ≤ rd after 0 ∧ rd after 0 ≤ 1000000 := by
  have e : rd after 0 = after[0] := Fp after 0 h
  have := EY hr _ (List.getElem_mem h)
  rw [e]; omega
theorem MB (x : S26) (d : scB x = true) (c : x.f3.length ≤ maxLen) (v : S30) (hv : Df x v = true) (l : List S63) (hl : l.length ≤ 64) (hok : okL x (-1) l) (now : Int) (h0 : 0 ≤ now) (h1 : now ≤ 1000000) (vals : List S30) (b : 1 ≤ vals.length) (hn : vals.length ≤ 64) (after : List Int) (ha : after.length = vals.length) (hr : Db (-1) after = true) (hall : ∀ y ∈ vals, Df x y = true) (tr : Bool) (s : Nat) (a : s ≤ l.length) :
    Ev (fun k => PGn.AJ.j2 k vals tr (s : Int) x.f0 x.f1 x.f2 x.f3 x.f4 v.f0 v.f1 v.f2 v.f3 l now after) (Km v l now vals after s (if tr = true then 0 else J8 l (AC vals 0) s)) := by
  cases tr with
  | true => exact Ev.step (fun k => by rw [PGn.AJ.j2, if_pos rfl] <;> rfl) (HY x v hv l hl hok now h0 h1 vals hn after ha hr hall s 0 a (by omega))
  | false => exact Ev.step (fun k => by rw [PGn.AJ.j2, if_neg (by simp)]) (L9 x d c v hv l hl hok now h0 h1 vals b hn after ha hr hall s a s (by omega))
theorem MC (x : S26) (r : scB x = true) (b : x.f3.length ≤ maxLen) (v : S30) (hv : Df x v = true) (l : List S63) (hl : l.length ≤ 64) (hok : okL x (-1) l) (now : Int) (h0 : 0 ≤ now) (h1 : now ≤ 1000000) (vals : List S30) (p : 1 ≤ vals.length) (hn : vals.length ≤ 64) (after : List Int) (ha : after.length = vals.length) (hr : Db (-1) after = true) (tr : Bool) :
    ∀ d i, i + d = vals.length → (∀ j, j < i → Df x (AC vals (j : Int)) = true) → Ev (fun k => PGn.AJ.l0 k now vals after tr vals (vals.length : Int) (i : Int) x.f0 x.f1 x.f2 x.f3 x.f4 v.f0 v.f1 v.f2 v.f3 l now after) (if vals.all (Df x) = true then Od v l now vals after tr else (0, 0, [], [], [], 2)) := by
  have hm := ml
  intro d
  induction d with
  | zero =>
    intro i hi m
    have hall : ∀ y ∈ vals, Df x y = true := by
      intro y B
      obtain ⟨j, o, u⟩ := List.mem_iff_getElem.mp B
      have := m j (by omega)
      rw [Gt o] at this
      exact u ▸ this
    rw [if_pos (List.all_eq_true.mpr hall)]
    refine Ev.step (fun k => by rw [PGn.AJ.l0, if_neg (by omega), JB, Option.bind_some]) ?_
    unfold Od
    cases Eu l now with
    | true =>
      show Ev _ ((0 : Int), (0 : Int), ([] : List Int), ([] : List S30), ([] : List S63), (5 : Int))
      exact Ev.congr (fun k => by rw [if_pos rfl]) (Ev.now _)
    | false =>
      rw [if_neg (by simp)]
      obtain ⟨G, I⟩ := rd0 after (by omega) hr
      have z : wrap64 (now + rd after 0) = now + rd after 0 := CG (by omega) (by omega)
      have s := LK l (now + rd after 0)
      have e := MB x r b v hv l hl hok now h0 h1 vals p hn after ha hr hall tr (FZ l (now + rd after 0)) s
      unfold J9
      refine Ev.congr (fun k => ?_) e
      rw [if_neg (by simp)]
      unfold Ef.f
      rw [if_pos (by omega), Option.bind_some, z]
      cases hf : l.findIdx? (fun c => decide (now + rd after 0 ≤ c.f0)) with
      | none =>
        have a : FZ l (now + rd after 0) = l.length := List.findIdx?_eq_none_iff_findIdx_eq.mp hf
        rw [if_pos (by simp), a]
      | some i =>
        have a : FZ l (now + rd after 0) = i := (List.findIdx?_eq_some_iff_findIdx_eq.mp hf).2
        rw [if_neg (by simp), a]
  | succ d D =>
    intro i hi m
    have g : i < vals.length := by omega
    cases hh : Df x (AC vals (i : Int)) with
    | false =>
      have q : ¬ vals.all (Df x) = true := fun h => by
        have := List.all_eq_true.mp h _ (EX g)
        rw [hh] at this; cases this
      rw [if_neg q]
      refine Ev.step (fun k => by rw [PGn.AJ.l0, if_pos (by omega), if_pos (by omega), if_pos (by omega)]) (Ev.bind (G8 x (AC vals (i : Int)) r b) ?_)
      rw [hh]; exact Ev.congr (fun k => by rw [if_neg (by simp)]) (Ev.now _)
    | true =>
      refine Ev.step (fun k => by rw [PGn.AJ.l0, if_pos (by omega), if_pos (by omega), if_pos (by omega)]) (Ev.bind (G8 x (AC vals (i : Int)) r b) ?_)
      rw [hh]
      refine Ev.congr (fun k => by rw [if_pos rfl, CG (n := (i : Int) + 1) (by omega) (by omega)] <;> rfl) (D (i + 1) (by omega) fun j w => ?_)
      by_cases e : j = i
      · rw [e]; exact hh
      · exact m j (by omega)
theorem ME (x : S26) (d : x.f3.length ≤ maxLen) (v : S30) (l : List S63) (hl : l.length ≤ maxLen) (now : Int) (vals : List S30) (after : List Int) (c : after.length ≤ maxLen) (tr : Bool) :
    Ev (fun k => PGn.AJ.f k x.f0 x.f1 x.f2 x.f3 x.f4 v.f0 v.f1 v.f2 v.f3 l now vals after tr) (Fq x v l now vals after tr) := by
  have hm := ml
  have a : Ev (fun k => PGn.AJ.j0 k now vals after tr true x.f0 x.f1 x.f2 x.f3 x.f4 v.f0 v.f1 v.f2 v.f3 l now after) (0, 0, [], [], [], 2) := Ev.step (f := fun _ => some (0, 0, [], [], [], 2)) (fun k => by rw [PGn.AJ.j0, if_pos rfl]) (Ev.now _)
  unfold PGn.AJ.f Fq
  refine Ev.bind (NU x d v l hl) ?_
  cases hp : D5 x v l with
  | false => rw [if_neg (by simp)]; exact Ev.congr (fun k => by rw [if_neg (by simp)]) a
  | true =>
    refine Ev.congr (fun k => by rw [if_pos rfl]) ?_
    by_cases a1 : now < 0
    · rw [if_neg (by omega)]; exact Ev.congr (fun k => by rw [if_pos a1]) a
    by_cases a2 : now > 1000000
    · rw [if_neg (by omega)]; exact Ev.congr (fun k => by rw [if_neg a1, if_pos a2]) a
    by_cases a3 : (vals.length : Int) < 1
    · rw [if_neg (by omega)]; exact Ev.congr (fun k => by rw [if_neg a1, if_neg a2, if_pos a3]) a
    by_cases a4 : (vals.length : Int) > 64
    · rw [if_neg (by omega)]; exact Ev.congr (fun k => by rw [if_neg a1, if_neg a2, if_neg a3, if_pos a4]) a
    by_cases a5 : (after.length : Int) = (vals.length : Int)
    · refine Ev.congr (fun k => by rw [if_neg a1, if_neg a2, if_neg a3, if_neg a4, if_pos a5]) (Ev.bind (L6 after c) ?_)
      cases hr : Db (-1) after with
      | false => rw [if_neg (by simp)]; exact a
      | true =>
        obtain ⟨g, hv, b, hok⟩ := FY hp
        have e := MC x g d v hv l b hok now (by omega) (by omega) vals (by omega) (by omega) after (by omega) hr tr vals.length 0 (by omega) (by omega)
        refine Ev.step (f := fun k => PGn.AJ.l0 k now vals after tr vals (vals.length : Int) ((0 : Nat) : Int) x.f0 x.f1 x.f2 x.f3 x.f4 v.f0 v.f1 v.f2 v.f3 l now after) (fun k => by rw [PGn.AJ.j0, if_neg (by simp)]; rfl) ?_
        by_cases hall : vals.all (Df x) = true
        · rw [if_pos hall] at e
          rw [if_pos ⟨rfl, by omega, by omega, by omega, by omega, by omega, rfl, hall⟩]
          exact e
        · rw [if_neg hall] at e
          rw [if_neg (fun h => hall h.2.2.2.2.2.2.2)]
          exact e
    · rw [if_neg (by omega)]; exact Ev.congr (fun k => by rw [if_neg a1, if_neg a2, if_neg a3, if_neg a4, if_neg a5]) a
theorem Ib (now : Int) (vals : List S30) (after : List Int) (h : after.length = vals.length) : (EA now vals after).length = vals.length := by unfold EA; rw [List.length_zipWith, h, Nat.min_self]
section
variable (x : S26) (v : S30) (now : Int) (h0 : 0 ≤ now) (h1 : now ≤ 1000000) (vals : List S30) (hn : vals.length ≤ 64) (after : List Int) (ha : after.length = vals.length) (hr : Db (-1) after = true) (hall : ∀ y ∈ vals, Df x y = true)
include h0 h1 hn ha hr hall
variable (hv : Df x v = true) (l : List S63) (hl : l.length ≤ 64) (hok : okL x (-1) l)
include hv hl hok
end
theorem Kn (n : Nat) (x : S26) (c : okT n x) (v : S30) (hv : okV n v) (l : List S63) (hl : ∀ y ∈ l, okV n y.f1) (now : Int) (vals : List S30) (a : ∀ y ∈ vals, okV n y) (after : List Int) (tr : Bool) :
    ExQ (fun k => DJ.f k x.f0 x.f1 x.f2 x.f3 x.f4 v.f0 v.f1 v.f2 v.f3 l now vals after tr) (fun t => t = true → l.length ≤ 80 ∧ vals.length ≤ 80 ∧ smV n v ∧ (∀ y ∈ vals, smV n y) ∧ (∀ y ∈ l, smV n y.f1) ∧ after.length ≤ 100) := by
  unfold DJ.f
  refine ExQ.bind (PM n x c v hv l hl vals a) fun t b => ?_
  cases t with
  | false => exact ExQ.congr (fun k => by rw [if_neg (by simp)]) (ExQ.now false (by simp))
  | true =>
    obtain ⟨d, e, g, i, j⟩ := b rfl
    exact ExQ.congr (fun k => by rw [if_pos rfl]) (ExQ.now (decide ((after.length : Int) ≤ 100)) fun h => ⟨d, e, g, i, j, by have := of_decide_eq_true h; omega⟩)
theorem KA (n : Nat) (x : S26) (b : x.f3.length ≤ maxLen) (v : S30) (g : smV n v) (l : List S63) (c : l.length ≤ 80) (e : ∀ y ∈ l, smV n y.f1) (now : Int) (vals : List S30) (after : List Int) (d : after.length ≤ 100) (tr a : Bool) :
    Ev (fun k => Bh.f k x.f0 x.f1 x.f2 x.f3 x.f4 v.f0 v.f1 v.f2 v.f3 l now vals after a tr) (Fq x v l now vals after tr) := by
  have hm := ml
  unfold Bh.f
  exact Ev.bind (PN n v g l (by omega) e) (Ev.bind (ME x b v l (by omega) now vals after (by omega) tr) (Ev.now _))
end Go.Proofs.Ytojankgmedccdaa.Pure
end
section
namespace Go.Proofs.Ytojankgmedccdaa.Pure
open Go.RowKit Own PTy Hand PIs RowV YtojankgmedccdaaW.PrintWords YtojankgmedccdaaW.PrintLast
open PGn
theorem MF (x : S26) (l : List S63) : ∀ d i u, i + d = l.length → okL x u (l.drop i) → F9 x l d i u = true := by
  intro d
  induction d with
  | zero => intro i u _ _; rfl
  | succ d e =>
    intro i u hi h
    have a : i < l.length := by omega
    rw [List.drop_eq_getElem_cons a] at h
    obtain ⟨h1, g, b, c⟩ := h
    simp only [F9, Bool.and_eq_true, Bool.not_eq_true', decide_eq_false_iff_not, FX a]
    exact ⟨by omega, by omega, b, e (i + 1) _ (by omega) c⟩
theorem KC {x : S26} {v : S30} {l : List S63} (b : scB x = true) (hv : Df x v = true) (a : l.length ≤ 64) (hok : okL x (-1) l) : D5 x v l = true := by
  unfold D5
  rw [b, hv, decide_eq_true a, MF x l l.length 0 (-1) (by omega) (by simpa using hok)]; rfl
theorem KD {x : S26} : ∀ {u : Int} {l : List S63} (s : Nat), okL x u l → okL x u (l.take s)
  | _, [], s, _ => by simp [okL]
  | _, _ :: _, 0, _ => trivial
  | _, c :: r, s + 1, ⟨h1, h2, h3, h4⟩ => ⟨h1, h2, h3, KD s h4⟩
theorem KE {x : S26} : ∀ {u : Int} {l : List S63} (s : Nat), okL x u l → okL x u (l.drop s)
  | _, [], s, _ => by simp [okL]
  | _, _ :: _, 0, h => h
  | u, c :: r, s + 1, ⟨h1, _, _, h4⟩ => Kl (KE s h4) (by omega)
theorem Ic {x : S26} : ∀ {u w : Int} {a b : List S63}, okL x u a → (∀ y ∈ a, y.f0 ≤ w) → u ≤ w → okL x w b → okL x u (a ++ b)
  | _, _, [], _, _, _, hu, hb => Kl hb hu
  | _, w, c :: a, b, ⟨h1, h2, h3, h4⟩, hw, hu, hb => ⟨h1, h2, h3, Ic h4 (fun y h => hw y (List.mem_cons_of_mem _ h)) (hw c List.mem_cons_self) hb⟩
theorem KF (x : S26) (now : Int) (h1 : now ≤ 1000000) : ∀ (m : Int) (vals : List S30) (after : List Int), Db m after = true → (∀ y ∈ vals, Df x y = true) → okL x (now + m) (EA now vals after)
  | _, [], _, _, _ => by simp [EA, okL]
  | _, _ :: _, [], _, _ => trivial
  | m, a :: r, n :: q, hr, hv => by
    have b := EY hr n List.mem_cons_self
    simp only [Db, Bool.and_eq_true, Bool.not_eq_true', decide_eq_false_iff_not] at hr
    exact ⟨by show now + m < now + n; omega, by show now + n ≤ 2000000; omega, hv a List.mem_cons_self, KF x now h1 n r q hr.2.2 fun y h => hv y (List.mem_cons_of_mem _ h)⟩
theorem LM (now : Int) : ∀ (m : Int) (vals : List S30) (after : List Int), Db m after = true → ∀ y ∈ EA now vals after, now + rd after 0 ≤ y.f0
  | _, [], _, _, y, h => by simp [EA] at h
  | _, _ :: _, [], _, y, h => by simp [EA] at h
  | m, a :: r, n :: q, hr, y, h => by
    have e : rd (n :: q) 0 = n := rfl
    rw [e]
    simp only [Db, Bool.and_eq_true, Bool.not_eq_true', decide_eq_false_iff_not] at hr
    rcases List.mem_cons.mp (show y ∈ (⟨now + n, a⟩ : S63) :: EA now r q from h) with rfl | h
    · exact Int.le_refl _
    · cases q with
      | nil => cases r <;> simp [EA] at h
      | cons b c =>
        have := LM now n r (b :: c) hr.2.2 y h
        have g := EY hr.2.2 b List.mem_cons_self
        have d : rd (b :: c) 0 = b := rfl
        rw [d] at this
        omega
theorem MG (x : S26) (v : S30) (l : List S63) (now : Int) (vals : List S30) (after : List Int) (tr : Bool) (h : (Fq x v l now vals after tr).2.2.2.2.2 = 0) :
    (D5 x v l = true ∧ 0 ≤ now ∧ now ≤ 1000000 ∧ 1 ≤ vals.length ∧ vals.length ≤ 64 ∧ after.length = vals.length ∧ Db (-1) after = true ∧ vals.all (Df x) = true) ∧ Eu l now = false ∧
    FZ l (now + rd after 0) - J9 l now vals after tr + vals.length ≤ 64 ∧ Fq x v l now vals after tr = (v.f0, v.f1, v.f2, v.f3, (l.take (FZ l (now + rd after 0))).drop (J9 l now vals after tr) ++ EA now vals after, 0) := by
  unfold Fq at h ⊢
  by_cases hc : D5 x v l = true ∧ 0 ≤ now ∧ now ≤ 1000000 ∧ 1 ≤ vals.length ∧ vals.length ≤ 64 ∧ after.length = vals.length ∧ Db (-1) after = true ∧ vals.all (Df x) = true
  · rw [if_pos hc] at h ⊢
    cases hb : Eu l now with
    | true => rw [hb, if_pos rfl] at h; exact absurd h (by decide)
    | false =>
      rw [hb, if_neg (by simp)] at h
      rw [if_neg (by simp)]
      unfold Km at h ⊢
      by_cases h6 : FZ l (now + rd after 0) - J9 l now vals after tr + vals.length > 64
      · rw [if_pos h6] at h; exact absurd h (by decide)
      · rw [if_neg h6]
        exact ⟨hc, rfl, by omega, rfl⟩
  · rw [if_neg hc] at h; exact absurd h (by decide)
theorem Ja (x : S26) (v : S30) (l : List S63) (now : Int) (vals : List S30) (after : List Int) (tr : Bool)
    (g : D5 x v l = true ∧ 0 ≤ now ∧ now ≤ 1000000 ∧ 1 ≤ vals.length ∧ vals.length ≤ 64 ∧ after.length = vals.length ∧ Db (-1) after = true ∧ vals.all (Df x) = true) (n : FZ l (now + rd after 0) - J9 l now vals after tr + vals.length ≤ 64) :
    D5 x v ((l.take (FZ l (now + rd after 0))).drop (J9 l now vals after tr) ++ EA now vals after) = true := by
  obtain ⟨hp, h0, h1, j, hn, ha, hr, hall⟩ := g
  obtain ⟨k, hv, d, hok⟩ := FY hp
  obtain ⟨o, p⟩ := rd0 after (by omega) hr
  have m := LK l (now + rd after 0)
  refine KC k hv ?_ ?_
  · rw [List.length_append, Ib now vals after ha, List.length_drop, List.length_take]; omega
  · have b : okL x (now + rd after 0 - 1) (EA now vals after) := by
      have := KF x now h1 (-1) vals after hr (List.all_eq_true.mp hall)
      have a := LM now (-1) vals after hr
      cases hq : EA now vals after with
      | nil => trivial
      | cons c q =>
        rw [hq] at this a
        exact ⟨by have := a c List.mem_cons_self; omega, this.2⟩
    refine Ic (KE _ (KD _ hok)) (fun y h => ?_) (by omega) b
    have hm := List.mem_of_mem_drop h
    obtain ⟨i, hi, e⟩ := List.mem_iff_getElem.mp hm
    rw [List.length_take] at hi
    rw [List.getElem_take] at e
    have := J7 l (now + rd after 0) i (by omega) (by omega)
    rw [e] at this
    omega
end Go.Proofs.Ytojankgmedccdaa.Pure
end
section
namespace Go.Proofs.Ytojankgmedccdaa.Pure
open Go.RowKit Own PTy Hand PIs RowV YtojankgmedccdaaW.PrintWords YtojankgmedccdaaW.PrintLast
open PAw (drivers_all.f drivers_all.l0)
open PGn
theorem JC (x : S26) (a : x.f3.length ≤ maxLen) (v : S30) (l : List S63) (hl : l.length ≤ maxLen) (hp : D5 x v l = true) : Ev (fun k => PGn.CF.f k x.f0 x.f1 x.f2 x.f3 x.f4 v.f0 v.f1 v.f2 v.f3 l) (match l with | [] => (0, 4) | c :: _ => (c.f0, 0)) := by
  unfold PGn.CF.f
  refine Ev.bind (NU x a v l hl) ?_
  rw [hp]
  cases l with
  | nil => exact Ev.congr (fun k => by rw [if_pos rfl, if_pos (by simp)]) (Ev.now _)
  | cons c r => exact Ev.congr (fun k => by rw [if_pos rfl, if_neg (by simp; omega), if_pos (by simp)]; rfl) (Ev.now _)
theorem MH (x : S26) (e : x.f3.length ≤ maxLen) (v : S30) (c : S63) (r : List S63) (hp : D5 x v (c :: r) = true) : Ev (fun k => Ak.f k x.f0 x.f1 x.f2 x.f3 x.f4 v.f0 v.f1 v.f2 v.f3 (c :: r) c.f0) (c.f1.f0, c.f1.f1, c.f1.f2, c.f1.f3, r, true, 0) := by
  have hm := ml
  obtain ⟨i, hv, b, hok⟩ := FY hp
  have d : ∀ y ∈ c :: r, Df x y.f1 = true := fun y h => (Hz hok y h).2.2
  obtain ⟨j, l, m, n⟩ := hok
  unfold Ak.f
  refine Ev.bind (NU x e v (c :: r) (by omega)) ?_
  rw [hp]
  refine Ev.congr (fun k => by rw [if_pos rfl, if_neg (show ¬ c.f0 < 0 by omega), decide_eq_false (show ¬ c.f0 > 2000000 by omega)]) (Ev.step (fun k => by rw [Ak.j0, if_neg (by simp), JB, Option.bind_some]) ?_)
  rw [show Eu (c :: r) c.f0 = false from decide_eq_false (by omega)]
  have g := d c List.mem_cons_self
  refine Ev.congr (f := fun k => Ak.j1 k false v.f0 v.f1 v.f2 v.f3 (c :: r)) (fun k => ?_) ?_
  · rw [if_neg (by simp), if_neg (by simp; omega), if_pos (by simp), show AA (c :: r) 0 = c from rfl, show (c.f0 != c.f0) = false from bne_eq_false_iff_eq.mpr rfl]
  refine Ev.step (f := fun k => (drivers_all.f k r).bind fun a => (some (c.f1.f0, c.f1.f1, c.f1.f2, c.f1.f3, a, true, 0))) (fun k => ?_) (Ev.bind (LJ x r (by simp at b; omega) fun y h => d y (List.mem_cons_of_mem _ h)) (Ev.now _))
  rw [Ak.j1, if_neg (by simp), if_pos (by simp), show AA (c :: r) 0 = c from rfl, GL x c.f1 g, Option.bind_some, if_pos (by simp; omega)]; rfl
theorem Nb (x : S26) (a : x.f3.length ≤ maxLen) (v : S30) (l : List S63) (hp : D5 x v l = true) : Ev (fun k => Cn.f k x.f0 x.f1 x.f2 x.f3 x.f4 v.f0 v.f1 v.f2 v.f3 l) (l, true) := by
  have hm := ml
  have key : ∀ (r : List S63) (v : S30) (i : Nat) (out : List S63), D5 x v r = true → i + r.length ≤ 64 → out.length ≤ i → Ev (fun k => Cn.l0 k out (i : Int) x.f0 x.f1 x.f2 x.f3 x.f4 v.f0 v.f1 v.f2 v.f3 r) (out ++ r, true) := by
    intro r
    induction r with
    | nil =>
      intro v i out hp hi ho
      rw [List.append_nil]
      refine Ev.step (fun k => by rw [Cn.l0, if_pos (by simp at hi; omega)]) (Ev.bind (JC x a v [] (by simp) hp) ?_)
      exact Ev.congr (fun k => by rw [if_pos rfl]) (Ev.now _)
    | cons c r h =>
      intro v i out hp hi ho
      rw [List.length_cons] at hi
      obtain ⟨g, hv, d, hok⟩ := FY hp
      have b : D5 x c.f1 r = true := KC g hok.2.2.1 (by omega) (Kl hok.2.2.2 (by have := hok.1; omega))
      have e := h c.f1 (i + 1) (out ++ [c]) b (by omega) (by rw [List.length_append]; simp; omega)
      rw [List.append_assoc, List.singleton_append] at e
      refine Ev.step (fun k => by rw [Cn.l0, if_pos (by omega)]) (Ev.bind (JC x a v (c :: r) (by simp; omega) hp) ?_)
      refine Ev.congr (fun k => by rw [if_neg (show ¬ ((c.f0, (0 : Int)).2 = 4) by simp)]) (Ev.bind (MH x a v c r hp) ?_)
      refine Ev.congr (fun k => ?_) e
      rw [if_pos rfl, if_pos rfl, if_pos rfl, if_pos (by omega), CG (n := (i : Int) + 1) (by omega) (by omega), IZ, NY]; rfl
  unfold Cn.f
  have := key l v 0 [] hp (by have := (FY hp).2.2.1; omega) (by simp)
  simpa using this
end Go.Proofs.Ytojankgmedccdaa.Pure
end
section
namespace Go.Proofs.Ytojankgmedccdaa.Pure
open Go.RowKit Own PTy Hand PIs RowV YtojankgmedccdaaW.PrintWords YtojankgmedccdaaW.PrintLast
open PGn
def Em (t : Int) : S30 → List S63 → S30
  | u, [] => u
  | u, c :: r => Em t (if c.f0 ≤ t then c.f1 else u) r
theorem GX (t : Int) : ∀ (a b : List S63) (u : S30), Em t u (a ++ b) = Em t (Em t u a) b
  | [], _, _ => rfl
  | c :: a, b, u => GX t a b _
theorem Hm (t : Int) : ∀ (l : List S63) (u : S30), (∀ y ∈ l, t < y.f0) → Em t u l = u
  | [], _, _ => rfl
  | c :: r, u, h => by
    have b := h c List.mem_cons_self
    show Em t (if c.f0 ≤ t then c.f1 else u) r = u
    rw [if_neg (by omega), Hm t r u fun y a => h y (List.mem_cons_of_mem _ a)]
theorem LP (now : Int) : ∀ (m : Int) (vals : List S30) (after : List Int), Db m after = true → ∀ y ∈ EA now vals after, now + m < y.f0
  | _, [], _, _, y, h => by simp [EA] at h
  | _, _ :: _, [], _, y, h => by simp [EA] at h
  | m, a :: r, n :: q, hr, y, h => by
    have b := EY hr n List.mem_cons_self
    simp only [Db, Bool.and_eq_true, Bool.not_eq_true', decide_eq_false_iff_not] at hr
    rcases List.mem_cons.mp (show y ∈ (⟨now + n, a⟩ : S63) :: EA now r q from h) with rfl | h
    · show now + m < now + n; omega
    · have := LP now n r q hr.2.2 y h; omega
theorem Ie (now : Int) : ∀ (m : Int) (vals : List S30) (after : List Int) (i : Nat) (u : S30), Db m after = true → after.length = vals.length → (h : i < vals.length) → (b : i < after.length) → Em (now + after[i]) u (EA now vals after) = vals[i]
  | _, [], _, _, _, _, _, h, _ => by simp at h
  | _, _ :: _, [], _, _, _, _, _, b => by simp at b
  | m, a :: r, n :: q, 0, u, hr, _, _, _ => by
    simp only [Db, Bool.and_eq_true, Bool.not_eq_true', decide_eq_false_iff_not] at hr
    show Em (now + n) (if now + n ≤ now + n then a else u) (EA now r q) = a
    rw [if_pos (by omega)]
    exact Hm _ _ _ (LP now n r q hr.2.2)
  | m, a :: r, n :: q, i + 1, u, hr, hl, h, b => by
    simp only [Db, Bool.and_eq_true, Bool.not_eq_true', decide_eq_false_iff_not] at hr
    have d : i < r.length := by simpa using h
    have c : i < q.length := by simpa using b
    show Em (now + q[i]) (if now + n ≤ now + q[i] then a else u) (EA now r q) = r[i]
    exact Ie now n r q i _ hr.2.2 (by simpa using hl) d c
theorem Nc (n : Nat) (x : S26) (v : S30) (l : List S63) (now : Int) (h0 : 0 ≤ now) (h1 : now ≤ 1000000) (vals : List S30) (hn : vals.length ≤ 64) (after : List Int) (ha : after.length = vals.length) (hr : Db (-1) after = true) (tr : Bool) (g : List S63) (hg : g.length ≤ 64) (i : Nat) (hi : i < vals.length) (B : smV n vals[i])
    (a : Ev (fun k => AV.l0 k g (vals.length : Int) ((i + 1 : Nat) : Int) x.f0 x.f1 x.f2 x.f3 x.f4 v.f0 v.f1 v.f2 v.f3 l now vals after tr) true) :
    ∀ d j (u : S30), j + d = g.length → Em (now + after[i]'(by omega)) u (g.drop j) = vals[i] → Ev (fun k => AV.l1 k g (i : Int) (vals.length : Int) (i : Int) g (g.length : Int) (j : Int) x.f0 x.f1 x.f2 x.f3 x.f4 v.f0 v.f1 v.f2 v.f3 l now vals after tr u.f0 u.f1 u.f2 u.f3) true := by
  have hm := ml
  have m : i < after.length := by omega
  have D := EY hr _ (List.getElem_mem m)
  have w : wrap64 (now + after[i]) = now + after[i] := CG (by omega) (by omega)
  have b := Fp after i m
  have r := Gt (l := vals) hi
  intro d
  induction d with
  | zero =>
    intro j u y p
    rw [List.drop_eq_nil_of_le (by omega)] at p
    obtain rfl : u = vals[i] := p
    have q := J6 n _ B
    refine Ev.step (fun k => by rw [AV.l1, if_neg (by omega), if_pos (by omega), if_pos (by omega), r]) (Ev.bind q ?_)
    exact Ev.congr (fun k => by rw [if_pos rfl, CG (n := (i : Int) + 1) (by omega) (by omega)] <;> rfl) a
  | succ d z =>
    intro j u y p
    have o : j < g.length := by omega
    have h := FX (l := g) o
    rw [List.drop_eq_getElem_cons o] at p
    have s : Em (now + after[i]) (if g[j].f0 ≤ now + after[i] then g[j].f1 else u) (g.drop (j + 1)) = vals[i] := p
    have e := z (j + 1) _ (by omega) s
    by_cases c : g[j].f0 ≤ now + after[i]
    · rw [if_pos c] at e
      exact Ev.step (fun k => by rw [AV.l1, if_pos (by omega), if_pos (by omega), if_pos (by omega), if_pos (by omega), if_pos (by omega), h, b, w, if_pos c, CG (n := (j : Int) + 1) (by omega) (by omega)] <;> rfl) e
    · rw [if_neg c] at e
      exact Ev.step (fun k => by rw [AV.l1, if_pos (by omega), if_pos (by omega), if_pos (by omega), if_pos (by omega), if_pos (by omega), h, b, w, if_neg c, CG (n := (j : Int) + 1) (by omega) (by omega)] <;> rfl) e
theorem OO (now : Int) (vals : List S30) (after : List Int) (i : Nat) (h : i < vals.length) (a : i < after.length) (b : i < (EA now vals after).length) : (EA now vals after)[i] = ⟨now + after[i], vals[i]⟩ := by
  simp [EA]
theorem Nf (n : Nat) (x : S26) (v : S30) (l : List S63) (now : Int) (h0 : 0 ≤ now) (h1 : now ≤ 1000000) (vals : List S30) (p : 1 ≤ vals.length) (hn : vals.length ≤ 64) (after : List Int) (ha : after.length = vals.length) (hr : Db (-1) after = true) (tr : Bool) (r : ∀ y ∈ vals, smV n y) (a : List S63) (hg : (a ++ EA now vals after).length ≤ 64) :
    ∀ d i, i + d = vals.length → Ev (fun k => AV.l0 k (a ++ EA now vals after) (vals.length : Int) (i : Int) x.f0 x.f1 x.f2 x.f3 x.f4 v.f0 v.f1 v.f2 v.f3 l now vals after tr) true := by
  have hm := ml
  have o : (a ++ EA now vals after).length = a.length + vals.length := by rw [List.length_append, Ib now vals after ha]
  have g : Ev (fun k => (Dk.f k).bind fun t => some t) true := Ev.now true
  intro d
  induction d with
  | zero =>
    intro i hi
    have w1 : wrap64 (((a ++ EA now vals after).length : Int) - 1) = ((a.length + (vals.length - 1) : Nat) : Int) := by rw [CG (by omega) (by omega)]; omega
    have s : wrap64 ((after.length : Int) - 1) = ((vals.length - 1 : Nat) : Int) := by rw [CG (by omega) (by omega)]; omega
    have c : vals.length - 1 < after.length := by omega
    have u := EY hr _ (List.getElem_mem c)
    have h : AA (a ++ EA now vals after) ((a.length + (vals.length - 1) : Nat) : Int) = ⟨now + after[vals.length - 1], vals[vals.length - 1]'(by omega)⟩ := by
      rw [FX (by omega), List.getElem_append_right (by omega)]
      rw [← OO now vals after (vals.length - 1) (by omega) c (by rw [Ib now vals after ha]; omega)]
      congr 1; omega
    have j := Fp after (vals.length - 1) c
    refine Ev.step (fun k => ?_) g
    rw [AV.l0, if_neg (by omega), if_pos (by omega), w1, s, if_pos (by omega), if_pos (by omega), if_pos (by omega), if_pos (by omega), h, j, CG (n := now + after[vals.length - 1]) (by omega) (by omega), if_pos rfl]
  | succ d q =>
    intro i hi
    have b : i < vals.length := by omega
    have m : i < after.length := by omega
    have e := Nc n x v l now h0 h1 vals hn after ha hr tr _ hg i b (r _ (List.getElem_mem b)) (q (i + 1) (by omega)) _ 0 ⟨0, 0, [], []⟩ (Nat.zero_add _) (by
      rw [List.drop_zero, GX]
      exact Ie now (-1) vals after i _ hr ha b m)
    exact Ev.step (fun k => by rw [AV.l0, if_pos (by omega)] <;> rfl) e
theorem MI (n : Nat) (x : S26) (d : okT n x) (v : S30) (hv : okV n v) (l : List S63) (hl : l.length ≤ maxLen) (o : ∀ y ∈ l, okV n y.f1) (now : Int) (vals : List S30) (c : ∀ y ∈ vals, okV n y) (after : List Int) (tr : Bool) :
    ∃ K, AV.f K x.f0 x.f1 x.f2 x.f3 x.f4 v.f0 v.f1 v.f2 v.f3 l now vals after tr = some true := by
  have hm := ml
  have e : x.f3.length ≤ maxLen := by
    cases n with
    | zero => exact d.elim
    | succ n => exact d.2.2.2.2.1
  refine Ev.rounds (g := fun k => AV.f k x.f0 x.f1 x.f2 x.f3 x.f4 v.f0 v.f1 v.f2 v.f3 l now vals after tr) ?_
  unfold AV.f
  obtain ⟨t, m, i⟩ := Kn n x d v hv l o now vals c after tr
  have ha : Ev (fun k => (Dk.f k).bind fun t => some t) true := Ev.now true
  refine Ev.bind m ?_
  cases t with
  | false => exact Ev.congr (fun k => by rw [if_neg (by simp)]) ha
  | true =>
    obtain ⟨p, z, q, r, s, u⟩ := i rfl
    refine Ev.congr (fun k => by rw [if_pos rfl]) (Ev.bind (KA n x e v q l p s now vals after u tr tr) ?_)
    by_cases he : (Fq x v l now vals after tr).2.2.2.2.2 = 0
    · obtain ⟨a, w, h, j⟩ := MG x v l now vals after tr he
      have b := Ja x v l now vals after tr a h
      refine Ev.congr (fun k => by rw [if_pos he]) ?_
      rw [j]
      refine Ev.bind (Nb x e v _ b) ?_
      refine Ev.congr (fun k => by rw [if_pos rfl]) ?_
      exact Nf n x v l now a.2.1 a.2.2.1 vals a.2.2.2.1 a.2.2.2.2.1 after a.2.2.2.2.2.1 a.2.2.2.2.2.2.1 tr r _ (FY b).2.2.1 vals.length 0 (Nat.zero_add _)
    · exact Ev.congr (fun k => by rw [if_neg he]) ha
end Go.Proofs.Ytojankgmedccdaa.Pure
end
