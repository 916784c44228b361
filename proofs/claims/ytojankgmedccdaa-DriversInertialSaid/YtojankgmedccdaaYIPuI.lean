/- Lemmas for LawDriversInertial. -/
import Derived.Test.YtojankgmedccdaaYIPuG
import Derived.Test.YtojankgmedccdaaYIPRsx5
import Derived.Test.YtojankgmedccdaaYIPGnF9
section
namespace Go.Proofs.Ytojankgmedccdaa.Pure
open Go.RowKit Own PTy Hand PIs RowV YtojankgmedccdaaW.PrintWords YtojankgmedccdaaW.PrintLast
def DC (x : S26) (v : S30) : Bool := decide (v.f0 = x.f0) && (if x.f0 = 1 then (decide (v.f1 = 0) && decide (v.f3.length = 0) && (isF v.f2 && decide (v.f2.length = 1))) else (decide (v.f2.length = 0) && decide (v.f3.length = 0) && (if x.f0 = 2 then (decide (v.f1 = 0) || decide (v.f1 = 1)) else if x.f0 = 3 then (decide (-2147483648 ≤ v.f1) && decide (v.f1 ≤ 2147483647)) else (decide (0 ≤ v.f1) && decide (v.f1 < (x.f3.length : Int))))))
theorem PD (v : S30) : Bp.f v.f0 v.f1 v.f2 v.f3 false true false = some (decide (v.f1 = 0) && decide (v.f3.length = 0)) := by
  unfold Bp.f
  by_cases h1 : v.f1 = 0 <;> simp [h1, Gh]
theorem PE (v : S30) : Bp.f v.f0 v.f1 v.f2 v.f3 true false false = some (decide (v.f2.length = 0) && decide (v.f3.length = 0)) := by
  unfold Bp.f
  by_cases h1 : v.f2.length = 0 <;> simp [h1, Gh]
  all_goals simp_all [Gh]
theorem Pz (x : S26) (h : scB x = true) : x.f1 = 0 := by
  unfold scB I8 I9 at h
  split at h <;> simp_all
theorem LG (x : S26) (h : scB x = true) : GK x = true ∨ x.f0 = 5 := by
  by_cases hx : GK x = true ∨ x.f0 = 5
  · exact hx
  · rw [OV x hx] at h; cases h
theorem PG (x : S26) (v : S30) (a : scB x = true) : Ev (fun k => Cf.f k x.f0 x.f1 x.f2 x.f3 x.f4 v.f0 v.f1 v.f2 v.f3) (DC x v) := by
  have b := LG x a
  have h1 := Pz x a
  rw [Gi] at b
  by_cases h0 : v.f0 = x.f0
  · unfold DC
    rw [decide_eq_true h0, Bool.true_and]
    by_cases k1 : x.f0 = 1
    · rw [if_pos k1]
      refine Ev.congr (f := fun k => Cf.j0 k x.f0 true x.f0 x.f1 x.f2 x.f3 x.f4 v.f0 v.f1 v.f2 v.f3) (fun k => ?_) (Ev.step (f := fun _ => some (decide (v.f1 = 0) && decide (v.f3.length = 0) && (isF v.f2 && decide (v.f2.length = 1)))) (fun k => ?_) (Ev.now _))
      · unfold Cf.f
        rw [if_pos h0, if_pos k1, k1]; rfl
      · rw [Cf.j0, if_pos rfl, PD, h1]
        have hm : mx 0 1 = 1 := rfl
        cases hb : (decide (v.f1 = 0) && decide (v.f3.length = 0)) with
        | false => simp
        | true =>
          rw [Option.bind_some, if_pos rfl, FH.f, Option.bind_some, hm, Bool.true_and]
          cases isF v.f2 with
          | false => rfl
          | true =>
            rw [if_pos rfl, Bool.true_and]
            congr 1; rw [Bool.eq_iff_iff]; simp; omega
    · rw [if_neg k1]
      refine Ev.congr (f := fun k => Cf.j0 k x.f0 false x.f0 x.f1 x.f2 x.f3 x.f4 v.f0 v.f1 v.f2 v.f3) (fun k => ?_) (Ev.step (f := fun _ => some (decide (v.f2.length = 0) && decide (v.f3.length = 0) && (if x.f0 = 2 then (decide (v.f1 = 0) || decide (v.f1 = 1)) else if x.f0 = 3 then (decide (-2147483648 ≤ v.f1) && decide (v.f1 ≤ 2147483647)) else (decide (0 ≤ v.f1) && decide (v.f1 < (x.f3.length : Int)))))) (fun k => ?_) (Ev.now _))
      · unfold Cf.f
        rw [if_pos h0, if_neg k1, show (x.f0 == 4) = false from beq_eq_false_iff_ne.mpr (by omega)]
      · rw [Cf.j0, if_neg (by simp), PE]
        cases hb : (decide (v.f2.length = 0) && decide (v.f3.length = 0)) with
        | false =>
          by_cases k2 : x.f0 = 2
          · rw [if_pos k2]; rfl
          by_cases k3 : x.f0 = 3
          · rw [if_neg k2, if_pos k3]; rfl
          rw [if_neg k2, if_neg k3, if_pos (by omega)]; rfl
        | true =>
          by_cases k2 : x.f0 = 2
          · rw [if_pos k2, if_pos k2, Option.bind_some, if_pos rfl, Bool.true_and]
            by_cases q : v.f1 = 0
            · rw [if_pos q, decide_eq_true q]; rfl
            · rw [if_neg q, decide_eq_false q, Bool.false_or]; rfl
          by_cases k3 : x.f0 = 3
          · rw [if_neg k2, if_pos k3, if_neg k2, if_pos k3, Option.bind_some, if_pos rfl, Bool.true_and]
            by_cases q : -2147483648 ≤ v.f1
            · rw [if_pos q, decide_eq_true q, Bool.true_and]
            · rw [if_neg q, decide_eq_false q]; rfl
          rw [if_neg k2, if_neg k3, if_pos (show x.f0 = 5 by omega), if_neg k2, if_neg k3, Option.bind_some, if_pos rfl, Bool.true_and]
          by_cases q : 0 ≤ v.f1
          · rw [if_pos q, decide_eq_true q, Bool.true_and]
          · rw [if_neg q, decide_eq_false q]; rfl
  · have e : DC x v = false := by unfold DC; rw [decide_eq_false h0]; rfl
    rw [e]
    exact Ev.congr (fun k => by unfold Cf.f; rw [if_neg h0]) (Ev.now _)
theorem Gu (x : S26) (v : S30) (a : scB x = true) (hl : x.f3.length ≤ maxLen) : Ev (fun k => CJ.f k x.f0 x.f1 x.f2 x.f3 x.f4 v.f0 v.f1 v.f2 v.f3) (DC x v) := by
  unfold CJ.f
  refine Ev.bind (J4 x (LG x a) hl) ?_
  rw [a]
  exact Ev.congr (fun k => by rw [if_pos rfl]) (Ev.bind (PG x v a) (Ev.now _))
def Fy (x : S26) (l : List S63) : Nat → Nat → Int → Bool
  | 0, _, _ => true
  | d + 1, i, u => !decide ((AA l (i : Int)).f0 ≤ u) && (!decide ((AA l (i : Int)).f0 > 2000000) && (DC x (AA l (i : Int)).f1 && Fy x l d (i + 1) (AA l (i : Int)).f0))
theorem IW {l : List S63} {i : Nat} (h : i < l.length) : AA l (i : Int) ∈ l := by
  unfold AA
  rw [List.getD_eq_getElem?_getD, show ((i : Int)).toNat = i from rfl, List.getElem?_eq_getElem h]
  exact List.getElem_mem h
theorem P5 (x : S26) (b : scB x = true) (a : x.f3.length ≤ maxLen) (l : List S63) (hl : l.length ≤ maxLen) : ∀ d i u, i + d = l.length → Ev (fun k => BD.l0 k u l (l.length : Int) (i : Int) x.f0 x.f1 x.f2 x.f3 x.f4) (Fy x l d i u) := by
  have hm := ml
  intro d
  induction d with
  | zero =>
    intro i u hi
    exact Ev.step (f := fun _ => some true) (fun k => by rw [BD.l0, if_neg (by omega)]) (Ev.now _)
  | succ d c =>
    intro i u hi
    simp only [Fy]
    by_cases h1 : (AA l (i : Int)).f0 ≤ u
    · exact Ev.step (f := fun _ => some false) (fun k => by rw [BD.l0, if_pos (by omega), if_pos (by omega), if_pos (by omega), if_pos h1]) (by simpa [h1] using Ev.now _)
    by_cases h2 : (AA l (i : Int)).f0 > 2000000
    · exact Ev.step (f := fun _ => some false) (fun k => by rw [BD.l0, if_pos (by omega), if_pos (by omega), if_pos (by omega), if_neg h1, if_pos h2]) (by simpa [h2] using Ev.now _)
    rw [decide_eq_false h1, decide_eq_false h2]
    refine Ev.step (fun k => by rw [BD.l0, if_pos (by omega), if_pos (by omega), if_pos (by omega), if_neg h1, if_neg h2, CQ (by omega) (by omega)]) (Ev.bind (Gu x (AA l (i : Int)).f1 b a) ?_)
    cases DC x (AA l (i : Int)).f1 with
    | false => exact Ev.congr (fun k => by rw [if_neg (by simp)]) (by simpa using Ev.now _)
    | true => exact Ev.congr (fun k => by rw [if_pos rfl]) (by simpa using c (i + 1) _ (by omega))
def Du (x : S26) (v : S30) (l : List S63) : Bool := scB x && (DC x v && (decide (l.length ≤ 64) && Fy x l l.length 0 (-1)))
theorem PH (l : List S63) : (decide ((l.length : Int) > 64)) = !decide (l.length ≤ 64) := by rw [Bool.eq_iff_iff]; simp; omega
theorem OY (x : S26) (a : x.f3.length ≤ maxLen) (v : S30) (l : List S63) (hl : l.length ≤ maxLen) : Ev (fun k => BD.f k x.f0 x.f1 x.f2 x.f3 x.f4 v.f0 v.f1 v.f2 v.f3 l) (Du x v l) := by
  unfold BD.f Du
  have b : Ev (fun k => BD.j0 k true x.f0 x.f1 x.f2 x.f3 x.f4 v.f0 v.f1 v.f2 v.f3 l) false := Ev.step (f := fun _ => some false) (fun k => by rw [BD.j0, if_pos rfl]) (Ev.now _)
  refine Ev.bind (Li x a) ?_
  cases hs : scB x with
  | false => exact Ev.congr (fun k => by rw [if_neg (by simp)]) (by simpa using b)
  | true =>
    refine Ev.congr (fun k => by rw [if_pos rfl]) (Ev.bind (Gu x v hs a) ?_)
    cases DC x v with
    | false => exact Ev.congr (fun k => by rw [if_neg (by simp)]) (by simpa using b)
    | true =>
      refine Ev.congr (fun k => by rw [if_pos rfl, PH]) ?_
      cases decide (l.length ≤ 64) with
      | false => simpa using b
      | true => exact Ev.step (f := fun k => BD.l0 k (-1) l (l.length : Int) ((0 : Nat) : Int) x.f0 x.f1 x.f2 x.f3 x.f4) (fun k => by rw [BD.j0, if_neg (by simp)]; rfl) (by simpa using P5 x hs a l hl l.length 0 (-1) (by omega))
end Go.Proofs.Ytojankgmedccdaa.Pure
end
section
namespace Go.Proofs.Ytojankgmedccdaa.Pure
open Go.RowKit Own PTy Hand PIs RowV YtojankgmedccdaaW.PrintWords YtojankgmedccdaaW.PrintLast
open PAw (r01Same.f r01Same.l0)
open PGn
def ExQ {α : Type} (g : Nat → Option α) (Q : α → Prop) : Prop := ∃ t, Ev g t ∧ Q t
section
variable {α β : Type} {g f : Nat → Option α} {Q : α → Prop}
theorem ExQ.now (t : α) (h : Q t) : ExQ (fun _ => some t) Q := ⟨t, Ev.now t, h⟩
theorem ExQ.step (h : ∀ k, g (k + 1) = f k) (a : ExQ f Q) : ExQ g Q := ⟨a.choose, Ev.step h a.choose_spec.1, a.choose_spec.2⟩
theorem ExQ.congr (h : ∀ k, g k = f k) (a : ExQ f Q) : ExQ g Q := ⟨a.choose, Ev.congr h a.choose_spec.1, a.choose_spec.2⟩
theorem ExQ.ite {c : Prop} [Decidable c] (h1 : c → ExQ g Q) (a : ¬ c → ExQ f Q) : ExQ (fun k => if c then g k else f k) Q := by
  by_cases h : c
  · simpa [h] using h1 h
  · simpa [h] using a h
theorem ExQ.bind {R : β → Prop} {g : Nat → Option β} {f : Nat → β → Option α} (h : ExQ g R) (b : ∀ t, R t → ExQ (fun k => f k t) Q) : ExQ (fun k => (g k).bind (f k)) Q := by
  obtain ⟨t, d, hr⟩ := h
  obtain ⟨r, a, c⟩ := b t hr
  exact ⟨r, Ev.bind d a, c⟩
theorem ExQ.of (h : Ex g) : ExQ g (fun _ => True) := ⟨h.choose, h.choose_spec, trivial⟩
end
def smV : Nat → S30 → Prop
  | 0, _ => False
  | m + 1, v => v.f2.length ≤ 9000 ∧ v.f3.length ≤ 9000 ∧ ∀ y ∈ v.f3, smV m y
theorem J9 : ∀ m (v : S30), okV m v → ∀ a : Int, 0 ≤ a → a ≤ 9000 → ExQ (fun k => CG.f k v.f0 v.f1 v.f2 v.f3 a) (fun r => r < a ∧ (0 ≤ r → smV m v))
  | 0, _, h, _, _, _ => h.elim
  | m + 1, v, ⟨_, _, _, h4, h5, h6⟩, a, ha, ha9 => by
    have hm := ml
    refine ExQ.step (fun k => by rw [CG.f]) ?_
    obtain ⟨g, u⟩ : ∃ g, g = a - 1 - (v.f2.length : Int) := ⟨_, rfl⟩
    have x : wrap64 (a - wrap64 (1 + (v.f2.length : Int))) = g := by unfold wrap64; omega
    rw [x]
    have key : ∀ d i, i + d = v.f3.length → ∀ b : Int, b ≤ 9000 → ExQ (fun k => CG.l0 k b v.f3 (v.f3.length : Int) (i : Int)) (fun r => r ≤ b ∧ (0 ≤ r → (d : Int) ≤ b - r ∧ ∀ j, i ≤ j → j < v.f3.length → smV m (AC v.f3 (j : Int)))) := by
      intro d
      induction d with
      | zero =>
        intro i hi b q
        refine ExQ.step (f := fun _ => some b) (fun k => by rw [CG.l0, if_neg (by omega)]) (ExQ.now b ⟨by omega, fun _ => ⟨by omega, fun j h1 p => by omega⟩⟩)
      | succ d B =>
        intro i hi b q
        by_cases hn : b < 0
        · exact ExQ.step (f := fun _ => some b) (fun k => by rw [CG.l0, if_pos (by omega), if_pos (by omega), if_pos (by omega), if_pos hn]) (ExQ.now b ⟨by omega, fun h => by omega⟩)
        · refine ExQ.step (fun k => by rw [CG.l0, if_pos (by omega), if_pos (by omega), if_pos (by omega), if_neg hn, CQ (n := (i : Int) + 1) (by omega) (by omega)]) (ExQ.bind (J9 m _ (h6 _ (Dw (i := i) (by omega))) b (by omega) q) fun t w => ?_)
          obtain ⟨r, hr, l, c⟩ := B (i + 1) (by omega) t (by omega)
          refine ⟨r, hr, by omega, fun h0 => ?_⟩
          obtain ⟨D, o⟩ := c h0
          refine ⟨by omega, fun j h1 p => ?_⟩
          by_cases e : j = i
          · rw [e]; exact w.2 (by omega)
          · exact o j (by omega) p
    obtain ⟨r, hr, l, c⟩ := key v.f3.length 0 (by omega) g (by omega)
    refine ⟨r, hr, by omega, fun h0 => ?_⟩
    obtain ⟨D, o⟩ := c h0
    refine ⟨by omega, by omega, fun y z => ?_⟩
    obtain ⟨j, s, e⟩ := List.mem_iff_getElem.mp z
    have := o j (by omega) s
    unfold AC at this
    rw [List.getD_eq_getElem?_getD, show ((j : Int)).toNat = j from rfl, List.getElem?_eq_getElem s] at this
    exact e ▸ this
theorem NM (l : List S30) (hl : l.length ≤ maxLen) (m : Nat) (hv : ∀ y ∈ l, okV m y) : ExQ (fun k => Az.l2 k l (l.length : Int) 0) (fun t => t = true → ∀ j, j < l.length → smV m (AC l (j : Int))) := by
  have hm := ml
  have key : ∀ d i, i + d = l.length → ExQ (fun k => Az.l2 k l (l.length : Int) (i : Int)) (fun t => t = true → ∀ j, i ≤ j → j < l.length → smV m (AC l (j : Int))) := by
    intro d
    induction d with
    | zero => exact fun i hi => ExQ.step (f := fun _ => some true) (fun k => by rw [Az.l2, if_neg (by omega)]) (ExQ.now _ fun _ j h1 b => by omega)
    | succ d g =>
      intro i hi
      refine ExQ.step (fun k => by rw [Az.l2, if_pos (by omega), if_pos (by omega), if_pos (by omega), CQ (n := (i : Int) + 1) (by omega) (by omega)]) (ExQ.bind (J9 m _ (hv _ (Dw (i := i) (by omega))) 9000 (by omega) (by omega)) fun t c => ExQ.ite (fun _ => ExQ.now false (by simp)) fun h0 => ?_)
      obtain ⟨r, hr, a⟩ := g (i + 1) (by omega)
      refine ⟨r, hr, fun e j h1 b => ?_⟩
      by_cases ej : j = i
      · rw [ej]; exact c.2 (by omega)
      · exact a e j (by omega) b
  obtain ⟨r, hr, a⟩ := key l.length 0 (by omega)
  exact ⟨r, hr, fun e j h => a e j (by omega) h⟩
theorem NN (n : Nat) (x : S26) (e : okT n x) (l : List S30) (hl : l.length ≤ maxLen) (m : Nat) (hv : ∀ y ∈ l, okV m y) : ExQ (fun k => Az.f k x.f0 x.f1 x.f2 x.f3 x.f4 l) (fun t => t = true → ∀ j, j < l.length → smV m (AC l (j : Int))) := by
  have hm := ml
  cases n with
  | zero => exact e.elim
  | succ n =>
    obtain ⟨_, _, _, _, h, o, g⟩ := e
    have h1 : ∀ d i, i + d = x.f4.length → ExQ (fun k => Az.l1 k l x.f4 (x.f4.length : Int) (i : Int)) (fun t => t = true → ∀ j, j < l.length → smV m (AC l (j : Int))) := by
      intro d
      induction d with
      | zero => exact fun i hi => ExQ.step (fun k => by rw [Az.l1, if_neg (by omega)] <;> rfl) (NM l hl m hv)
      | succ d c =>
        intro i hi
        exact ExQ.step (fun k => by rw [Az.l1, if_pos (by omega), if_pos (by omega), if_pos (by omega), CQ (n := (i : Int) + 1) (by omega) (by omega)] <;> rfl) (ExQ.ite (fun _ => ExQ.now false (by simp)) fun _ => ExQ.bind (ExQ.of (Jz n _ (g _ (Jw (i := i) (by omega))) [] (by simp) 0 (by simp))) fun t _ => ExQ.ite (fun _ => c (i + 1) (by omega)) fun _ => ExQ.now false (by simp))
    have h0 : ∀ d i, i + d = x.f3.length → ExQ (fun k => Az.l0 k l x.f3 (x.f3.length : Int) (i : Int) x.f0 x.f1 x.f2 x.f3 x.f4) (fun t => t = true → ∀ j, j < l.length → smV m (AC l (j : Int))) := by
      intro d
      induction d with
      | zero => exact fun i hi => ExQ.step (fun k => by rw [Az.l0, if_neg (by omega)] <;> rfl) (h1 x.f4.length 0 (by omega))
      | succ d c =>
        intro i hi
        exact ExQ.step (fun k => by rw [Az.l0, if_pos (by omega), if_pos (by omega), if_pos (by omega), CQ (n := (i : Int) + 1) (by omega) (by omega)] <;> rfl) (ExQ.ite (fun _ => ExQ.now false (by simp)) fun _ => c (i + 1) (by omega))
    have a : ∀ b, ExQ (fun k => Az.j0 k l b x.f0 x.f1 x.f2 x.f3 x.f4) (fun t => t = true → ∀ j, j < l.length → smV m (AC l (j : Int))) := fun b =>
      ExQ.step (fun k => by rw [Az.j0] <;> rfl) (ExQ.ite (fun _ => ExQ.now false (by simp)) fun _ => h0 x.f3.length 0 (by omega))
    exact ExQ.step (fun k => by rw [Az.f]) (ExQ.ite (fun _ => a _) fun _ => ExQ.ite (fun _ => a _) fun _ => a _)
theorem PI (n : Nat) (x : S26) (z : okT n x) (v : S30) (hv : okV n v) (l : List S63) (hl : ∀ y ∈ l, okV n y.f1) (a : List S30) (r : ∀ y ∈ a, okV n y) :
    ExQ (fun k => Cn.f k x.f0 x.f1 x.f2 x.f3 x.f4 v.f0 v.f1 v.f2 v.f3 l a) (fun t => t = true → l.length ≤ 80 ∧ a.length ≤ 80 ∧ smV n v ∧ (∀ y ∈ a, smV n y) ∧ ∀ y ∈ l, smV n y.f1) := by
  have hm := ml
  have g : ExQ (fun k => Cn.j0 k a true x.f0 x.f1 x.f2 x.f3 x.f4 v.f0 v.f1 v.f2 v.f3 l) (fun t => t = true → l.length ≤ 80 ∧ a.length ≤ 80 ∧ smV n v ∧ (∀ y ∈ a, smV n y) ∧ ∀ y ∈ l, smV n y.f1) :=
    ExQ.step (f := fun _ => some false) (fun k => by rw [Cn.j0, if_pos rfl]) (ExQ.now _ (by simp))
  unfold Cn.f
  by_cases h8 : (l.length : Int) > 80
  · exact ExQ.congr (fun k => by rw [if_pos h8]) g
  by_cases h9 : (a.length : Int) > 80
  · exact ExQ.congr (fun k => by rw [if_neg h8, decide_eq_true h9]) g
  refine ExQ.congr (f := fun k => Cn.j0 k a false x.f0 x.f1 x.f2 x.f3 x.f4 v.f0 v.f1 v.f2 v.f3 l) (fun k => by rw [if_neg h8, decide_eq_false h9]) ?_
  have key : ∀ d i, i + d = l.length → ∀ ys : List S30, ys.length = a.length + 1 + i → (∀ y ∈ ys, okV n y) → (∀ y ∈ (v :: a), y ∈ ys) → (∀ j, j < i → (AA l (j : Int)).f1 ∈ ys) → ExQ (fun k => Cn.l0 k ys l (l.length : Int) (i : Int) x.f0 x.f1 x.f2 x.f3 x.f4) (fun t => t = true → l.length ≤ 80 ∧ a.length ≤ 80 ∧ smV n v ∧ (∀ y ∈ a, smV n y) ∧ ∀ y ∈ l, smV n y.f1) := by
    intro d
    induction d with
    | zero =>
      intro i hi ys u q b p
      refine ExQ.step (fun k => by rw [Cn.l0, if_neg (by omega)]) (ExQ.bind (NN n x z ys (by omega) n q) fun t w => ⟨t, Ev.now t, fun e => ?_⟩)
      have hall : ∀ y ∈ ys, smV n y := by
        intro y s
        obtain ⟨j, c, o⟩ := List.mem_iff_getElem.mp s
        have := w e j c
        unfold AC at this
        rw [List.getD_eq_getElem?_getD, show ((j : Int)).toNat = j from rfl, List.getElem?_eq_getElem c] at this
        exact o ▸ this
      refine ⟨by omega, by omega, hall _ (b v (by simp)), fun y h => hall _ (b y (by simp [h])), fun y h => ?_⟩
      obtain ⟨j, c, o⟩ := List.mem_iff_getElem.mp h
      have := hall _ (p j (by omega))
      unfold AA at this
      rw [List.getD_eq_getElem?_getD, show ((j : Int)).toNat = j from rfl, List.getElem?_eq_getElem c] at this
      exact o ▸ this
    | succ d B =>
      intro i hi ys u q b p
      have m : AA l (i : Int) ∈ l := by
        unfold AA
        rw [List.getD_eq_getElem?_getD, show ((i : Int)).toNat = i from rfl, List.getElem?_eq_getElem (by omega)]
        exact List.getElem_mem _
      refine ExQ.step (fun k => by rw [Cn.l0, if_pos (by omega), if_pos (by omega), if_pos (by omega), if_pos (by omega), CQ (n := (i : Int) + 1) (by omega) (by omega), IQ] <;> rfl) (B (i + 1) (by omega) (ys ++ [(AA l (i : Int)).f1]) (by rw [List.length_append, u]; rfl) (fun y h => ?_) (fun y h => List.mem_append_left _ (b y h)) (fun j h => ?_))
      · rcases List.mem_append.mp h with h | h
        · exact q y h
        · rw [List.mem_singleton.mp h]; exact hl _ m
      · by_cases e : j = i
        · rw [e]; exact List.mem_append_right _ (by simp)
        · exact List.mem_append_left _ (p j (by omega))
  refine ExQ.step (fun k => ?_) (key l.length 0 (by omega) (v :: a) (by simp) (fun y h => ?_) (fun y h => h) (by omega))
  · rw [Cn.j0, if_neg (by simp), Option.bind_some, if_pos (by simp; omega), IQ]; rfl
  · rcases List.mem_cons.mp h with rfl | h
    · exact hv
    · exact r y h
theorem IX {l : List S30} {i : Nat} (h : i < l.length) : AC l (i : Int) = l[i] := by
  unfold AC
  rw [List.getD_eq_getElem?_getD, show ((i : Int)).toNat = i from rfl, List.getElem?_eq_getElem h]; rfl
theorem FJ {l : List S63} {i : Nat} (h : i < l.length) : AA l (i : Int) = l[i] := by
  unfold AA
  rw [List.getD_eq_getElem?_getD, show ((i : Int)).toNat = i from rfl, List.getElem?_eq_getElem h]; rfl
theorem JX : ∀ m (v : S30), smV m v → Ev (fun k => Bn.f k v.f0 v.f1 v.f2 v.f3) (v.f0, v.f1, v.f2, v.f3)
  | 0, _, h => h.elim
  | m + 1, v, ⟨h1, h2, h3⟩ => by
    have hm := ml
    refine Ev.step (fun k => by rw [Bn.f, Option.bind_some, if_pos (by simp; omega)]) ?_
    have key : ∀ d i, i + d = v.f3.length → Ev (fun k => Bn.l0 k v.f3 (v.f3.length : Int) (i : Int) v.f0 v.f1 v.f2 (v.f3.take i)) (v.f0, v.f1, v.f2, v.f3) := by
      intro d
      induction d with
      | zero =>
        intro i hi
        rw [List.take_of_length_le (by omega)]
        exact Ev.step (f := fun _ => some (v.f0, v.f1, v.f2, v.f3)) (fun k => by rw [Bn.l0, if_neg (by omega)]) (Ev.now _)
      | succ d b =>
        intro i hi
        have a : i < v.f3.length := by omega
        refine Ev.step (fun k => by rw [Bn.l0, if_pos (by omega), if_pos (by omega), if_pos (by omega), CQ (n := (i : Int) + 1) (by omega) (by omega)]) (Ev.bind (JX m _ (h3 _ (Dw a))) ?_)
        refine Ev.congr (f := fun k => Bn.l0 k v.f3 (v.f3.length : Int) ((i + 1 : Nat) : Int) v.f0 v.f1 v.f2 (v.f3.take (i + 1))) (fun k => ?_) (b (i + 1) (by omega))
        rw [if_pos (by rw [List.length_take]; omega), List.take_succ_eq_append_getElem a, IQ, IX a]; rfl
    simpa using key v.f3.length 0 (by omega)
theorem NP (x : S63) : (⟨x.f0, x.f1⟩ : S63) = x := by cases x; rfl
theorem PK (m : Nat) (v : S30) (hv : smV m v) (l : List S63) (hl : l.length ≤ 100) (b : ∀ y ∈ l, smV m y.f1) : Ev (fun k => Cq.f k v.f0 v.f1 v.f2 v.f3 l) (v.f0, v.f1, v.f2, v.f3, l) := by
  have hm := ml
  unfold Cq.f
  refine Ev.bind (JX m v hv) ?_
  have key : ∀ d i, i + d = l.length → Ev (fun k => Cq.l0 k l (l.length : Int) (i : Int) v.f0 v.f1 v.f2 v.f3 (l.take i)) (v.f0, v.f1, v.f2, v.f3, l) := by
    intro d
    induction d with
    | zero =>
      intro i hi
      rw [List.take_of_length_le (by omega)]
      exact Ev.step (f := fun _ => some (v.f0, v.f1, v.f2, v.f3, l)) (fun k => by rw [Cq.l0, if_neg (by omega)]) (Ev.now _)
    | succ d c =>
      intro i hi
      have a : i < l.length := by omega
      refine Ev.step (fun k => by rw [Cq.l0, if_pos (by omega), if_pos (by omega), if_pos (by omega), CQ (n := (i : Int) + 1) (by omega) (by omega)]) (Ev.bind (JX m _ (b _ (IW a))) ?_)
      refine Ev.congr (f := fun k => Cq.l0 k l (l.length : Int) ((i + 1 : Nat) : Int) v.f0 v.f1 v.f2 v.f3 (l.take (i + 1))) (fun k => ?_) (c (i + 1) (by omega))
      rw [if_pos (by rw [List.length_take]; omega), List.take_succ_eq_append_getElem a, IQ, NP, FJ a]; rfl
  simpa using key l.length 0 (by omega)
theorem NQ (l : List Int) (hl : l.length ≤ maxLen) : Ev (fun k => r01Same.f k l l) true := by
  have hm := ml
  have key : ∀ d i, i + d = l.length → Ev (fun k => r01Same.l0 k l l (l.length : Int) (i : Int)) true := by
    intro d
    induction d with
    | zero => intro i hi; exact Ev.step (f := fun _ => some true) (fun k => by rw [r01Same.l0, if_neg (by omega)]) (Ev.now _)
    | succ d a =>
      intro i hi
      refine Ev.step (f := fun k => r01Same.l0 k l l (l.length : Int) ((i + 1 : Nat) : Int)) (fun k => ?_) (a (i + 1) (by omega))
      rw [r01Same.l0, if_pos (by omega), if_pos (by omega), if_pos (by omega), if_pos (by omega), if_pos rfl, CQ (by omega) (by omega)]
      rfl
  exact Ev.congr (fun k => by unfold r01Same.f; rw [if_pos rfl]; rfl) (key l.length 0 (by omega))
theorem KA : ∀ m (v : S30), smV m v → Ev (fun k => PGn.Ba.f k v.f0 v.f1 v.f2 v.f3 v.f0 v.f1 v.f2 v.f3) true
  | 0, _, h => h.elim
  | m + 1, v, ⟨h1, h2, h3⟩ => by
    have hm := ml
    refine Ev.step (fun k => by rw [PGn.Ba.f, if_pos rfl, if_pos rfl]) (Ev.bind (NQ v.f2 (by omega)) (Ev.congr (fun k => by rw [if_pos rfl, bne_self_eq_false]) (Ev.step (fun k => by rw [PGn.Ba.j0, if_neg (by simp)]) ?_)))
    have key : ∀ d i, i + d = v.f3.length → Ev (fun k => PGn.Ba.l0 k (v.f3.length : Int) (i : Int) v.f0 v.f1 v.f2 v.f3 v.f0 v.f1 v.f2 v.f3) true := by
      intro d
      induction d with
      | zero => intro i hi; exact Ev.step (f := fun _ => some true) (fun k => by rw [PGn.Ba.l0, if_neg (by omega)]) (Ev.now _)
      | succ d a =>
        intro i hi
        exact Ev.step (fun k => by rw [PGn.Ba.l0, if_pos (by omega), if_pos (by omega), if_pos (by omega), if_pos (by omega), CQ (n := (i : Int) + 1) (by omega) (by omega)]) (Ev.bind (KA m _ (h3 _ (Dw (i := i) (by omega)))) (Ev.congr (fun k => by rw [if_pos rfl]; rfl) (a (i + 1) (by omega))))
    exact key v.f3.length 0 (by omega)
end Go.Proofs.Ytojankgmedccdaa.Pure
end
section
namespace Go.Proofs.Ytojankgmedccdaa.Pure
open Go.RowKit Own PTy Hand PIs RowV YtojankgmedccdaaW.PrintWords YtojankgmedccdaaW.PrintLast
open PAw (drivers_copied.f logic_isBit.f logic_both.f logic_both.j0 logic_Resolve.f logic_Resolve.l0 r01Same.f r01Same.l0)
open PRs
theorem GY (l : List Int) (i : Nat) (h : i < l.length) : rd l (i : Int) = l[i] := by
  unfold rd
  rw [List.getD_eq_getElem?_getD, show ((i : Int)).toNat = i from rfl, List.getElem?_eq_getElem h]; rfl
end Go.Proofs.Ytojankgmedccdaa.Pure
end
section
namespace Go.Proofs.Ytojankgmedccdaa.Pure
open Go.RowKit Own PTy Hand PIs RowV YtojankgmedccdaaW.PrintWords YtojankgmedccdaaW.PrintLast
open PAw (drivers_copied.f logic_isBit.f logic_both.f logic_both.j0 logic_Resolve.f logic_Resolve.l0 r01Same.f r01Same.l0)
open PRs
theorem Gv (x : S26) (v : S30) (h : DC x v = true) : v.f0 = x.f0 ∧ v.f3 = [] ∧ (x.f0 = 1 → v.f2.length = 1) ∧ (x.f0 ≠ 1 → v.f2 = []) ∧ ∀ b ∈ v.f2, b ≤ 3 := by
  unfold DC at h
  rw [Bool.and_eq_true, decide_eq_true_iff] at h
  obtain ⟨h0, h⟩ := h
  by_cases k1 : x.f0 = 1
  · rw [if_pos k1] at h
    simp only [Bool.and_eq_true, decide_eq_true_iff] at h
    obtain ⟨⟨_, d⟩, hi, c⟩ := h
    refine ⟨h0, List.length_eq_zero_iff.mp d, fun _ => c, fun h => absurd k1 h, fun b a => ?_⟩
    unfold isF at hi
    simp only [Bool.and_eq_true, List.all_eq_true, decide_eq_true_iff] at hi
    exact hi.2 b a
  · rw [if_neg k1] at h
    simp only [Bool.and_eq_true, decide_eq_true_iff] at h
    have e := List.length_eq_zero_iff.mp h.1.1
    exact ⟨h0, List.length_eq_zero_iff.mp h.1.2, fun h => absurd h k1, fun _ => e, fun b a => by rw [e] at a; cases a⟩
end Go.Proofs.Ytojankgmedccdaa.Pure
end
section
namespace Go.Proofs.Ytojankgmedccdaa.Pure
open Go.RowKit Own PTy Hand PIs RowV YtojankgmedccdaaW.PrintWords YtojankgmedccdaaW.PrintLast
open PAw (drivers_behind.f drivers_copied.f api_Bit_96.f api_Bit_96.l0)
open PGn
def okL (x : S26) : Int → List S63 → Prop
  | _, [] => True
  | u, c :: r => u < c.f0 ∧ c.f0 ≤ 2000000 ∧ DC x c.f1 = true ∧ okL x c.f0 r
theorem Lt (x : S26) (l : List S63) : ∀ d i u, i + d = l.length → Fy x l d i u = true → okL x u (l.drop i) := by
  intro d
  induction d with
  | zero => intro i u hi _; rw [List.drop_eq_nil_of_le (by omega)]; trivial
  | succ d b =>
    intro i u hi h
    have a : i < l.length := by omega
    rw [List.drop_eq_getElem_cons a]
    simp only [Fy, Bool.and_eq_true, Bool.not_eq_true', decide_eq_false_iff_not, FJ a] at h
    exact ⟨by omega, by omega, h.2.2.1, b (i + 1) _ (by omega) h.2.2.2⟩
theorem Gj {x : S26} : ∀ {u : Int} {l : List S63}, okL x u l → ∀ y ∈ l, u < y.f0 ∧ y.f0 ≤ 2000000 ∧ DC x y.f1 = true
  | _, [], _, _, h => by cases h
  | u, c :: r, ⟨h1, h2, h3, h4⟩, y, h => by
    rcases List.mem_cons.mp h with rfl | h
    · exact ⟨h1, h2, h3⟩
    · obtain ⟨d, a, b⟩ := Gj h4 y h
      exact ⟨by omega, a, b⟩
theorem NR {x : S26} {u a : Int} {l : List S63} (h : okL x u l) (b : a ≤ u) : okL x a l := by
  cases l with
  | nil => trivial
  | cons c r => exact ⟨by have := h.1; omega, h.2⟩
theorem FM {x : S26} {v : S30} {l : List S63} (h : Du x v l = true) : scB x = true ∧ DC x v = true ∧ l.length ≤ 64 ∧ okL x (-1) l := by
  unfold Du at h
  simp only [Bool.and_eq_true, decide_eq_true_iff] at h
  exact ⟨h.1, h.2.1, h.2.2.1, by simpa using Lt x l l.length 0 (-1) (by omega) h.2.2.2⟩
theorem JY {x : S26} {v : S30} (h : DC x v = true) : v.f2.length ≤ 1 := by
  obtain ⟨c, d, a, b, e⟩ := Gv x v h
  by_cases k1 : x.f0 = 1
  · rw [a k1]; omega
  · rw [b k1]; simp
def eqV (v w : S30) : Bool := decide (v.f1 = w.f1) && decide (v.f2 = w.f2)
theorem OE (l m : List Int) (hl : l.length ≤ maxLen) (c : m.length ≤ maxLen) : Ev (fun k => api_Bit_96.f k l m) (decide (l = m)) := by
  have hm := ml
  unfold api_Bit_96.f
  by_cases h : l.length = m.length
  · have key : ∀ d i, i + d = l.length → Ev (fun k => api_Bit_96.l0 k l m (l.length : Int) (i : Int)) (decide (l.drop i = m.drop i)) := by
      intro d
      induction d with
      | zero =>
        intro i hi
        rw [List.drop_eq_nil_of_le (by omega), List.drop_eq_nil_of_le (by omega)]
        exact Ev.step (f := fun _ => some true) (fun k => by rw [api_Bit_96.l0, if_neg (by omega)]) (by simpa using Ev.now _)
      | succ d g =>
        intro i hi
        have a : i < l.length := by omega
        have b : i < m.length := by omega
        rw [List.drop_eq_getElem_cons a, List.drop_eq_getElem_cons b]
        have hd : l[i] = m[i] → decide (l[i] :: l.drop (i + 1) = m[i] :: m.drop (i + 1)) = decide (l.drop (i + 1) = m.drop (i + 1)) := fun e => by rw [e]; exact decide_eq_decide.mpr ⟨fun h => (List.cons.inj h).2, fun h => by rw [h]⟩
        have hn : l[i] ≠ m[i] → decide (l[i] :: l.drop (i + 1) = m[i] :: m.drop (i + 1)) = false := fun e => decide_eq_false fun h => e (List.cons.inj h).1
        by_cases e : l[i] = m[i]
        · refine Ev.step (f := fun k => api_Bit_96.l0 k l m (l.length : Int) ((i + 1 : Nat) : Int)) (fun k => ?_) (by rw [hd e]; exact g (i + 1) (by omega))
          rw [api_Bit_96.l0, if_pos (by omega), if_pos (by omega), if_pos (by omega), if_pos (by omega), GY l i a, GY m i b, if_pos e, CQ (by omega) (by omega)]
          rfl
        · refine Ev.step (f := fun _ => some false) (fun k => ?_) (by rw [hn e]; exact Ev.now _)
          rw [api_Bit_96.l0, if_pos (by omega), if_pos (by omega), if_pos (by omega), if_pos (by omega), GY l i a, GY m i b, if_neg e]
    exact Ev.congr (fun k => by rw [if_pos (by omega)]) (by simpa using key l.length 0 (by omega))
  · have e : decide (l = m) = false := decide_eq_false fun e => h (by rw [e])
    rw [e]
    exact Ev.congr (fun k => by rw [if_neg (by omega)]) (Ev.now _)
theorem KC (x : S26) (g : scB x = true) (d : x.f3.length ≤ maxLen) (v w : S30) (hv : DC x v = true) (c : DC x w = true) : Ev (fun k => PGn.Ca.f k x.f0 x.f1 x.f2 x.f3 x.f4 v.f0 v.f1 v.f2 v.f3 w.f0 w.f1 w.f2 w.f3) (eqV v w) := by
  have hm := ml
  have l1 := JY hv
  have l2 := JY c
  have h := (Gv x v hv).2.1
  have i := (Gv x w c).2.1
  have a := Gu x v g d
  have b := Gu x w g d
  rw [hv] at a
  rw [c] at b
  have key : Ev (fun k => PGn.DN.f k v.f0 v.f1 v.f2 v.f3 w.f0 w.f1 w.f2 w.f3) (eqV v w) := by
    refine Ev.step (fun k => by rw [PGn.DN.f]) ?_
    unfold eqV
    by_cases e : v.f1 = w.f1
    · refine Ev.congr (fun k => by rw [if_pos e]) (Ev.bind (OE v.f2 w.f2 (by omega) (by omega)) ?_)
      rw [decide_eq_true e, Bool.true_and]
      by_cases e2 : v.f2 = w.f2
      · rw [decide_eq_true e2]
        exact Ev.congr (fun k => by rw [if_pos rfl, h, i]; rfl) (Ev.now true)
      · rw [decide_eq_false e2]
        exact Ev.congr (fun k => by rw [if_neg (by simp)]) (Ev.now false)
    · rw [decide_eq_false e, Bool.false_and]
      exact Ev.congr (fun k => by rw [if_neg e]) (Ev.now false)
  unfold PGn.Ca.f PGn.Dl.f
  refine Ev.bind (a := (eqV v w, 0)) (Ev.bind a (Ev.congr (fun k => by rw [if_pos rfl]) (Ev.bind b (Ev.congr (fun k => by rw [if_pos rfl]) (Ev.bind key (Ev.now _)))))) ?_
  cases eqV v w with
  | true => exact Ev.congr (fun k => by rw [if_pos rfl]; rfl) (Ev.now _)
  | false => exact Ev.congr (fun k => by rw [if_neg (by simp)]) (Ev.now _)
theorem GA (x : S26) (v : S30) (hv : DC x v = true) : drivers_copied.f v.f0 v.f1 v.f2 v.f3 = some (v.f0, v.f1, v.f2, v.f3) := by
  have := JY hv
  unfold drivers_copied.f EL.f
  rw [if_pos (by omega)]; rfl
def EB (l : List S63) (now : Int) : Bool := match l with | [] => false | c :: _ => decide (c.f0 < now)
theorem JA (a b : Int) (m : List Int) (p : List S30) (l : List S63) (now : Int) : drivers_behind.f a b m p l now = some (EB l now) := by
  unfold drivers_behind.f EB
  cases l with
  | nil => rfl
  | cons c r => rw [if_pos (by simp)]; first | rfl | (rw [if_pos (by simp)]; rfl)
def Dj (e : Int) : S30 → List S63 → List S63
  | _, [] => []
  | v, c :: r => if c.f0 > e then [] else if eqV v c.f1 = true then Dj e c.f1 r else c :: Dj e c.f1 r
theorem NS (x : S26) (h : scB x = true) (g : x.f3.length ≤ maxLen) (e : Int) (l : List S63) (hl : l.length ≤ 100) : ∀ d i u out (v : S30), i + d = l.length → out.length ≤ i → okL x u (l.drop i) → DC x v = true →
    Ev (fun k => PGn.Ah.l0 k e out l (l.length : Int) (i : Int) x.f0 x.f1 x.f2 x.f3 x.f4 v.f0 v.f1 v.f2 v.f3) (out ++ Dj e v (l.drop i), 0) := by
  have hm := ml
  intro d
  induction d with
  | zero =>
    intro i u out v hi ho _ hv
    rw [List.drop_eq_nil_of_le (by omega)]
    exact Ev.step (f := fun _ => some (out, 0)) (fun k => by rw [PGn.Ah.l0, if_neg (by omega)]) (by simpa [Dj] using Ev.now _)
  | succ d c =>
    intro i u out v hi ho hok hv
    have a : i < l.length := by omega
    rw [List.drop_eq_getElem_cons a] at hok ⊢
    obtain ⟨_, _, b, hr⟩ := hok
    have hg : AA l (i : Int) = l[i] := FJ a
    by_cases h1 : l[i].f0 > e
    · unfold Dj
      rw [if_pos h1]
      exact Ev.step (f := fun _ => some (out, 0)) (fun k => by rw [PGn.Ah.l0, if_pos (by omega), if_pos (by omega), if_pos (by omega), hg, if_pos h1]) (by simpa using Ev.now _)
    · unfold Dj
      rw [if_neg h1]
      refine Ev.step (fun k => by rw [PGn.Ah.l0, if_pos (by omega), if_pos (by omega), if_pos (by omega), hg, if_neg h1, CQ (n := (i : Int) + 1) (by omega) (by omega)]) (Ev.bind (KC x h g v l[i].f1 hv b) ?_)
      cases he : eqV v l[i].f1 with
      | true => exact Ev.congr (fun k => by rw [if_pos rfl] <;> rfl) (by simpa using c (i + 1) _ out l[i].f1 (by omega) (by omega) hr b)
      | false =>
        refine Ev.congr (f := fun k => PGn.Ah.l0 k e (out ++ [l[i]]) l (l.length : Int) ((i + 1 : Nat) : Int) x.f0 x.f1 x.f2 x.f3 x.f4 l[i].f1.f0 l[i].f1.f1 l[i].f1.f2 l[i].f1.f3) (fun k => ?_) (by simpa using c (i + 1) _ (out ++ [l[i]]) l[i].f1 (by omega) (Nat.le_trans (Nat.le_of_eq (List.length_append ..)) (by show out.length + 1 ≤ i + 1; omega)) hr b)
        rw [if_neg (by simp), GA x _ b, Option.bind_some, if_pos (by omega), IQ, NP] <;> rfl
def IY (x : S26) (v : S30) (l : List S63) (a b : Int) : List S63 × Int :=
  if Du x v l = true ∧ (0 ≤ a ∧ 0 ≤ b) ∧ a ≤ 2000000 ∧ b ≤ 2000000 then (if EB l a = true then ([], 5) else (Dj b v l, 0)) else ([], 2)
theorem NT (x : S26) (d : x.f3.length ≤ maxLen) (v : S30) (l : List S63) (hl : l.length ≤ maxLen) (a b : Int) : Ev (fun k => PGn.Ah.f k x.f0 x.f1 x.f2 x.f3 x.f4 v.f0 v.f1 v.f2 v.f3 l a b) (IY x v l a b) := by
  have c : Ev (fun k => PGn.Ah.j0 k a b true x.f0 x.f1 x.f2 x.f3 x.f4 v.f0 v.f1 v.f2 v.f3 l) ([], 2) := Ev.step (f := fun _ => some ([], 2)) (fun k => by rw [PGn.Ah.j0, if_pos rfl]) (Ev.now _)
  unfold PGn.Ah.f IY
  refine Ev.bind (OY x d v l hl) ?_
  cases hp : Du x v l with
  | false => rw [if_neg (by simp)]; exact Ev.congr (fun k => by rw [if_neg (by simp)]) c
  | true =>
    refine Ev.congr (fun k => by rw [if_pos rfl]) ?_
    by_cases h1 : mn a b < 0
    · rw [if_neg (by unfold mn at h1; split at h1 <;> omega)]
      exact Ev.congr (fun k => by rw [if_pos h1]) c
    by_cases h2 : mx a b > 2000000
    · rw [if_neg (by unfold mx at h2; split at h2 <;> omega)]
      exact Ev.congr (fun k => by rw [if_neg h1, decide_eq_true h2]) c
    rw [if_pos ⟨rfl, ⟨by unfold mn at h1; split at h1 <;> omega, by unfold mn at h1; split at h1 <;> omega⟩, by unfold mx at h2; split at h2 <;> omega, by unfold mx at h2; split at h2 <;> omega⟩]
    refine Ev.congr (fun k => by rw [if_neg h1, decide_eq_false h2]) (Ev.step (fun k => by rw [PGn.Ah.j0, if_neg (by simp), JA, Option.bind_some]) ?_)
    cases hb : EB l a with
    | true =>
      show Ev _ (([] : List S63), (5 : Int))
      exact Ev.congr (fun k => by rw [if_pos rfl]) (Ev.now _)
    | false =>
      obtain ⟨g, hv, e, hok⟩ := FM hp
      exact Ev.congr (fun k => by rw [if_neg (by simp)]) (by simpa using NS x g d b l (by omega) l.length 0 (-1) [] v (by omega) (by simp) hok hv)
end Go.Proofs.Ytojankgmedccdaa.Pure
end
section
namespace Go.Proofs.Ytojankgmedccdaa.Pure
open Go.RowKit Own PTy Hand PIs RowV YtojankgmedccdaaW.PrintWords YtojankgmedccdaaW.PrintLast
open PAw (drivers_all.f drivers_all.l0 drivers_rising.f drivers_rising.l0)
open PGn
theorem OG (x : S26) (l : List S63) (hl : l.length ≤ 100) (hv : ∀ y ∈ l, DC x y.f1 = true) : Ev (fun k => drivers_all.f k l) l := by
  have hm := ml
  unfold drivers_all.f
  have key : ∀ d i, i + d = l.length → Ev (fun k => drivers_all.l0 k (l.take i) l (l.length : Int) (i : Int)) l := by
    intro d
    induction d with
    | zero =>
      intro i hi
      rw [List.take_of_length_le (by omega)]
      exact Ev.step (f := fun _ => some l) (fun k => by rw [drivers_all.l0, if_neg (by omega)]) (Ev.now _)
    | succ d b =>
      intro i hi
      have a : i < l.length := by omega
      have hg : AA l (i : Int) = l[i] := FJ a
      refine Ev.step (f := fun k => drivers_all.l0 k (l.take (i + 1)) l (l.length : Int) ((i + 1 : Nat) : Int)) (fun k => ?_) (b (i + 1) (by omega))
      rw [drivers_all.l0, if_pos (by omega), if_pos (by omega), if_pos (by omega), hg, GA x _ (hv _ (List.getElem_mem a)), Option.bind_some, if_pos (by rw [List.length_take]; omega), CQ (n := (i : Int) + 1) (by omega) (by omega), IQ, NP, List.take_succ_eq_append_getElem a]; rfl
  exact Ev.congr (fun k => by rw [if_pos (by omega), if_pos (by omega)]) (by simpa using key l.length 0 (by omega))
def Dm : Int → List Int → Bool
  | _, [] => true
  | u, n :: r => !decide (n ≤ u) && (!decide (n > 1000000) && Dm n r)
theorem Fz : ∀ {u : Int} {l : List Int}, Dm u l = true → ∀ n ∈ l, u < n ∧ n ≤ 1000000
  | _, [], _, _, h => by cases h
  | u, a :: r, hr, n, h => by
    simp only [Dm, Bool.and_eq_true, Bool.not_eq_true', decide_eq_false_iff_not] at hr
    rcases List.mem_cons.mp h with rfl | h
    · exact ⟨by omega, by omega⟩
    · obtain ⟨c, b⟩ := Fz hr.2.2 n h
      exact ⟨by omega, b⟩
theorem Lu (l : List Int) (hl : l.length ≤ maxLen) : Ev (fun k => drivers_rising.f k l) (Dm (-1) l) := by
  have hm := ml
  unfold drivers_rising.f
  have key : ∀ d i u, i + d = l.length → Ev (fun k => drivers_rising.l0 k u l (l.length : Int) (i : Int)) (Dm u (l.drop i)) := by
    intro d
    induction d with
    | zero =>
      intro i u hi
      rw [List.drop_eq_nil_of_le (by omega)]
      exact Ev.step (f := fun _ => some true) (fun k => by rw [drivers_rising.l0, if_neg (by omega)]) (Ev.now _)
    | succ d b =>
      intro i u hi
      have a : i < l.length := by omega
      rw [List.drop_eq_getElem_cons a]
      have hg := GY l i a
      show Ev _ (!decide (l[i] ≤ u) && (!decide (l[i] > 1000000) && Dm l[i] (l.drop (i + 1))))
      by_cases h1 : l[i] ≤ u
      · rw [decide_eq_true h1]
        exact Ev.step (f := fun _ => some false) (fun k => by rw [drivers_rising.l0, if_pos (by omega), if_pos (by omega), if_pos (by omega), hg, if_pos h1]) (Ev.now _)
      by_cases h2 : l[i] > 1000000
      · rw [decide_eq_true h2, decide_eq_false h1]
        exact Ev.step (f := fun _ => some false) (fun k => by rw [drivers_rising.l0, if_pos (by omega), if_pos (by omega), if_pos (by omega), hg, if_neg h1, if_pos h2]) (Ev.now _)
      rw [decide_eq_false h1, decide_eq_false h2]
      exact Ev.step (fun k => by rw [drivers_rising.l0, if_pos (by omega), if_pos (by omega), if_pos (by omega), hg, if_neg h1, if_neg h2, CQ (n := (i : Int) + 1) (by omega) (by omega)] <;> rfl) (b (i + 1) l[i] (by omega))
  exact key l.length 0 (-1) (by omega)
def Dn (l : List S63) (t : Int) : Nat := l.findIdx fun c => decide (t ≤ c.f0)
theorem JZ (l : List S63) (t : Int) : Dn l t ≤ l.length := List.findIdx_le_length
theorem KD (l : List S63) (t : Int) (i : Nat) (h : i < Dn l t) (hi : i < l.length) : l[i].f0 < t := by
  have := List.not_of_lt_findIdx (p := fun c : S63 => decide (t ≤ c.f0)) (xs := l) h
  simpa using this
def G8 (l : List S63) (v0 : S30) : Nat → Nat
  | 0 => 0
  | n + 1 => if eqV ((AA l (n : Int)).f1) v0 = true then G8 l v0 n else n + 1
def Ei (now : Int) (vals : List S30) (after : List Int) : List S63 := List.zipWith (fun v n => (⟨now + n, v⟩ : S63)) vals after
def FQ (l : List S63) (now : Int) (vals : List S30) (after : List Int) (tr : Bool) : Nat := if tr = true then 0 else G8 l (AC vals 0) (Dn l (now + rd after 0))
def Kn (v : S30) (l : List S63) (now : Int) (vals : List S30) (after : List Int) (s f : Nat) : Int × Int × List Int × List S30 × List S63 × Int :=
  if s - f + vals.length > 64 then (0, 0, [], [], [], 3) else (v.f0, v.f1, v.f2, v.f3, (l.take s).drop f ++ Ei now vals after, 0)
def Fa (x : S26) (v : S30) (l : List S63) (now : Int) (vals : List S30) (after : List Int) (tr : Bool) : Int × Int × List Int × List S30 × List S63 × Int :=
  if Du x v l = true ∧ 0 ≤ now ∧ now ≤ 1000000 ∧ 1 ≤ vals.length ∧ vals.length ≤ 64 ∧ after.length = vals.length ∧ Dm (-1) after = true ∧ vals.all (DC x) = true then
    (if EB l now = true then (0, 0, [], [], [], 5) else Kn v l now vals after (Dn l (now + rd after 0)) (FQ l now vals after tr))
  else (0, 0, [], [], [], 2)
theorem Lv (x : S26) (v : S30) (now : Int) (h0 : 0 ≤ now) (h1 : now ≤ 1000000) (vals : List S30) (hn : vals.length ≤ 64) (after : List Int) (ha : after.length = vals.length) (hr : Dm (-1) after = true) (hall : ∀ y ∈ vals, DC x y = true) : ∀ d i out, i + d = vals.length → out.length ≤ 64 + i →
    Ev (fun k => PGn.AJ.l2 k vals (vals.length : Int) (i : Int) now after v.f0 v.f1 v.f2 v.f3 out) (v.f0, v.f1, v.f2, v.f3, out ++ Ei now (vals.drop i) (after.drop i), 0) := by
  have hm := ml
  intro d
  induction d with
  | zero =>
    intro i out hi ho
    rw [List.drop_eq_nil_of_le (show vals.length ≤ i by omega)]
    exact Ev.step (f := fun _ => some (v.f0, v.f1, v.f2, v.f3, out, 0)) (fun k => by rw [PGn.AJ.l2, if_neg (by omega)]) (by simpa [Ei] using Ev.now _)
  | succ d g =>
    intro i out hi ho
    have a : i < vals.length := by omega
    have b : i < after.length := by omega
    have hg := IX (l := vals) a
    have c := GY after i b
    have h := Fz hr _ (List.getElem_mem b)
    have e := g (i + 1) (out ++ [⟨now + after[i], vals[i]⟩]) (by omega) (Nat.le_trans (Nat.le_of_eq (List.length_append ..)) (by show out.length + 1 ≤ 64 + (i + 1); omega))
    rw [List.drop_eq_getElem_cons a, List.drop_eq_getElem_cons b]
    show Ev _ (v.f0, v.f1, v.f2, v.f3, out ++ (⟨now + after[i], vals[i]⟩ :: Ei now (vals.drop (i + 1)) (after.drop (i + 1))), 0)
    rw [List.append_assoc, List.singleton_append] at e
    refine Ev.step (f := fun k => PGn.AJ.l2 k vals (vals.length : Int) ((i + 1 : Nat) : Int) now after v.f0 v.f1 v.f2 v.f3 (out ++ [⟨now + after[i], vals[i]⟩])) (fun k => ?_) e
    rw [PGn.AJ.l2, if_pos (by omega), if_pos (by omega), if_pos (by omega), if_pos (by omega), hg, c, GA x _ (hall _ (List.getElem_mem a)), Option.bind_some, if_pos (by omega), CQ (n := (i : Int) + 1) (by omega) (by omega), CQ (n := now + after[i]) (by omega) (by omega), IQ]; rfl
theorem Gw (x : S26) (v : S30) (hv : DC x v = true) (l : List S63) (hl : l.length ≤ 64) (hok : okL x (-1) l) (now : Int) (h0 : 0 ≤ now) (h1 : now ≤ 1000000) (vals : List S30) (hn : vals.length ≤ 64) (after : List Int) (ha : after.length = vals.length) (hr : Dm (-1) after = true) (hall : ∀ y ∈ vals, DC x y = true) (s f : Nat) (c : s ≤ l.length) (g : f ≤ s) : Ev (fun k => PGn.AJ.j4 k vals (s : Int) (f : Int) v.f0 v.f1 v.f2 v.f3 l now after) (Kn v l now vals after s f) := by
  have hm := ml
  have b : wrap64 (wrap64 ((s : Int) - (f : Int)) + (vals.length : Int)) = ((s - f + vals.length : Nat) : Int) := by rw [CQ (n := (s : Int) - (f : Int)) (by omega) (by omega), CQ (by omega) (by omega)]; omega
  unfold Kn
  by_cases h : s - f + vals.length > 64
  · rw [if_pos h]
    exact Ev.step (f := fun _ => some (0, 0, [], [], [], 3)) (fun k => by rw [PGn.AJ.j4, b, if_pos (by omega)]) (Ev.now _)
  · rw [if_neg h]
    have a : ((l.take s).drop f).length = s - f := by rw [List.length_drop, List.length_take]; omega
    have e := Lv x v now h0 h1 vals hn after ha hr hall vals.length 0 ((l.take s).drop f) (by omega) (by omega)
    rw [List.drop_zero, List.drop_zero] at e
    refine Ev.step (fun k => by rw [PGn.AJ.j4, b, if_neg (by omega), GA x v hv, Option.bind_some, if_pos (by omega), if_pos (by omega), if_pos (by omega), show ((s : Int)).toNat = s from rfl, show ((f : Int)).toNat = f from rfl] <;> rfl) (Ev.bind (OG x _ (by omega) fun y d => (Gj hok y (List.mem_of_mem_take (List.mem_of_mem_drop d))).2.2) e)
theorem Lx (x : S26) (m : scB x = true) (d : x.f3.length ≤ maxLen) (v : S30) (hv : DC x v = true) (l : List S63) (hl : l.length ≤ 64) (hok : okL x (-1) l) (now : Int) (h0 : 0 ≤ now) (h1 : now ≤ 1000000) (vals : List S30) (j : 1 ≤ vals.length) (hn : vals.length ≤ 64) (after : List Int) (ha : after.length = vals.length) (hr : Dm (-1) after = true) (hall : ∀ y ∈ vals, DC x y = true) (s : Nat) (a : s ≤ l.length) : ∀ n, n ≤ s → Ev (fun k => PGn.AJ.l1 k vals (s : Int) (n : Int) x.f0 x.f1 x.f2 x.f3 x.f4 v.f0 v.f1 v.f2 v.f3 l now after) (Kn v l now vals after s (G8 l (AC vals 0) n)) := by
  have hm := ml
  intro n
  induction n with
  | zero =>
    intro _
    exact Ev.step (fun k => by rw [PGn.AJ.l1, if_neg (by omega)]) (Gw x v hv l hl hok now h0 h1 vals hn after ha hr hall s 0 a (by omega))
  | succ n p =>
    intro c
    have o : wrap64 (((n + 1 : Nat) : Int) - 1) = (n : Int) := by rw [CQ (by omega) (by omega)]; omega
    have g := (Gj hok _ (IW (l := l) (i := n) (by omega))).2.2
    have h := hall _ (Dw (l := vals) (i := 0) (by omega))
    refine Ev.step (fun k => by rw [PGn.AJ.l1, o, if_pos (by omega), if_pos (by omega), if_pos (by omega), if_pos (by omega)] <;> rfl) (Ev.bind (KC x m d _ _ g h) ?_)
    unfold G8
    by_cases e : eqV ((AA l (n : Int)).f1) (AC vals ((0 : Nat) : Int)) = true
    · have b : eqV ((AA l (n : Int)).f1) (AC vals 0) = true := e
      rw [if_pos b]
      exact Ev.congr (fun k => by rw [e, if_pos rfl]) (p (by omega))
    · have b : ¬ eqV ((AA l (n : Int)).f1) (AC vals 0) = true := e
      rw [if_neg b]
      exact Ev.congr (fun k => by rw [if_neg e]) (Gw x v hv l hl hok now h0 h1 vals hn after ha hr hall s (n + 1) a c)
end Go.Proofs.Ytojankgmedccdaa.Pure
end
section
namespace Go.Proofs.Ytojankgmedccdaa.Pure
open Go.RowKit Own PTy Hand PIs RowV YtojankgmedccdaaW.PrintWords YtojankgmedccdaaW.PrintLast
open PGn
def OZ (v : S30) (l : List S63) (now : Int) (vals : List S30) (after : List Int) (tr : Bool) : Int × Int × List Int × List S30 × List S63 × Int :=
  if EB l now = true then (0, 0, [], [], [], 5) else Kn v l now vals after (Dn l (now + rd after 0)) (FQ l now vals after tr)
theorem rd0 (after : List Int) (h : 0 < after.length) (hr : Dm (-1) after = true) : 0 ≤ rd after 0 ∧ rd after 0 ≤ 1000000 := by
  have e : rd after 0 = after[0] := GY after 0 h
  have := Fz hr _ (List.getElem_mem h)
  rw [e]; omega
theorem L6 (x : S26) (d : scB x = true) (c : x.f3.length ≤ maxLen) (v : S30) (hv : DC x v = true) (l : List S63) (hl : l.length ≤ 64) (hok : okL x (-1) l) (now : Int) (h0 : 0 ≤ now) (h1 : now ≤ 1000000) (vals : List S30) (b : 1 ≤ vals.length) (hn : vals.length ≤ 64) (after : List Int) (ha : after.length = vals.length) (hr : Dm (-1) after = true) (hall : ∀ y ∈ vals, DC x y = true) (tr : Bool) (s : Nat) (a : s ≤ l.length) :
    Ev (fun k => PGn.AJ.j2 k vals tr (s : Int) x.f0 x.f1 x.f2 x.f3 x.f4 v.f0 v.f1 v.f2 v.f3 l now after) (Kn v l now vals after s (if tr = true then 0 else G8 l (AC vals 0) s)) := by
  cases tr with
  | true => exact Ev.step (fun k => by rw [PGn.AJ.j2, if_pos rfl] <;> rfl) (Gw x v hv l hl hok now h0 h1 vals hn after ha hr hall s 0 a (by omega))
  | false => exact Ev.step (fun k => by rw [PGn.AJ.j2, if_neg (by simp)]) (Lx x d c v hv l hl hok now h0 h1 vals b hn after ha hr hall s a s (by omega))
theorem L8 (x : S26) (r : scB x = true) (b : x.f3.length ≤ maxLen) (v : S30) (hv : DC x v = true) (l : List S63) (hl : l.length ≤ 64) (hok : okL x (-1) l) (now : Int) (h0 : 0 ≤ now) (h1 : now ≤ 1000000) (vals : List S30) (p : 1 ≤ vals.length) (hn : vals.length ≤ 64) (after : List Int) (ha : after.length = vals.length) (hr : Dm (-1) after = true) (tr : Bool) :
    ∀ d i, i + d = vals.length → (∀ j, j < i → DC x (AC vals (j : Int)) = true) → Ev (fun k => PGn.AJ.l0 k now vals after tr vals (vals.length : Int) (i : Int) x.f0 x.f1 x.f2 x.f3 x.f4 v.f0 v.f1 v.f2 v.f3 l now after) (if vals.all (DC x) = true then OZ v l now vals after tr else (0, 0, [], [], [], 2)) := by
  have hm := ml
  intro d
  induction d with
  | zero =>
    intro i hi m
    have hall : ∀ y ∈ vals, DC x y = true := by
      intro y B
      obtain ⟨j, o, u⟩ := List.mem_iff_getElem.mp B
      have := m j (by omega)
      rw [IX o] at this
      exact u ▸ this
    rw [if_pos (List.all_eq_true.mpr hall)]
    refine Ev.step (fun k => by rw [PGn.AJ.l0, if_neg (by omega), JA, Option.bind_some]) ?_
    unfold OZ
    cases EB l now with
    | true =>
      show Ev _ ((0 : Int), (0 : Int), ([] : List Int), ([] : List S30), ([] : List S63), (5 : Int))
      exact Ev.congr (fun k => by rw [if_pos rfl]) (Ev.now _)
    | false =>
      rw [if_neg (by simp)]
      obtain ⟨G, I⟩ := rd0 after (by omega) hr
      have z : wrap64 (now + rd after 0) = now + rd after 0 := CQ (by omega) (by omega)
      have s := JZ l (now + rd after 0)
      have e := L6 x r b v hv l hl hok now h0 h1 vals p hn after ha hr hall tr (Dn l (now + rd after 0)) s
      unfold FQ
      refine Ev.congr (fun k => ?_) e
      rw [if_neg (by simp)]
      unfold EY.f
      rw [if_pos (by omega), Option.bind_some, z]
      cases hf : l.findIdx? (fun c => decide (now + rd after 0 ≤ c.f0)) with
      | none =>
        have a : Dn l (now + rd after 0) = l.length := List.findIdx?_eq_none_iff_findIdx_eq.mp hf
        rw [if_pos (by simp), a]
      | some i =>
        have a : Dn l (now + rd after 0) = i := (List.findIdx?_eq_some_iff_findIdx_eq.mp hf).2
        rw [if_neg (by simp), a]
  | succ d D =>
    intro i hi m
    have g : i < vals.length := by omega
    cases hh : DC x (AC vals (i : Int)) with
    | false =>
      have q : ¬ vals.all (DC x) = true := fun h => by
        have := List.all_eq_true.mp h _ (Dw g)
        rw [hh] at this; cases this
      rw [if_neg q]
      refine Ev.step (fun k => by rw [PGn.AJ.l0, if_pos (by omega), if_pos (by omega), if_pos (by omega)]) (Ev.bind (Gu x (AC vals (i : Int)) r b) ?_)
      rw [hh]; exact Ev.congr (fun k => by rw [if_neg (by simp)]) (Ev.now _)
    | true =>
      refine Ev.step (fun k => by rw [PGn.AJ.l0, if_pos (by omega), if_pos (by omega), if_pos (by omega)]) (Ev.bind (Gu x (AC vals (i : Int)) r b) ?_)
      rw [hh]
      refine Ev.congr (fun k => by rw [if_pos rfl, CQ (n := (i : Int) + 1) (by omega) (by omega)] <;> rfl) (D (i + 1) (by omega) fun j w => ?_)
      by_cases e : j = i
      · rw [e]; exact hh
      · exact m j (by omega)
theorem L9 (x : S26) (d : x.f3.length ≤ maxLen) (v : S30) (l : List S63) (hl : l.length ≤ maxLen) (now : Int) (vals : List S30) (after : List Int) (c : after.length ≤ maxLen) (tr : Bool) :
    Ev (fun k => PGn.AJ.f k x.f0 x.f1 x.f2 x.f3 x.f4 v.f0 v.f1 v.f2 v.f3 l now vals after tr) (Fa x v l now vals after tr) := by
  have hm := ml
  have a : Ev (fun k => PGn.AJ.j0 k now vals after tr true x.f0 x.f1 x.f2 x.f3 x.f4 v.f0 v.f1 v.f2 v.f3 l now after) (0, 0, [], [], [], 2) := Ev.step (f := fun _ => some (0, 0, [], [], [], 2)) (fun k => by rw [PGn.AJ.j0, if_pos rfl]) (Ev.now _)
  unfold PGn.AJ.f Fa
  refine Ev.bind (OY x d v l hl) ?_
  cases hp : Du x v l with
  | false => rw [if_neg (by simp)]; exact Ev.congr (fun k => by rw [if_neg (by simp)]) a
  | true =>
    refine Ev.congr (fun k => by rw [if_pos rfl]) ?_
    by_cases a1 : now < 0
    · rw [if_neg (by omega)]; exact Ev.congr (fun k => by rw [if_pos a1]) a
    by_cases a2 : now > 1000000
    · rw [if_neg (by omega)]; exact Ev.congr (fun k => by rw [if_neg a1, if_pos a2]) a
    by_cases a3 : (vals.length : Int) < 1
    · rw [if_neg (by omega)]; exact Ev.congr (fun k => by rw [if_neg a1, if_neg a2, if_pos a3]) a
    by_cases a4 : (vals.length : Int) > 64
    · rw [if_neg (by omega)]; exact Ev.congr (fun k => by rw [if_neg a1, if_neg a2, if_neg a3, if_pos a4]) a
    by_cases a5 : (after.length : Int) = (vals.length : Int)
    · refine Ev.congr (fun k => by rw [if_neg a1, if_neg a2, if_neg a3, if_neg a4, if_pos a5]) (Ev.bind (Lu after c) ?_)
      cases hr : Dm (-1) after with
      | false => rw [if_neg (by simp)]; exact a
      | true =>
        obtain ⟨g, hv, b, hok⟩ := FM hp
        have e := L8 x g d v hv l b hok now (by omega) (by omega) vals (by omega) (by omega) after (by omega) hr tr vals.length 0 (by omega) (by omega)
        refine Ev.step (f := fun k => PGn.AJ.l0 k now vals after tr vals (vals.length : Int) ((0 : Nat) : Int) x.f0 x.f1 x.f2 x.f3 x.f4 v.f0 v.f1 v.f2 v.f3 l now after) (fun k => by rw [PGn.AJ.j0, if_neg (by simp)]; rfl) ?_
        by_cases hall : vals.all (DC x) = true
        · rw [if_pos hall] at e
          rw [if_pos ⟨rfl, by omega, by omega, by omega, by omega, by omega, rfl, hall⟩]
          exact e
        · rw [if_neg hall] at e
          rw [if_neg (fun h => hall h.2.2.2.2.2.2.2)]
          exact e
    · rw [if_neg (by omega)]; exact Ev.congr (fun k => by rw [if_neg a1, if_neg a2, if_neg a3, if_neg a4, if_neg a5]) a
theorem NU (now : Int) (vals : List S30) (after : List Int) (h : after.length = vals.length) : (Ei now vals after).length = vals.length := by unfold Ei; rw [List.length_zipWith, h, Nat.min_self]
section
variable (x : S26) (v : S30) (now : Int) (h0 : 0 ≤ now) (h1 : now ≤ 1000000) (vals : List S30) (hn : vals.length ≤ 64) (after : List Int) (ha : after.length = vals.length) (hr : Dm (-1) after = true) (hall : ∀ y ∈ vals, DC x y = true)
include h0 h1 hn ha hr hall
variable (hv : DC x v = true) (l : List S63) (hl : l.length ≤ 64) (hok : okL x (-1) l)
include hv hl hok
end
theorem Ko (n : Nat) (x : S26) (c : okT n x) (v : S30) (hv : okV n v) (l : List S63) (hl : ∀ y ∈ l, okV n y.f1) (now : Int) (vals : List S30) (a : ∀ y ∈ vals, okV n y) (after : List Int) (tr : Bool) :
    ExQ (fun k => DR.f k x.f0 x.f1 x.f2 x.f3 x.f4 v.f0 v.f1 v.f2 v.f3 l now vals after tr) (fun t => t = true → l.length ≤ 80 ∧ vals.length ≤ 80 ∧ smV n v ∧ (∀ y ∈ vals, smV n y) ∧ (∀ y ∈ l, smV n y.f1) ∧ after.length ≤ 100) := by
  unfold DR.f
  refine ExQ.bind (PI n x c v hv l hl vals a) fun t b => ?_
  cases t with
  | false => exact ExQ.congr (fun k => by rw [if_neg (by simp)]) (ExQ.now false (by simp))
  | true =>
    obtain ⟨d, e, g, i, j⟩ := b rfl
    exact ExQ.congr (fun k => by rw [if_pos rfl]) (ExQ.now (decide ((after.length : Int) ≤ 100)) fun h => ⟨d, e, g, i, j, by have := of_decide_eq_true h; omega⟩)
theorem KE (n : Nat) (x : S26) (b : x.f3.length ≤ maxLen) (v : S30) (g : smV n v) (l : List S63) (c : l.length ≤ 80) (e : ∀ y ∈ l, smV n y.f1) (now : Int) (vals : List S30) (after : List Int) (d : after.length ≤ 100) (tr a : Bool) :
    Ev (fun k => Bi.f k x.f0 x.f1 x.f2 x.f3 x.f4 v.f0 v.f1 v.f2 v.f3 l now vals after a tr) (Fa x v l now vals after tr) := by
  have hm := ml
  unfold Bi.f
  exact Ev.bind (PK n v g l (by omega) e) (Ev.bind (L9 x b v l (by omega) now vals after (by omega) tr) (Ev.now _))
end Go.Proofs.Ytojankgmedccdaa.Pure
end
section
namespace Go.Proofs.Ytojankgmedccdaa.Pure
open Go.RowKit Own PTy Hand PIs RowV YtojankgmedccdaaW.PrintWords YtojankgmedccdaaW.PrintLast
open PGn
theorem MB (x : S26) (l : List S63) : ∀ d i u, i + d = l.length → okL x u (l.drop i) → Fy x l d i u = true := by
  intro d
  induction d with
  | zero => intro i u _ _; rfl
  | succ d e =>
    intro i u hi h
    have a : i < l.length := by omega
    rw [List.drop_eq_getElem_cons a] at h
    obtain ⟨h1, g, b, c⟩ := h
    simp only [Fy, Bool.and_eq_true, Bool.not_eq_true', decide_eq_false_iff_not, FJ a]
    exact ⟨by omega, by omega, b, e (i + 1) _ (by omega) c⟩
theorem NV {x : S26} {v : S30} {l : List S63} (b : scB x = true) (hv : DC x v = true) (a : l.length ≤ 64) (hok : okL x (-1) l) : Du x v l = true := by
  unfold Du
  rw [b, hv, decide_eq_true a, MB x l l.length 0 (-1) (by omega) (by simpa using hok)]; rfl
theorem KF {x : S26} : ∀ {u : Int} {l : List S63} (s : Nat), okL x u l → okL x u (l.take s)
  | _, [], s, _ => by simp [okL]
  | _, _ :: _, 0, _ => trivial
  | _, c :: r, s + 1, ⟨h1, h2, h3, h4⟩ => ⟨h1, h2, h3, KF s h4⟩
theorem KG {x : S26} : ∀ {u : Int} {l : List S63} (s : Nat), okL x u l → okL x u (l.drop s)
  | _, [], s, _ => by simp [okL]
  | _, _ :: _, 0, h => h
  | u, c :: r, s + 1, ⟨h1, _, _, h4⟩ => NR (KG s h4) (by omega)
theorem IZ {x : S26} : ∀ {u w : Int} {a b : List S63}, okL x u a → (∀ y ∈ a, y.f0 ≤ w) → u ≤ w → okL x w b → okL x u (a ++ b)
  | _, _, [], _, _, _, hu, hb => NR hb hu
  | _, w, c :: a, b, ⟨h1, h2, h3, h4⟩, hw, hu, hb => ⟨h1, h2, h3, IZ h4 (fun y h => hw y (List.mem_cons_of_mem _ h)) (hw c List.mem_cons_self) hb⟩
theorem KH (x : S26) (now : Int) (h1 : now ≤ 1000000) : ∀ (m : Int) (vals : List S30) (after : List Int), Dm m after = true → (∀ y ∈ vals, DC x y = true) → okL x (now + m) (Ei now vals after)
  | _, [], _, _, _ => by simp [Ei, okL]
  | _, _ :: _, [], _, _ => trivial
  | m, a :: r, n :: q, hr, hv => by
    have b := Fz hr n List.mem_cons_self
    simp only [Dm, Bool.and_eq_true, Bool.not_eq_true', decide_eq_false_iff_not] at hr
    exact ⟨by show now + m < now + n; omega, by show now + n ≤ 2000000; omega, hv a List.mem_cons_self, KH x now h1 n r q hr.2.2 fun y h => hv y (List.mem_cons_of_mem _ h)⟩
theorem Ja (now : Int) : ∀ (m : Int) (vals : List S30) (after : List Int), Dm m after = true → ∀ y ∈ Ei now vals after, now + rd after 0 ≤ y.f0
  | _, [], _, _, y, h => by simp [Ei] at h
  | _, _ :: _, [], _, y, h => by simp [Ei] at h
  | m, a :: r, n :: q, hr, y, h => by
    have e : rd (n :: q) 0 = n := rfl
    rw [e]
    simp only [Dm, Bool.and_eq_true, Bool.not_eq_true', decide_eq_false_iff_not] at hr
    rcases List.mem_cons.mp (show y ∈ (⟨now + n, a⟩ : S63) :: Ei now r q from h) with rfl | h
    · exact Int.le_refl _
    · cases q with
      | nil => cases r <;> simp [Ei] at h
      | cons b c =>
        have := Ja now n r (b :: c) hr.2.2 y h
        have g := Fz hr.2.2 b List.mem_cons_self
        have d : rd (b :: c) 0 = b := rfl
        rw [d] at this
        omega
theorem MC (x : S26) (v : S30) (l : List S63) (now : Int) (vals : List S30) (after : List Int) (tr : Bool) (h : (Fa x v l now vals after tr).2.2.2.2.2 = 0) :
    (Du x v l = true ∧ 0 ≤ now ∧ now ≤ 1000000 ∧ 1 ≤ vals.length ∧ vals.length ≤ 64 ∧ after.length = vals.length ∧ Dm (-1) after = true ∧ vals.all (DC x) = true) ∧ EB l now = false ∧
    Dn l (now + rd after 0) - FQ l now vals after tr + vals.length ≤ 64 ∧ Fa x v l now vals after tr = (v.f0, v.f1, v.f2, v.f3, (l.take (Dn l (now + rd after 0))).drop (FQ l now vals after tr) ++ Ei now vals after, 0) := by
  unfold Fa at h ⊢
  by_cases hc : Du x v l = true ∧ 0 ≤ now ∧ now ≤ 1000000 ∧ 1 ≤ vals.length ∧ vals.length ≤ 64 ∧ after.length = vals.length ∧ Dm (-1) after = true ∧ vals.all (DC x) = true
  · rw [if_pos hc] at h ⊢
    cases hb : EB l now with
    | true => rw [hb, if_pos rfl] at h; exact absurd h (by decide)
    | false =>
      rw [hb, if_neg (by simp)] at h
      rw [if_neg (by simp)]
      unfold Kn at h ⊢
      by_cases h6 : Dn l (now + rd after 0) - FQ l now vals after tr + vals.length > 64
      · rw [if_pos h6] at h; exact absurd h (by decide)
      · rw [if_neg h6]
        exact ⟨hc, rfl, by omega, rfl⟩
  · rw [if_neg hc] at h; exact absurd h (by decide)
theorem Gl (x : S26) (v : S30) (l : List S63) (now : Int) (vals : List S30) (after : List Int) (tr : Bool)
    (g : Du x v l = true ∧ 0 ≤ now ∧ now ≤ 1000000 ∧ 1 ≤ vals.length ∧ vals.length ≤ 64 ∧ after.length = vals.length ∧ Dm (-1) after = true ∧ vals.all (DC x) = true) (n : Dn l (now + rd after 0) - FQ l now vals after tr + vals.length ≤ 64) :
    Du x v ((l.take (Dn l (now + rd after 0))).drop (FQ l now vals after tr) ++ Ei now vals after) = true := by
  obtain ⟨hp, h0, h1, j, hn, ha, hr, hall⟩ := g
  obtain ⟨k, hv, d, hok⟩ := FM hp
  obtain ⟨o, p⟩ := rd0 after (by omega) hr
  have m := JZ l (now + rd after 0)
  refine NV k hv ?_ ?_
  · rw [List.length_append, NU now vals after ha, List.length_drop, List.length_take]; omega
  · have b : okL x (now + rd after 0 - 1) (Ei now vals after) := by
      have := KH x now h1 (-1) vals after hr (List.all_eq_true.mp hall)
      have a := Ja now (-1) vals after hr
      cases hq : Ei now vals after with
      | nil => trivial
      | cons c q =>
        rw [hq] at this a
        exact ⟨by have := a c List.mem_cons_self; omega, this.2⟩
    refine IZ (KG _ (KF _ hok)) (fun y h => ?_) (by omega) b
    have hm := List.mem_of_mem_drop h
    obtain ⟨i, hi, e⟩ := List.mem_iff_getElem.mp hm
    rw [List.length_take] at hi
    rw [List.getElem_take] at e
    have := KD l (now + rd after 0) i (by omega) (by omega)
    rw [e] at this
    omega
theorem JB (e : Int) : ∀ (a b : List S63) (v : S30), (∀ c r, b = c :: r → c.f0 > e) → Dj e v (a ++ b) = Dj e v a
  | [], [], _, _ => rfl
  | [], c :: r, v, h => by
    show Dj e v (c :: r) = []
    unfold Dj
    rw [if_pos (h c r rfl)]
  | c :: a, b, v, h => by
    show Dj e v (c :: (a ++ b)) = _
    unfold Dj
    rw [JB e a b c.f1 h]
end Go.Proofs.Ytojankgmedccdaa.Pure
end
section
namespace Go.Proofs.Ytojankgmedccdaa.Pure
open Go.RowKit Own PTy Hand PIs RowV YtojankgmedccdaaW.PrintWords YtojankgmedccdaaW.PrintLast
open PGn
theorem PM {x : S26} {v w : S30} (hv : DC x v = true) (i : DC x w = true) (h : eqV v w = true) : v = w := by
  have e : ∀ u, DC x u = true → u.f0 = x.f0 ∧ u.f3 = [] := by
    intro u g
    unfold DC at g
    simp only [Bool.and_eq_true, decide_eq_true_eq] at g
    refine ⟨g.1, ?_⟩
    have := g.2
    split at this <;> simp only [Bool.and_eq_true, decide_eq_true_eq] at this
    · exact List.length_eq_zero_iff.mp this.1.2
    · exact List.length_eq_zero_iff.mp this.1.2
  obtain ⟨a, b⟩ := e v hv
  obtain ⟨c, d⟩ := e w i
  unfold eqV at h
  simp only [Bool.and_eq_true, decide_eq_true_eq] at h
  cases v; cases w
  simp_all
theorem NW (v : S30) : eqV v v = true := by unfold eqV; simp
theorem KI (l : List S63) (v0 : S30) : ∀ n i, G8 l v0 n ≤ i → i < n → eqV ((AA l (i : Int)).f1) v0 = true
  | 0, _, _, h => by omega
  | n + 1, i, h, hi => by
    unfold G8 at h
    split at h
    · rename_i hq
      by_cases e : i = n
      · subst e; exact hq
      · exact KI l v0 n i h (by omega)
    · omega
theorem Ia (e : Int) (v0 : S30) : ∀ l : List S63, (∀ y ∈ l, y.f1 = v0) → Dj e v0 l = []
  | [], _ => rfl
  | c :: r, h => by
    have a := h c List.mem_cons_self
    unfold Dj
    rw [a, NW, if_pos rfl, Ia e v0 r fun y b => h y (List.mem_cons_of_mem _ b)]
    simp
theorem JC (e : Int) (v0 : S30) : ∀ (l : List S63) (v : S30), (∀ y ∈ l, y.f1 = v0) → Dj e v l = [] ∨ ∃ c, Dj e v l = [c] ∧ c.f1 = v0
  | [], _, _ => Or.inl rfl
  | c :: r, v, h => by
    have a := h c List.mem_cons_self
    have hr := fun y b => h y (List.mem_cons_of_mem _ b)
    unfold Dj
    split
    · exact Or.inl rfl
    · split
      · exact JC e v0 r _ hr
      · rw [a, Ia e v0 r hr]
        exact Or.inr ⟨c, rfl, a⟩
theorem NY (x : S26) (v : S30) (l : List S63) (now : Int) (vals : List S30) (after : List Int) (hp : Du x v l = true) (hv : DC x (AC vals 0) = true) :
    ∀ y ∈ (l.take (Dn l (now + rd after 0))).drop (FQ l now vals after false), y.f1 = AC vals 0 := by
  intro y d
  obtain ⟨j, b, e⟩ := List.mem_iff_getElem.mp d
  rw [List.length_drop, List.length_take] at b
  have c := JZ l (now + rd after 0)
  rw [List.getElem_drop, List.getElem_take] at e
  have g : FQ l now vals after false = G8 l (AC vals 0) (Dn l (now + rd after 0)) := by unfold FQ; rw [if_neg (by simp)]
  have hi : FQ l now vals after false + j < l.length := by omega
  have := KI l (AC vals 0) (Dn l (now + rd after 0)) (FQ l now vals after false + j) (by omega) (by omega)
  rw [FJ hi, e] at this
  have hok := (FM hp).2.2.2
  have a : y ∈ l := by rw [← e]; exact List.getElem_mem hi
  exact PM (Gj hok y a).2.2 hv this
theorem Ik (x : S26) (v : S30) (l : List S63) (now : Int) (vals : List S30) (after : List Int)
    (m : Du x v l = true ∧ 0 ≤ now ∧ now ≤ 1000000 ∧ 1 ≤ vals.length ∧ vals.length ≤ 64 ∧ after.length = vals.length ∧ Dm (-1) after = true ∧ vals.all (DC x) = true) (p : EB l now = false) (o : Dn l (now + rd after 0) - FQ l now vals after false + vals.length ≤ 64) :
    (∀ y ∈ (l.take (Dn l (now + rd after 0))).drop (FQ l now vals after false) ++ Ei now vals after, y.f0 < now + rd after 0 → y.f1 = AC vals 0) ∧
    (rd after 0 ≠ 0 → ∃ L, IY x v ((l.take (Dn l (now + rd after 0))).drop (FQ l now vals after false) ++ Ei now vals after) now (now + rd after 0 - 1) = (L, 0) ∧ (L = [] ∨ ∃ c, L = [c] ∧ c.f1 = AC vals 0)) := by
  have k := Gl x v l now vals after false m o
  obtain ⟨hp, h0, z, u, hn, ha, hr, hall⟩ := m
  obtain ⟨B, D⟩ := rd0 after (by omega) hr
  have a := Ja now (-1) vals after hr
  have n := NY x v l now vals after hp (List.all_eq_true.mp hall _ (Dw (i := 0) (by omega)))
  refine ⟨fun y b s => ?_, fun h1 => ⟨_, ?_, JC (now + rd after 0 - 1) (AC vals 0) _ v n⟩⟩
  · rcases List.mem_append.mp b with h | h
    · exact n y h
    · have := a y h; omega
  have w := JB (now + rd after 0 - 1) ((l.take (Dn l (now + rd after 0))).drop (FQ l now vals after false)) (Ei now vals after) v (fun c r e => by have := a c (by rw [e]; exact List.mem_cons_self); omega)
  have j : ∀ y ∈ l, now ≤ y.f0 := by
    intro y b
    cases l with
    | nil => cases b
    | cons d r =>
      have hd : ¬ d.f0 < now := of_decide_eq_false p
      have hok := (FM hp).2.2.2
      rcases List.mem_cons.mp b with rfl | h
      · omega
      · have := (Gj hok.2.2.2 y h).1; omega
  have g : EB ((l.take (Dn l (now + rd after 0))).drop (FQ l now vals after false) ++ Ei now vals after) now = false := by
    have hm : ∀ y ∈ (l.take (Dn l (now + rd after 0))).drop (FQ l now vals after false) ++ Ei now vals after, now ≤ y.f0 := by
      intro y b
      rcases List.mem_append.mp b with h | h
      · exact j y (List.mem_of_mem_take (List.mem_of_mem_drop h))
      · have := a y h; omega
    cases hq : (l.take (Dn l (now + rd after 0))).drop (FQ l now vals after false) ++ Ei now vals after with
    | nil => rfl
    | cons c q =>
      have := hm c (by rw [hq]; exact List.mem_cons_self)
      show decide (c.f0 < now) = false
      exact decide_eq_false (by omega)
  unfold IY
  rw [if_pos ⟨k, ⟨h0, by omega⟩, by omega, by omega⟩, g, if_neg (by simp), w]
theorem ME {i m : Nat} (h : i < m) (hm : m ≤ 100) : (i : Int) < (m : Int) ∧ (0 : Int) ≤ (i : Int) ∧ wrap64 ((i : Int) + 1) = ((i + 1 : Nat) : Int) :=
  ⟨by omega, by omega, by rw [CQ (by omega) (by omega)]; omega⟩
set_option maxHeartbeats 1000000 in
theorem KJ (n : Nat) (x : S26) (B : x.f3.length ≤ maxLen) (v : S30) (l : List S63) (now : Int) (vals : List S30) (after : List Int) (tr : Bool) (q : List S63) (G : q.length ≤ 100) (h0 : 0 ≤ now) (h1 : now ≤ 1000000) (I : 1 ≤ vals.length) (ha : 0 < after.length) (T : 0 ≤ rd after 0) (U : rd after 0 ≤ 1000000) (O : smV n (AC vals 0))
    (hall : ∀ y ∈ q, y.f0 < now + rd after 0 → y.f1 = AC vals 0) (w : rd after 0 ≠ 0 → ∃ L, IY x v q now (now + rd after 0 - 1) = (L, 0) ∧ (L = [] ∨ ∃ c, L = [c] ∧ c.f1 = AC vals 0)) :
    ∀ d i, i + d = q.length → Ev (fun k => AL.l0 k q (q.length : Int) (i : Int) x.f0 x.f1 x.f2 x.f3 x.f4 v.f0 v.f1 v.f2 v.f3 l now vals after tr v.f0 v.f1 v.f2 v.f3 q) true := by
  have hm := ml
  have a : 0 < (after.length : Int) := by omega
  have p : 0 < (vals.length : Int) := by omega
  have g : Ev (fun k => (Cv.f k).bind fun t => some t) true := Ev.now true
  have j := KA n _ O
  have h : wrap64 (now + rd after 0) = now + rd after 0 := CQ (by omega) (by omega)
  have J : wrap64 (wrap64 (now + rd after 0) - 1) = now + rd after 0 - 1 := by rw [h, CQ (by omega) (by omega)]
  intro d
  induction d with
  | zero =>
    intro i hi
    by_cases hz : rd after 0 = 0
    · exact Ev.step (fun k => by rw [AL.l0, if_neg (by omega), if_pos a, if_pos hz]) g
    · obtain ⟨L, e, D⟩ := w hz
      have t := NT x B v q (by omega) now (now + rd after 0 - 1)
      rw [e] at t
      refine Ev.step (fun k => by rw [AL.l0, if_neg (by omega), if_pos a, if_neg hz, J]) (Ev.bind t ?_)
      rcases D with rfl | ⟨c, rfl, hcv⟩
      · exact Ev.congr (fun k => by rw [if_pos rfl, if_pos (show ((([] : List S63), (0 : Int)).1.length : Int) = 0 from rfl)]) g
      · have u : (AA [c] 0).f1 = AC vals 0 := hcv
        refine Ev.congr (fun k => by rw [if_pos rfl, if_neg (by simp), if_pos (show ((([c], (0 : Int)).1.length : Nat) : Int) = 1 from rfl), if_pos (by simp), if_pos p, show (AA ([c], (0 : Int)).1 0).f1 = AC vals 0 from hcv]) (Ev.bind j ?_)
        exact Ev.congr (fun k => by rw [if_pos rfl]) g
  | succ d z =>
    intro i hi
    have m : i < q.length := by omega
    have s := z (i + 1) (by omega)
    obtain ⟨b, o, r⟩ := ME m G
    clear z w
    by_cases hlt : (AA q (i : Int)).f0 < now + rd after 0
    · have u := hall _ (IW m) hlt
      refine Ev.step (fun k => by rw [AL.l0, if_pos b, if_pos o, if_pos b, if_pos a, h, if_pos hlt, if_pos p, u]) (Ev.bind j ?_)
      exact Ev.congr (fun k => by rw [if_pos rfl, r]) s
    · exact Ev.step (fun k => by rw [AL.l0, if_pos b, if_pos o, if_pos b, if_pos a, h, if_neg hlt, r]) s
theorem Jb (n : Nat) (x : S26) (c : okT n x) (v : S30) (hv : okV n v) (l : List S63) (hl : l.length ≤ maxLen) (q : ∀ y ∈ l, okV n y.f1) (now : Int) (vals : List S30) (b : ∀ y ∈ vals, okV n y) (after : List Int) (tr : Bool) :
    ∃ K, AL.f K x.f0 x.f1 x.f2 x.f3 x.f4 v.f0 v.f1 v.f2 v.f3 l now vals after tr = some true := by
  have hm := ml
  have d : x.f3.length ≤ maxLen := by
    cases n with
    | zero => exact c.elim
    | succ n => exact c.2.2.2.2.1
  refine Ev.rounds (g := fun k => AL.f k x.f0 x.f1 x.f2 x.f3 x.f4 v.f0 v.f1 v.f2 v.f3 l now vals after tr) ?_
  unfold AL.f
  obtain ⟨t, p, j⟩ := Ko n x c v hv l q now vals b after tr
  have ha : Ev (fun k => (Cv.f k).bind fun t => some t) true := Ev.now true
  refine Ev.bind p ?_
  cases t with
  | false => exact Ev.congr (fun k => by rw [if_neg (by simp)]) ha
  | true =>
    obtain ⟨r, J, s, u, w, z⟩ := j rfl
    refine Ev.congr (fun k => by rw [if_pos rfl]) (Ev.bind (KE n x d v s l r w now vals after z false tr) ?_)
    by_cases he : (Fa x v l now vals after false).2.2.2.2.2 = 0
    · obtain ⟨a, m, e, o⟩ := MC x v l now vals after false he
      obtain ⟨G, I⟩ := Ik x v l now vals after a m e
      obtain ⟨B, D⟩ := rd0 after (by have := a.2.2.2.1; have := a.2.2.2.2.2.1; omega) a.2.2.2.2.2.2.1
      have h := (FM (Gl x v l now vals after false a e)).2.2.1
      refine Ev.congr (fun k => by rw [if_pos he]) ?_
      rw [o]
      exact KJ n x d v l now vals after tr _ (by omega) a.2.1 a.2.2.1 a.2.2.2.1 (by have := a.2.2.2.1; have := a.2.2.2.2.2.1; omega) B D (u _ (Dw (i := 0) (by have := a.2.2.2.1; omega))) G I _ 0 (Nat.zero_add _)
    · exact Ev.congr (fun k => by rw [if_neg he]) ha
end Go.Proofs.Ytojankgmedccdaa.Pure
end
