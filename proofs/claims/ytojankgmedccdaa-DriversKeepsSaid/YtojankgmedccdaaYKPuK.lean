/- Lemmas for LawDriversKeeps. -/
import Derived.Test.YtojankgmedccdaaYKPuG
import Derived.Test.YtojankgmedccdaaYKPRsx5
import Derived.Test.YtojankgmedccdaaYKPGnF8
section
namespace Go.Proofs.Ytojankgmedccdaa.Pure
open Go.RowKit Own PTy Hand PIs RowV YtojankgmedccdaaW.PrintWords YtojankgmedccdaaW.PrintLast
def DV (x : S26) (v : S30) : Bool := decide (v.f0 = x.f0) && (if x.f0 = 1 then (decide (v.f1 = 0) && decide (v.f3.length = 0) && (isF v.f2 && decide (v.f2.length = 1))) else (decide (v.f2.length = 0) && decide (v.f3.length = 0) && (if x.f0 = 2 then (decide (v.f1 = 0) || decide (v.f1 = 1)) else if x.f0 = 3 then (decide (-2147483648 ≤ v.f1) && decide (v.f1 ≤ 2147483647)) else (decide (0 ≤ v.f1) && decide (v.f1 < (x.f3.length : Int))))))
theorem O3 (v : S30) : Bt.f v.f0 v.f1 v.f2 v.f3 false true false = some (decide (v.f1 = 0) && decide (v.f3.length = 0)) := by
  unfold Bt.f
  by_cases h1 : v.f1 = 0 <;> simp [h1, Gp]
theorem O4 (v : S30) : Bt.f v.f0 v.f1 v.f2 v.f3 true false false = some (decide (v.f2.length = 0) && decide (v.f3.length = 0)) := by
  unfold Bt.f
  by_cases h1 : v.f2.length = 0 <;> simp [h1, Gp]
  all_goals simp_all [Gp]
theorem Pn (x : S26) (h : scB x = true) : x.f1 = 0 := by
  unfold scB JG JH at h
  split at h <;> simp_all
theorem LJ (x : S26) (h : scB x = true) : GN x = true ∨ x.f0 = 5 := by
  by_cases hx : GN x = true ∨ x.f0 = 5
  · exact hx
  · rw [OU x hx] at h; cases h
theorem O5 (x : S26) (v : S30) (a : scB x = true) : Ev (fun k => Ci.f k x.f0 x.f1 x.f2 x.f3 x.f4 v.f0 v.f1 v.f2 v.f3) (DV x v) := by
  have b := LJ x a
  have h1 := Pn x a
  rw [Gq] at b
  by_cases h0 : v.f0 = x.f0
  · unfold DV
    rw [decide_eq_true h0, Bool.true_and]
    by_cases k1 : x.f0 = 1
    · rw [if_pos k1]
      refine Ev.congr (f := fun k => Ci.j0 k x.f0 true x.f0 x.f1 x.f2 x.f3 x.f4 v.f0 v.f1 v.f2 v.f3) (fun k => ?_) (Ev.step (f := fun _ => some (decide (v.f1 = 0) && decide (v.f3.length = 0) && (isF v.f2 && decide (v.f2.length = 1)))) (fun k => ?_) (Ev.now _))
      · unfold Ci.f
        rw [if_pos h0, if_pos k1, k1]; rfl
      · rw [Ci.j0, if_pos rfl, O3, h1]
        have hm : mx 0 1 = 1 := rfl
        cases hb : (decide (v.f1 = 0) && decide (v.f3.length = 0)) with
        | false => simp
        | true =>
          rw [Option.bind_some, if_pos rfl, FW.f, Option.bind_some, hm, Bool.true_and]
          cases isF v.f2 with
          | false => rfl
          | true =>
            rw [if_pos rfl, Bool.true_and]
            congr 1; rw [Bool.eq_iff_iff]; simp; omega
    · rw [if_neg k1]
      refine Ev.congr (f := fun k => Ci.j0 k x.f0 false x.f0 x.f1 x.f2 x.f3 x.f4 v.f0 v.f1 v.f2 v.f3) (fun k => ?_) (Ev.step (f := fun _ => some (decide (v.f2.length = 0) && decide (v.f3.length = 0) && (if x.f0 = 2 then (decide (v.f1 = 0) || decide (v.f1 = 1)) else if x.f0 = 3 then (decide (-2147483648 ≤ v.f1) && decide (v.f1 ≤ 2147483647)) else (decide (0 ≤ v.f1) && decide (v.f1 < (x.f3.length : Int)))))) (fun k => ?_) (Ev.now _))
      · unfold Ci.f
        rw [if_pos h0, if_neg k1, show (x.f0 == 4) = false from beq_eq_false_iff_ne.mpr (by omega)]
      · rw [Ci.j0, if_neg (by simp), O4]
        cases hb : (decide (v.f2.length = 0) && decide (v.f3.length = 0)) with
        | false =>
          by_cases k2 : x.f0 = 2
          · rw [if_pos k2]; rfl
          by_cases k3 : x.f0 = 3
          · rw [if_neg k2, if_pos k3]; rfl
          rw [if_neg k2, if_neg k3, if_pos (by omega)]; rfl
        | true =>
          by_cases k2 : x.f0 = 2
          · rw [if_pos k2, if_pos k2, Option.bind_some, if_pos rfl, Bool.true_and]
            by_cases q : v.f1 = 0
            · rw [if_pos q, decide_eq_true q]; rfl
            · rw [if_neg q, decide_eq_false q, Bool.false_or]; rfl
          by_cases k3 : x.f0 = 3
          · rw [if_neg k2, if_pos k3, if_neg k2, if_pos k3, Option.bind_some, if_pos rfl, Bool.true_and]
            by_cases q : -2147483648 ≤ v.f1
            · rw [if_pos q, decide_eq_true q, Bool.true_and]
            · rw [if_neg q, decide_eq_false q]; rfl
          rw [if_neg k2, if_neg k3, if_pos (show x.f0 = 5 by omega), if_neg k2, if_neg k3, Option.bind_some, if_pos rfl, Bool.true_and]
          by_cases q : 0 ≤ v.f1
          · rw [if_pos q, decide_eq_true q, Bool.true_and]
          · rw [if_neg q, decide_eq_false q]; rfl
  · have e : DV x v = false := by unfold DV; rw [decide_eq_false h0]; rfl
    rw [e]
    exact Ev.congr (fun k => by unfold Ci.f; rw [if_neg h0]) (Ev.now _)
theorem Gz (x : S26) (v : S30) (a : scB x = true) (hl : x.f3.length ≤ maxLen) : Ev (fun k => CO.f k x.f0 x.f1 x.f2 x.f3 x.f4 v.f0 v.f1 v.f2 v.f3) (DV x v) := by
  unfold CO.f
  refine Ev.bind (J7 x (LJ x a) hl) ?_
  rw [a]
  exact Ev.congr (fun k => by rw [if_pos rfl]) (Ev.bind (O5 x v a) (Ev.now _))
def F5 (x : S26) (l : List S63) : Nat → Nat → Int → Bool
  | 0, _, _ => true
  | d + 1, i, u => !decide ((AA l (i : Int)).f0 ≤ u) && (!decide ((AA l (i : Int)).f0 > 2000000) && (DV x (AA l (i : Int)).f1 && F5 x l d (i + 1) (AA l (i : Int)).f0))
theorem Ib {l : List S63} {i : Nat} (h : i < l.length) : AA l (i : Int) ∈ l := by
  unfold AA
  rw [List.getD_eq_getElem?_getD, show ((i : Int)).toNat = i from rfl, List.getElem?_eq_getElem h]
  exact List.getElem_mem h
theorem Po (x : S26) (b : scB x = true) (a : x.f3.length ≤ maxLen) (l : List S63) (hl : l.length ≤ maxLen) : ∀ d i u, i + d = l.length → Ev (fun k => BJ.l0 k u l (l.length : Int) (i : Int) x.f0 x.f1 x.f2 x.f3 x.f4) (F5 x l d i u) := by
  have hm := ml
  intro d
  induction d with
  | zero =>
    intro i u hi
    exact Ev.step (f := fun _ => some true) (fun k => by rw [BJ.l0, if_neg (by omega)]) (Ev.now _)
  | succ d c =>
    intro i u hi
    simp only [F5]
    by_cases h1 : (AA l (i : Int)).f0 ≤ u
    · exact Ev.step (f := fun _ => some false) (fun k => by rw [BJ.l0, if_pos (by omega), if_pos (by omega), if_pos (by omega), if_pos h1]) (by simpa [h1] using Ev.now _)
    by_cases h2 : (AA l (i : Int)).f0 > 2000000
    · exact Ev.step (f := fun _ => some false) (fun k => by rw [BJ.l0, if_pos (by omega), if_pos (by omega), if_pos (by omega), if_neg h1, if_pos h2]) (by simpa [h2] using Ev.now _)
    rw [decide_eq_false h1, decide_eq_false h2]
    refine Ev.step (fun k => by rw [BJ.l0, if_pos (by omega), if_pos (by omega), if_pos (by omega), if_neg h1, if_neg h2, CQ (by omega) (by omega)]) (Ev.bind (Gz x (AA l (i : Int)).f1 b a) ?_)
    cases DV x (AA l (i : Int)).f1 with
    | false => exact Ev.congr (fun k => by rw [if_neg (by simp)]) (by simpa using Ev.now _)
    | true => exact Ev.congr (fun k => by rw [if_pos rfl]) (by simpa using c (i + 1) _ (by omega))
def EA (x : S26) (v : S30) (l : List S63) : Bool := scB x && (DV x v && (decide (l.length ≤ 64) && F5 x l l.length 0 (-1)))
theorem O6 (l : List S63) : (decide ((l.length : Int) > 64)) = !decide (l.length ≤ 64) := by rw [Bool.eq_iff_iff]; simp; omega
theorem OW (x : S26) (a : x.f3.length ≤ maxLen) (v : S30) (l : List S63) (hl : l.length ≤ maxLen) : Ev (fun k => BJ.f k x.f0 x.f1 x.f2 x.f3 x.f4 v.f0 v.f1 v.f2 v.f3 l) (EA x v l) := by
  unfold BJ.f EA
  have b : Ev (fun k => BJ.j0 k true x.f0 x.f1 x.f2 x.f3 x.f4 v.f0 v.f1 v.f2 v.f3 l) false := Ev.step (f := fun _ => some false) (fun k => by rw [BJ.j0, if_pos rfl]) (Ev.now _)
  refine Ev.bind (Ll x a) ?_
  cases hs : scB x with
  | false => exact Ev.congr (fun k => by rw [if_neg (by simp)]) (by simpa using b)
  | true =>
    refine Ev.congr (fun k => by rw [if_pos rfl]) (Ev.bind (Gz x v hs a) ?_)
    cases DV x v with
    | false => exact Ev.congr (fun k => by rw [if_neg (by simp)]) (by simpa using b)
    | true =>
      refine Ev.congr (fun k => by rw [if_pos rfl, O6]) ?_
      cases decide (l.length ≤ 64) with
      | false => simpa using b
      | true => exact Ev.step (f := fun k => BJ.l0 k (-1) l (l.length : Int) ((0 : Nat) : Int) x.f0 x.f1 x.f2 x.f3 x.f4) (fun k => by rw [BJ.j0, if_neg (by simp)]; rfl) (by simpa using Po x hs a l hl l.length 0 (-1) (by omega))
end Go.Proofs.Ytojankgmedccdaa.Pure
end
section
namespace Go.Proofs.Ytojankgmedccdaa.Pure
open Go.RowKit Own PTy Hand PIs RowV YtojankgmedccdaaW.PrintWords YtojankgmedccdaaW.PrintLast
open PAw (r01Same.f r01Same.l0)
open PGn
def ExQ {α : Type} (g : Nat → Option α) (Q : α → Prop) : Prop := ∃ t, Ev g t ∧ Q t
section
variable {α β : Type} {g f : Nat → Option α} {Q : α → Prop}
theorem ExQ.now (t : α) (h : Q t) : ExQ (fun _ => some t) Q := ⟨t, Ev.now t, h⟩
theorem ExQ.step (h : ∀ k, g (k + 1) = f k) (a : ExQ f Q) : ExQ g Q := ⟨a.choose, Ev.step h a.choose_spec.1, a.choose_spec.2⟩
theorem ExQ.congr (h : ∀ k, g k = f k) (a : ExQ f Q) : ExQ g Q := ⟨a.choose, Ev.congr h a.choose_spec.1, a.choose_spec.2⟩
theorem ExQ.ite {c : Prop} [Decidable c] (h1 : c → ExQ g Q) (a : ¬ c → ExQ f Q) : ExQ (fun k => if c then g k else f k) Q := by
  by_cases h : c
  · simpa [h] using h1 h
  · simpa [h] using a h
theorem ExQ.bind {R : β → Prop} {g : Nat → Option β} {f : Nat → β → Option α} (h : ExQ g R) (b : ∀ t, R t → ExQ (fun k => f k t) Q) : ExQ (fun k => (g k).bind (f k)) Q := by
  obtain ⟨t, d, hr⟩ := h
  obtain ⟨r, a, c⟩ := b t hr
  exact ⟨r, Ev.bind d a, c⟩
theorem ExQ.of (h : Ex g) : ExQ g (fun _ => True) := ⟨h.choose, h.choose_spec, trivial⟩
end
def smV : Nat → S30 → Prop
  | 0, _ => False
  | m + 1, v => v.f2.length ≤ 9000 ∧ v.f3.length ≤ 9000 ∧ ∀ y ∈ v.f3, smV m y
theorem KA : ∀ m (v : S30), okV m v → ∀ a : Int, 0 ≤ a → a ≤ 9000 → ExQ (fun k => CL.f k v.f0 v.f1 v.f2 v.f3 a) (fun r => r < a ∧ (0 ≤ r → smV m v))
  | 0, _, h, _, _, _ => h.elim
  | m + 1, v, ⟨_, _, _, h4, h5, h6⟩, a, ha, ha9 => by
    have hm := ml
    refine ExQ.step (fun k => by rw [CL.f]) ?_
    obtain ⟨g, u⟩ : ∃ g, g = a - 1 - (v.f2.length : Int) := ⟨_, rfl⟩
    have x : wrap64 (a - wrap64 (1 + (v.f2.length : Int))) = g := by unfold wrap64; omega
    rw [x]
    have key : ∀ d i, i + d = v.f3.length → ∀ b : Int, b ≤ 9000 → ExQ (fun k => CL.l0 k b v.f3 (v.f3.length : Int) (i : Int)) (fun r => r ≤ b ∧ (0 ≤ r → (d : Int) ≤ b - r ∧ ∀ j, i ≤ j → j < v.f3.length → smV m (AB v.f3 (j : Int)))) := by
      intro d
      induction d with
      | zero =>
        intro i hi b q
        refine ExQ.step (f := fun _ => some b) (fun k => by rw [CL.l0, if_neg (by omega)]) (ExQ.now b ⟨by omega, fun _ => ⟨by omega, fun j h1 p => by omega⟩⟩)
      | succ d B =>
        intro i hi b q
        by_cases hn : b < 0
        · exact ExQ.step (f := fun _ => some b) (fun k => by rw [CL.l0, if_pos (by omega), if_pos (by omega), if_pos (by omega), if_pos hn]) (ExQ.now b ⟨by omega, fun h => by omega⟩)
        · refine ExQ.step (fun k => by rw [CL.l0, if_pos (by omega), if_pos (by omega), if_pos (by omega), if_neg hn, CQ (n := (i : Int) + 1) (by omega) (by omega)]) (ExQ.bind (KA m _ (h6 _ (EX (i := i) (by omega))) b (by omega) q) fun t w => ?_)
          obtain ⟨r, hr, l, c⟩ := B (i + 1) (by omega) t (by omega)
          refine ⟨r, hr, by omega, fun h0 => ?_⟩
          obtain ⟨D, o⟩ := c h0
          refine ⟨by omega, fun j h1 p => ?_⟩
          by_cases e : j = i
          · rw [e]; exact w.2 (by omega)
          · exact o j (by omega) p
    obtain ⟨r, hr, l, c⟩ := key v.f3.length 0 (by omega) g (by omega)
    refine ⟨r, hr, by omega, fun h0 => ?_⟩
    obtain ⟨D, o⟩ := c h0
    refine ⟨by omega, by omega, fun y z => ?_⟩
    obtain ⟨j, s, e⟩ := List.mem_iff_getElem.mp z
    have := o j (by omega) s
    unfold AB at this
    rw [List.getD_eq_getElem?_getD, show ((j : Int)).toNat = j from rfl, List.getElem?_eq_getElem s] at this
    exact e ▸ this
theorem NP (l : List S30) (hl : l.length ≤ maxLen) (m : Nat) (hv : ∀ y ∈ l, okV m y) : ExQ (fun k => BB.l2 k l (l.length : Int) 0) (fun t => t = true → ∀ j, j < l.length → smV m (AB l (j : Int))) := by
  have hm := ml
  have key : ∀ d i, i + d = l.length → ExQ (fun k => BB.l2 k l (l.length : Int) (i : Int)) (fun t => t = true → ∀ j, i ≤ j → j < l.length → smV m (AB l (j : Int))) := by
    intro d
    induction d with
    | zero => exact fun i hi => ExQ.step (f := fun _ => some true) (fun k => by rw [BB.l2, if_neg (by omega)]) (ExQ.now _ fun _ j h1 b => by omega)
    | succ d g =>
      intro i hi
      refine ExQ.step (fun k => by rw [BB.l2, if_pos (by omega), if_pos (by omega), if_pos (by omega), CQ (n := (i : Int) + 1) (by omega) (by omega)]) (ExQ.bind (KA m _ (hv _ (EX (i := i) (by omega))) 9000 (by omega) (by omega)) fun t c => ExQ.ite (fun _ => ExQ.now false (by simp)) fun h0 => ?_)
      obtain ⟨r, hr, a⟩ := g (i + 1) (by omega)
      refine ⟨r, hr, fun e j h1 b => ?_⟩
      by_cases ej : j = i
      · rw [ej]; exact c.2 (by omega)
      · exact a e j (by omega) b
  obtain ⟨r, hr, a⟩ := key l.length 0 (by omega)
  exact ⟨r, hr, fun e j h => a e j (by omega) h⟩
theorem NQ (n : Nat) (x : S26) (e : okT n x) (l : List S30) (hl : l.length ≤ maxLen) (m : Nat) (hv : ∀ y ∈ l, okV m y) : ExQ (fun k => BB.f k x.f0 x.f1 x.f2 x.f3 x.f4 l) (fun t => t = true → ∀ j, j < l.length → smV m (AB l (j : Int))) := by
  have hm := ml
  cases n with
  | zero => exact e.elim
  | succ n =>
    obtain ⟨_, _, _, _, h, o, g⟩ := e
    have h1 : ∀ d i, i + d = x.f4.length → ExQ (fun k => BB.l1 k l x.f4 (x.f4.length : Int) (i : Int)) (fun t => t = true → ∀ j, j < l.length → smV m (AB l (j : Int))) := by
      intro d
      induction d with
      | zero => exact fun i hi => ExQ.step (fun k => by rw [BB.l1, if_neg (by omega)] <;> rfl) (NP l hl m hv)
      | succ d c =>
        intro i hi
        exact ExQ.step (fun k => by rw [BB.l1, if_pos (by omega), if_pos (by omega), if_pos (by omega), CQ (n := (i : Int) + 1) (by omega) (by omega)] <;> rfl) (ExQ.ite (fun _ => ExQ.now false (by simp)) fun _ => ExQ.bind (ExQ.of (J4 n _ (g _ (J2 (i := i) (by omega))) [] (by simp) 0 (by simp))) fun t _ => ExQ.ite (fun _ => c (i + 1) (by omega)) fun _ => ExQ.now false (by simp))
    have h0 : ∀ d i, i + d = x.f3.length → ExQ (fun k => BB.l0 k l x.f3 (x.f3.length : Int) (i : Int) x.f0 x.f1 x.f2 x.f3 x.f4) (fun t => t = true → ∀ j, j < l.length → smV m (AB l (j : Int))) := by
      intro d
      induction d with
      | zero => exact fun i hi => ExQ.step (fun k => by rw [BB.l0, if_neg (by omega)] <;> rfl) (h1 x.f4.length 0 (by omega))
      | succ d c =>
        intro i hi
        exact ExQ.step (fun k => by rw [BB.l0, if_pos (by omega), if_pos (by omega), if_pos (by omega), CQ (n := (i : Int) + 1) (by omega) (by omega)] <;> rfl) (ExQ.ite (fun _ => ExQ.now false (by simp)) fun _ => c (i + 1) (by omega))
    have a : ∀ b, ExQ (fun k => BB.j0 k l b x.f0 x.f1 x.f2 x.f3 x.f4) (fun t => t = true → ∀ j, j < l.length → smV m (AB l (j : Int))) := fun b =>
      ExQ.step (fun k => by rw [BB.j0] <;> rfl) (ExQ.ite (fun _ => ExQ.now false (by simp)) fun _ => h0 x.f3.length 0 (by omega))
    exact ExQ.step (fun k => by rw [BB.f]) (ExQ.ite (fun _ => a _) fun _ => ExQ.ite (fun _ => a _) fun _ => a _)
theorem O7 (n : Nat) (x : S26) (z : okT n x) (v : S30) (hv : okV n v) (l : List S63) (hl : ∀ y ∈ l, okV n y.f1) (a : List S30) (r : ∀ y ∈ a, okV n y) :
    ExQ (fun k => Ct.f k x.f0 x.f1 x.f2 x.f3 x.f4 v.f0 v.f1 v.f2 v.f3 l a) (fun t => t = true → l.length ≤ 80 ∧ a.length ≤ 80 ∧ smV n v ∧ (∀ y ∈ a, smV n y) ∧ ∀ y ∈ l, smV n y.f1) := by
  have hm := ml
  have g : ExQ (fun k => Ct.j0 k a true x.f0 x.f1 x.f2 x.f3 x.f4 v.f0 v.f1 v.f2 v.f3 l) (fun t => t = true → l.length ≤ 80 ∧ a.length ≤ 80 ∧ smV n v ∧ (∀ y ∈ a, smV n y) ∧ ∀ y ∈ l, smV n y.f1) :=
    ExQ.step (f := fun _ => some false) (fun k => by rw [Ct.j0, if_pos rfl]) (ExQ.now _ (by simp))
  unfold Ct.f
  by_cases h8 : (l.length : Int) > 80
  · exact ExQ.congr (fun k => by rw [if_pos h8]) g
  by_cases h9 : (a.length : Int) > 80
  · exact ExQ.congr (fun k => by rw [if_neg h8, decide_eq_true h9]) g
  refine ExQ.congr (f := fun k => Ct.j0 k a false x.f0 x.f1 x.f2 x.f3 x.f4 v.f0 v.f1 v.f2 v.f3 l) (fun k => by rw [if_neg h8, decide_eq_false h9]) ?_
  have key : ∀ d i, i + d = l.length → ∀ ys : List S30, ys.length = a.length + 1 + i → (∀ y ∈ ys, okV n y) → (∀ y ∈ (v :: a), y ∈ ys) → (∀ j, j < i → (AA l (j : Int)).f1 ∈ ys) → ExQ (fun k => Ct.l0 k ys l (l.length : Int) (i : Int) x.f0 x.f1 x.f2 x.f3 x.f4) (fun t => t = true → l.length ≤ 80 ∧ a.length ≤ 80 ∧ smV n v ∧ (∀ y ∈ a, smV n y) ∧ ∀ y ∈ l, smV n y.f1) := by
    intro d
    induction d with
    | zero =>
      intro i hi ys u q b p
      refine ExQ.step (fun k => by rw [Ct.l0, if_neg (by omega)]) (ExQ.bind (NQ n x z ys (by omega) n q) fun t w => ⟨t, Ev.now t, fun e => ?_⟩)
      have hall : ∀ y ∈ ys, smV n y := by
        intro y s
        obtain ⟨j, c, o⟩ := List.mem_iff_getElem.mp s
        have := w e j c
        unfold AB at this
        rw [List.getD_eq_getElem?_getD, show ((j : Int)).toNat = j from rfl, List.getElem?_eq_getElem c] at this
        exact o ▸ this
      refine ⟨by omega, by omega, hall _ (b v (by simp)), fun y h => hall _ (b y (by simp [h])), fun y h => ?_⟩
      obtain ⟨j, c, o⟩ := List.mem_iff_getElem.mp h
      have := hall _ (p j (by omega))
      unfold AA at this
      rw [List.getD_eq_getElem?_getD, show ((j : Int)).toNat = j from rfl, List.getElem?_eq_getElem c] at this
      exact o ▸ this
    | succ d B =>
      intro i hi ys u q b p
      have m : AA l (i : Int) ∈ l := by
        unfold AA
        rw [List.getD_eq_getElem?_getD, show ((i : Int)).toNat = i from rfl, List.getElem?_eq_getElem (by omega)]
        exact List.getElem_mem _
      refine ExQ.step (fun k => by rw [Ct.l0, if_pos (by omega), if_pos (by omega), if_pos (by omega), if_pos (by omega), CQ (n := (i : Int) + 1) (by omega) (by omega), IY] <;> rfl) (B (i + 1) (by omega) (ys ++ [(AA l (i : Int)).f1]) (by rw [List.length_append, u]; rfl) (fun y h => ?_) (fun y h => List.mem_append_left _ (b y h)) (fun j h => ?_))
      · rcases List.mem_append.mp h with h | h
        · exact q y h
        · rw [List.mem_singleton.mp h]; exact hl _ m
      · by_cases e : j = i
        · rw [e]; exact List.mem_append_right _ (by simp)
        · exact List.mem_append_left _ (p j (by omega))
  refine ExQ.step (fun k => ?_) (key l.length 0 (by omega) (v :: a) (by simp) (fun y h => ?_) (fun y h => h) (by omega))
  · rw [Ct.j0, if_neg (by simp), Option.bind_some, if_pos (by simp; omega), IY]; rfl
  · rcases List.mem_cons.mp h with rfl | h
    · exact hv
    · exact r y h
theorem Ic {l : List S30} {i : Nat} (h : i < l.length) : AB l (i : Int) = l[i] := by
  unfold AB
  rw [List.getD_eq_getElem?_getD, show ((i : Int)).toNat = i from rfl, List.getElem?_eq_getElem h]; rfl
theorem F6 {l : List S63} {i : Nat} (h : i < l.length) : AA l (i : Int) = l[i] := by
  unfold AA
  rw [List.getD_eq_getElem?_getD, show ((i : Int)).toNat = i from rfl, List.getElem?_eq_getElem h]; rfl
theorem Jc : ∀ m (v : S30), smV m v → Ev (fun k => Bo.f k v.f0 v.f1 v.f2 v.f3) (v.f0, v.f1, v.f2, v.f3)
  | 0, _, h => h.elim
  | m + 1, v, ⟨h1, h2, h3⟩ => by
    have hm := ml
    refine Ev.step (fun k => by rw [Bo.f, Option.bind_some, if_pos (by simp; omega)]) ?_
    have key : ∀ d i, i + d = v.f3.length → Ev (fun k => Bo.l0 k v.f3 (v.f3.length : Int) (i : Int) v.f0 v.f1 v.f2 (v.f3.take i)) (v.f0, v.f1, v.f2, v.f3) := by
      intro d
      induction d with
      | zero =>
        intro i hi
        rw [List.take_of_length_le (by omega)]
        exact Ev.step (f := fun _ => some (v.f0, v.f1, v.f2, v.f3)) (fun k => by rw [Bo.l0, if_neg (by omega)]) (Ev.now _)
      | succ d b =>
        intro i hi
        have a : i < v.f3.length := by omega
        refine Ev.step (fun k => by rw [Bo.l0, if_pos (by omega), if_pos (by omega), if_pos (by omega), CQ (n := (i : Int) + 1) (by omega) (by omega)]) (Ev.bind (Jc m _ (h3 _ (EX a))) ?_)
        refine Ev.congr (f := fun k => Bo.l0 k v.f3 (v.f3.length : Int) ((i + 1 : Nat) : Int) v.f0 v.f1 v.f2 (v.f3.take (i + 1))) (fun k => ?_) (b (i + 1) (by omega))
        rw [if_pos (by rw [List.length_take]; omega), List.take_succ_eq_append_getElem a, IY, Ic a]; rfl
    simpa using key v.f3.length 0 (by omega)
theorem NR (x : S63) : (⟨x.f0, x.f1⟩ : S63) = x := by cases x; rfl
theorem NS (m : Nat) (v : S30) (hv : smV m v) (l : List S63) (hl : l.length ≤ 100) (b : ∀ y ∈ l, smV m y.f1) : Ev (fun k => Cj.f k v.f0 v.f1 v.f2 v.f3 l) (v.f0, v.f1, v.f2, v.f3, l) := by
  have hm := ml
  unfold Cj.f
  refine Ev.bind (Jc m v hv) ?_
  have key : ∀ d i, i + d = l.length → Ev (fun k => Cj.l0 k l (l.length : Int) (i : Int) v.f0 v.f1 v.f2 v.f3 (l.take i)) (v.f0, v.f1, v.f2, v.f3, l) := by
    intro d
    induction d with
    | zero =>
      intro i hi
      rw [List.take_of_length_le (by omega)]
      exact Ev.step (f := fun _ => some (v.f0, v.f1, v.f2, v.f3, l)) (fun k => by rw [Cj.l0, if_neg (by omega)]) (Ev.now _)
    | succ d c =>
      intro i hi
      have a : i < l.length := by omega
      refine Ev.step (fun k => by rw [Cj.l0, if_pos (by omega), if_pos (by omega), if_pos (by omega), CQ (n := (i : Int) + 1) (by omega) (by omega)]) (Ev.bind (Jc m _ (b _ (Ib a))) ?_)
      refine Ev.congr (f := fun k => Cj.l0 k l (l.length : Int) ((i + 1 : Nat) : Int) v.f0 v.f1 v.f2 v.f3 (l.take (i + 1))) (fun k => ?_) (c (i + 1) (by omega))
      rw [if_pos (by rw [List.length_take]; omega), List.take_succ_eq_append_getElem a, IY, NR, F6 a]; rfl
  simpa using key l.length 0 (by omega)
theorem NT (l : List Int) (hl : l.length ≤ maxLen) : Ev (fun k => r01Same.f k l l) true := by
  have hm := ml
  have key : ∀ d i, i + d = l.length → Ev (fun k => r01Same.l0 k l l (l.length : Int) (i : Int)) true := by
    intro d
    induction d with
    | zero => intro i hi; exact Ev.step (f := fun _ => some true) (fun k => by rw [r01Same.l0, if_neg (by omega)]) (Ev.now _)
    | succ d a =>
      intro i hi
      refine Ev.step (f := fun k => r01Same.l0 k l l (l.length : Int) ((i + 1 : Nat) : Int)) (fun k => ?_) (a (i + 1) (by omega))
      rw [r01Same.l0, if_pos (by omega), if_pos (by omega), if_pos (by omega), if_pos (by omega), if_pos rfl, CQ (by omega) (by omega)]
      rfl
  exact Ev.congr (fun k => by unfold r01Same.f; rw [if_pos rfl]; rfl) (key l.length 0 (by omega))
theorem Ie : ∀ m (v : S30), smV m v → Ev (fun k => PGn.Bd.f k v.f0 v.f1 v.f2 v.f3 v.f0 v.f1 v.f2 v.f3) true
  | 0, _, h => h.elim
  | m + 1, v, ⟨h1, h2, h3⟩ => by
    have hm := ml
    refine Ev.step (fun k => by rw [PGn.Bd.f, if_pos rfl, if_pos rfl]) (Ev.bind (NT v.f2 (by omega)) (Ev.congr (fun k => by rw [if_pos rfl, bne_self_eq_false]) (Ev.step (fun k => by rw [PGn.Bd.j0, if_neg (by simp)]) ?_)))
    have key : ∀ d i, i + d = v.f3.length → Ev (fun k => PGn.Bd.l0 k (v.f3.length : Int) (i : Int) v.f0 v.f1 v.f2 v.f3 v.f0 v.f1 v.f2 v.f3) true := by
      intro d
      induction d with
      | zero => intro i hi; exact Ev.step (f := fun _ => some true) (fun k => by rw [PGn.Bd.l0, if_neg (by omega)]) (Ev.now _)
      | succ d a =>
        intro i hi
        exact Ev.step (fun k => by rw [PGn.Bd.l0, if_pos (by omega), if_pos (by omega), if_pos (by omega), if_pos (by omega), CQ (n := (i : Int) + 1) (by omega) (by omega)]) (Ev.bind (Ie m _ (h3 _ (EX (i := i) (by omega)))) (Ev.congr (fun k => by rw [if_pos rfl]; rfl) (a (i + 1) (by omega))))
    exact key v.f3.length 0 (by omega)
theorem Ig (m : Nat) (v : S30) (hv : smV m v) (l : List S63) (hl : l.length ≤ maxLen) (a : ∀ y ∈ l, smV m y.f1) : Ev (fun k => CK.f k v.f0 v.f1 v.f2 v.f3 l v.f0 v.f1 v.f2 v.f3 l) true := by
  have hm := ml
  unfold CK.f
  refine Ev.bind (Ie m v hv) (Ev.congr (fun k => by rw [if_pos rfl, bne_self_eq_false]) (Ev.step (fun k => by rw [CK.j0, if_neg (by simp)]) ?_))
  have key : ∀ d i, i + d = l.length → Ev (fun k => CK.l0 k (l.length : Int) (i : Int) v.f0 v.f1 v.f2 v.f3 l v.f0 v.f1 v.f2 v.f3 l) true := by
    intro d
    induction d with
    | zero => intro i hi; exact Ev.step (f := fun _ => some true) (fun k => by rw [CK.l0, if_neg (by omega)]) (Ev.now _)
    | succ d b =>
      intro i hi
      exact Ev.step (fun k => by rw [CK.l0, if_pos (by omega), if_pos (by omega), if_pos (by omega), if_pos (by omega), if_pos rfl, CQ (n := (i : Int) + 1) (by omega) (by omega)]) (Ev.bind (Ie m _ (a _ (Ib (i := i) (by omega)))) (Ev.congr (fun k => by rw [if_pos rfl]; rfl) (b (i + 1) (by omega))))
  exact key l.length 0 (by omega)
theorem Lv (m : Nat) (l : List S63) (hl : l.length ≤ maxLen) (a : ∀ y ∈ l, smV m y.f1) : Ev (fun k => DZ.f k l l) true := by
  unfold DZ.f
  cases m with
  | zero =>
    have : l = [] := List.eq_nil_iff_forall_not_mem.mpr fun y h => a y h
    subst this
    exact Ev.bind (Ig 1 ⟨0, 0, [], []⟩ ⟨by simp, by simp, by simp⟩ [] hl (by simp)) (Ev.now _)
  | succ m => exact Ev.bind (Ig (m + 1) ⟨0, 0, [], []⟩ ⟨by simp, by simp, by simp⟩ l hl a) (Ev.now _)
end Go.Proofs.Ytojankgmedccdaa.Pure
end
section
namespace Go.Proofs.Ytojankgmedccdaa.Pure
open Go.RowKit Own PTy Hand PIs RowV YtojankgmedccdaaW.PrintWords YtojankgmedccdaaW.PrintLast
open PAw (drivers_copied.f logic_isBit.f logic_both.f logic_both.j0 logic_Resolve.f logic_Resolve.l0 r01Same.f r01Same.l0)
open PRs
theorem Gb (l : List Int) (i : Nat) (h : i < l.length) : rd l (i : Int) = l[i] := by
  unfold rd
  rw [List.getD_eq_getElem?_getD, show ((i : Int)).toNat = i from rfl, List.getElem?_eq_getElem h]; rfl
end Go.Proofs.Ytojankgmedccdaa.Pure
end
section
namespace Go.Proofs.Ytojankgmedccdaa.Pure
open Go.RowKit Own PTy Hand PIs RowV YtojankgmedccdaaW.PrintWords YtojankgmedccdaaW.PrintLast
open PAw (drivers_copied.f logic_isBit.f logic_both.f logic_both.j0 logic_Resolve.f logic_Resolve.l0 r01Same.f r01Same.l0)
open PRs
theorem G5 (x : S26) (v : S30) (h : DV x v = true) : v.f0 = x.f0 ∧ v.f3 = [] ∧ (x.f0 = 1 → v.f2.length = 1) ∧ (x.f0 ≠ 1 → v.f2 = []) ∧ ∀ b ∈ v.f2, b ≤ 3 := by
  unfold DV at h
  rw [Bool.and_eq_true, decide_eq_true_iff] at h
  obtain ⟨h0, h⟩ := h
  by_cases k1 : x.f0 = 1
  · rw [if_pos k1] at h
    simp only [Bool.and_eq_true, decide_eq_true_iff] at h
    obtain ⟨⟨_, d⟩, hi, c⟩ := h
    refine ⟨h0, List.length_eq_zero_iff.mp d, fun _ => c, fun h => absurd k1 h, fun b a => ?_⟩
    unfold isF at hi
    simp only [Bool.and_eq_true, List.all_eq_true, decide_eq_true_iff] at hi
    exact hi.2 b a
  · rw [if_neg k1] at h
    simp only [Bool.and_eq_true, decide_eq_true_iff] at h
    have e := List.length_eq_zero_iff.mp h.1.1
    exact ⟨h0, List.length_eq_zero_iff.mp h.1.2, fun h => absurd h k1, fun _ => e, fun b a => by rw [e] at a; cases a⟩
end Go.Proofs.Ytojankgmedccdaa.Pure
end
section
namespace Go.Proofs.Ytojankgmedccdaa.Pure
open Go.RowKit Own PTy Hand PIs RowV YtojankgmedccdaaW.PrintWords YtojankgmedccdaaW.PrintLast
open PAw (drivers_behind.f drivers_copied.f api_Bit_96.f api_Bit_96.l0)
open PGn
def okL (x : S26) : Int → List S63 → Prop
  | _, [] => True
  | u, c :: r => u < c.f0 ∧ c.f0 ≤ 2000000 ∧ DV x c.f1 = true ∧ okL x c.f0 r
theorem Lx (x : S26) (l : List S63) : ∀ d i u, i + d = l.length → F5 x l d i u = true → okL x u (l.drop i) := by
  intro d
  induction d with
  | zero => intro i u hi _; rw [List.drop_eq_nil_of_le (by omega)]; trivial
  | succ d b =>
    intro i u hi h
    have a : i < l.length := by omega
    rw [List.drop_eq_getElem_cons a]
    simp only [F5, Bool.and_eq_true, Bool.not_eq_true', decide_eq_false_iff_not, F6 a] at h
    exact ⟨by omega, by omega, h.2.2.1, b (i + 1) _ (by omega) h.2.2.2⟩
theorem Jd {x : S26} : ∀ {u : Int} {l : List S63}, okL x u l → ∀ y ∈ l, u < y.f0 ∧ y.f0 ≤ 2000000 ∧ DV x y.f1 = true
  | _, [], _, _, h => by cases h
  | u, c :: r, ⟨h1, h2, h3, h4⟩, y, h => by
    rcases List.mem_cons.mp h with rfl | h
    · exact ⟨h1, h2, h3⟩
    · obtain ⟨d, a, b⟩ := Jd h4 y h
      exact ⟨by omega, a, b⟩
theorem NU {x : S26} {u a : Int} {l : List S63} (h : okL x u l) (b : a ≤ u) : okL x a l := by
  cases l with
  | nil => trivial
  | cons c r => exact ⟨by have := h.1; omega, h.2⟩
theorem Gr {x : S26} {v : S30} {l : List S63} (h : EA x v l = true) : scB x = true ∧ DV x v = true ∧ l.length ≤ 64 ∧ okL x (-1) l := by
  unfold EA at h
  simp only [Bool.and_eq_true, decide_eq_true_iff] at h
  exact ⟨h.1, h.2.1, h.2.2.1, by simpa using Lx x l l.length 0 (-1) (by omega) h.2.2.2⟩
theorem Je {x : S26} {v : S30} (h : DV x v = true) : v.f2.length ≤ 1 := by
  obtain ⟨c, d, a, b, e⟩ := G5 x v h
  by_cases k1 : x.f0 = 1
  · rw [a k1]; omega
  · rw [b k1]; simp
def eqV (v w : S30) : Bool := decide (v.f1 = w.f1) && decide (v.f2 = w.f2)
theorem OE (l m : List Int) (hl : l.length ≤ maxLen) (c : m.length ≤ maxLen) : Ev (fun k => api_Bit_96.f k l m) (decide (l = m)) := by
  have hm := ml
  unfold api_Bit_96.f
  by_cases h : l.length = m.length
  · have key : ∀ d i, i + d = l.length → Ev (fun k => api_Bit_96.l0 k l m (l.length : Int) (i : Int)) (decide (l.drop i = m.drop i)) := by
      intro d
      induction d with
      | zero =>
        intro i hi
        rw [List.drop_eq_nil_of_le (by omega), List.drop_eq_nil_of_le (by omega)]
        exact Ev.step (f := fun _ => some true) (fun k => by rw [api_Bit_96.l0, if_neg (by omega)]) (by simpa using Ev.now _)
      | succ d g =>
        intro i hi
        have a : i < l.length := by omega
        have b : i < m.length := by omega
        rw [List.drop_eq_getElem_cons a, List.drop_eq_getElem_cons b]
        have hd : l[i] = m[i] → decide (l[i] :: l.drop (i + 1) = m[i] :: m.drop (i + 1)) = decide (l.drop (i + 1) = m.drop (i + 1)) := fun e => by rw [e]; exact decide_eq_decide.mpr ⟨fun h => (List.cons.inj h).2, fun h => by rw [h]⟩
        have hn : l[i] ≠ m[i] → decide (l[i] :: l.drop (i + 1) = m[i] :: m.drop (i + 1)) = false := fun e => decide_eq_false fun h => e (List.cons.inj h).1
        by_cases e : l[i] = m[i]
        · refine Ev.step (f := fun k => api_Bit_96.l0 k l m (l.length : Int) ((i + 1 : Nat) : Int)) (fun k => ?_) (by rw [hd e]; exact g (i + 1) (by omega))
          rw [api_Bit_96.l0, if_pos (by omega), if_pos (by omega), if_pos (by omega), if_pos (by omega), Gb l i a, Gb m i b, if_pos e, CQ (by omega) (by omega)]
          rfl
        · refine Ev.step (f := fun _ => some false) (fun k => ?_) (by rw [hn e]; exact Ev.now _)
          rw [api_Bit_96.l0, if_pos (by omega), if_pos (by omega), if_pos (by omega), if_pos (by omega), Gb l i a, Gb m i b, if_neg e]
    exact Ev.congr (fun k => by rw [if_pos (by omega)]) (by simpa using key l.length 0 (by omega))
  · have e : decide (l = m) = false := decide_eq_false fun e => h (by rw [e])
    rw [e]
    exact Ev.congr (fun k => by rw [if_neg (by omega)]) (Ev.now _)
theorem KC (x : S26) (g : scB x = true) (d : x.f3.length ≤ maxLen) (v w : S30) (hv : DV x v = true) (c : DV x w = true) : Ev (fun k => PGn.Ce.f k x.f0 x.f1 x.f2 x.f3 x.f4 v.f0 v.f1 v.f2 v.f3 w.f0 w.f1 w.f2 w.f3) (eqV v w) := by
  have hm := ml
  have l1 := Je hv
  have l2 := Je c
  have h := (G5 x v hv).2.1
  have i := (G5 x w c).2.1
  have a := Gz x v g d
  have b := Gz x w g d
  rw [hv] at a
  rw [c] at b
  have key : Ev (fun k => PGn.DT.f k v.f0 v.f1 v.f2 v.f3 w.f0 w.f1 w.f2 w.f3) (eqV v w) := by
    refine Ev.step (fun k => by rw [PGn.DT.f]) ?_
    unfold eqV
    by_cases e : v.f1 = w.f1
    · refine Ev.congr (fun k => by rw [if_pos e]) (Ev.bind (OE v.f2 w.f2 (by omega) (by omega)) ?_)
      rw [decide_eq_true e, Bool.true_and]
      by_cases e2 : v.f2 = w.f2
      · rw [decide_eq_true e2]
        exact Ev.congr (fun k => by rw [if_pos rfl, h, i]; rfl) (Ev.now true)
      · rw [decide_eq_false e2]
        exact Ev.congr (fun k => by rw [if_neg (by simp)]) (Ev.now false)
    · rw [decide_eq_false e, Bool.false_and]
      exact Ev.congr (fun k => by rw [if_neg e]) (Ev.now false)
  unfold PGn.Ce.f PGn.Dq.f
  refine Ev.bind (a := (eqV v w, 0)) (Ev.bind a (Ev.congr (fun k => by rw [if_pos rfl]) (Ev.bind b (Ev.congr (fun k => by rw [if_pos rfl]) (Ev.bind key (Ev.now _)))))) ?_
  cases eqV v w with
  | true => exact Ev.congr (fun k => by rw [if_pos rfl]; rfl) (Ev.now _)
  | false => exact Ev.congr (fun k => by rw [if_neg (by simp)]) (Ev.now _)
theorem GH (x : S26) (v : S30) (hv : DV x v = true) : drivers_copied.f v.f0 v.f1 v.f2 v.f3 = some (v.f0, v.f1, v.f2, v.f3) := by
  have := Je hv
  unfold drivers_copied.f ES.f
  rw [if_pos (by omega)]; rfl
def Dz (l : List S63) (now : Int) : Bool := match l with | [] => false | c :: _ => decide (c.f0 < now)
theorem JI (a b : Int) (m : List Int) (p : List S30) (l : List S63) (now : Int) : drivers_behind.f a b m p l now = some (Dz l now) := by
  unfold drivers_behind.f Dz
  cases l with
  | nil => rfl
  | cons c r => rw [if_pos (by simp)]; first | rfl | (rw [if_pos (by simp)]; rfl)
def DD (e : Int) : S30 → List S63 → List S63
  | _, [] => []
  | v, c :: r => if c.f0 > e then [] else if eqV v c.f1 = true then DD e c.f1 r else c :: DD e c.f1 r
theorem Gc (e : Int) : ∀ (l : List S63) (v : S30), ∀ y ∈ DD e v l, y ∈ l
  | [], _, y, h => by cases h
  | c :: r, v, y, h => by
    unfold DD at h
    split at h
    · cases h
    · split at h
      · exact List.mem_cons_of_mem _ (Gc e r _ y h)
      · rcases List.mem_cons.mp h with rfl | h
        · exact List.mem_cons_self
        · exact List.mem_cons_of_mem _ (Gc e r _ y h)
theorem Gd (e : Int) : ∀ (l : List S63) (v : S30), (DD e v l).length ≤ l.length
  | [], _ => by simp [DD]
  | c :: r, v => by
    unfold DD
    split
    · simp
    · split
      · have := Gd e r c.f1; simp; omega
      · have := Gd e r c.f1; simp; omega
theorem NV (x : S26) (h : scB x = true) (g : x.f3.length ≤ maxLen) (e : Int) (l : List S63) (hl : l.length ≤ 100) : ∀ d i u out (v : S30), i + d = l.length → out.length ≤ i → okL x u (l.drop i) → DV x v = true →
    Ev (fun k => PGn.Af.l0 k e out l (l.length : Int) (i : Int) x.f0 x.f1 x.f2 x.f3 x.f4 v.f0 v.f1 v.f2 v.f3) (out ++ DD e v (l.drop i), 0) := by
  have hm := ml
  intro d
  induction d with
  | zero =>
    intro i u out v hi ho _ hv
    rw [List.drop_eq_nil_of_le (by omega)]
    exact Ev.step (f := fun _ => some (out, 0)) (fun k => by rw [PGn.Af.l0, if_neg (by omega)]) (by simpa [DD] using Ev.now _)
  | succ d c =>
    intro i u out v hi ho hok hv
    have a : i < l.length := by omega
    rw [List.drop_eq_getElem_cons a] at hok ⊢
    obtain ⟨_, _, b, hr⟩ := hok
    have hg : AA l (i : Int) = l[i] := F6 a
    by_cases h1 : l[i].f0 > e
    · unfold DD
      rw [if_pos h1]
      exact Ev.step (f := fun _ => some (out, 0)) (fun k => by rw [PGn.Af.l0, if_pos (by omega), if_pos (by omega), if_pos (by omega), hg, if_pos h1]) (by simpa using Ev.now _)
    · unfold DD
      rw [if_neg h1]
      refine Ev.step (fun k => by rw [PGn.Af.l0, if_pos (by omega), if_pos (by omega), if_pos (by omega), hg, if_neg h1, CQ (n := (i : Int) + 1) (by omega) (by omega)]) (Ev.bind (KC x h g v l[i].f1 hv b) ?_)
      cases he : eqV v l[i].f1 with
      | true => exact Ev.congr (fun k => by rw [if_pos rfl] <;> rfl) (by simpa using c (i + 1) _ out l[i].f1 (by omega) (by omega) hr b)
      | false =>
        refine Ev.congr (f := fun k => PGn.Af.l0 k e (out ++ [l[i]]) l (l.length : Int) ((i + 1 : Nat) : Int) x.f0 x.f1 x.f2 x.f3 x.f4 l[i].f1.f0 l[i].f1.f1 l[i].f1.f2 l[i].f1.f3) (fun k => ?_) (by simpa using c (i + 1) _ (out ++ [l[i]]) l[i].f1 (by omega) (Nat.le_trans (Nat.le_of_eq (List.length_append ..)) (by show out.length + 1 ≤ i + 1; omega)) hr b)
        rw [if_neg (by simp), GH x _ b, Option.bind_some, if_pos (by omega), IY, NR] <;> rfl
def Ih (x : S26) (v : S30) (l : List S63) (a b : Int) : List S63 × Int :=
  if EA x v l = true ∧ (0 ≤ a ∧ 0 ≤ b) ∧ a ≤ 2000000 ∧ b ≤ 2000000 then (if Dz l a = true then ([], 5) else (DD b v l, 0)) else ([], 2)
theorem KD (x : S26) (d : x.f3.length ≤ maxLen) (v : S30) (l : List S63) (hl : l.length ≤ maxLen) (a b : Int) : Ev (fun k => PGn.Af.f k x.f0 x.f1 x.f2 x.f3 x.f4 v.f0 v.f1 v.f2 v.f3 l a b) (Ih x v l a b) := by
  have c : Ev (fun k => PGn.Af.j0 k a b true x.f0 x.f1 x.f2 x.f3 x.f4 v.f0 v.f1 v.f2 v.f3 l) ([], 2) := Ev.step (f := fun _ => some ([], 2)) (fun k => by rw [PGn.Af.j0, if_pos rfl]) (Ev.now _)
  unfold PGn.Af.f Ih
  refine Ev.bind (OW x d v l hl) ?_
  cases hp : EA x v l with
  | false => rw [if_neg (by simp)]; exact Ev.congr (fun k => by rw [if_neg (by simp)]) c
  | true =>
    refine Ev.congr (fun k => by rw [if_pos rfl]) ?_
    by_cases h1 : mn a b < 0
    · rw [if_neg (by unfold mn at h1; split at h1 <;> omega)]
      exact Ev.congr (fun k => by rw [if_pos h1]) c
    by_cases h2 : mx a b > 2000000
    · rw [if_neg (by unfold mx at h2; split at h2 <;> omega)]
      exact Ev.congr (fun k => by rw [if_neg h1, decide_eq_true h2]) c
    rw [if_pos ⟨rfl, ⟨by unfold mn at h1; split at h1 <;> omega, by unfold mn at h1; split at h1 <;> omega⟩, by unfold mx at h2; split at h2 <;> omega, by unfold mx at h2; split at h2 <;> omega⟩]
    refine Ev.congr (fun k => by rw [if_neg h1, decide_eq_false h2]) (Ev.step (fun k => by rw [PGn.Af.j0, if_neg (by simp), JI, Option.bind_some]) ?_)
    cases hb : Dz l a with
    | true =>
      show Ev _ (([] : List S63), (5 : Int))
      exact Ev.congr (fun k => by rw [if_pos rfl]) (Ev.now _)
    | false =>
      obtain ⟨g, hv, e, hok⟩ := Gr hp
      exact Ev.congr (fun k => by rw [if_neg (by simp)]) (by simpa using NV x g d b l (by omega) l.length 0 (-1) [] v (by omega) (by simp) hok hv)
end Go.Proofs.Ytojankgmedccdaa.Pure
end
section
namespace Go.Proofs.Ytojankgmedccdaa.Pure
open Go.RowKit Own PTy Hand PIs RowV YtojankgmedccdaaW.PrintWords YtojankgmedccdaaW.PrintLast
open PAw (drivers_all.f drivers_all.l0 drivers_rising.f drivers_rising.l0)
open PGn
theorem OG (x : S26) (l : List S63) (hl : l.length ≤ 100) (hv : ∀ y ∈ l, DV x y.f1 = true) : Ev (fun k => drivers_all.f k l) l := by
  have hm := ml
  unfold drivers_all.f
  have key : ∀ d i, i + d = l.length → Ev (fun k => drivers_all.l0 k (l.take i) l (l.length : Int) (i : Int)) l := by
    intro d
    induction d with
    | zero =>
      intro i hi
      rw [List.take_of_length_le (by omega)]
      exact Ev.step (f := fun _ => some l) (fun k => by rw [drivers_all.l0, if_neg (by omega)]) (Ev.now _)
    | succ d b =>
      intro i hi
      have a : i < l.length := by omega
      have hg : AA l (i : Int) = l[i] := F6 a
      refine Ev.step (f := fun k => drivers_all.l0 k (l.take (i + 1)) l (l.length : Int) ((i + 1 : Nat) : Int)) (fun k => ?_) (b (i + 1) (by omega))
      rw [drivers_all.l0, if_pos (by omega), if_pos (by omega), if_pos (by omega), hg, GH x _ (hv _ (List.getElem_mem a)), Option.bind_some, if_pos (by rw [List.length_take]; omega), CQ (n := (i : Int) + 1) (by omega) (by omega), IY, NR, List.take_succ_eq_append_getElem a]; rfl
  exact Ev.congr (fun k => by rw [if_pos (by omega), if_pos (by omega)]) (by simpa using key l.length 0 (by omega))
def Dr : Int → List Int → Bool
  | _, [] => true
  | u, n :: r => !decide (n ≤ u) && (!decide (n > 1000000) && Dr n r)
theorem F7 : ∀ {u : Int} {l : List Int}, Dr u l = true → ∀ n ∈ l, u < n ∧ n ≤ 1000000
  | _, [], _, _, h => by cases h
  | u, a :: r, hr, n, h => by
    simp only [Dr, Bool.and_eq_true, Bool.not_eq_true', decide_eq_false_iff_not] at hr
    rcases List.mem_cons.mp h with rfl | h
    · exact ⟨by omega, by omega⟩
    · obtain ⟨c, b⟩ := F7 hr.2.2 n h
      exact ⟨by omega, b⟩
theorem L6 (l : List Int) (hl : l.length ≤ maxLen) : Ev (fun k => drivers_rising.f k l) (Dr (-1) l) := by
  have hm := ml
  unfold drivers_rising.f
  have key : ∀ d i u, i + d = l.length → Ev (fun k => drivers_rising.l0 k u l (l.length : Int) (i : Int)) (Dr u (l.drop i)) := by
    intro d
    induction d with
    | zero =>
      intro i u hi
      rw [List.drop_eq_nil_of_le (by omega)]
      exact Ev.step (f := fun _ => some true) (fun k => by rw [drivers_rising.l0, if_neg (by omega)]) (Ev.now _)
    | succ d b =>
      intro i u hi
      have a : i < l.length := by omega
      rw [List.drop_eq_getElem_cons a]
      have hg := Gb l i a
      show Ev _ (!decide (l[i] ≤ u) && (!decide (l[i] > 1000000) && Dr l[i] (l.drop (i + 1))))
      by_cases h1 : l[i] ≤ u
      · rw [decide_eq_true h1]
        exact Ev.step (f := fun _ => some false) (fun k => by rw [drivers_rising.l0, if_pos (by omega), if_pos (by omega), if_pos (by omega), hg, if_pos h1]) (Ev.now _)
      by_cases h2 : l[i] > 1000000
      · rw [decide_eq_true h2, decide_eq_false h1]
        exact Ev.step (f := fun _ => some false) (fun k => by rw [drivers_rising.l0, if_pos (by omega), if_pos (by omega), if_pos (by omega), hg, if_neg h1, if_pos h2]) (Ev.now _)
      rw [decide_eq_false h1, decide_eq_false h2]
      exact Ev.step (fun k => by rw [drivers_rising.l0, if_pos (by omega), if_pos (by omega), if_pos (by omega), hg, if_neg h1, if_neg h2, CQ (n := (i : Int) + 1) (by omega) (by omega)] <;> rfl) (b (i + 1) l[i] (by omega))
  exact key l.length 0 (-1) (by omega)
def DU (l : List S63) (t : Int) : Nat := l.findIdx fun c => decide (t ≤ c.f0)
theorem Jf (l : List S63) (t : Int) : DU l t ≤ l.length := List.findIdx_le_length
theorem KE (l : List S63) (t : Int) (i : Nat) (h : i < DU l t) (hi : i < l.length) : l[i].f0 < t := by
  have := List.not_of_lt_findIdx (p := fun c : S63 => decide (t ≤ c.f0)) (xs := l) h
  simpa using this
theorem OH (l : List S63) (t : Int) (h : DU l t < l.length) : t ≤ (l[DU l t]).f0 := by
  exact of_decide_eq_true (List.findIdx_getElem (p := fun c : S63 => decide (t ≤ c.f0)) (xs := l) (w := h))
def KF (l : List S63) (v0 : S30) : Nat → Nat
  | 0 => 0
  | n + 1 => if eqV ((AA l (n : Int)).f1) v0 = true then KF l v0 n else n + 1
def Es (now : Int) (vals : List S30) (after : List Int) : List S63 := List.zipWith (fun v n => (⟨now + n, v⟩ : S63)) vals after
def G6 (l : List S63) (now : Int) (vals : List S30) (after : List Int) (tr : Bool) : Nat := if tr = true then 0 else KF l (AB vals 0) (DU l (now + rd after 0))
def Kn (v : S30) (l : List S63) (now : Int) (vals : List S30) (after : List Int) (s f : Nat) : Int × Int × List Int × List S30 × List S63 × Int :=
  if s - f + vals.length > 64 then (0, 0, [], [], [], 3) else (v.f0, v.f1, v.f2, v.f3, (l.take s).drop f ++ Es now vals after, 0)
def Fg (x : S26) (v : S30) (l : List S63) (now : Int) (vals : List S30) (after : List Int) (tr : Bool) : Int × Int × List Int × List S30 × List S63 × Int :=
  if EA x v l = true ∧ 0 ≤ now ∧ now ≤ 1000000 ∧ 1 ≤ vals.length ∧ vals.length ≤ 64 ∧ after.length = vals.length ∧ Dr (-1) after = true ∧ vals.all (DV x) = true then
    (if Dz l now = true then (0, 0, [], [], [], 5) else Kn v l now vals after (DU l (now + rd after 0)) (G6 l now vals after tr))
  else (0, 0, [], [], [], 2)
theorem L8 (x : S26) (v : S30) (now : Int) (h0 : 0 ≤ now) (h1 : now ≤ 1000000) (vals : List S30) (hn : vals.length ≤ 64) (after : List Int) (ha : after.length = vals.length) (hr : Dr (-1) after = true) (hall : ∀ y ∈ vals, DV x y = true) : ∀ d i out, i + d = vals.length → out.length ≤ 64 + i →
    Ev (fun k => PGn.AC.l2 k vals (vals.length : Int) (i : Int) now after v.f0 v.f1 v.f2 v.f3 out) (v.f0, v.f1, v.f2, v.f3, out ++ Es now (vals.drop i) (after.drop i), 0) := by
  have hm := ml
  intro d
  induction d with
  | zero =>
    intro i out hi ho
    rw [List.drop_eq_nil_of_le (show vals.length ≤ i by omega)]
    exact Ev.step (f := fun _ => some (v.f0, v.f1, v.f2, v.f3, out, 0)) (fun k => by rw [PGn.AC.l2, if_neg (by omega)]) (by simpa [Es] using Ev.now _)
  | succ d g =>
    intro i out hi ho
    have a : i < vals.length := by omega
    have b : i < after.length := by omega
    have hg := Ic (l := vals) a
    have c := Gb after i b
    have h := F7 hr _ (List.getElem_mem b)
    have e := g (i + 1) (out ++ [⟨now + after[i], vals[i]⟩]) (by omega) (Nat.le_trans (Nat.le_of_eq (List.length_append ..)) (by show out.length + 1 ≤ 64 + (i + 1); omega))
    rw [List.drop_eq_getElem_cons a, List.drop_eq_getElem_cons b]
    show Ev _ (v.f0, v.f1, v.f2, v.f3, out ++ (⟨now + after[i], vals[i]⟩ :: Es now (vals.drop (i + 1)) (after.drop (i + 1))), 0)
    rw [List.append_assoc, List.singleton_append] at e
    refine Ev.step (f := fun k => PGn.AC.l2 k vals (vals.length : Int) ((i + 1 : Nat) : Int) now after v.f0 v.f1 v.f2 v.f3 (out ++ [⟨now + after[i], vals[i]⟩])) (fun k => ?_) e
    rw [PGn.AC.l2, if_pos (by omega), if_pos (by omega), if_pos (by omega), if_pos (by omega), hg, c, GH x _ (hall _ (List.getElem_mem a)), Option.bind_some, if_pos (by omega), CQ (n := (i : Int) + 1) (by omega) (by omega), CQ (n := now + after[i]) (by omega) (by omega), IY]; rfl
theorem G7 (x : S26) (v : S30) (hv : DV x v = true) (l : List S63) (hl : l.length ≤ 64) (hok : okL x (-1) l) (now : Int) (h0 : 0 ≤ now) (h1 : now ≤ 1000000) (vals : List S30) (hn : vals.length ≤ 64) (after : List Int) (ha : after.length = vals.length) (hr : Dr (-1) after = true) (hall : ∀ y ∈ vals, DV x y = true) (s f : Nat) (c : s ≤ l.length) (g : f ≤ s) : Ev (fun k => PGn.AC.j4 k vals (s : Int) (f : Int) v.f0 v.f1 v.f2 v.f3 l now after) (Kn v l now vals after s f) := by
  have hm := ml
  have b : wrap64 (wrap64 ((s : Int) - (f : Int)) + (vals.length : Int)) = ((s - f + vals.length : Nat) : Int) := by rw [CQ (n := (s : Int) - (f : Int)) (by omega) (by omega), CQ (by omega) (by omega)]; omega
  unfold Kn
  by_cases h : s - f + vals.length > 64
  · rw [if_pos h]
    exact Ev.step (f := fun _ => some (0, 0, [], [], [], 3)) (fun k => by rw [PGn.AC.j4, b, if_pos (by omega)]) (Ev.now _)
  · rw [if_neg h]
    have a : ((l.take s).drop f).length = s - f := by rw [List.length_drop, List.length_take]; omega
    have e := L8 x v now h0 h1 vals hn after ha hr hall vals.length 0 ((l.take s).drop f) (by omega) (by omega)
    rw [List.drop_zero, List.drop_zero] at e
    refine Ev.step (fun k => by rw [PGn.AC.j4, b, if_neg (by omega), GH x v hv, Option.bind_some, if_pos (by omega), if_pos (by omega), if_pos (by omega), show ((s : Int)).toNat = s from rfl, show ((f : Int)).toNat = f from rfl] <;> rfl) (Ev.bind (OG x _ (by omega) fun y d => (Jd hok y (List.mem_of_mem_take (List.mem_of_mem_drop d))).2.2) e)
theorem L9 (x : S26) (m : scB x = true) (d : x.f3.length ≤ maxLen) (v : S30) (hv : DV x v = true) (l : List S63) (hl : l.length ≤ 64) (hok : okL x (-1) l) (now : Int) (h0 : 0 ≤ now) (h1 : now ≤ 1000000) (vals : List S30) (j : 1 ≤ vals.length) (hn : vals.length ≤ 64) (after : List Int) (ha : after.length = vals.length) (hr : Dr (-1) after = true) (hall : ∀ y ∈ vals, DV x y = true) (s : Nat) (a : s ≤ l.length) : ∀ n, n ≤ s → Ev (fun k => PGn.AC.l1 k vals (s : Int) (n : Int) x.f0 x.f1 x.f2 x.f3 x.f4 v.f0 v.f1 v.f2 v.f3 l now after) (Kn v l now vals after s (KF l (AB vals 0) n)) := by
  have hm := ml
  intro n
  induction n with
  | zero =>
    intro _
    exact Ev.step (fun k => by rw [PGn.AC.l1, if_neg (by omega)]) (G7 x v hv l hl hok now h0 h1 vals hn after ha hr hall s 0 a (by omega))
  | succ n p =>
    intro c
    have o : wrap64 (((n + 1 : Nat) : Int) - 1) = (n : Int) := by rw [CQ (by omega) (by omega)]; omega
    have g := (Jd hok _ (Ib (l := l) (i := n) (by omega))).2.2
    have h := hall _ (EX (l := vals) (i := 0) (by omega))
    refine Ev.step (fun k => by rw [PGn.AC.l1, o, if_pos (by omega), if_pos (by omega), if_pos (by omega), if_pos (by omega)] <;> rfl) (Ev.bind (KC x m d _ _ g h) ?_)
    unfold KF
    by_cases e : eqV ((AA l (n : Int)).f1) (AB vals ((0 : Nat) : Int)) = true
    · have b : eqV ((AA l (n : Int)).f1) (AB vals 0) = true := e
      rw [if_pos b]
      exact Ev.congr (fun k => by rw [e, if_pos rfl]) (p (by omega))
    · have b : ¬ eqV ((AA l (n : Int)).f1) (AB vals 0) = true := e
      rw [if_neg b]
      exact Ev.congr (fun k => by rw [if_neg e]) (G7 x v hv l hl hok now h0 h1 vals hn after ha hr hall s (n + 1) a c)
end Go.Proofs.Ytojankgmedccdaa.Pure
end
section
namespace Go.Proofs.Ytojankgmedccdaa.Pure
open Go.RowKit Own PTy Hand PIs RowV YtojankgmedccdaaW.PrintWords YtojankgmedccdaaW.PrintLast
open PGn
def OX (v : S30) (l : List S63) (now : Int) (vals : List S30) (after : List Int) (tr : Bool) : Int × Int × List Int × List S30 × List S63 × Int :=
  if Dz l now = true then (0, 0, [], [], [], 5) else Kn v l now vals after (DU l (now + rd after 0)) (G6 l now vals after tr)
theorem rd0 (after : List Int) (h : 0 < after.length) (hr : Dr (-1) after = true) : 0 ≤ rd after 0 ∧ rd after 0 ≤ 1000000 := by
  have e : rd after 0 = after[0] := Gb after 0 h
  have := F7 hr _ (List.getElem_mem h)
  rw [e]; omega
theorem MB (x : S26) (d : scB x = true) (c : x.f3.length ≤ maxLen) (v : S30) (hv : DV x v = true) (l : List S63) (hl : l.length ≤ 64) (hok : okL x (-1) l) (now : Int) (h0 : 0 ≤ now) (h1 : now ≤ 1000000) (vals : List S30) (b : 1 ≤ vals.length) (hn : vals.length ≤ 64) (after : List Int) (ha : after.length = vals.length) (hr : Dr (-1) after = true) (hall : ∀ y ∈ vals, DV x y = true) (tr : Bool) (s : Nat) (a : s ≤ l.length) :
    Ev (fun k => PGn.AC.j2 k vals tr (s : Int) x.f0 x.f1 x.f2 x.f3 x.f4 v.f0 v.f1 v.f2 v.f3 l now after) (Kn v l now vals after s (if tr = true then 0 else KF l (AB vals 0) s)) := by
  cases tr with
  | true => exact Ev.step (fun k => by rw [PGn.AC.j2, if_pos rfl] <;> rfl) (G7 x v hv l hl hok now h0 h1 vals hn after ha hr hall s 0 a (by omega))
  | false => exact Ev.step (fun k => by rw [PGn.AC.j2, if_neg (by simp)]) (L9 x d c v hv l hl hok now h0 h1 vals b hn after ha hr hall s a s (by omega))
theorem MC (x : S26) (r : scB x = true) (b : x.f3.length ≤ maxLen) (v : S30) (hv : DV x v = true) (l : List S63) (hl : l.length ≤ 64) (hok : okL x (-1) l) (now : Int) (h0 : 0 ≤ now) (h1 : now ≤ 1000000) (vals : List S30) (p : 1 ≤ vals.length) (hn : vals.length ≤ 64) (after : List Int) (ha : after.length = vals.length) (hr : Dr (-1) after = true) (tr : Bool) :
    ∀ d i, i + d = vals.length → (∀ j, j < i → DV x (AB vals (j : Int)) = true) → Ev (fun k => PGn.AC.l0 k now vals after tr vals (vals.length : Int) (i : Int) x.f0 x.f1 x.f2 x.f3 x.f4 v.f0 v.f1 v.f2 v.f3 l now after) (if vals.all (DV x) = true then OX v l now vals after tr else (0, 0, [], [], [], 2)) := by
  have hm := ml
  intro d
  induction d with
  | zero =>
    intro i hi m
    have hall : ∀ y ∈ vals, DV x y = true := by
      intro y B
      obtain ⟨j, o, u⟩ := List.mem_iff_getElem.mp B
      have := m j (by omega)
      rw [Ic o] at this
      exact u ▸ this
    rw [if_pos (List.all_eq_true.mpr hall)]
    refine Ev.step (fun k => by rw [PGn.AC.l0, if_neg (by omega), JI, Option.bind_some]) ?_
    unfold OX
    cases Dz l now with
    | true =>
      show Ev _ ((0 : Int), (0 : Int), ([] : List Int), ([] : List S30), ([] : List S63), (5 : Int))
      exact Ev.congr (fun k => by rw [if_pos rfl]) (Ev.now _)
    | false =>
      rw [if_neg (by simp)]
      obtain ⟨G, I⟩ := rd0 after (by omega) hr
      have z : wrap64 (now + rd after 0) = now + rd after 0 := CQ (by omega) (by omega)
      have s := Jf l (now + rd after 0)
      have e := MB x r b v hv l hl hok now h0 h1 vals p hn after ha hr hall tr (DU l (now + rd after 0)) s
      unfold G6
      refine Ev.congr (fun k => ?_) e
      rw [if_neg (by simp)]
      unfold Eg.f
      rw [if_pos (by omega), Option.bind_some, z]
      cases hf : l.findIdx? (fun c => decide (now + rd after 0 ≤ c.f0)) with
      | none =>
        have a : DU l (now + rd after 0) = l.length := List.findIdx?_eq_none_iff_findIdx_eq.mp hf
        rw [if_pos (by simp), a]
      | some i =>
        have a : DU l (now + rd after 0) = i := (List.findIdx?_eq_some_iff_findIdx_eq.mp hf).2
        rw [if_neg (by simp), a]
  | succ d D =>
    intro i hi m
    have g : i < vals.length := by omega
    cases hh : DV x (AB vals (i : Int)) with
    | false =>
      have q : ¬ vals.all (DV x) = true := fun h => by
        have := List.all_eq_true.mp h _ (EX g)
        rw [hh] at this; cases this
      rw [if_neg q]
      refine Ev.step (fun k => by rw [PGn.AC.l0, if_pos (by omega), if_pos (by omega), if_pos (by omega)]) (Ev.bind (Gz x (AB vals (i : Int)) r b) ?_)
      rw [hh]; exact Ev.congr (fun k => by rw [if_neg (by simp)]) (Ev.now _)
    | true =>
      refine Ev.step (fun k => by rw [PGn.AC.l0, if_pos (by omega), if_pos (by omega), if_pos (by omega)]) (Ev.bind (Gz x (AB vals (i : Int)) r b) ?_)
      rw [hh]
      refine Ev.congr (fun k => by rw [if_pos rfl, CQ (n := (i : Int) + 1) (by omega) (by omega)] <;> rfl) (D (i + 1) (by omega) fun j w => ?_)
      by_cases e : j = i
      · rw [e]; exact hh
      · exact m j (by omega)
theorem ME (x : S26) (d : x.f3.length ≤ maxLen) (v : S30) (l : List S63) (hl : l.length ≤ maxLen) (now : Int) (vals : List S30) (after : List Int) (c : after.length ≤ maxLen) (tr : Bool) :
    Ev (fun k => PGn.AC.f k x.f0 x.f1 x.f2 x.f3 x.f4 v.f0 v.f1 v.f2 v.f3 l now vals after tr) (Fg x v l now vals after tr) := by
  have hm := ml
  have a : Ev (fun k => PGn.AC.j0 k now vals after tr true x.f0 x.f1 x.f2 x.f3 x.f4 v.f0 v.f1 v.f2 v.f3 l now after) (0, 0, [], [], [], 2) := Ev.step (f := fun _ => some (0, 0, [], [], [], 2)) (fun k => by rw [PGn.AC.j0, if_pos rfl]) (Ev.now _)
  unfold PGn.AC.f Fg
  refine Ev.bind (OW x d v l hl) ?_
  cases hp : EA x v l with
  | false => rw [if_neg (by simp)]; exact Ev.congr (fun k => by rw [if_neg (by simp)]) a
  | true =>
    refine Ev.congr (fun k => by rw [if_pos rfl]) ?_
    by_cases a1 : now < 0
    · rw [if_neg (by omega)]; exact Ev.congr (fun k => by rw [if_pos a1]) a
    by_cases a2 : now > 1000000
    · rw [if_neg (by omega)]; exact Ev.congr (fun k => by rw [if_neg a1, if_pos a2]) a
    by_cases a3 : (vals.length : Int) < 1
    · rw [if_neg (by omega)]; exact Ev.congr (fun k => by rw [if_neg a1, if_neg a2, if_pos a3]) a
    by_cases a4 : (vals.length : Int) > 64
    · rw [if_neg (by omega)]; exact Ev.congr (fun k => by rw [if_neg a1, if_neg a2, if_neg a3, if_pos a4]) a
    by_cases a5 : (after.length : Int) = (vals.length : Int)
    · refine Ev.congr (fun k => by rw [if_neg a1, if_neg a2, if_neg a3, if_neg a4, if_pos a5]) (Ev.bind (L6 after c) ?_)
      cases hr : Dr (-1) after with
      | false => rw [if_neg (by simp)]; exact a
      | true =>
        obtain ⟨g, hv, b, hok⟩ := Gr hp
        have e := MC x g d v hv l b hok now (by omega) (by omega) vals (by omega) (by omega) after (by omega) hr tr vals.length 0 (by omega) (by omega)
        refine Ev.step (f := fun k => PGn.AC.l0 k now vals after tr vals (vals.length : Int) ((0 : Nat) : Int) x.f0 x.f1 x.f2 x.f3 x.f4 v.f0 v.f1 v.f2 v.f3 l now after) (fun k => by rw [PGn.AC.j0, if_neg (by simp)]; rfl) ?_
        by_cases hall : vals.all (DV x) = true
        · rw [if_pos hall] at e
          rw [if_pos ⟨rfl, by omega, by omega, by omega, by omega, by omega, rfl, hall⟩]
          exact e
        · rw [if_neg hall] at e
          rw [if_neg (fun h => hall h.2.2.2.2.2.2.2)]
          exact e
    · rw [if_neg (by omega)]; exact Ev.congr (fun k => by rw [if_neg a1, if_neg a2, if_neg a3, if_neg a4, if_neg a5]) a
theorem NW (now : Int) (vals : List S30) (after : List Int) (h : after.length = vals.length) : (Es now vals after).length = vals.length := by unfold Es; rw [List.length_zipWith, h, Nat.min_self]
section
variable (x : S26) (v : S30) (now : Int) (h0 : 0 ≤ now) (h1 : now ≤ 1000000) (vals : List S30) (hn : vals.length ≤ 64) (after : List Int) (ha : after.length = vals.length) (hr : Dr (-1) after = true) (hall : ∀ y ∈ vals, DV x y = true)
include h0 h1 hn ha hr hall
variable (hv : DV x v = true) (l : List S63) (hl : l.length ≤ 64) (hok : okL x (-1) l)
include hv hl hok
end
theorem Ko (n : Nat) (x : S26) (c : okT n x) (v : S30) (hv : okV n v) (l : List S63) (hl : ∀ y ∈ l, okV n y.f1) (now : Int) (vals : List S30) (a : ∀ y ∈ vals, okV n y) (after : List Int) (tr : Bool) :
    ExQ (fun k => Dc.f k x.f0 x.f1 x.f2 x.f3 x.f4 v.f0 v.f1 v.f2 v.f3 l now vals after tr) (fun t => t = true → l.length ≤ 80 ∧ vals.length ≤ 80 ∧ smV n v ∧ (∀ y ∈ vals, smV n y) ∧ (∀ y ∈ l, smV n y.f1) ∧ after.length ≤ 100) := by
  unfold Dc.f
  refine ExQ.bind (O7 n x c v hv l hl vals a) fun t b => ?_
  cases t with
  | false => exact ExQ.congr (fun k => by rw [if_neg (by simp)]) (ExQ.now false (by simp))
  | true =>
    obtain ⟨d, e, g, i, j⟩ := b rfl
    exact ExQ.congr (fun k => by rw [if_pos rfl]) (ExQ.now (decide ((after.length : Int) ≤ 100)) fun h => ⟨d, e, g, i, j, by have := of_decide_eq_true h; omega⟩)
theorem KG (n : Nat) (x : S26) (b : x.f3.length ≤ maxLen) (v : S30) (g : smV n v) (l : List S63) (c : l.length ≤ 80) (e : ∀ y ∈ l, smV n y.f1) (now : Int) (vals : List S30) (after : List Int) (d : after.length ≤ 100) (tr a : Bool) :
    Ev (fun k => Bl.f k x.f0 x.f1 x.f2 x.f3 x.f4 v.f0 v.f1 v.f2 v.f3 l now vals after a tr) (Fg x v l now vals after tr) := by
  have hm := ml
  unfold Bl.f
  exact Ev.bind (NS n v g l (by omega) e) (Ev.bind (ME x b v l (by omega) now vals after (by omega) tr) (Ev.now _))
end Go.Proofs.Ytojankgmedccdaa.Pure
end
section
namespace Go.Proofs.Ytojankgmedccdaa.Pure
open Go.RowKit Own PTy Hand PIs RowV YtojankgmedccdaaW.PrintWords YtojankgmedccdaaW.PrintLast
open PGn
theorem MF (x : S26) (l : List S63) : ∀ d i u, i + d = l.length → okL x u (l.drop i) → F5 x l d i u = true := by
  intro d
  induction d with
  | zero => intro i u _ _; rfl
  | succ d e =>
    intro i u hi h
    have a : i < l.length := by omega
    rw [List.drop_eq_getElem_cons a] at h
    obtain ⟨h1, g, b, c⟩ := h
    simp only [F5, Bool.and_eq_true, Bool.not_eq_true', decide_eq_false_iff_not, F6 a]
    exact ⟨by omega, by omega, b, e (i + 1) _ (by omega) c⟩
theorem NY {x : S26} {v : S30} {l : List S63} (b : scB x = true) (hv : DV x v = true) (a : l.length ≤ 64) (hok : okL x (-1) l) : EA x v l = true := by
  unfold EA
  rw [b, hv, decide_eq_true a, MF x l l.length 0 (-1) (by omega) (by simpa using hok)]; rfl
theorem KH {x : S26} : ∀ {u : Int} {l : List S63} (s : Nat), okL x u l → okL x u (l.take s)
  | _, [], s, _ => by simp [okL]
  | _, _ :: _, 0, _ => trivial
  | _, c :: r, s + 1, ⟨h1, h2, h3, h4⟩ => ⟨h1, h2, h3, KH s h4⟩
theorem KI {x : S26} : ∀ {u : Int} {l : List S63} (s : Nat), okL x u l → okL x u (l.drop s)
  | _, [], s, _ => by simp [okL]
  | _, _ :: _, 0, h => h
  | u, c :: r, s + 1, ⟨h1, _, _, h4⟩ => NU (KI s h4) (by omega)
theorem Ii {x : S26} : ∀ {u w : Int} {a b : List S63}, okL x u a → (∀ y ∈ a, y.f0 ≤ w) → u ≤ w → okL x w b → okL x u (a ++ b)
  | _, _, [], _, _, _, hu, hb => NU hb hu
  | _, w, c :: a, b, ⟨h1, h2, h3, h4⟩, hw, hu, hb => ⟨h1, h2, h3, Ii h4 (fun y h => hw y (List.mem_cons_of_mem _ h)) (hw c List.mem_cons_self) hb⟩
theorem KJ (x : S26) (now : Int) (h1 : now ≤ 1000000) : ∀ (m : Int) (vals : List S30) (after : List Int), Dr m after = true → (∀ y ∈ vals, DV x y = true) → okL x (now + m) (Es now vals after)
  | _, [], _, _, _ => by simp [Es, okL]
  | _, _ :: _, [], _, _ => trivial
  | m, a :: r, n :: q, hr, hv => by
    have b := F7 hr n List.mem_cons_self
    simp only [Dr, Bool.and_eq_true, Bool.not_eq_true', decide_eq_false_iff_not] at hr
    exact ⟨by show now + m < now + n; omega, by show now + n ≤ 2000000; omega, hv a List.mem_cons_self, KJ x now h1 n r q hr.2.2 fun y h => hv y (List.mem_cons_of_mem _ h)⟩
theorem Jg (now : Int) : ∀ (m : Int) (vals : List S30) (after : List Int), Dr m after = true → ∀ y ∈ Es now vals after, now + rd after 0 ≤ y.f0
  | _, [], _, _, y, h => by simp [Es] at h
  | _, _ :: _, [], _, y, h => by simp [Es] at h
  | m, a :: r, n :: q, hr, y, h => by
    have e : rd (n :: q) 0 = n := rfl
    rw [e]
    simp only [Dr, Bool.and_eq_true, Bool.not_eq_true', decide_eq_false_iff_not] at hr
    rcases List.mem_cons.mp (show y ∈ (⟨now + n, a⟩ : S63) :: Es now r q from h) with rfl | h
    · exact Int.le_refl _
    · cases q with
      | nil => cases r <;> simp [Es] at h
      | cons b c =>
        have := Jg now n r (b :: c) hr.2.2 y h
        have g := F7 hr.2.2 b List.mem_cons_self
        have d : rd (b :: c) 0 = b := rfl
        rw [d] at this
        omega
theorem MG (x : S26) (v : S30) (l : List S63) (now : Int) (vals : List S30) (after : List Int) (tr : Bool) (h : (Fg x v l now vals after tr).2.2.2.2.2 = 0) :
    (EA x v l = true ∧ 0 ≤ now ∧ now ≤ 1000000 ∧ 1 ≤ vals.length ∧ vals.length ≤ 64 ∧ after.length = vals.length ∧ Dr (-1) after = true ∧ vals.all (DV x) = true) ∧ Dz l now = false ∧
    DU l (now + rd after 0) - G6 l now vals after tr + vals.length ≤ 64 ∧ Fg x v l now vals after tr = (v.f0, v.f1, v.f2, v.f3, (l.take (DU l (now + rd after 0))).drop (G6 l now vals after tr) ++ Es now vals after, 0) := by
  unfold Fg at h ⊢
  by_cases hc : EA x v l = true ∧ 0 ≤ now ∧ now ≤ 1000000 ∧ 1 ≤ vals.length ∧ vals.length ≤ 64 ∧ after.length = vals.length ∧ Dr (-1) after = true ∧ vals.all (DV x) = true
  · rw [if_pos hc] at h ⊢
    cases hb : Dz l now with
    | true => rw [hb, if_pos rfl] at h; exact absurd h (by decide)
    | false =>
      rw [hb, if_neg (by simp)] at h
      rw [if_neg (by simp)]
      unfold Kn at h ⊢
      by_cases h6 : DU l (now + rd after 0) - G6 l now vals after tr + vals.length > 64
      · rw [if_pos h6] at h; exact absurd h (by decide)
      · rw [if_neg h6]
        exact ⟨hc, rfl, by omega, rfl⟩
  · rw [if_neg hc] at h; exact absurd h (by decide)
theorem Gs (x : S26) (v : S30) (l : List S63) (now : Int) (vals : List S30) (after : List Int) (tr : Bool)
    (g : EA x v l = true ∧ 0 ≤ now ∧ now ≤ 1000000 ∧ 1 ≤ vals.length ∧ vals.length ≤ 64 ∧ after.length = vals.length ∧ Dr (-1) after = true ∧ vals.all (DV x) = true) (n : DU l (now + rd after 0) - G6 l now vals after tr + vals.length ≤ 64) :
    EA x v ((l.take (DU l (now + rd after 0))).drop (G6 l now vals after tr) ++ Es now vals after) = true := by
  obtain ⟨hp, h0, h1, j, hn, ha, hr, hall⟩ := g
  obtain ⟨k, hv, d, hok⟩ := Gr hp
  obtain ⟨o, p⟩ := rd0 after (by omega) hr
  have m := Jf l (now + rd after 0)
  refine NY k hv ?_ ?_
  · rw [List.length_append, NW now vals after ha, List.length_drop, List.length_take]; omega
  · have b : okL x (now + rd after 0 - 1) (Es now vals after) := by
      have := KJ x now h1 (-1) vals after hr (List.all_eq_true.mp hall)
      have a := Jg now (-1) vals after hr
      cases hq : Es now vals after with
      | nil => trivial
      | cons c q =>
        rw [hq] at this a
        exact ⟨by have := a c List.mem_cons_self; omega, this.2⟩
    refine Ii (KI _ (KH _ hok)) (fun y h => ?_) (by omega) b
    have hm := List.mem_of_mem_drop h
    obtain ⟨i, hi, e⟩ := List.mem_iff_getElem.mp hm
    rw [List.length_take] at hi
    rw [List.getElem_take] at e
    have := KE l (now + rd after 0) i (by omega) (by omega)
    rw [e] at this
    omega
theorem G8 (e : Int) : ∀ (a b : List S63) (v : S30), (∀ c r, b = c :: r → c.f0 > e) → DD e v (a ++ b) = DD e v a
  | [], [], _, _ => rfl
  | [], c :: r, v, h => by
    show DD e v (c :: r) = []
    unfold DD
    rw [if_pos (h c r rfl)]
  | c :: a, b, v, h => by
    show DD e v (c :: (a ++ b)) = _
    unfold DD
    rw [G8 e a b c.f1 h]
theorem Kq (x : S26) (v : S30) (l : List S63) (now : Int) (vals : List S30) (after : List Int)
    (k : EA x v l = true ∧ 0 ≤ now ∧ now ≤ 1000000 ∧ 1 ≤ vals.length ∧ vals.length ≤ 64 ∧ after.length = vals.length ∧ Dr (-1) after = true ∧ vals.all (DV x) = true) (j : Dz l now = false) (o : DU l (now + rd after 0) - G6 l now vals after true + vals.length ≤ 64) (h1 : rd after 0 ≠ 0) :
    Ih x v l now (now + rd after 0 - 1) = (DD (now + rd after 0 - 1) v l, 0) ∧ Ih x v ((l.take (DU l (now + rd after 0))).drop (G6 l now vals after true) ++ Es now vals after) now (now + rd after 0 - 1) = (DD (now + rd after 0 - 1) v l, 0) := by
  have g := Gs x v l now vals after true k o
  obtain ⟨hp, h0, z, p, hn, ha, hr, hall⟩ := k
  obtain ⟨B, D⟩ := rd0 after (by omega) hr
  have u := Jf l (now + rd after 0)
  have a := Jg now (-1) vals after hr
  have m : (l.take (DU l (now + rd after 0))).drop (G6 l now vals after true) = l.take (DU l (now + rd after 0)) := by
    unfold G6; rw [if_pos rfl, List.drop_zero]
  rw [m] at g ⊢
  have w : DD (now + rd after 0 - 1) v l = DD (now + rd after 0 - 1) v (l.take (DU l (now + rd after 0))) := by
    have := G8 (now + rd after 0 - 1) (l.take (DU l (now + rd after 0))) (l.drop (DU l (now + rd after 0))) v (fun c r e => by
      have b : DU l (now + rd after 0) < l.length := by
        have := congrArg List.length e
        rw [List.length_drop, List.length_cons] at this
        omega
      rw [List.drop_eq_getElem_cons b] at e
      have n := (List.cons.inj e).1
      have := OH l (now + rd after 0) b
      rw [n] at this
      omega)
    rw [List.take_append_drop] at this
    exact this
  have y : DD (now + rd after 0 - 1) v (l.take (DU l (now + rd after 0)) ++ Es now vals after) = DD (now + rd after 0 - 1) v (l.take (DU l (now + rd after 0))) :=
    G8 _ _ _ v (fun c r e => by have := a c (by rw [e]; exact List.mem_cons_self); omega)
  have h : Dz (l.take (DU l (now + rd after 0)) ++ Es now vals after) now = false := by
    cases hl : l.take (DU l (now + rd after 0)) with
    | nil =>
      cases hq : Es now vals after with
      | nil => rfl
      | cons c q =>
        have := a c (by rw [hq]; exact List.mem_cons_self)
        show decide (c.f0 < now) = false
        exact decide_eq_false (by omega)
    | cons c q =>
      have i : Dz l now = decide (c.f0 < now) := by
        cases l with
        | nil => simp at hl
        | cons d r =>
          cases hs : DU (d :: r) (now + rd after 0) with
          | zero => rw [hs] at hl; simp at hl
          | succ s =>
            rw [hs, List.take_succ_cons] at hl
            rw [← (List.cons.inj hl).1]; rfl
      show decide (c.f0 < now) = false
      rw [← i]; exact j
  unfold Ih
  rw [if_pos ⟨hp, ⟨h0, by omega⟩, by omega, by omega⟩, j, if_neg (by simp), if_pos ⟨g, ⟨h0, by omega⟩, by omega, by omega⟩, h, if_neg (by simp), y, ← w]
  exact ⟨rfl, rfl⟩
theorem MH (n : Nat) (x : S26) (r : okT n x) (v : S30) (hv : okV n v) (l : List S63) (hl : l.length ≤ maxLen) (W : ∀ y ∈ l, okV n y.f1) (now : Int) (vals : List S30) (q : ∀ y ∈ vals, okV n y) (after : List Int) (tr : Bool) :
    ∃ K, Ai.f K x.f0 x.f1 x.f2 x.f3 x.f4 v.f0 v.f1 v.f2 v.f3 l now vals after tr = some true := by
  have hm := ml
  have m : x.f3.length ≤ maxLen := by
    cases n with
    | zero => exact r.elim
    | succ n => exact r.2.2.2.2.1
  refine Ev.rounds (g := fun k => Ai.f k x.f0 x.f1 x.f2 x.f3 x.f4 v.f0 v.f1 v.f2 v.f3 l now vals after tr) ?_
  unfold Ai.f
  obtain ⟨t, T, J⟩ := Ko n x r v hv l W now vals q after tr
  have ha : Ev (fun k => (Dj.f k).bind fun t => some t) true := Ev.now true
  have w : ∀ (a b : Int) (c : List Int) (d : List S30) (e : List S63), Ev (fun k => Ai.j0 k true x.f0 x.f1 x.f2 x.f3 x.f4 v.f0 v.f1 v.f2 v.f3 l now vals after tr a b c d e) true := fun a b c d e => Ev.step (fun k => by rw [Ai.j0, if_pos rfl]) ha
  refine Ev.bind T ?_
  cases t with
  | false => exact Ev.congr (fun k => by rw [if_neg (by simp)]) ha
  | true =>
    obtain ⟨X, q2, B, q4, s, Y⟩ := J rfl
    refine Ev.congr (fun k => by rw [if_pos rfl]) (Ev.bind (KG n x m v B l X s now vals after Y true tr) ?_)
    by_cases he : (Fg x v l now vals after true).2.2.2.2.2 = 0
    · obtain ⟨j, L, u, O⟩ := MG x v l now vals after true he
      have i : 0 < (after.length : Int) := by have := j.2.2.2.1; have := j.2.2.2.2.2.1; omega
      refine Ev.congr (fun k => by rw [if_pos he, if_pos i]) ?_
      rw [O]
      by_cases hz : rd after 0 = 0
      · rw [show (rd after 0 == 0) = true from beq_iff_eq.mpr hz]
        exact w _ _ _ _ _
      · obtain ⟨Z, s2⟩ := Kq x v l now vals after j L u hz
        obtain ⟨r1, r2⟩ := rd0 after (by omega) j.2.2.2.2.2.2.1
        have h0 := j.2.1
        have I := j.2.2.1
        have U : wrap64 (wrap64 (now + rd after 0) - 1) = now + rd after 0 - 1 := by rw [CQ (n := now + rd after 0) (by omega) (by omega), CQ (by omega) (by omega)]
        have D := KD x m v l hl now (now + rd after 0 - 1)
        have o := Gs x v l now vals after true j u
        have z := (Gr o).2.2.1
        have G := KD x m v _ (show ((l.take (DU l (now + rd after 0))).drop (G6 l now vals after true) ++ Es now vals after).length ≤ maxLen by omega) now (now + rd after 0 - 1)
        rw [Z] at D
        rw [s2] at G
        refine Ev.step (fun k => by rw [Ai.j0, if_neg (by simp [hz]), U]) (Ev.bind (NS n v B l (by omega) s) (Ev.congr (fun k => by rw [if_pos i]) (Ev.bind D (Ev.bind G ?_))))
        have p := Lv n (DD (now + rd after 0 - 1) v l) (by have := Gd (now + rd after 0 - 1) l v; omega) fun y h => s y (Gc _ l v y h)
        exact Ev.congr (fun k => by rw [if_pos rfl, if_pos rfl]) (Ev.bind p (Ev.congr (fun k => by rw [if_pos rfl]) ha))
    · exact Ev.congr (fun k => by rw [if_neg he]) (w _ _ _ _ _)
end Go.Proofs.Ytojankgmedccdaa.Pure
end
