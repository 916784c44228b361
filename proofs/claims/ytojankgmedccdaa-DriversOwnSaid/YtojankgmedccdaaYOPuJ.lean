/- Lemmas. -/
import Derived.Test.YtojankgmedccdaaYOPuG
import Derived.Test.YtojankgmedccdaaYOPRsx5
import Derived.Test.YtojankgmedccdaaYOPOwB
set_option linter.unusedVariables false
section
namespace Go.Proofs.Ytojankgmedccdaa.Pure
open Go.RowKit Own PTy Hand PIs RowV Wo
def DI (x : S26) (v : S30) : Bool := decide (v.f0 = x.f0) && (if x.f0 = 1 then (decide (v.f1 = 0) && decide (v.f3.length = 0) && (isF v.f2 && decide (v.f2.length = 1))) else (decide (v.f2.length = 0) && decide (v.f3.length = 0) && (if x.f0 = 2 then (decide (v.f1 = 0) || decide (v.f1 = 1)) else if x.f0 = 3 then (decide (-2147483648 ≤ v.f1) && decide (v.f1 ≤ 2147483647)) else (decide (0 ≤ v.f1) && decide (v.f1 < (x.f3.length : Int))))))
theorem QF (v : S30) : Bv.f v.f0 v.f1 v.f2 v.f3 false true false = some (decide (v.f1 = 0) && decide (v.f3.length = 0)) := by
  unfold Bv.f; by_cases h1 : v.f1 = 0 <;> simp [h1, Hd]
theorem QG (v : S30) : Bv.f v.f0 v.f1 v.f2 v.f3 true false false = some (decide (v.f2.length = 0) && decide (v.f3.length = 0)) := by
  unfold Bv.f; by_cases h1 : v.f2.length = 0 <;> simp [h1, Hd]; all_goals simp_all [Hd]
theorem Q4 (x : S26) (h : scB x = true) : x.f1 = 0 := by
  unfold scB Jc Jd at h; split at h <;> simp_all
theorem MJ (x : S26) (h : scB x = true) : Gn x = true ∨ x.f0 = 5 := by
  by_cases hx : Gn x = true ∨ x.f0 = 5
  · exact hx
  · rw [PZ x hx] at h; cases h
theorem QH (x : S26) (v : S30) (a : scB x = true) : Ev (fun k => Ce.f k x.f0 x.f1 x.f2 x.f3 x.f4 v.f0 v.f1 v.f2 v.f3) (DI x v) := by
  have b := MJ x a; have h1 := Q4 x a; rw [He] at b; by_cases h0 : v.f0 = x.f0
  · unfold DI; rw [decide_eq_true h0, Bool.true_and]; by_cases k1 : x.f0 = 1
    · rw [if_pos k1]; refine Ev.congr (f := fun k => Ce.j0 k x.f0 true x.f0 x.f1 x.f2 x.f3 x.f4 v.f0 v.f1 v.f2 v.f3) (fun k => ?_) (Ev.step (f := fun _ => some (decide (v.f1 = 0) && decide (v.f3.length = 0) && (isF v.f2 && decide (v.f2.length = 1)))) (fun k => ?_) (Ev.now _))
      · unfold Ce.f; rw [if_pos h0, if_pos k1, k1]; rfl
      · rw [Ce.j0, if_pos rfl, QF, h1]; have hm : mx 0 1 = 1 := rfl; cases hb : (decide (v.f1 = 0) && decide (v.f3.length = 0)) with
        | false => simp
        | true =>
          rw [Option.bind_some, if_pos rfl, Fh.f, Option.bind_some, hm, Bool.true_and]; cases isF v.f2 with
          | false => rfl
          | true =>
            rw [if_pos rfl, Bool.true_and]; congr 1; rw [Bool.eq_iff_iff]; simp; omega
    · rw [if_neg k1]; refine Ev.congr (f := fun k => Ce.j0 k x.f0 false x.f0 x.f1 x.f2 x.f3 x.f4 v.f0 v.f1 v.f2 v.f3) (fun k => ?_) (Ev.step (f := fun _ => some (decide (v.f2.length = 0) && decide (v.f3.length = 0) && (if x.f0 = 2 then (decide (v.f1 = 0) || decide (v.f1 = 1)) else if x.f0 = 3 then (decide (-2147483648 ≤ v.f1) && decide (v.f1 ≤ 2147483647)) else (decide (0 ≤ v.f1) && decide (v.f1 < (x.f3.length : Int)))))) (fun k => ?_) (Ev.now _))
      · unfold Ce.f; rw [if_pos h0, if_neg k1, show (x.f0 == 4) = false from beq_eq_false_iff_ne.mpr (by omega)]
      · rw [Ce.j0, if_neg (by simp), QG]; cases hb : (decide (v.f2.length = 0) && decide (v.f3.length = 0)) with
        | false =>
          by_cases k2 : x.f0 = 2
          · rw [if_pos k2]; rfl
          by_cases k3 : x.f0 = 3
          · rw [if_neg k2, if_pos k3]; rfl
          rw [if_neg k2, if_neg k3, if_pos (by omega)]; rfl
        | true =>
          by_cases k2 : x.f0 = 2
          · rw [if_pos k2, if_pos k2, Option.bind_some, if_pos rfl, Bool.true_and]; by_cases q : v.f1 = 0
            · rw [if_pos q, decide_eq_true q]; rfl
            · rw [if_neg q, decide_eq_false q, Bool.false_or]; rfl
          by_cases k3 : x.f0 = 3
          · rw [if_neg k2, if_pos k3, if_neg k2, if_pos k3, Option.bind_some, if_pos rfl, Bool.true_and]; by_cases q : -2147483648 ≤ v.f1
            · rw [if_pos q, decide_eq_true q, Bool.true_and]
            · rw [if_neg q, decide_eq_false q]; rfl
          rw [if_neg k2, if_neg k3, if_pos (show x.f0 = 5 by omega), if_neg k2, if_neg k3, Option.bind_some, if_pos rfl, Bool.true_and]; by_cases q : 0 ≤ v.f1
          · rw [if_pos q, decide_eq_true q, Bool.true_and]
          · rw [if_neg q, decide_eq_false q]; rfl
  · have e : DI x v = false := by unfold DI; rw [decide_eq_false h0]; rfl
    rw [e]; exact Ev.congr (fun k => by unfold Ce.f; rw [if_neg h0]) (Ev.now _)
theorem GN (x : S26) (v : S30) (a : scB x = true) (hl : x.f3.length ≤ maxLen) : Ev (fun k => Bz.f k x.f0 x.f1 x.f2 x.f3 x.f4 v.f0 v.f1 v.f2 v.f3) (DI x v) := by
  unfold Bz.f; refine Ev.bind (KZ x (MJ x a) hl) ?_; rw [a]; exact Ev.congr (fun k => by rw [if_pos rfl]) (Ev.bind (QH x v a) (Ev.now _))
def Hy (x : S26) (l : List S63) : Nat → Nat → Int → Bool
  | 0, _, _ => true
  | d + 1, i, u => !decide ((AA l (i : Int)).f0 ≤ u) && (!decide ((AA l (i : Int)).f0 > 2000000) && (DI x (AA l (i : Int)).f1 && Hy x l d (i + 1) (AA l (i : Int)).f0))
theorem JA {l : List S63} {i : Nat} (h : i < l.length) : AA l (i : Int) ∈ l := by
  unfold AA; rw [List.getD_eq_getElem?_getD, show ((i : Int)).toNat = i from rfl, List.getElem?_eq_getElem h]; exact List.getElem_mem h
theorem Q5 (x : S26) (a : scB x = true) (h3 : x.f3.length ≤ maxLen) (l : List S63) (hl : l.length ≤ maxLen) : ∀ d i u, i + d = l.length → Ev (fun k => Av.l0 k u l (l.length : Int) (i : Int) x.f0 x.f1 x.f2 x.f3 x.f4) (Hy x l d i u) := by
  have hm := ml; intro d; induction d with
  | zero =>
    intro i u hi; exact Ev.step (f := fun _ => some true) (fun k => by rw [Av.l0, if_neg (by omega)]) (Ev.now _)
  | succ d b =>
    intro i u hi; simp only [Hy]; by_cases h1 : (AA l (i : Int)).f0 ≤ u
    · exact Ev.step (f := fun _ => some false) (fun k => by rw [Av.l0, if_pos (by omega), if_pos (by omega), if_pos (by omega), if_pos h1]) (by simpa [h1] using Ev.now _)
    by_cases h2 : (AA l (i : Int)).f0 > 2000000
    · exact Ev.step (f := fun _ => some false) (fun k => by rw [Av.l0, if_pos (by omega), if_pos (by omega), if_pos (by omega), if_neg h1, if_pos h2]) (by simpa [h2] using Ev.now _)
    rw [decide_eq_false h1, decide_eq_false h2]; refine Ev.step (fun k => by rw [Av.l0, if_pos (by omega), if_pos (by omega), if_pos (by omega), if_neg h1, if_neg h2, CK (by omega) (by omega)]) (Ev.bind (GN x (AA l (i : Int)).f1 a h3) ?_); cases DI x (AA l (i : Int)).f1 with
    | false => exact Ev.congr (fun k => by rw [if_neg (by simp)]) (by simpa using Ev.now _)
    | true => exact Ev.congr (fun k => by rw [if_pos rfl]) (by simpa using b (i + 1) _ (by omega))
def Fa (x : S26) (v : S30) (l : List S63) : Bool := scB x && (DI x v && (decide (l.length ≤ 64) && Hy x l l.length 0 (-1)))
theorem QI (l : List S63) : (decide ((l.length : Int) > 64)) = !decide (l.length ≤ 64) := by rw [Bool.eq_iff_iff]; simp; omega
theorem OW (x : S26) (h3 : x.f3.length ≤ maxLen) (v : S30) (l : List S63) (hl : l.length ≤ maxLen) : Ev (fun k => Av.f k x.f0 x.f1 x.f2 x.f3 x.f4 v.f0 v.f1 v.f2 v.f3 l) (Fa x v l) := by
  unfold Av.f Fa; have a : Ev (fun k => Av.j0 k true x.f0 x.f1 x.f2 x.f3 x.f4 v.f0 v.f1 v.f2 v.f3 l) false := Ev.step (f := fun _ => some false) (fun k => by rw [Av.j0, if_pos rfl]) (Ev.now _); refine Ev.bind (Je x h3) ?_; cases hs : scB x with
  | false => exact Ev.congr (fun k => by rw [if_neg (by simp)]) (by simpa using a)
  | true =>
    refine Ev.congr (fun k => by rw [if_pos rfl]) (Ev.bind (GN x v hs h3) ?_); cases DI x v with
    | false => exact Ev.congr (fun k => by rw [if_neg (by simp)]) (by simpa using a)
    | true =>
      refine Ev.congr (fun k => by rw [if_pos rfl, QI]) ?_; cases decide (l.length ≤ 64) with
      | false => simpa using a
      | true => exact Ev.step (f := fun k => Av.l0 k (-1) l (l.length : Int) ((0 : Nat) : Int) x.f0 x.f1 x.f2 x.f3 x.f4) (fun k => by rw [Av.j0, if_neg (by simp)]; rfl) (by simpa using Q5 x hs h3 l hl l.length 0 (-1) (by omega))
end Go.Proofs.Ytojankgmedccdaa.Pure
end
section
namespace Go.Proofs.Ytojankgmedccdaa.Pure
open Go.RowKit Own PTy Hand PIs RowV Wo
open PAw (r01Same.f r01Same.l0)
open PGn
def ExQ {α : Type} (g : Nat → Option α) (Q : α → Prop) : Prop := ∃ t, Ev g t ∧ Q t
section
variable {α β : Type} {g f : Nat → Option α} {Q : α → Prop}
theorem ExQ.now (t : α) (h : Q t) : ExQ (fun _ => some t) Q := ⟨t, Ev.now t, h⟩
theorem ExQ.step (h : ∀ k, g (k + 1) = f k) (h2 : ExQ f Q) : ExQ g Q := ⟨h2.choose, Ev.step h h2.choose_spec.1, h2.choose_spec.2⟩
theorem ExQ.congr (h : ∀ k, g k = f k) (h2 : ExQ f Q) : ExQ g Q := ⟨h2.choose, Ev.congr h h2.choose_spec.1, h2.choose_spec.2⟩
theorem ExQ.ite {c : Prop} [Decidable c] (h1 : c → ExQ g Q) (h2 : ¬ c → ExQ f Q) : ExQ (fun k => if c then g k else f k) Q := by
  by_cases h : c
  · simpa [h] using h1 h
  · simpa [h] using h2 h
theorem ExQ.bind {R : β → Prop} {g : Nat → Option β} {f : Nat → β → Option α} (h : ExQ g R) (h2 : ∀ t, R t → ExQ (fun k => f k t) Q) : ExQ (fun k => (g k).bind (f k)) Q := by
  obtain ⟨t, c, hr⟩ := h; obtain ⟨r, a, b⟩ := h2 t hr; exact ⟨r, Ev.bind c a, b⟩
theorem ExQ.of (h : Ex g) : ExQ g (fun _ => True) := ⟨h.choose, h.choose_spec, trivial⟩
end
def smV : Nat → S30 → Prop
  | 0, _ => False
  | m + 1, v => v.f2.length ≤ 9000 ∧ v.f3.length ≤ 9000 ∧ ∀ y ∈ v.f3, smV m y
theorem Kh : ∀ m (v : S30), okV m v → ∀ a : Int, 0 ≤ a → a ≤ 9000 → ExQ (fun k => CF.f k v.f0 v.f1 v.f2 v.f3 a) (fun r => r < a ∧ (0 ≤ r → smV m v))
  | 0, _, h, _, _, _ => h.elim
  | m + 1, v, ⟨_, _, _, h4, h5, h6⟩, a, ha, ha9 => by
    have hm := ml; refine ExQ.step (fun k => by rw [CF.f]) ?_; obtain ⟨l, w⟩ : ∃ l, l = a - 1 - (v.f2.length : Int) := ⟨_, rfl⟩; have B : wrap64 (a - wrap64 (1 + (v.f2.length : Int))) = l := by unfold wrap64; omega
    rw [B]; have key : ∀ d i, i + d = v.f3.length → ∀ b : Int, b ≤ 9000 → ExQ (fun k => CF.l0 k b v.f3 (v.f3.length : Int) (i : Int)) (fun r => r ≤ b ∧ (0 ≤ r → (d : Int) ≤ b - r ∧ ∀ j, i ≤ j → j < v.f3.length → smV m (AB v.f3 (j : Int)))) := by
      intro d; induction d with
      | zero =>
        intro i hi b s; refine ExQ.step (f := fun _ => some b) (fun k => by rw [CF.l0, if_neg (by omega)]) (ExQ.now b ⟨by omega, fun _ => ⟨by omega, fun j h1 h2 => by omega⟩⟩)
      | succ d G =>
        intro i hi b s; by_cases hn : b < 0
        · exact ExQ.step (f := fun _ => some b) (fun k => by rw [CF.l0, if_pos (by omega), if_pos (by omega), if_pos (by omega), if_pos hn]) (ExQ.now b ⟨by omega, fun h => by omega⟩)
        · refine ExQ.step (fun k => by rw [CF.l0, if_pos (by omega), if_pos (by omega), if_pos (by omega), if_neg hn, CK (n := (i : Int) + 1) (by omega) (by omega)]) (ExQ.bind (Kh m _ (h6 _ (Dm (i := i) (by omega))) b (by omega) s) fun t z => ?_); obtain ⟨r, hr, o, c⟩ := G (i + 1) (by omega) t (by omega); refine ⟨r, hr, by omega, fun h0 => ?_⟩; obtain ⟨I, q⟩ := c h0; refine ⟨by omega, fun j h1 h2 => ?_⟩; by_cases e : j = i
          · rw [e]; exact z.2 (by omega)
          · exact q j (by omega) h2
    obtain ⟨r, hr, o, c⟩ := key v.f3.length 0 (by omega) l (by omega); refine ⟨r, hr, by omega, fun h0 => ?_⟩; obtain ⟨I, q⟩ := c h0; refine ⟨by omega, by omega, fun y D => ?_⟩; obtain ⟨j, u, e⟩ := List.mem_iff_getElem.mp D; have := q j (by omega) u; unfold AB at this; rw [List.getD_eq_getElem?_getD, show ((j : Int)).toNat = j from rfl, List.getElem?_eq_getElem u] at this; exact e ▸ this
theorem OX (l : List S30) (hl : l.length ≤ maxLen) (m : Nat) (hv : ∀ y ∈ l, okV m y) : ExQ (fun k => BD.l2 k l (l.length : Int) 0) (fun t => t = true → ∀ j, j < l.length → smV m (AB l (j : Int))) := by
  have hm := ml; have key : ∀ d i, i + d = l.length → ExQ (fun k => BD.l2 k l (l.length : Int) (i : Int)) (fun t => t = true → ∀ j, i ≤ j → j < l.length → smV m (AB l (j : Int))) := by
    intro d; induction d with
    | zero => exact fun i hi => ExQ.step (f := fun _ => some true) (fun k => by rw [BD.l2, if_neg (by omega)]) (ExQ.now _ fun _ j h1 h2 => by omega)
    | succ d c =>
      intro i hi; refine ExQ.step (fun k => by rw [BD.l2, if_pos (by omega), if_pos (by omega), if_pos (by omega), CK (n := (i : Int) + 1) (by omega) (by omega)]) (ExQ.bind (Kh m _ (hv _ (Dm (i := i) (by omega))) 9000 (by omega) (by omega)) fun t b => ExQ.ite (fun _ => ExQ.now false (by simp)) fun h0 => ?_); obtain ⟨r, hr, a⟩ := c (i + 1) (by omega); refine ⟨r, hr, fun e j h1 h2 => ?_⟩; by_cases ej : j = i
      · rw [ej]; exact b.2 (by omega)
      · exact a e j (by omega) h2
  obtain ⟨r, hr, a⟩ := key l.length 0 (by omega); exact ⟨r, hr, fun e j h => a e j (by omega) h⟩
theorem OY (n : Nat) (x : S26) (e : okT n x) (l : List S30) (hl : l.length ≤ maxLen) (m : Nat) (hv : ∀ y ∈ l, okV m y) : ExQ (fun k => BD.f k x.f0 x.f1 x.f2 x.f3 x.f4 l) (fun t => t = true → ∀ j, j < l.length → smV m (AB l (j : Int))) := by
  have hm := ml; cases n with
  | zero => exact e.elim
  | succ n =>
    obtain ⟨_, _, _, _, o, q, h⟩ := e; have h1 : ∀ d i, i + d = x.f4.length → ExQ (fun k => BD.l1 k l x.f4 (x.f4.length : Int) (i : Int)) (fun t => t = true → ∀ j, j < l.length → smV m (AB l (j : Int))) := by
      intro d; induction d with
      | zero => exact fun i hi => ExQ.step (fun k => by rw [BD.l1, if_neg (by omega)] <;> rfl) (OX l hl m hv)
      | succ d c =>
        intro i hi; exact ExQ.step (fun k => by rw [BD.l1, if_pos (by omega), if_pos (by omega), if_pos (by omega), CK (n := (i : Int) + 1) (by omega) (by omega)] <;> rfl) (ExQ.ite (fun _ => ExQ.now false (by simp)) fun _ => ExQ.bind (ExQ.of (KW n _ (h _ (KU (i := i) (by omega))) [] (by simp) 0 (by simp))) fun t _ => ExQ.ite (fun _ => c (i + 1) (by omega)) fun _ => ExQ.now false (by simp))
    have h0 : ∀ d i, i + d = x.f3.length → ExQ (fun k => BD.l0 k l x.f3 (x.f3.length : Int) (i : Int) x.f0 x.f1 x.f2 x.f3 x.f4) (fun t => t = true → ∀ j, j < l.length → smV m (AB l (j : Int))) := by
      intro d; induction d with
      | zero => exact fun i hi => ExQ.step (fun k => by rw [BD.l0, if_neg (by omega)] <;> rfl) (h1 x.f4.length 0 (by omega))
      | succ d c =>
        intro i hi; exact ExQ.step (fun k => by rw [BD.l0, if_pos (by omega), if_pos (by omega), if_pos (by omega), CK (n := (i : Int) + 1) (by omega) (by omega)] <;> rfl) (ExQ.ite (fun _ => ExQ.now false (by simp)) fun _ => c (i + 1) (by omega))
    have a : ∀ b, ExQ (fun k => BD.j0 k l b x.f0 x.f1 x.f2 x.f3 x.f4) (fun t => t = true → ∀ j, j < l.length → smV m (AB l (j : Int))) := fun b =>
      ExQ.step (fun k => by rw [BD.j0] <;> rfl) (ExQ.ite (fun _ => ExQ.now false (by simp)) fun _ => h0 x.f3.length 0 (by omega))
    exact ExQ.step (fun k => by rw [BD.f]) (ExQ.ite (fun _ => a _) fun _ => ExQ.ite (fun _ => a _) fun _ => a _)
theorem QJ (n : Nat) (x : S26) (G : okT n x) (v : S30) (hv : okV n v) (l : List S63) (hl : ∀ y ∈ l, okV n y.f1) (a : List S30) (w : ∀ y ∈ a, okV n y) :
    ExQ (fun k => Ck.f k x.f0 x.f1 x.f2 x.f3 x.f4 v.f0 v.f1 v.f2 v.f3 l a) (fun t => t = true → l.length ≤ 80 ∧ a.length ≤ 80 ∧ smV n v ∧ (∀ y ∈ a, smV n y) ∧ ∀ y ∈ l, smV n y.f1) := by
  have hm := ml; have o : ExQ (fun k => Ck.j0 k a true x.f0 x.f1 x.f2 x.f3 x.f4 v.f0 v.f1 v.f2 v.f3 l) (fun t => t = true → l.length ≤ 80 ∧ a.length ≤ 80 ∧ smV n v ∧ (∀ y ∈ a, smV n y) ∧ ∀ y ∈ l, smV n y.f1) :=
    ExQ.step (f := fun _ => some false) (fun k => by rw [Ck.j0, if_pos rfl]) (ExQ.now _ (by simp))
  unfold Ck.f; by_cases h8 : (l.length : Int) > 80
  · exact ExQ.congr (fun k => by rw [if_pos h8]) o
  by_cases h9 : (a.length : Int) > 80
  · exact ExQ.congr (fun k => by rw [if_neg h8, decide_eq_true h9]) o
  refine ExQ.congr (f := fun k => Ck.j0 k a false x.f0 x.f1 x.f2 x.f3 x.f4 v.f0 v.f1 v.f2 v.f3 l) (fun k => by rw [if_neg h8, decide_eq_false h9]) ?_; have key : ∀ d i, i + d = l.length → ∀ ys : List S30, ys.length = a.length + 1 + i → (∀ y ∈ ys, okV n y) → (∀ y ∈ (v :: a), y ∈ ys) → (∀ j, j < i → (AA l (j : Int)).f1 ∈ ys) → ExQ (fun k => Ck.l0 k ys l (l.length : Int) (i : Int) x.f0 x.f1 x.f2 x.f3 x.f4) (fun t => t = true → l.length ≤ 80 ∧ a.length ≤ 80 ∧ smV n v ∧ (∀ y ∈ a, smV n y) ∧ ∀ y ∈ l, smV n y.f1) := by
    intro d; induction d with
    | zero =>
      intro i hi ys B u b s; refine ExQ.step (fun k => by rw [Ck.l0, if_neg (by omega)]) (ExQ.bind (OY n x G ys (by omega) n u) fun t D => ⟨t, Ev.now t, fun e => ?_⟩); have hall : ∀ y ∈ ys, smV n y := by
        intro y z; obtain ⟨j, c, r⟩ := List.mem_iff_getElem.mp z; have := D e j c; unfold AB at this; rw [List.getD_eq_getElem?_getD, show ((j : Int)).toNat = j from rfl, List.getElem?_eq_getElem c] at this; exact r ▸ this
      refine ⟨by omega, by omega, hall _ (b v (by simp)), fun y h => hall _ (b y (by simp [h])), fun y h => ?_⟩; obtain ⟨j, c, r⟩ := List.mem_iff_getElem.mp h; have := hall _ (s j (by omega)); unfold AA at this; rw [List.getD_eq_getElem?_getD, show ((j : Int)).toNat = j from rfl, List.getElem?_eq_getElem c] at this; exact r ▸ this
    | succ d I =>
      intro i hi ys B u b s; have q : AA l (i : Int) ∈ l := by
        unfold AA; rw [List.getD_eq_getElem?_getD, show ((i : Int)).toNat = i from rfl, List.getElem?_eq_getElem (by omega)]; exact List.getElem_mem _
      refine ExQ.step (fun k => by rw [Ck.l0, if_pos (by omega), if_pos (by omega), if_pos (by omega), if_pos (by omega), CK (n := (i : Int) + 1) (by omega) (by omega), I7] <;> rfl) (I (i + 1) (by omega) (ys ++ [(AA l (i : Int)).f1]) (by rw [List.length_append, B]; rfl) (fun y h => ?_) (fun y h => List.mem_append_left _ (b y h)) (fun j h => ?_))
      · rcases List.mem_append.mp h with h | h
        · exact u y h
        · rw [List.mem_singleton.mp h]; exact hl _ q
      · by_cases e : j = i
        · rw [e]; exact List.mem_append_right _ (by simp)
        · exact List.mem_append_left _ (s j (by omega))
  refine ExQ.step (fun k => ?_) (key l.length 0 (by omega) (v :: a) (by simp) (fun y h => ?_) (fun y h => h) (by omega))
  · rw [Ck.j0, if_neg (by simp), Option.bind_some, if_pos (by simp; omega), I7]; rfl
  · rcases List.mem_cons.mp h with rfl | h
    · exact hv
    · exact w y h
theorem Hf {l : List S30} {i : Nat} (h : i < l.length) : AB l (i : Int) = l[i] := by
  unfold AB; rw [List.getD_eq_getElem?_getD, show ((i : Int)).toNat = i from rfl, List.getElem?_eq_getElem h]; rfl
theorem Hg {l : List S63} {i : Nat} (h : i < l.length) : AA l (i : Int) = l[i] := by
  unfold AA; rw [List.getD_eq_getElem?_getD, show ((i : Int)).toNat = i from rfl, List.getElem?_eq_getElem h]; rfl
theorem Hl : ∀ m (v : S30), smV m v → Ev (fun k => Bi.f k v.f0 v.f1 v.f2 v.f3) (v.f0, v.f1, v.f2, v.f3)
  | 0, _, h => h.elim
  | m + 1, v, ⟨h1, h2, h3⟩ => by
    have hm := ml; refine Ev.step (fun k => by rw [Bi.f, Option.bind_some, if_pos (by simp; omega)]) ?_; have key : ∀ d i, i + d = v.f3.length → Ev (fun k => Bi.l0 k v.f3 (v.f3.length : Int) (i : Int) v.f0 v.f1 v.f2 (v.f3.take i)) (v.f0, v.f1, v.f2, v.f3) := by
      intro d; induction d with
      | zero =>
        intro i hi; rw [List.take_of_length_le (by omega)]; exact Ev.step (f := fun _ => some (v.f0, v.f1, v.f2, v.f3)) (fun k => by rw [Bi.l0, if_neg (by omega)]) (Ev.now _)
      | succ d b =>
        intro i hi; have a : i < v.f3.length := by omega
        refine Ev.step (fun k => by rw [Bi.l0, if_pos (by omega), if_pos (by omega), if_pos (by omega), CK (n := (i : Int) + 1) (by omega) (by omega)]) (Ev.bind (Hl m _ (h3 _ (Dm a))) ?_); refine Ev.congr (f := fun k => Bi.l0 k v.f3 (v.f3.length : Int) ((i + 1 : Nat) : Int) v.f0 v.f1 v.f2 (v.f3.take (i + 1))) (fun k => ?_) (b (i + 1) (by omega)); rw [if_pos (by rw [List.length_take]; omega), List.take_succ_eq_append_getElem a, I7, Hf a]; rfl
    simpa using key v.f3.length 0 (by omega)
theorem OZ (x : S63) : (⟨x.f0, x.f1⟩ : S63) = x := by cases x; rfl
theorem J7 (m : Nat) (v : S30) (hv : smV m v) (l : List S63) (hl : l.length ≤ 100) (b : ∀ y ∈ l, smV m y.f1) : Ev (fun k => CU.f k v.f0 v.f1 v.f2 v.f3 l) (v.f0, v.f1, v.f2, v.f3, l) := by
  have hm := ml; unfold CU.f; refine Ev.bind (Hl m v hv) ?_; have key : ∀ d i, i + d = l.length → Ev (fun k => CU.l0 k l (l.length : Int) (i : Int) v.f0 v.f1 v.f2 v.f3 (l.take i)) (v.f0, v.f1, v.f2, v.f3, l) := by
    intro d; induction d with
    | zero =>
      intro i hi; rw [List.take_of_length_le (by omega)]; exact Ev.step (f := fun _ => some (v.f0, v.f1, v.f2, v.f3, l)) (fun k => by rw [CU.l0, if_neg (by omega)]) (Ev.now _)
    | succ d c =>
      intro i hi; have a : i < l.length := by omega
      refine Ev.step (fun k => by rw [CU.l0, if_pos (by omega), if_pos (by omega), if_pos (by omega), CK (n := (i : Int) + 1) (by omega) (by omega)]) (Ev.bind (Hl m _ (b _ (JA a))) ?_); refine Ev.congr (f := fun k => CU.l0 k l (l.length : Int) ((i + 1 : Nat) : Int) v.f0 v.f1 v.f2 v.f3 (l.take (i + 1))) (fun k => ?_) (c (i + 1) (by omega)); rw [if_pos (by rw [List.length_take]; omega), List.take_succ_eq_append_getElem a, I7, OZ, Hg a]; rfl
  simpa using key l.length 0 (by omega)
theorem Oa (l : List Int) (hl : l.length ≤ maxLen) : Ev (fun k => r01Same.f k l l) true := by
  have hm := ml; have key : ∀ d i, i + d = l.length → Ev (fun k => r01Same.l0 k l l (l.length : Int) (i : Int)) true := by
    intro d; induction d with
    | zero => intro i hi; exact Ev.step (f := fun _ => some true) (fun k => by rw [r01Same.l0, if_neg (by omega)]) (Ev.now _)
    | succ d a =>
      intro i hi; refine Ev.step (f := fun k => r01Same.l0 k l l (l.length : Int) ((i + 1 : Nat) : Int)) (fun k => ?_) (a (i + 1) (by omega)); rw [r01Same.l0, if_pos (by omega), if_pos (by omega), if_pos (by omega), if_pos (by omega), if_pos rfl, CK (by omega) (by omega)]; rfl
  exact Ev.congr (fun k => by unfold r01Same.f; rw [if_pos rfl]; rfl) (key l.length 0 (by omega))
theorem GQ : ∀ m (v : S30), smV m v → Ev (fun k => PGn.BH.f k v.f0 v.f1 v.f2 v.f3 v.f0 v.f1 v.f2 v.f3) true
  | 0, _, h => h.elim
  | m + 1, v, ⟨h1, h2, h3⟩ => by
    have hm := ml; refine Ev.step (fun k => by rw [PGn.BH.f, if_pos rfl, if_pos rfl]) (Ev.bind (Oa v.f2 (by omega)) (Ev.congr (fun k => by rw [if_pos rfl, bne_self_eq_false]) (Ev.step (fun k => by rw [PGn.BH.j0, if_neg (by simp)]) ?_))); have key : ∀ d i, i + d = v.f3.length → Ev (fun k => PGn.BH.l0 k (v.f3.length : Int) (i : Int) v.f0 v.f1 v.f2 v.f3 v.f0 v.f1 v.f2 v.f3) true := by
      intro d; induction d with
      | zero => intro i hi; exact Ev.step (f := fun _ => some true) (fun k => by rw [PGn.BH.l0, if_neg (by omega)]) (Ev.now _)
      | succ d a =>
        intro i hi; exact Ev.step (fun k => by rw [PGn.BH.l0, if_pos (by omega), if_pos (by omega), if_pos (by omega), if_pos (by omega), CK (n := (i : Int) + 1) (by omega) (by omega)]) (Ev.bind (GQ m _ (h3 _ (Dm (i := i) (by omega)))) (Ev.congr (fun k => by rw [if_pos rfl]; rfl) (a (i + 1) (by omega))))
    exact key v.f3.length 0 (by omega)
theorem E9 (m : Nat) (v : S30) (hv : smV m v) (l : List S63) (hl : l.length ≤ maxLen) (a : ∀ y ∈ l, smV m y.f1) : Ev (fun k => Bt.f k v.f0 v.f1 v.f2 v.f3 l v.f0 v.f1 v.f2 v.f3 l) true := by
  have hm := ml; unfold Bt.f; refine Ev.bind (GQ m v hv) (Ev.congr (fun k => by rw [if_pos rfl, bne_self_eq_false]) (Ev.step (fun k => by rw [Bt.j0, if_neg (by simp)]) ?_)); have key : ∀ d i, i + d = l.length → Ev (fun k => Bt.l0 k (l.length : Int) (i : Int) v.f0 v.f1 v.f2 v.f3 l v.f0 v.f1 v.f2 v.f3 l) true := by
    intro d; induction d with
    | zero => intro i hi; exact Ev.step (f := fun _ => some true) (fun k => by rw [Bt.l0, if_neg (by omega)]) (Ev.now _)
    | succ d b =>
      intro i hi; exact Ev.step (fun k => by rw [Bt.l0, if_pos (by omega), if_pos (by omega), if_pos (by omega), if_pos (by omega), if_pos rfl, CK (n := (i : Int) + 1) (by omega) (by omega)]) (Ev.bind (GQ m _ (a _ (JA (i := i) (by omega)))) (Ev.congr (fun k => by rw [if_pos rfl]; rfl) (b (i + 1) (by omega))))
  exact key l.length 0 (by omega)
theorem Mt (m : Nat) (l : List S63) (hl : l.length ≤ maxLen) (a : ∀ y ∈ l, smV m y.f1) : Ev (fun k => EP.f k l l) true := by
  unfold EP.f; cases m with
  | zero =>
    have : l = [] := List.eq_nil_iff_forall_not_mem.mpr fun y h => a y h; subst this; exact Ev.bind (E9 1 ⟨0, 0, [], []⟩ ⟨by simp, by simp, by simp⟩ [] hl (by simp)) (Ev.now _)
  | succ m => exact Ev.bind (E9 (m + 1) ⟨0, 0, [], []⟩ ⟨by simp, by simp, by simp⟩ l hl a) (Ev.now _)
end Go.Proofs.Ytojankgmedccdaa.Pure
end
section
namespace Go.Proofs.Ytojankgmedccdaa.Pure
open Go.RowKit Own PTy Hand PIs RowV Wo
open PAw (drivers_copied.f logic_isBit.f logic_both.f logic_both.j0 logic_Resolve.f logic_Resolve.l0 r01Same.f r01Same.l0)
open PRs
def MK (s b : Int) : Int := if s = b ∨ b = 3 then s else if s = 3 then b else 2
def ML : Int → List Int → Int
  | s, [] => s
  | s, b :: l => ML (MK s b) l
theorem PM (s b : Int) : Ev (fun k => logic_both.f k s b) (MK s b) := by
  refine Ev.congr (f := fun k => logic_both.j0 k s b (decide (s = b ∨ b = 3))) (fun k => ?_) (Ev.step (f := fun _ => some (MK s b)) (fun k => ?_) (Ev.now _))
  · unfold logic_both.f; by_cases h : s = b
    · rw [if_pos h]; congr 1; simp [h]
    · rw [if_neg h]; congr 1; rw [Bool.eq_iff_iff]; simp [h]
  · rw [logic_both.j0]; unfold MK; by_cases h : s = b ∨ b = 3
    · rw [decide_eq_true h, if_pos rfl, if_pos h]
    · rw [decide_eq_false h, if_neg (by simp), if_neg h]; split <;> rfl
theorem GR (l : List Int) (i : Nat) (h : i < l.length) : rd l (i : Int) = l[i] := by
  unfold rd; rw [List.getD_eq_getElem?_getD, show ((i : Int)).toNat = i from rfl, List.getElem?_eq_getElem h]; rfl
theorem Lc (l : List Int) (hl : l.length ≤ maxLen) (h3 : ∀ b ∈ l, b ≤ 3) : Ev (fun k => logic_Resolve.f k l) (ML 3 l, 0) := by
  have hm := ml; have key : ∀ d i s, i + d = l.length → Ev (fun k => logic_Resolve.l0 k s l (l.length : Int) (i : Int)) (ML s (l.drop i), 0) := by
    intro d; induction d with
    | zero =>
      intro i s hi; rw [List.drop_eq_nil_of_le (by omega)]; exact Ev.step (f := fun _ => some (s, 0)) (fun k => by rw [logic_Resolve.l0, if_neg (by omega)]) (Ev.now _)
    | succ d c =>
      intro i s hi; have a : i < l.length := by omega
      rw [List.drop_eq_getElem_cons a]; refine Ev.step (f := fun k => (logic_both.f k s l[i]).bind fun t => logic_Resolve.l0 k t l (l.length : Int) ((i + 1 : Nat) : Int)) (fun k => ?_) (Ev.bind (PM s l[i]) (c (i + 1) _ (by omega))); rw [logic_Resolve.l0, if_pos (by omega), if_pos (by omega), if_pos (by omega), GR l i a, logic_isBit.f, decide_eq_true (h3 _ (List.getElem_mem a)), Option.bind_some, if_pos rfl, CK (by omega) (by omega)]; rfl
  exact key l.length 0 3 (by omega)
end Go.Proofs.Ytojankgmedccdaa.Pure
end
section
namespace Go.Proofs.Ytojankgmedccdaa.Pure
open Go.RowKit Own PTy Hand PIs RowV Wo
open PAw (drivers_copied.f logic_isBit.f logic_both.f logic_both.j0 logic_Resolve.f logic_Resolve.l0 r01Same.f r01Same.l0)
open PRs
theorem DY (x : S26) (v : S30) (h : DI x v = true) : v.f0 = x.f0 ∧ v.f3 = [] ∧ (x.f0 = 1 → v.f2.length = 1) ∧ (x.f0 ≠ 1 → v.f2 = []) ∧ ∀ b ∈ v.f2, b ≤ 3 := by
  unfold DI at h; rw [Bool.and_eq_true, decide_eq_true_iff] at h; obtain ⟨h0, h⟩ := h; by_cases k1 : x.f0 = 1
  · rw [if_pos k1] at h; simp only [Bool.and_eq_true, decide_eq_true_iff] at h; obtain ⟨⟨_, h3⟩, hi, h2⟩ := h; refine ⟨h0, List.length_eq_zero_iff.mp h3, fun _ => h2, fun h => absurd k1 h, fun b a => ?_⟩; unfold isF at hi; simp only [Bool.and_eq_true, List.all_eq_true, decide_eq_true_iff] at hi; exact hi.2 b a
  · rw [if_neg k1] at h; simp only [Bool.and_eq_true, decide_eq_true_iff] at h; have e := List.length_eq_zero_iff.mp h.1.1; exact ⟨h0, List.length_eq_zero_iff.mp h.1.2, fun h => absurd h k1, fun _ => e, fun b a => by rw [e] at a; cases a⟩
end Go.Proofs.Ytojankgmedccdaa.Pure
end
section
namespace Go.Proofs.Ytojankgmedccdaa.Pure
open Go.RowKit Own PTy Hand PIs RowV Wo
open PAw (drivers_behind.f drivers_copied.f api_Bit_96.f api_Bit_96.l0)
open PGn
def okL (x : S26) : Int → List S63 → Prop
  | _, [] => True
  | u, c :: r => u < c.f0 ∧ c.f0 ≤ 2000000 ∧ DI x c.f1 = true ∧ okL x c.f0 r
theorem Mv (x : S26) (l : List S63) : ∀ d i u, i + d = l.length → Hy x l d i u = true → okL x u (l.drop i) := by
  intro d; induction d with
  | zero => intro i u hi _; rw [List.drop_eq_nil_of_le (by omega)]; trivial
  | succ d b =>
    intro i u hi h; have a : i < l.length := by omega
    rw [List.drop_eq_getElem_cons a]; simp only [Hy, Bool.and_eq_true, Bool.not_eq_true', decide_eq_false_iff_not, Hg a] at h; exact ⟨by omega, by omega, h.2.2.1, b (i + 1) _ (by omega) h.2.2.2⟩
theorem F5 {x : S26} : ∀ {u : Int} {l : List S63}, okL x u l → ∀ y ∈ l, u < y.f0 ∧ y.f0 ≤ 2000000 ∧ DI x y.f1 = true
  | _, [], _, _, h => by cases h
  | u, c :: r, ⟨h1, h2, h3, h4⟩, y, h => by
    rcases List.mem_cons.mp h with rfl | h
    · exact ⟨h1, h2, h3⟩
    · obtain ⟨e, a, b⟩ := F5 h4 y h; exact ⟨by omega, a, b⟩
theorem Fp {x : S26} {v : S30} {l : List S63} (h : Fa x v l = true) : scB x = true ∧ DI x v = true ∧ l.length ≤ 64 ∧ okL x (-1) l := by
  unfold Fa at h; simp only [Bool.and_eq_true, decide_eq_true_iff] at h; exact ⟨h.1, h.2.1, h.2.2.1, by simpa using Mv x l l.length 0 (-1) (by omega) h.2.2.2⟩
theorem Gf {x : S26} {v : S30} (h : DI x v = true) : v.f2.length ≤ 1 := by
  obtain ⟨c, e, a, b, i⟩ := DY x v h; by_cases k1 : x.f0 = 1
  · rw [a k1]; omega
  · rw [b k1]; simp
def eqV (v w : S30) : Bool := decide (v.f1 = w.f1) && decide (v.f2 = w.f2)
theorem PN (l m : List Int) (hl : l.length ≤ maxLen) (c : m.length ≤ maxLen) : Ev (fun k => api_Bit_96.f k l m) (decide (l = m)) := by
  have hm := ml; unfold api_Bit_96.f; by_cases h : l.length = m.length
  · have key : ∀ d i, i + d = l.length → Ev (fun k => api_Bit_96.l0 k l m (l.length : Int) (i : Int)) (decide (l.drop i = m.drop i)) := by
      intro d; induction d with
      | zero =>
        intro i hi; rw [List.drop_eq_nil_of_le (by omega), List.drop_eq_nil_of_le (by omega)]; exact Ev.step (f := fun _ => some true) (fun k => by rw [api_Bit_96.l0, if_neg (by omega)]) (by simpa using Ev.now _)
      | succ d j =>
        intro i hi; have a : i < l.length := by omega
        have b : i < m.length := by omega
        rw [List.drop_eq_getElem_cons a, List.drop_eq_getElem_cons b]; have hd : l[i] = m[i] → decide (l[i] :: l.drop (i + 1) = m[i] :: m.drop (i + 1)) = decide (l.drop (i + 1) = m.drop (i + 1)) := fun e => by rw [e]; exact decide_eq_decide.mpr ⟨fun h => (List.cons.inj h).2, fun h => by rw [h]⟩
        have hn : l[i] ≠ m[i] → decide (l[i] :: l.drop (i + 1) = m[i] :: m.drop (i + 1)) = false := fun e => decide_eq_false fun h => e (List.cons.inj h).1; by_cases e : l[i] = m[i]
        · refine Ev.step (f := fun k => api_Bit_96.l0 k l m (l.length : Int) ((i + 1 : Nat) : Int)) (fun k => ?_) (by rw [hd e]; exact j (i + 1) (by omega)); rw [api_Bit_96.l0, if_pos (by omega), if_pos (by omega), if_pos (by omega), if_pos (by omega), GR l i a, GR m i b, if_pos e, CK (by omega) (by omega)]; rfl
        · refine Ev.step (f := fun _ => some false) (fun k => ?_) (by rw [hn e]; exact Ev.now _); rw [api_Bit_96.l0, if_pos (by omega), if_pos (by omega), if_pos (by omega), if_pos (by omega), GR l i a, GR m i b, if_neg e]
    exact Ev.congr (fun k => by rw [if_pos (by omega)]) (by simpa using key l.length 0 (by omega))
  · have e : decide (l = m) = false := decide_eq_false fun e => h (by rw [e]); rw [e]; exact Ev.congr (fun k => by rw [if_neg (by omega)]) (Ev.now _)
theorem Ki (x : S26) (h : scB x = true) (h3 : x.f3.length ≤ maxLen) (v w : S30) (hv : DI x v = true) (c : DI x w = true) : Ev (fun k => PGn.Cb.f k x.f0 x.f1 x.f2 x.f3 x.f4 v.f0 v.f1 v.f2 v.f3 w.f0 w.f1 w.f2 w.f3) (eqV v w) := by
  have hm := ml; have l1 := Gf hv; have l2 := Gf c; have i := (DY x v hv).2.1; have j := (DY x w c).2.1; have a := GN x v h h3; have b := GN x w h h3; rw [hv] at a; rw [c] at b; have key : Ev (fun k => PGn.Ca.f k v.f0 v.f1 v.f2 v.f3 w.f0 w.f1 w.f2 w.f3) (eqV v w) := by
    refine Ev.step (fun k => by rw [PGn.Ca.f]) ?_; unfold eqV; by_cases e : v.f1 = w.f1
    · refine Ev.congr (fun k => by rw [if_pos e]) (Ev.bind (PN v.f2 w.f2 (by omega) (by omega)) ?_); rw [decide_eq_true e, Bool.true_and]; by_cases e2 : v.f2 = w.f2
      · rw [decide_eq_true e2]; exact Ev.congr (fun k => by rw [if_pos rfl, i, j]; rfl) (Ev.now true)
      · rw [decide_eq_false e2]; exact Ev.congr (fun k => by rw [if_neg (by simp)]) (Ev.now false)
    · rw [decide_eq_false e, Bool.false_and]; exact Ev.congr (fun k => by rw [if_neg e]) (Ev.now false)
  unfold PGn.Cb.f PGn.Dn.f; refine Ev.bind (a := (eqV v w, 0)) (Ev.bind a (Ev.congr (fun k => by rw [if_pos rfl]) (Ev.bind b (Ev.congr (fun k => by rw [if_pos rfl]) (Ev.bind key (Ev.now _)))))) ?_; cases eqV v w with
  | true => exact Ev.congr (fun k => by rw [if_pos rfl]; rfl) (Ev.now _)
  | false => exact Ev.congr (fun k => by rw [if_neg (by simp)]) (Ev.now _)
theorem Es (x : S26) (v : S30) (hv : DI x v = true) : drivers_copied.f v.f0 v.f1 v.f2 v.f3 = some (v.f0, v.f1, v.f2, v.f3) := by
  have := Gf hv; unfold drivers_copied.f EA.f; rw [if_pos (by omega)]; rfl
def Eo (l : List S63) (now : Int) : Bool := match l with | [] => false | c :: _ => decide (c.f0 < now)
theorem Hz (a b : Int) (m : List Int) (p : List S30) (l : List S63) (now : Int) : drivers_behind.f a b m p l now = some (Eo l now) := by
  unfold drivers_behind.f Eo; cases l with
  | nil => rfl
  | cons c r => rw [if_pos (by simp)]; first | rfl | (rw [if_pos (by simp)]; rfl)
def Ej (e : Int) : S30 → List S63 → List S63
  | _, [] => []
  | v, c :: r => if c.f0 > e then [] else if eqV v c.f1 = true then Ej e c.f1 r else c :: Ej e c.f1 r
theorem Gx (e : Int) : ∀ (l : List S63) (v : S30), ∀ y ∈ Ej e v l, y ∈ l
  | [], _, y, h => by cases h
  | c :: r, v, y, h => by
    unfold Ej at h; split at h
    · cases h
    · split at h
      · exact List.mem_cons_of_mem _ (Gx e r _ y h)
      · rcases List.mem_cons.mp h with rfl | h
        · exact List.mem_cons_self
        · exact List.mem_cons_of_mem _ (Gx e r _ y h)
theorem Gy (e : Int) : ∀ (l : List S63) (v : S30), (Ej e v l).length ≤ l.length
  | [], _ => by simp [Ej]
  | c :: r, v => by
    unfold Ej; split
    · simp
    · split
      · have := Gy e r c.f1; simp; omega
      · have := Gy e r c.f1; simp; omega
theorem Ob (x : S26) (h : scB x = true) (h3 : x.f3.length ≤ maxLen) (e : Int) (l : List S63) (hl : l.length ≤ 100) : ∀ d i u out (v : S30), i + d = l.length → out.length ≤ i → okL x u (l.drop i) → DI x v = true →
    Ev (fun k => PGn.Ag.l0 k e out l (l.length : Int) (i : Int) x.f0 x.f1 x.f2 x.f3 x.f4 v.f0 v.f1 v.f2 v.f3) (out ++ Ej e v (l.drop i), 0) := by
  have hm := ml; intro d; induction d with
  | zero =>
    intro i u out v hi ho _ hv; rw [List.drop_eq_nil_of_le (by omega)]; exact Ev.step (f := fun _ => some (out, 0)) (fun k => by rw [PGn.Ag.l0, if_neg (by omega)]) (by simpa [Ej] using Ev.now _)
  | succ d c =>
    intro i u out v hi ho hok hv; have a : i < l.length := by omega
    rw [List.drop_eq_getElem_cons a] at hok ⊢; obtain ⟨_, _, b, hr⟩ := hok; have hg : AA l (i : Int) = l[i] := Hg a; by_cases h1 : l[i].f0 > e
    · unfold Ej; rw [if_pos h1]; exact Ev.step (f := fun _ => some (out, 0)) (fun k => by rw [PGn.Ag.l0, if_pos (by omega), if_pos (by omega), if_pos (by omega), hg, if_pos h1]) (by simpa using Ev.now _)
    · unfold Ej; rw [if_neg h1]; refine Ev.step (fun k => by rw [PGn.Ag.l0, if_pos (by omega), if_pos (by omega), if_pos (by omega), hg, if_neg h1, CK (n := (i : Int) + 1) (by omega) (by omega)]) (Ev.bind (Ki x h h3 v l[i].f1 hv b) ?_); cases he : eqV v l[i].f1 with
      | true => exact Ev.congr (fun k => by rw [if_pos rfl] <;> rfl) (by simpa using c (i + 1) _ out l[i].f1 (by omega) (by omega) hr b)
      | false =>
        refine Ev.congr (f := fun k => PGn.Ag.l0 k e (out ++ [l[i]]) l (l.length : Int) ((i + 1 : Nat) : Int) x.f0 x.f1 x.f2 x.f3 x.f4 l[i].f1.f0 l[i].f1.f1 l[i].f1.f2 l[i].f1.f3) (fun k => ?_) (by simpa using c (i + 1) _ (out ++ [l[i]]) l[i].f1 (by omega) (Nat.le_trans (Nat.le_of_eq (List.length_append ..)) (by show out.length + 1 ≤ i + 1; omega)) hr b); rw [if_neg (by simp), Es x _ b, Option.bind_some, if_pos (by omega), I7, OZ] <;> rfl
def GU (x : S26) (v : S30) (l : List S63) (a b : Int) : List S63 × Int :=
  if Fa x v l = true ∧ (0 ≤ a ∧ 0 ≤ b) ∧ a ≤ 2000000 ∧ b ≤ 2000000 then (if Eo l a = true then ([], 5) else (Ej b v l, 0)) else ([], 2)
theorem Oc (x : S26) (h3 : x.f3.length ≤ maxLen) (v : S30) (l : List S63) (hl : l.length ≤ maxLen) (a b : Int) : Ev (fun k => PGn.Ag.f k x.f0 x.f1 x.f2 x.f3 x.f4 v.f0 v.f1 v.f2 v.f3 l a b) (GU x v l a b) := by
  have c : Ev (fun k => PGn.Ag.j0 k a b true x.f0 x.f1 x.f2 x.f3 x.f4 v.f0 v.f1 v.f2 v.f3 l) ([], 2) := Ev.step (f := fun _ => some ([], 2)) (fun k => by rw [PGn.Ag.j0, if_pos rfl]) (Ev.now _); unfold PGn.Ag.f GU; refine Ev.bind (OW x h3 v l hl) ?_; cases hp : Fa x v l with
  | false => rw [if_neg (by simp)]; exact Ev.congr (fun k => by rw [if_neg (by simp)]) c
  | true =>
    refine Ev.congr (fun k => by rw [if_pos rfl]) ?_; by_cases h1 : mn a b < 0
    · rw [if_neg (by unfold mn at h1; split at h1 <;> omega)]; exact Ev.congr (fun k => by rw [if_pos h1]) c
    by_cases h2 : mx a b > 2000000
    · rw [if_neg (by unfold mx at h2; split at h2 <;> omega)]; exact Ev.congr (fun k => by rw [if_neg h1, decide_eq_true h2]) c
    rw [if_pos ⟨rfl, ⟨by unfold mn at h1; split at h1 <;> omega, by unfold mn at h1; split at h1 <;> omega⟩, by unfold mx at h2; split at h2 <;> omega, by unfold mx at h2; split at h2 <;> omega⟩]; refine Ev.congr (fun k => by rw [if_neg h1, decide_eq_false h2]) (Ev.step (fun k => by rw [PGn.Ag.j0, if_neg (by simp), Hz, Option.bind_some]) ?_); cases hb : Eo l a with
    | true =>
      show Ev _ (([] : List S63), (5 : Int)); exact Ev.congr (fun k => by rw [if_pos rfl]) (Ev.now _)
    | false =>
      obtain ⟨h, hv, e, hok⟩ := Fp hp; exact Ev.congr (fun k => by rw [if_neg (by simp)]) (by simpa using Ob x h h3 b l (by omega) l.length 0 (-1) [] v (by omega) (by simp) hok hv)
theorem Ld (x : S26) (v : S30) (l : List S63) (a b : Int) : (∀ y ∈ (GU x v l a b).1, y ∈ l) ∧ (GU x v l a b).1.length ≤ l.length := by
  unfold GU; split
  · split
    · exact ⟨by simp, by simp⟩
    · exact ⟨Gx b l v, Gy b l v⟩
  · exact ⟨by simp, by simp⟩
end Go.Proofs.Ytojankgmedccdaa.Pure
end
section
namespace Go.Proofs.Ytojankgmedccdaa.Pure
open Go.RowKit Own PTy Hand PIs RowV Wo
open PAw (drivers_all.f drivers_all.l0 drivers_rising.f drivers_rising.l0)
open PGn
theorem J8 (x : S26) (l : List S63) (hl : l.length ≤ 100) (hv : ∀ y ∈ l, DI x y.f1 = true) : Ev (fun k => drivers_all.f k l) l := by
  have hm := ml; unfold drivers_all.f; have key : ∀ d i, i + d = l.length → Ev (fun k => drivers_all.l0 k (l.take i) l (l.length : Int) (i : Int)) l := by
    intro d; induction d with
    | zero =>
      intro i hi; rw [List.take_of_length_le (by omega)]; exact Ev.step (f := fun _ => some l) (fun k => by rw [drivers_all.l0, if_neg (by omega)]) (Ev.now _)
    | succ d b =>
      intro i hi; have a : i < l.length := by omega
      have hg : AA l (i : Int) = l[i] := Hg a; refine Ev.step (f := fun k => drivers_all.l0 k (l.take (i + 1)) l (l.length : Int) ((i + 1 : Nat) : Int)) (fun k => ?_) (b (i + 1) (by omega)); rw [drivers_all.l0, if_pos (by omega), if_pos (by omega), if_pos (by omega), hg, Es x _ (hv _ (List.getElem_mem a)), Option.bind_some, if_pos (by rw [List.length_take]; omega), CK (n := (i : Int) + 1) (by omega) (by omega), I7, OZ, List.take_succ_eq_append_getElem a]; rfl
  exact Ev.congr (fun k => by rw [if_pos (by omega), if_pos (by omega)]) (by simpa using key l.length 0 (by omega))
def FC : Int → List Int → Bool
  | _, [] => true
  | u, n :: r => !decide (n ≤ u) && (!decide (n > 1000000) && FC n r)
theorem JB : ∀ {u : Int} {l : List Int}, FC u l = true → ∀ n ∈ l, u < n ∧ n ≤ 1000000
  | _, [], _, _, h => by cases h
  | u, a :: r, hr, n, h => by
    simp only [FC, Bool.and_eq_true, Bool.not_eq_true', decide_eq_false_iff_not] at hr; rcases List.mem_cons.mp h with rfl | h
    · exact ⟨by omega, by omega⟩
    · obtain ⟨c, b⟩ := JB hr.2.2 n h; exact ⟨by omega, b⟩
theorem Mw (l : List Int) (hl : l.length ≤ maxLen) : Ev (fun k => drivers_rising.f k l) (FC (-1) l) := by
  have hm := ml; unfold drivers_rising.f; have key : ∀ d i u, i + d = l.length → Ev (fun k => drivers_rising.l0 k u l (l.length : Int) (i : Int)) (FC u (l.drop i)) := by
    intro d; induction d with
    | zero =>
      intro i u hi; rw [List.drop_eq_nil_of_le (by omega)]; exact Ev.step (f := fun _ => some true) (fun k => by rw [drivers_rising.l0, if_neg (by omega)]) (Ev.now _)
    | succ d b =>
      intro i u hi; have a : i < l.length := by omega
      rw [List.drop_eq_getElem_cons a]; have hg := GR l i a; show Ev _ (!decide (l[i] ≤ u) && (!decide (l[i] > 1000000) && FC l[i] (l.drop (i + 1)))); by_cases h1 : l[i] ≤ u
      · rw [decide_eq_true h1]; exact Ev.step (f := fun _ => some false) (fun k => by rw [drivers_rising.l0, if_pos (by omega), if_pos (by omega), if_pos (by omega), hg, if_pos h1]) (Ev.now _)
      by_cases h2 : l[i] > 1000000
      · rw [decide_eq_true h2, decide_eq_false h1]; exact Ev.step (f := fun _ => some false) (fun k => by rw [drivers_rising.l0, if_pos (by omega), if_pos (by omega), if_pos (by omega), hg, if_neg h1, if_pos h2]) (Ev.now _)
      rw [decide_eq_false h1, decide_eq_false h2]; exact Ev.step (fun k => by rw [drivers_rising.l0, if_pos (by omega), if_pos (by omega), if_pos (by omega), hg, if_neg h1, if_neg h2, CK (n := (i : Int) + 1) (by omega) (by omega)] <;> rfl) (b (i + 1) l[i] (by omega))
  exact key l.length 0 (-1) (by omega)
def JC (l : List S63) (t : Int) : Nat := l.findIdx fun c => decide (t ≤ c.f0)
theorem PO (l : List S63) (t : Int) : JC l t ≤ l.length := List.findIdx_le_length
def Kj (l : List S63) (v0 : S30) : Nat → Nat
  | 0 => 0
  | n + 1 => if eqV ((AA l (n : Int)).f1) v0 = true then Kj l v0 n else n + 1
def JJ (now : Int) (vals : List S30) (after : List Int) : List S63 := List.zipWith (fun v n => (⟨now + n, v⟩ : S63)) vals after
def QK (l : List S63) (now : Int) (vals : List S30) (after : List Int) (tr : Bool) : Nat := if tr = true then 0 else Kj l (AB vals 0) (JC l (now + rd after 0))
def Kk (v : S30) (l : List S63) (now : Int) (vals : List S30) (after : List Int) (s f : Nat) : Int × Int × List Int × List S30 × List S63 × Int :=
  if s - f + vals.length > 64 then (0, 0, [], [], [], 3) else (v.f0, v.f1, v.f2, v.f3, (l.take s).drop f ++ JJ now vals after, 0)
def Ep (x : S26) (v : S30) (l : List S63) (now : Int) (vals : List S30) (after : List Int) (tr : Bool) : Int × Int × List Int × List S30 × List S63 × Int :=
  if Fa x v l = true ∧ 0 ≤ now ∧ now ≤ 1000000 ∧ 1 ≤ vals.length ∧ vals.length ≤ 64 ∧ after.length = vals.length ∧ FC (-1) after = true ∧ vals.all (DI x) = true then
    (if Eo l now = true then (0, 0, [], [], [], 5) else Kk v l now vals after (JC l (now + rd after 0)) (QK l now vals after tr))
  else (0, 0, [], [], [], 2)
theorem Mx (x : S26) (v : S30) (now : Int) (h0 : 0 ≤ now) (h1 : now ≤ 1000000) (vals : List S30) (hn : vals.length ≤ 64) (after : List Int) (ha : after.length = vals.length) (hr : FC (-1) after = true) (hall : ∀ y ∈ vals, DI x y = true) : ∀ d i out, i + d = vals.length → out.length ≤ 64 + i →
    Ev (fun k => PGn.AC.l2 k vals (vals.length : Int) (i : Int) now after v.f0 v.f1 v.f2 v.f3 out) (v.f0, v.f1, v.f2, v.f3, out ++ JJ now (vals.drop i) (after.drop i), 0) := by
  have hm := ml; intro d; induction d with
  | zero =>
    intro i out hi ho; rw [List.drop_eq_nil_of_le (show vals.length ≤ i by omega)]; exact Ev.step (f := fun _ => some (v.f0, v.f1, v.f2, v.f3, out, 0)) (fun k => by rw [PGn.AC.l2, if_neg (by omega)]) (by simpa [JJ] using Ev.now _)
  | succ d h =>
    intro i out hi ho; have a : i < vals.length := by omega
    have b : i < after.length := by omega
    have hg := Hf (l := vals) a; have c := GR after i b; have j := JB hr _ (List.getElem_mem b); have e := h (i + 1) (out ++ [⟨now + after[i], vals[i]⟩]) (by omega) (Nat.le_trans (Nat.le_of_eq (List.length_append ..)) (by show out.length + 1 ≤ 64 + (i + 1); omega)); rw [List.drop_eq_getElem_cons a, List.drop_eq_getElem_cons b]; show Ev _ (v.f0, v.f1, v.f2, v.f3, out ++ (⟨now + after[i], vals[i]⟩ :: JJ now (vals.drop (i + 1)) (after.drop (i + 1))), 0); rw [List.append_assoc, List.singleton_append] at e; refine Ev.step (f := fun k => PGn.AC.l2 k vals (vals.length : Int) ((i + 1 : Nat) : Int) now after v.f0 v.f1 v.f2 v.f3 (out ++ [⟨now + after[i], vals[i]⟩])) (fun k => ?_) e; rw [PGn.AC.l2, if_pos (by omega), if_pos (by omega), if_pos (by omega), if_pos (by omega), hg, c, Es x _ (hall _ (List.getElem_mem a)), Option.bind_some, if_pos (by omega), CK (n := (i : Int) + 1) (by omega) (by omega), CK (n := now + after[i]) (by omega) (by omega), I7]; rfl
theorem H5 (x : S26) (v : S30) (hv : DI x v = true) (l : List S63) (hl : l.length ≤ 64) (hok : okL x (-1) l) (now : Int) (h0 : 0 ≤ now) (h1 : now ≤ 1000000) (vals : List S30) (hn : vals.length ≤ 64) (after : List Int) (ha : after.length = vals.length) (hr : FC (-1) after = true) (hall : ∀ y ∈ vals, DI x y = true) (s f : Nat) (c : s ≤ l.length) (j : f ≤ s) : Ev (fun k => PGn.AC.j4 k vals (s : Int) (f : Int) v.f0 v.f1 v.f2 v.f3 l now after) (Kk v l now vals after s f) := by
  have hm := ml; have b : wrap64 (wrap64 ((s : Int) - (f : Int)) + (vals.length : Int)) = ((s - f + vals.length : Nat) : Int) := by rw [CK (n := (s : Int) - (f : Int)) (by omega) (by omega), CK (by omega) (by omega)]; omega
  unfold Kk; by_cases h : s - f + vals.length > 64
  · rw [if_pos h]; exact Ev.step (f := fun _ => some (0, 0, [], [], [], 3)) (fun k => by rw [PGn.AC.j4, b, if_pos (by omega)]) (Ev.now _)
  · rw [if_neg h]; have a : ((l.take s).drop f).length = s - f := by rw [List.length_drop, List.length_take]; omega
    have e := Mx x v now h0 h1 vals hn after ha hr hall vals.length 0 ((l.take s).drop f) (by omega) (by omega); rw [List.drop_zero, List.drop_zero] at e; refine Ev.step (fun k => by rw [PGn.AC.j4, b, if_neg (by omega), Es x v hv, Option.bind_some, if_pos (by omega), if_pos (by omega), if_pos (by omega), show ((s : Int)).toNat = s from rfl, show ((f : Int)).toNat = f from rfl] <;> rfl) (Ev.bind (J8 x _ (by omega) fun y i => (F5 hok y (List.mem_of_mem_take (List.mem_of_mem_drop i))).2.2) e)
theorem M0 (x : S26) (o : scB x = true) (h3 : x.f3.length ≤ maxLen) (v : S30) (hv : DI x v = true) (l : List S63) (hl : l.length ≤ 64) (hok : okL x (-1) l) (now : Int) (h0 : 0 ≤ now) (h1 : now ≤ 1000000) (vals : List S30) (j : 1 ≤ vals.length) (hn : vals.length ≤ 64) (after : List Int) (ha : after.length = vals.length) (hr : FC (-1) after = true) (hall : ∀ y ∈ vals, DI x y = true) (s : Nat) (a : s ≤ l.length) : ∀ n, n ≤ s → Ev (fun k => PGn.AC.l1 k vals (s : Int) (n : Int) x.f0 x.f1 x.f2 x.f3 x.f4 v.f0 v.f1 v.f2 v.f3 l now after) (Kk v l now vals after s (Kj l (AB vals 0) n)) := by
  have hm := ml; intro n; induction n with
  | zero =>
    intro _; exact Ev.step (fun k => by rw [PGn.AC.l1, if_neg (by omega)]) (H5 x v hv l hl hok now h0 h1 vals hn after ha hr hall s 0 a (by omega))
  | succ n r =>
    intro c; have q : wrap64 (((n + 1 : Nat) : Int) - 1) = (n : Int) := by rw [CK (by omega) (by omega)]; omega
    have h4 := (F5 hok _ (JA (l := l) (i := n) (by omega))).2.2; have h := hall _ (Dm (l := vals) (i := 0) (by omega)); refine Ev.step (fun k => by rw [PGn.AC.l1, q, if_pos (by omega), if_pos (by omega), if_pos (by omega), if_pos (by omega)] <;> rfl) (Ev.bind (Ki x o h3 _ _ h4 h) ?_); unfold Kj; by_cases e : eqV ((AA l (n : Int)).f1) (AB vals ((0 : Nat) : Int)) = true
    · have b : eqV ((AA l (n : Int)).f1) (AB vals 0) = true := e; rw [if_pos b]; exact Ev.congr (fun k => by rw [e, if_pos rfl]) (r (by omega))
    · have b : ¬ eqV ((AA l (n : Int)).f1) (AB vals 0) = true := e; rw [if_neg b]; exact Ev.congr (fun k => by rw [if_neg e]) (H5 x v hv l hl hok now h0 h1 vals hn after ha hr hall s (n + 1) a c)
end Go.Proofs.Ytojankgmedccdaa.Pure
end
section
namespace Go.Proofs.Ytojankgmedccdaa.Pure
open Go.RowKit Own PTy Hand PIs RowV Wo
open PGn
def Pe (v : S30) (l : List S63) (now : Int) (vals : List S30) (after : List Int) (tr : Bool) : Int × Int × List Int × List S30 × List S63 × Int :=
  if Eo l now = true then (0, 0, [], [], [], 5) else Kk v l now vals after (JC l (now + rd after 0)) (QK l now vals after tr)
theorem rd0 (after : List Int) (h : 0 < after.length) (hr : FC (-1) after = true) : 0 ≤ rd after 0 ∧ rd after 0 ≤ 1000000 := by
  have e : rd after 0 = after[0] := GR after 0 h; have := JB hr _ (List.getElem_mem h); rw [e]; omega
theorem M3 (x : S26) (c : scB x = true) (h3 : x.f3.length ≤ maxLen) (v : S30) (hv : DI x v = true) (l : List S63) (hl : l.length ≤ 64) (hok : okL x (-1) l) (now : Int) (h0 : 0 ≤ now) (h1 : now ≤ 1000000) (vals : List S30) (b : 1 ≤ vals.length) (hn : vals.length ≤ 64) (after : List Int) (ha : after.length = vals.length) (hr : FC (-1) after = true) (hall : ∀ y ∈ vals, DI x y = true) (tr : Bool) (s : Nat) (a : s ≤ l.length) :
    Ev (fun k => PGn.AC.j2 k vals tr (s : Int) x.f0 x.f1 x.f2 x.f3 x.f4 v.f0 v.f1 v.f2 v.f3 l now after) (Kk v l now vals after s (if tr = true then 0 else Kj l (AB vals 0) s)) := by
  cases tr with
  | true => exact Ev.step (fun k => by rw [PGn.AC.j2, if_pos rfl] <;> rfl) (H5 x v hv l hl hok now h0 h1 vals hn after ha hr hall s 0 a (by omega))
  | false => exact Ev.step (fun k => by rw [PGn.AC.j2, if_neg (by simp)]) (M0 x c h3 v hv l hl hok now h0 h1 vals b hn after ha hr hall s a s (by omega))
theorem M4 (x : S26) (u : scB x = true) (h3 : x.f3.length ≤ maxLen) (v : S30) (hv : DI x v = true) (l : List S63) (hl : l.length ≤ 64) (hok : okL x (-1) l) (now : Int) (h0 : 0 ≤ now) (h1 : now ≤ 1000000) (vals : List S30) (r : 1 ≤ vals.length) (hn : vals.length ≤ 64) (after : List Int) (ha : after.length = vals.length) (hr : FC (-1) after = true) (tr : Bool) :
    ∀ d i, i + d = vals.length → (∀ j, j < i → DI x (AB vals (j : Int)) = true) → Ev (fun k => PGn.AC.l0 k now vals after tr vals (vals.length : Int) (i : Int) x.f0 x.f1 x.f2 x.f3 x.f4 v.f0 v.f1 v.f2 v.f3 l now after) (if vals.all (DI x) = true then Pe v l now vals after tr else (0, 0, [], [], [], 2)) := by
  have hm := ml; intro d; induction d with
  | zero =>
    intro i hi o; have hall : ∀ y ∈ vals, DI x y = true := by
      intro y G; obtain ⟨j, q, z⟩ := List.mem_iff_getElem.mp G; have := o j (by omega); rw [Hf q] at this; exact z ▸ this
    rw [if_pos (List.all_eq_true.mpr hall)]; refine Ev.step (fun k => by rw [PGn.AC.l0, if_neg (by omega), Hz, Option.bind_some]) ?_; unfold Pe; cases Eo l now with
    | true =>
      show Ev _ ((0 : Int), (0 : Int), ([] : List Int), ([] : List S30), ([] : List S63), (5 : Int)); exact Ev.congr (fun k => by rw [if_pos rfl]) (Ev.now _)
    | false =>
      rw [if_neg (by simp)]; obtain ⟨J, r2⟩ := rd0 after (by omega) hr; have D : wrap64 (now + rd after 0) = now + rd after 0 := CK (by omega) (by omega); have w := PO l (now + rd after 0); have e := M3 x u h3 v hv l hl hok now h0 h1 vals r hn after ha hr hall tr (JC l (now + rd after 0)) w; unfold QK; refine Ev.congr (fun k => ?_) e; rw [if_neg (by simp)]; unfold Er.f; rw [if_pos (by omega), Option.bind_some, D]; cases hf : l.findIdx? (fun c => decide (now + rd after 0 ≤ c.f0)) with
      | none =>
        have a : JC l (now + rd after 0) = l.length := List.findIdx?_eq_none_iff_findIdx_eq.mp hf; rw [if_pos (by simp), a]
      | some i =>
        have a : JC l (now + rd after 0) = i := (List.findIdx?_eq_some_iff_findIdx_eq.mp hf).2; rw [if_neg (by simp), a]
  | succ d I =>
    intro i hi o; have b : i < vals.length := by omega
    cases hh : DI x (AB vals (i : Int)) with
    | false =>
      have s : ¬ vals.all (DI x) = true := fun h => by
        have := List.all_eq_true.mp h _ (Dm b); rw [hh] at this; cases this
      rw [if_neg s]; refine Ev.step (fun k => by rw [PGn.AC.l0, if_pos (by omega), if_pos (by omega), if_pos (by omega)]) (Ev.bind (GN x (AB vals (i : Int)) u h3) ?_); rw [hh]; exact Ev.congr (fun k => by rw [if_neg (by simp)]) (Ev.now _)
    | true =>
      refine Ev.step (fun k => by rw [PGn.AC.l0, if_pos (by omega), if_pos (by omega), if_pos (by omega)]) (Ev.bind (GN x (AB vals (i : Int)) u h3) ?_); rw [hh]; refine Ev.congr (fun k => by rw [if_pos rfl, CK (n := (i : Int) + 1) (by omega) (by omega)] <;> rfl) (I (i + 1) (by omega) fun j B => ?_); by_cases e : j = i
      · rw [e]; exact hh
      · exact o j (by omega)
theorem M5 (x : S26) (h3 : x.f3.length ≤ maxLen) (v : S30) (l : List S63) (hl : l.length ≤ maxLen) (now : Int) (vals : List S30) (after : List Int) (c : after.length ≤ maxLen) (tr : Bool) :
    Ev (fun k => PGn.AC.f k x.f0 x.f1 x.f2 x.f3 x.f4 v.f0 v.f1 v.f2 v.f3 l now vals after tr) (Ep x v l now vals after tr) := by
  have hm := ml; have a : Ev (fun k => PGn.AC.j0 k now vals after tr true x.f0 x.f1 x.f2 x.f3 x.f4 v.f0 v.f1 v.f2 v.f3 l now after) (0, 0, [], [], [], 2) := Ev.step (f := fun _ => some (0, 0, [], [], [], 2)) (fun k => by rw [PGn.AC.j0, if_pos rfl]) (Ev.now _); unfold PGn.AC.f Ep; refine Ev.bind (OW x h3 v l hl) ?_; cases hp : Fa x v l with
  | false => rw [if_neg (by simp)]; exact Ev.congr (fun k => by rw [if_neg (by simp)]) a
  | true =>
    refine Ev.congr (fun k => by rw [if_pos rfl]) ?_; by_cases a1 : now < 0
    · rw [if_neg (by omega)]; exact Ev.congr (fun k => by rw [if_pos a1]) a
    by_cases a2 : now > 1000000
    · rw [if_neg (by omega)]; exact Ev.congr (fun k => by rw [if_neg a1, if_pos a2]) a
    by_cases a3 : (vals.length : Int) < 1
    · rw [if_neg (by omega)]; exact Ev.congr (fun k => by rw [if_neg a1, if_neg a2, if_pos a3]) a
    by_cases a4 : (vals.length : Int) > 64
    · rw [if_neg (by omega)]; exact Ev.congr (fun k => by rw [if_neg a1, if_neg a2, if_neg a3, if_pos a4]) a
    by_cases a5 : (after.length : Int) = (vals.length : Int)
    · refine Ev.congr (fun k => by rw [if_neg a1, if_neg a2, if_neg a3, if_neg a4, if_pos a5]) (Ev.bind (Mw after c) ?_); cases hr : FC (-1) after with
      | false => rw [if_neg (by simp)]; exact a
      | true =>
        obtain ⟨i, hv, b, hok⟩ := Fp hp; have e := M4 x i h3 v hv l b hok now (by omega) (by omega) vals (by omega) (by omega) after (by omega) hr tr vals.length 0 (by omega) (by omega); refine Ev.step (f := fun k => PGn.AC.l0 k now vals after tr vals (vals.length : Int) ((0 : Nat) : Int) x.f0 x.f1 x.f2 x.f3 x.f4 v.f0 v.f1 v.f2 v.f3 l now after) (fun k => by rw [PGn.AC.j0, if_neg (by simp)]; rfl) ?_; by_cases hall : vals.all (DI x) = true
        · rw [if_pos hall] at e; rw [if_pos ⟨rfl, by omega, by omega, by omega, by omega, by omega, rfl, hall⟩]; exact e
        · rw [if_neg hall] at e; rw [if_neg (fun h => hall h.2.2.2.2.2.2.2)]; exact e
    · rw [if_neg (by omega)]; exact Ev.congr (fun k => by rw [if_neg a1, if_neg a2, if_neg a3, if_neg a4, if_neg a5]) a
section
variable (x : S26) (v : S30) (now : Int) (h0 : 0 ≤ now) (h1 : now ≤ 1000000) (vals : List S30) (hn : vals.length ≤ 64) (after : List Int) (ha : after.length = vals.length) (hr : FC (-1) after = true) (hall : ∀ y ∈ vals, DI x y = true)
include h0 h1 hn ha hr hall
variable (hv : DI x v = true) (l : List S63) (hl : l.length ≤ 64) (hok : okL x (-1) l)
include hv hl hok
end
theorem Kl (now : Int) : ∀ (vals : List S30) (after : List Int), ∀ y ∈ JJ now vals after, y.f1 ∈ vals
  | [], _, y, h => by simp [JJ] at h
  | a :: r, [], y, h => by simp [JJ] at h
  | a :: r, n :: q, y, h => by
    rcases List.mem_cons.mp (show y ∈ (⟨now + n, a⟩ : S63) :: JJ now r q from h) with rfl | h
    · exact List.mem_cons_self
    · exact List.mem_cons_of_mem _ (Kl now r q y h)
theorem MM (now : Int) (vals : List S30) (after : List Int) : (JJ now vals after).length ≤ vals.length := by unfold JJ; rw [List.length_zipWith]; omega
theorem Le (m : Nat) (x : S26) (v : S30) (hv : smV m v) (l : List S63) (hl : l.length ≤ 100) (c : ∀ y ∈ l, smV m y.f1) (now : Int) (vals : List S30) (hn : vals.length ≤ 100) (a : ∀ y ∈ vals, smV m y) (after : List Int) (tr : Bool) :
    ∃ (u : S30) (r : List S63) (e : Int), Ep x v l now vals after tr = (u.f0, u.f1, u.f2, u.f3, r, e) ∧ smV m u ∧ r.length ≤ 200 ∧ ∀ y ∈ r, smV m y.f1 := by
  have b : smV m ⟨0, 0, [], []⟩ := by cases m with | zero => exact hv.elim | succ m => exact ⟨by simp, by simp, by simp⟩
  unfold Ep; split
  · split
    · exact ⟨⟨0, 0, [], []⟩, [], 5, rfl, b, by simp, by simp⟩
    · unfold Kk; split
      · exact ⟨⟨0, 0, [], []⟩, [], 3, rfl, b, by simp, by simp⟩
      · refine ⟨v, _, 0, rfl, hv, ?_, fun y h => ?_⟩
        · have := MM now vals after; rw [List.length_append, List.length_drop, List.length_take]; omega
        · rcases List.mem_append.mp h with h | h
          · exact c y (List.mem_of_mem_take (List.mem_of_mem_drop h))
          · exact a _ (Kl now vals after y h)
  · exact ⟨⟨0, 0, [], []⟩, [], 2, rfl, b, by simp, by simp⟩
theorem Lf (n : Nat) (x : S26) (c : okT n x) (v : S30) (hv : okV n v) (l : List S63) (hl : ∀ y ∈ l, okV n y.f1) (now : Int) (vals : List S30) (a : ∀ y ∈ vals, okV n y) (after : List Int) (tr : Bool) :
    ExQ (fun k => DC.f k x.f0 x.f1 x.f2 x.f3 x.f4 v.f0 v.f1 v.f2 v.f3 l now vals after tr) (fun t => t = true → l.length ≤ 80 ∧ vals.length ≤ 80 ∧ smV n v ∧ (∀ y ∈ vals, smV n y) ∧ (∀ y ∈ l, smV n y.f1) ∧ after.length ≤ 100) := by
  unfold DC.f; refine ExQ.bind (QJ n x c v hv l hl vals a) fun t b => ?_; cases t with
  | false => exact ExQ.congr (fun k => by rw [if_neg (by simp)]) (ExQ.now false (by simp))
  | true =>
    obtain ⟨e, i, j, o, q⟩ := b rfl; exact ExQ.congr (fun k => by rw [if_pos rfl]) (ExQ.now (decide ((after.length : Int) ≤ 100)) fun h => ⟨e, i, j, o, q, by have := of_decide_eq_true h; omega⟩)
end Go.Proofs.Ytojankgmedccdaa.Pure
end
section
namespace Go.Proofs.Ytojankgmedccdaa.Pure
open Go.RowKit Own PTy Hand PIs RowV Wo
open PAw (drivers_all.f drivers_all.l0 drivers_copied.f logic_isBit.f logic_both.f logic_both.j0 logic_Resolve.f logic_Resolve.l0)
open PGn
def bitsOf (l : List S30) : List Int := l.flatMap fun v => v.f2
def JK (x : S26) (l : List S30) : Int × Int × List Int × List S30 × Int :=
  if scB x = true ∧ l ≠ [] ∧ (l.all (DI x)) = true then
    (if l.length = 1 then ((AB l 0).f0, (AB l 0).f1, (AB l 0).f2, (AB l 0).f3, 0)
     else if x.f0 = 1 then (1, 0, [ML 3 (bitsOf l)], [], 0) else (0, 0, [], [], 22))
  else (0, 0, [], [], 2)
theorem PP (x : S26) (r : scB x = true) (h3 : x.f3.length ≤ maxLen) (l : List S30) (o : l ≠ []) (hl : l.length ≤ 100) : ∀ d i b, i + d = l.length → b.length ≤ i → (∀ z ∈ b, z ≤ 3) → b = bitsOf (l.take i) → (∀ y ∈ l.take i, DI x y = true) →
    Ev (fun k => PGn.Ae.l0 k l b l (l.length : Int) (i : Int) x.f0 x.f1 x.f2 x.f3 x.f4) (JK x l) := by
  have hm := ml; intro d; induction d with
  | zero =>
    intro i b hi D s c j; rw [List.take_of_length_le (by omega)] at c j; have hall : l.all (DI x) = true := List.all_eq_true.mpr j; unfold JK; rw [if_pos ⟨r, o, hall⟩]; have hp : 0 < l.length := List.length_pos_iff.mpr o; by_cases h1 : l.length = 1
    · rw [if_pos h1]; have B : (AB l 0).f2.length ≤ 1 := Gf (j _ (Dm (i := 0) hp)); refine Ev.step (f := fun _ => some ((AB l 0).f0, (AB l 0).f1, (AB l 0).f2, (AB l 0).f3, 0)) (fun k => ?_) (Ev.now _); rw [PGn.Ae.l0, if_neg (by omega), if_pos (by omega), if_pos (by omega)]; unfold drivers_copied.f EA.f; rw [if_pos (by omega)]; rfl
    · rw [if_neg h1]; by_cases k1 : x.f0 = 1
      · rw [if_pos k1]; refine Ev.step (f := fun k => (logic_Resolve.f k b).bind fun a => (some (1, 0, (([a.1] : List Int)), ([] : List (S30)), a.2))) (fun k => ?_) (Ev.bind (Lc b (by omega) s) (by rw [c]; exact Ev.now _)); rw [PGn.Ae.l0, if_neg (by omega), if_neg (by omega), if_pos k1]
      · rw [if_neg k1]; refine Ev.step (f := fun _ => some (0, 0, [], [], 22)) (fun k => ?_) (Ev.now _); rw [PGn.Ae.l0, if_neg (by omega), if_neg (by omega), if_neg k1]
  | succ d G =>
    intro i b hi D s c j; have e : i < l.length := by omega
    cases hh : DI x (AB l (i : Int)) with
    | false =>
      have q : ¬ (scB x = true ∧ l ≠ [] ∧ (l.all (DI x)) = true) := by
        intro h; have := List.all_eq_true.mp h.2.2 _ (Dm e); rw [hh] at this; cases this
      unfold JK; rw [if_neg q]; refine Ev.step (fun k => by rw [PGn.Ae.l0, if_pos (by omega), if_pos (by omega), if_pos (by omega)]) (Ev.bind (GN x (AB l (i : Int)) r h3) ?_); rw [hh]; exact Ev.congr (fun k => by rw [if_neg (by simp)]) (Ev.now _)
    | true =>
      obtain ⟨J, O, L, T, I⟩ := DY x _ hh; have u := Gf hh; have v : l.take (i + 1) = l.take i ++ [AB l (i : Int)] := by rw [Hf e, List.take_succ_eq_append_getElem e]
      refine Ev.step (fun k => by rw [PGn.Ae.l0, if_pos (by omega), if_pos (by omega), if_pos (by omega)]) (Ev.bind (GN x (AB l (i : Int)) r h3) ?_); rw [hh]; refine Ev.congr (fun k => by rw [if_pos rfl, if_pos (by omega), CK (n := (i : Int) + 1) (by omega) (by omega)]; rfl) (G (i + 1) (b ++ (AB l (i : Int)).f2) (by omega) (by rw [List.length_append]; omega) (fun z h => ?_) ?_ (fun y w => ?_))
      · rcases List.mem_append.mp h with h | h
        · exact s z h
        · exact I z h
      · rw [v, c]; simp [bitsOf]
      · rw [v] at w; rcases List.mem_append.mp w with h | h
        · exact j y h
        · rw [List.mem_singleton.mp h]; exact hh
theorem Lg (x : S26) (h3 : x.f3.length ≤ maxLen) (l : List S30) (hl : l.length ≤ 100) : Ev (fun k => PGn.Ae.f k x.f0 x.f1 x.f2 x.f3 x.f4 l) (JK x l) := by
  have hm := ml; have j1 : Ev (fun k => PGn.Ae.j0 k l true x.f0 x.f1 x.f2 x.f3 x.f4) (0, 0, [], [], 2) := Ev.step (f := fun _ => some (0, 0, [], [], 2)) (fun k => by rw [PGn.Ae.j0, if_pos rfl]) (Ev.now _); unfold PGn.Ae.f; have a := Je x h3; refine Ev.bind a ?_; cases hs : scB x with
  | false => exact Ev.congr (fun k => by rw [if_neg (by simp)]) (by unfold JK; rw [if_neg (by simp [hs])]; exact j1)
  | true =>
    by_cases h0 : l.length = 0
    · have e : ((l.length : Int) == 0) = true := by simp [h0]
      exact Ev.congr (fun k => by rw [if_pos rfl, e]) (by unfold JK; rw [if_neg (fun h => h.2.1 (List.length_eq_zero_iff.mp h0))]; exact j1)
    · have e : ((l.length : Int) == 0) = false := beq_eq_false_iff_ne.mpr (by omega); have b : l ≠ [] := fun h => h0 (by rw [h]; rfl); exact Ev.congr (fun k => by rw [if_pos rfl, e]) (Ev.step (fun k => by rw [PGn.Ae.j0, if_neg (by simp), if_pos (by omega), if_pos (by omega)]; rfl) (PP x hs h3 l b hl l.length 0 [] (by omega) (by simp) (by simp) (by simp [bitsOf]) (by simp)))
theorem Od (x : S26) (l : List S30) : (JK x l).2.2.2.1 = [] ∧ (JK x l).2.2.1.length ≤ 1 := by
  unfold JK; by_cases hc : scB x = true ∧ l ≠ [] ∧ (l.all (DI x)) = true
  · rw [if_pos hc]; by_cases h1 : l.length = 1
    · rw [if_pos h1]; have := List.all_eq_true.mp hc.2.2 _ (Dm (i := 0) (by omega)); exact ⟨(DY x _ this).2.1, Gf this⟩
    · rw [if_neg h1]; split <;> simp
  · rw [if_neg hc]; simp
def Lh (v : S30) (l : List S63) (now : Int) : S30 × List S63 × Bool := match l with
  | [] => (v, [], false)
  | c :: r => if c.f0 = now then (c.f1, r, true) else (v, c :: r, false)
def Oe (p : S30 × List S63 × Bool) : Int × Int × List Int × List S30 × List S63 × Bool × Int := (p.1.f0, p.1.f1, p.1.f2, p.1.f3, p.2.1, p.2.2, 0)
def JD (x : S26) (v : S30) (l : List S63) (now : Int) : Int × Int × List Int × List S30 × List S63 × Bool × Int :=
  if Fa x v l = true ∧ 0 ≤ now ∧ now ≤ 2000000 then (if Eo l now = true then (0, 0, [], [], [], false, 5) else Oe (Lh v l now)) else (0, 0, [], [], [], false, 2)
theorem Km (x : S26) (v : S30) (l : List S63) (hl : l.length ≤ 100) (hv : DI x v = true) (a : ∀ y ∈ l, DI x y.f1 = true) : Ev (fun k => Aj.j1 k true v.f0 v.f1 v.f2 v.f3 l) (Oe (v, l, false)) :=
  Ev.step (fun k => by rw [Aj.j1, if_pos rfl, Es x v hv, Option.bind_some]) (Ev.bind (J8 x l hl a) (Ev.now _))
theorem Og (x : S26) (v : S30) (c : S63) (r : List S63) (hl : (c :: r).length ≤ 100) (b : ∀ y ∈ c :: r, DI x y.f1 = true) : Ev (fun k => Aj.j1 k false v.f0 v.f1 v.f2 v.f3 (c :: r)) (Oe (c.f1, r, true)) := by
  have e := b c List.mem_cons_self; refine Ev.step (f := fun k => (drivers_all.f k r).bind fun a => (some (c.f1.f0, c.f1.f1, c.f1.f2, c.f1.f3, a, true, 0))) (fun k => ?_) (Ev.bind (J8 x r (by simp at hl; omega) fun y h => b y (List.mem_cons_of_mem _ h)) (Ev.now _)); rw [Aj.j1, if_neg (by simp), if_pos (by simp), show AA (c :: r) 0 = c from rfl, Es x c.f1 e, Option.bind_some, if_pos (by simp; omega)]; rfl
theorem II (v : S30) (c : S63) (r : List S63) (now : Int) : Lh v (c :: r) now = if c.f0 = now then (c.f1, r, true) else (v, c :: r, false) := rfl
theorem PQ (x : S26) (h3 : x.f3.length ≤ maxLen) (v : S30) (l : List S63) (hl : l.length ≤ maxLen) (now : Int) : Ev (fun k => Aj.f k x.f0 x.f1 x.f2 x.f3 x.f4 v.f0 v.f1 v.f2 v.f3 l now) (JD x v l now) := by
  have a : Ev (fun k => Aj.j0 k now true v.f0 v.f1 v.f2 v.f3 l) (0, 0, [], [], [], false, 2) := Ev.step (f := fun _ => some (0, 0, [], [], [], false, 2)) (fun k => by rw [Aj.j0, if_pos rfl]) (Ev.now _); unfold Aj.f JD; refine Ev.bind (OW x h3 v l hl) ?_; cases hp : Fa x v l with
  | false => rw [if_neg (by simp)]; exact Ev.congr (fun k => by rw [if_neg (by simp)]) a
  | true =>
    refine Ev.congr (fun k => by rw [if_pos rfl]) ?_; by_cases h1 : now < 0
    · rw [if_neg (by omega)]; exact Ev.congr (fun k => by rw [if_pos h1]) a
    by_cases h2 : now > 2000000
    · rw [if_neg (by omega)]; exact Ev.congr (fun k => by rw [if_neg h1, decide_eq_true h2]) a
    rw [if_pos ⟨rfl, by omega, by omega⟩]; refine Ev.congr (fun k => by rw [if_neg h1, decide_eq_false h2]) (Ev.step (fun k => by rw [Aj.j0, if_neg (by simp), Hz, Option.bind_some]) ?_); cases hb : Eo l now with
    | true =>
      show Ev _ ((0 : Int), (0 : Int), ([] : List Int), ([] : List S30), ([] : List S63), false, (5 : Int)); exact Ev.congr (fun k => by rw [if_pos rfl]) (Ev.now _)
    | false =>
      obtain ⟨o, hv, j, hok⟩ := Fp hp; rw [if_neg (by simp)]; have i : ∀ y ∈ l, DI x y.f1 = true := fun y h => (F5 hok y h).2.2; cases l with
      | nil => exact Ev.congr (fun k => by rw [if_neg (by simp), if_pos (by simp)]) (Km x v [] (by simp) hv i)
      | cons c r =>
        by_cases e : c.f0 = now
        · have b := Og x v c r (by omega) i; rw [II, if_pos e]; refine Ev.congr (fun k => ?_) b; rw [if_neg (by simp), if_neg (by simp; omega), if_pos (by simp), show AA (c :: r) 0 = c from rfl, show (c.f0 != now) = false from bne_eq_false_iff_eq.mpr e]
        · have b := Km x v (c :: r) (by omega) hv i; rw [II, if_neg e]; refine Ev.congr (fun k => ?_) b; rw [if_neg (by simp), if_neg (by simp; omega), if_pos (by simp), show AA (c :: r) 0 = c from rfl, show (c.f0 != now) = true from bne_iff_ne.mpr e]
theorem Oh (m : Nat) (x : S26) (v : S30) (hv : smV m v) (l : List S63) (a : ∀ y ∈ l, smV m y.f1) (now : Int) : ∃ (u : S30) (r : List S63) (b : Bool) (e : Int), JD x v l now = (u.f0, u.f1, u.f2, u.f3, r, b, e) ∧ smV m u ∧ r.length ≤ l.length ∧ ∀ y ∈ r, smV m y.f1 := by
  have i : smV m ⟨0, 0, [], []⟩ := by cases m with | zero => exact hv.elim | succ m => exact ⟨by simp, by simp, by simp⟩
  unfold JD; split
  · split
    · exact ⟨⟨0, 0, [], []⟩, [], false, 5, rfl, i, by simp, by simp⟩
    · unfold Lh; cases l with
      | nil => exact ⟨v, [], false, 0, rfl, hv, by simp, by simp⟩
      | cons c r =>
        simp only; split
        · exact ⟨c.f1, r, true, 0, rfl, a c List.mem_cons_self, by simp, fun y h => a y (List.mem_cons_of_mem _ h)⟩
        · exact ⟨v, c :: r, false, 0, rfl, hv, by simp, a⟩
  · exact ⟨⟨0, 0, [], []⟩, [], false, 2, rfl, i, by simp, by simp⟩
theorem Li {α β : Type} (g : α → Nat → Option β) (r : α → β) : ∀ l : List α, (∀ y ∈ l, Ev (g y) (r y)) → ∃ K, ∀ k, K ≤ k → ∀ y ∈ l, g y k = some (r y)
  | [], _ => ⟨0, fun _ _ y h => by cases h⟩
  | a :: l, h => by
    obtain ⟨b, h1⟩ := h a List.mem_cons_self; obtain ⟨c, h2⟩ := Li g r l fun y q => h y (List.mem_cons_of_mem _ q); refine ⟨b + c, fun k e y q => ?_⟩; rcases List.mem_cons.mp q with rfl | q
    · exact h1 k (by omega)
    · exact h2 k (by omega) y q
theorem Kn (x : S26) (v : S30) (l : List S63) (now : Int) (vals : List S30) (after : List Int) (tr : Bool) : (Ep x v l now vals after tr).2.2.2.2.1.length ≤ 64 := by
  unfold Ep; split
  · split
    · simp
    · unfold Kk; split
      · simp
      · have := MM now vals after; show (List.append _ _).length ≤ 64; rw [List.append_eq, List.length_append, List.length_drop, List.length_take]; omega
  · simp
theorem Lj (x : S26) (v : S30) (l : List S63) (now : Int) (vals : List S30) (after : List Int) (tr : Bool) : (v.f3 = [] ∧ (∀ y ∈ l, y.f1.f3 = []) ∧ ∀ y ∈ vals, y.f3 = []) ∨ ((Ep x v l now vals after tr).2.2.2.1 = [] ∧ (Ep x v l now vals after tr).2.2.2.2.1 = []) := by
  unfold Ep; split
  · rename_i h; obtain ⟨_, hv, _, hok⟩ := Fp h.1; exact .inl ⟨(DY x v hv).2.1, fun y q => (DY x _ (F5 hok y q).2.2).2.1, fun y q => (DY x y (List.all_eq_true.mp h.2.2.2.2.2.2.2 y q)).2.1⟩
  · exact .inr ⟨rfl, rfl⟩
theorem Oi (x : S26) (v : S30) (l : List S63) (now : Int) : (v.f3 = [] ∧ ∀ y ∈ l, y.f1.f3 = []) ∨ ((JD x v l now).2.2.2.1 = [] ∧ (JD x v l now).2.2.2.2.1 = []) := by
  unfold JD; split
  · rename_i h; obtain ⟨_, hv, _, hok⟩ := Fp h.1; exact .inl ⟨(DY x v hv).2.1, fun y q => (DY x _ (F5 hok y q).2.2).2.1⟩
  · exact .inr ⟨rfl, rfl⟩
theorem M6 (x : S26) (v : S30) (l : List S63) (a b : Int) : (∀ y ∈ l, y.f1.f3 = []) ∨ (GU x v l a b).1 = [] := by
  unfold GU; split
  · rename_i h; obtain ⟨_, hv, _, hok⟩ := Fp h.1; exact .inl fun y q => (DY x _ (F5 hok y q).2.2).2.1
  · exact .inr rfl
theorem PR (n : Nat) (x : S26) (J : okT n x) (v : S30) (hv : okV n v) (l : List S63) (hl : l.length ≤ maxLen) (hy : ∀ y ∈ l, okV n y.f1) (now : Int) (vals : List S30) (dB : ∀ y ∈ vals, okV n y) (after : List Int) (tr : Bool) :
    ∃ k, (DC.f k x.f0 x.f1 x.f2 x.f3 x.f4 v.f0 v.f1 v.f2 v.f3 l now vals after tr = some false ∧ E5.f k = some true) ∨ ∃ w L q3 q4 q5 q6 r1 r2 r3 r4 r5 r6 r7 s1 s2 v1 v2 v3 v4 v5, Q3 k x v l now vals after tr w L q3 q4 q5 q6 r1 r2 r3 r4 r5 r6 r7 s1 s2 v1 v2 v3 v4 v5 := by
  have hm := ml; have h3 : x.f3.length ≤ maxLen := by
    cases n with
    | zero => exact J.elim
    | succ n => exact J.2.2.2.2.1
  have hz : smV (n + 1) ⟨0, 0, [], []⟩ := ⟨by simp, by simp, by simp⟩; have hn : smV n ⟨0, 0, [], []⟩ := by
    cases n with
    | zero => exact J.elim
    | succ n => exact ⟨by simp, by simp, by simp⟩
  obtain ⟨t, ⟨T, k0⟩, h8⟩ := Lf n x J v hv l hy now vals dB after tr; cases t with
  | false => exact ⟨T, .inl ⟨k0 T (Nat.le_refl _), rfl⟩⟩
  | true =>
    obtain ⟨yC, v80, O, i, z, o⟩ := h8 rfl; obtain ⟨u, r, e, he, su, _, sr⟩ := Le n x v O l (by omega) z now vals (by omega) i after tr; have b := Kn x v l now vals after tr; have q := Lj x v l now vals after tr; obtain ⟨K5, k5⟩ := M5 x h3 v l hl now vals after (by omega) tr; rw [he] at b q k5; obtain ⟨j, r', b', e', cB, G, pC, D⟩ := Oh n x v O l z now; have I := Oi x v l now; obtain ⟨K6, k6⟩ := PQ x h3 v l hl now; rw [cB] at I k6; obtain ⟨⟨s1, s2⟩, hs⟩ : ∃ s, s = GU x v l now 2000000 := ⟨_, rfl⟩; have B := M6 x v l now 2000000; have a := Ld x v l now 2000000; obtain ⟨K7, k7⟩ := Oc x h3 v l hl now 2000000; rw [← hs] at B a k7; obtain ⟨⟨v1, v2, v3, v4, v5⟩, hw⟩ : ∃ s, s = JK x vals := ⟨_, rfl⟩; have c := Od x vals; obtain ⟨K8, k8⟩ := Lg x h3 vals (by omega); rw [← hw] at c k8; obtain ⟨w, L⟩ := c; have w : v4 = [] := w; have L : v3.length ≤ 1 := L; subst w; have sw : smV 1 ⟨v1, v2, v3, []⟩ := ⟨by show v3.length ≤ 9000; omega, by simp, by simp⟩; have ss : ∀ y ∈ s1, smV n y.f1 := fun y h => z y (a.1 y h); have sn : s1.length ≤ l.length := a.2; have rn : r.length ≤ 64 := b; obtain ⟨K1, k1⟩ := J7 n v O l (by omega) z; obtain ⟨K2, k2⟩ := Li (fun y k => Bi.f k y.f0 y.f1 y.f2 y.f3) (fun y => (y.f0, y.f1, y.f2, y.f3)) vals fun y h => Hl n y (i y h); obtain ⟨K3, k3⟩ := Li (fun (y : S30) k => PGn.BH.f k y.f0 y.f1 y.f2 y.f3 y.f0 y.f1 y.f2 y.f3) (fun _ => true) vals fun y h => GQ n y (i y h); obtain ⟨K4, k4⟩ := E9 n v O l hl z; obtain ⟨K9, k9⟩ := J7 n u su r (by omega) sr; obtain ⟨U, eB⟩ := J7 n j G r' (by omega) D; obtain ⟨W, fB⟩ := J7 n ⟨0, 0, [], []⟩ hn s1 (by omega) ss; obtain ⟨X, gB⟩ := Hl 1 _ sw; obtain ⟨Y, hB⟩ := E9 n u su r (by omega) sr; obtain ⟨Z, jB⟩ := E9 n j G r' (by omega) D; obtain ⟨aB, kB⟩ := Mt n s1 (by omega) ss; obtain ⟨bB, lB⟩ := GQ 1 _ sw; refine ⟨T + K1 + K2 + K3 + K4 + K5 + K6 + K7 + K8 + K9 + U + W + X + Y + Z + aB + bB, .inr ⟨u.f0, u.f1, u.f2, u.f3, r, e, j.f0, j.f1, j.f2, j.f3, r', b', e', s1, s2, v1, v2, v3, [], v5, ?_⟩⟩; exact
      { few := k0 _ (by omega), awake := rfl, lv := by omega, la := o, own := k1 _ (by omega), copy := k2 _ (by omega), alike := k3 _ (by omega), same := k4 _ (by omega)
        assign := k5 _ (by omega), assignE := q, take := k6 _ (by omega), takeE := I, shape := k7 _ (by omega), shapeE := B, resolve := k8 _ (by omega), resolveE := rfl
        ownq := k9 _ (by omega), ownr := eB _ (by omega), owns := fB _ (by omega), copyv := gB _ (by omega), sameq := hB _ (by omega), samer := jB _ (by omega), shapes := kB _ (by omega), alikev := lB _ (by omega) }
end Go.Proofs.Ytojankgmedccdaa.Pure
end
section
namespace Go.Proofs.Ytojankgmedccdaa.PGn
open Go.RowKit Own PTy Hand PIs PAw Wo
attribute [local go_sem] BI BJ Ba Bc Ao Ap BL BM
set_option linter.unusedVariables false
set_option linter.unusedSimpArgs false
set_option maxHeartbeats 4000000 in
set_option maxRecDepth 100000 in
theorem PS (k : Nat) (U : Int) (W : Int) (X : ByteArray) (I : Option Addr) (aB : Nat) (j : List ByteArray) (J : Option Addr) (bB : Nat) (l : List (S26)) (Y : Int) (Z : Int) (L : Option Addr) (cB : Nat) (o : List Int) (O : Option Addr) (dB : Nat) (q : List (S30)) (T : Option Addr) (eB : Nat) (r : List (S63)) (v : Int) (s : Option Addr) (B : Nat) (h : List (S30)) (u : Option Addr) (D : Nat) (i : List Int) (z : Bool) (w : World) (hG : Dk w) (uB : Kd.C Kd.string w I j.length j) (lB : j.length ≤ aB) (wB : Kd.C k26 w J l.length l) (mB : l.length ≤ bB) (xB : Kd.C (Kd.int .u8) w L o.length o) (qB : o.length ≤ cB) (yB : Kd.C k30 w O q.length q) (sB : q.length ≤ dB) (zB : Kd.C k63 w T r.length r) (tB : r.length ≤ eB) (jB : Kd.C k30 w s h.length h) (gB : h.length ≤ B) (kB : Kd.C (Kd.int .i64) w u i.length i) (hB : i.length ≤ D) (hf : DC.f k U W X j l Y Z o q r v h i z = some false) (ha : E5.f k = some true) :
    Calls Try.prog 14 #[.agg #[.int .i64 U, .int .i64 W, .string X, .slice I j.length aB, .slice J l.length bB, .int .i64 Y, .int .i64 Z, .slice L o.length cB, .slice O q.length dB, .slice T r.length eB, .int .i64 v, .slice s h.length B, .slice u i.length D, .bool z]] w fun e w' => e = .returned (.bool true) ∧ Below w.heap.size w w' := by
  have HG := Aside0.mk hG; clear hG; have lC := Aside0.mk uB; have gC := Aside0.mk lB; clear uB lB; have mC := Aside0.mk wB; have hC := Aside0.mk mB; clear wB mB; have nC := Aside0.mk xB; have iC := Aside0.mk qB; clear xB qB; have oC := Aside0.mk yB; have jC := Aside0.mk sB; clear yB sB; have pC := Aside0.mk zB; have kC := Aside0.mk tB; clear zB tB; have cC := Aside0.mk jB; have aC := Aside0.mk gB; clear jB gB; have dC := Aside0.mk kB; have bC := Aside0.mk hB; clear kB hB; have A2 := Aside0.mk hf; have tD := Aside0.mk ha; clear hf ha; have HB := Aside0.mk (Below.refl w.heap.size w); go_enter Try.func14, Try.ntmps14; go_wp2_with (first | ((with_reducible refine AU rfl (N := 1) rfl (cs := #[.int .i64 U, .int .i64 W, .string X, .slice I j.length aB, .slice J l.length bB, .int .i64 Y, .int .i64 Z, .slice L o.length cB, .slice O q.length dB, .slice T r.length eB, .int .i64 v, .slice s h.length B, .slice u i.length D, .bool z]) (t := 40) ?hr ?_); (case hr => first | (go_simp; done) | (go_simp; rfl)); intro b hg c fC hb; have a := Aside0.mk (fC); have G := bs (be HB) hg; replace HB := kh HB hb; clear hb fC hg; have yC : c.cell? ⟨b, 0, none⟩ = some (.int .i64 U) := (AO a.out 0).trans rfl; have zC : c.cell? ⟨b, 1, none⟩ = some (.int .i64 W) := (AO a.out 1).trans rfl; have aD : c.cell? ⟨b, 2, none⟩ = some (.string X) := (AO a.out 2).trans rfl; have bD : c.cell? ⟨b, 3, none⟩ = some (.slice I j.length aB) := (AO a.out 3).trans rfl; have cD : c.cell? ⟨b, 4, none⟩ = some (.slice J l.length bB) := (AO a.out 4).trans rfl; have dD : c.cell? ⟨b, 5, none⟩ = some (.int .i64 Y) := (AO a.out 5).trans rfl; have eD : c.cell? ⟨b, 6, none⟩ = some (.int .i64 Z) := (AO a.out 6).trans rfl; have fD : c.cell? ⟨b, 7, none⟩ = some (.slice L o.length cB) := (AO a.out 7).trans rfl; have gD : c.cell? ⟨b, 8, none⟩ = some (.slice O q.length dB) := (AO a.out 8).trans rfl; have hD : c.cell? ⟨b, 9, none⟩ = some (.slice T r.length eB) := (AO a.out 9).trans rfl; have qC : c.cell? ⟨b, 10, none⟩ = some (.int .i64 v) := (AO a.out 10).trans rfl; have rC : c.cell? ⟨b, 11, none⟩ = some (.slice s h.length B) := (AO a.out 11).trans rfl; have sC : c.cell? ⟨b, 12, none⟩ = some (.slice u i.length D) := (AO a.out 12).trans rfl; have tC : c.cell? ⟨b, 13, none⟩ = some (.bool z) := (AO a.out 13).trans rfl; have jD := AJ a.out 0; have kD := AJ a.out 1; have lD := AJ a.out 2; have mD := AJ a.out 3; have nD := AJ a.out 4; have oD := AJ a.out 5; have pD := AJ a.out 6; have qD := AJ a.out 7; have rD := AJ a.out 8; have sD := AJ a.out 9; have uC := AJ a.out 10; have vC := AJ a.out 11; have wC := AJ a.out 12; have xC := AJ a.out 13) | ((with_reducible refine AP (f := 21) rfl ?_); refine goB (some 31) rfl rfl Try.func21 (by kernel_rfl) rfl #[.agg #[.int .i64 U, .int .i64 W, .string X, .slice I j.length aB, .slice J l.length bB, .int .i64 Y, .int .i64 Z, .slice L o.length cB, .slice O q.length dB, .slice T r.length eB, .int .i64 v, .slice s h.length B, .slice u i.length D, .bool z]] rfl rfl (DC.calls (cu lC HB) gC.out (cu mC HB) hC.out (cu nC HB) iC.out (cu oC HB) jC.out (cu pC HB) kC.out (cu cC HB) aC.out (cu dC HB) bC.out A2.out) ?_; intro xD hb; replace a := kb a hb; replace HB := kh1 HB G hb) | ((with_reducible refine AP (f := 16) rfl ?_); refine goB (some 33) rfl rfl Try.func16 (by kernel_rfl) rfl #[] rfl rfl (E5.calls k  true _ (Ad HG.out (be1 HB G)) tD.out) ?_; intro yD hb; replace a := kb a hb; replace HB := kh1 HB G hb)); go_ret; exact ⟨rfl, be1 HB G⟩
end Go.Proofs.Ytojankgmedccdaa.PGn
end
