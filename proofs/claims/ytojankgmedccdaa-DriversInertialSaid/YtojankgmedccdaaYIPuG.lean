/- Lemmas for LawDriversInertial. -/
import Derived.Test.YtojankgmedccdaaYIPuD
import Derived.Test.YtojankgmedccdaaYIRowV
section
namespace Go.Proofs.Ytojankgmedccdaa.Pure
open Go.RowKit Own PTy Hand PIs RowV YtojankgmedccdaaW.PrintWords YtojankgmedccdaaW.PrintLast
def Ex {α : Type} (g : Nat → Option α) : Prop := ∃ t, Ev g t
theorem Ex.now {α : Type} (t : α) : Ex (fun _ => some t) := ⟨t, Ev.now t⟩
theorem Ex.ite {α : Type} {c : Prop} [Decidable c] {g f : Nat → Option α} (h1 : Ex g) (a : Ex f) : Ex (fun k => if c then g k else f k) := by
  by_cases h : c
  · simpa [h] using h1
  · simpa [h] using a
theorem Ex.bind {α β : Type} {g : Nat → Option α} {f : Nat → α → Option β} (h : Ex g) (a : ∀ t, Ex (fun k => f k t)) : Ex (fun k => (g k).bind (f k)) := by
  obtain ⟨t, b⟩ := h
  obtain ⟨r, hr⟩ := a t
  exact ⟨r, Ev.bind b hr⟩
theorem Ex.step {α : Type} {g f : Nat → Option α} (h : ∀ k, g (k + 1) = f k) (a : Ex f) : Ex g := ⟨a.choose, Ev.step h a.choose_spec⟩
theorem Ex.loop {α : Type} {n : Nat} {F : Nat → Int → Option α} (a : Ex (fun k => F k (n : Int))) (h : ∀ i : Nat, i < n → Ex (fun k => F k ((i + 1 : Nat) : Int)) → Ex (fun k => F k (i : Int))) : ∀ i : Nat, i ≤ n → Ex (fun k => F k (i : Int)) := by
  have key : ∀ d i, i + d = n → Ex (fun k => F k (i : Int)) := by
    intro d
    induction d with
    | zero => intro i hi; obtain rfl : i = n := by omega
              exact a
    | succ d b => intro i hi; exact h i (by omega) (b (i + 1) (by omega))
  exact fun i hi => key (n - i) i (by omega)
theorem ml : maxLen = 9223372036854775807 := by decide
theorem Jw {l : List S26} {i : Nat} (h : i < l.length) : BZ l (i : Int) ∈ l := by
  unfold BZ
  rw [List.getD_eq_getElem?_getD, show ((i : Int)).toNat = i from rfl, List.getElem?_eq_getElem h]
  exact List.getElem_mem h
theorem Dw {l : List S30} {i : Nat} (h : i < l.length) : AC l (i : Int) ∈ l := by
  unfold AC
  rw [List.getD_eq_getElem?_getD, show ((i : Int)).toNat = i from rfl, List.getElem?_eq_getElem h]
  exact List.getElem_mem h
theorem IQ (x : S30) : (⟨x.f0, x.f1, x.f2, x.f3⟩ : S30) = x := by cases x; rfl
theorem Jy : ∀ m (v : S30), okV m v → ∀ a, Ex (fun k => CG.f k v.f0 v.f1 v.f2 v.f3 a)
  | 0, _, h, _ => h.elim
  | m + 1, v, ⟨_, _, _, _, h5, h6⟩, a => by
    refine Ex.step (fun k => by rw [CG.f]) ?_
    have key : ∀ i : Nat, i ≤ v.f3.length → ∀ b, Ex (fun k => CG.l0 k b v.f3 (v.f3.length : Int) (i : Int)) := by
      have : ∀ d i, i + d = v.f3.length → ∀ b, Ex (fun k => CG.l0 k b v.f3 (v.f3.length : Int) (i : Int)) := by
        intro d
        induction d with
        | zero =>
          intro i hi b
          refine Ex.step (fun k => by rw [CG.l0]) ?_
          simp only [show ¬ ((i : Int) < (v.f3.length : Int)) by omega, if_false]
          exact Ex.now _
        | succ d c =>
          intro i hi b
          have e := ml
          refine Ex.step (fun k => by rw [CG.l0]) ?_
          simp only [show ((i : Int) < (v.f3.length : Int)) by omega, show 0 ≤ (i : Int) by omega, if_true, CQ (n := (i : Int) + 1) (by omega) (by omega)]
          exact Ex.ite (Ex.now _) (Ex.bind (Jy m _ (h6 _ (Dw (by omega))) _) fun t => c (i + 1) (by omega) t)
      exact fun i hi b => this (v.f3.length - i) i (by omega) b
    exact key 0 (by omega) _
theorem Ou (l : List S30) (c : l.length ≤ maxLen) (m : Nat) (a : ∀ y ∈ l, okV m y) : Ex (fun k => Az.l2 k l (l.length : Int) 0) := by
  have hm := ml
  refine Ex.loop (n := l.length) (F := fun k i => Az.l2 k l (l.length : Int) i) ?_ (fun i hi b => ?_) 0 (by omega)
  · refine Ex.step (fun k => by rw [Az.l2]) ?_
    simp only [show ¬ ((l.length : Int) < (l.length : Int)) by omega, if_false]
    exact Ex.now _
  · refine Ex.step (fun k => by rw [Az.l2]) ?_
    simp only [show ((i : Int) < (l.length : Int)) by omega, show 0 ≤ (i : Int) by omega, if_true, CQ (n := (i : Int) + 1) (by omega) (by omega)]
    exact Ex.bind (Jy m _ (a _ (Dw (by omega))) _) fun t => Ex.ite (Ex.now _) b
theorem Jz : ∀ n (x : S26), okT n x → ∀ (l : List S30) (_ : l.length ≤ maxLen) (m : Nat) (_ : ∀ y ∈ l, okV m y), Ex (fun k => Az.f k x.f0 x.f1 x.f2 x.f3 x.f4 l)
  | 0, _, h, _, _, _, _ => h.elim
  | n + 1, x, ⟨_, _, _, _, h5, h6, h7⟩, l, hl, m, hv => by
    have hm := ml
    have h1 : Ex (fun k => Az.l1 k l x.f4 (x.f4.length : Int) 0) := by
      refine Ex.loop (n := x.f4.length) (F := fun k i => Az.l1 k l x.f4 (x.f4.length : Int) i) ?_ (fun i hi c => ?_) 0 (by omega)
      · refine Ex.step (fun k => by rw [Az.l1]) ?_
        simp only [show ¬ ((x.f4.length : Int) < (x.f4.length : Int)) by omega, if_false]
        exact Ou l hl m hv
      · refine Ex.step (fun k => by rw [Az.l1]) ?_
        simp only [show ((i : Int) < (x.f4.length : Int)) by omega, show 0 ≤ (i : Int) by omega, if_true, CQ (n := (i : Int) + 1) (by omega) (by omega)]
        exact Ex.ite (Ex.now _) (Ex.bind (Jz n _ (h7 _ (Jw (by omega))) [] (by simp) 0 (by simp)) fun t => Ex.ite c (Ex.now _))
    have d : Ex (fun k => Az.l0 k l x.f3 (x.f3.length : Int) 0 x.f0 x.f1 x.f2 x.f3 x.f4) := by
      refine Ex.loop (n := x.f3.length) (F := fun k i => Az.l0 k l x.f3 (x.f3.length : Int) i x.f0 x.f1 x.f2 x.f3 x.f4) ?_ (fun i hi c => ?_) 0 (by omega)
      · refine Ex.step (fun k => by rw [Az.l0]) ?_
        simp only [show ¬ ((x.f3.length : Int) < (x.f3.length : Int)) by omega, if_false]
        exact h1
      · refine Ex.step (fun k => by rw [Az.l0]) ?_
        simp only [show ((i : Int) < (x.f3.length : Int)) by omega, show 0 ≤ (i : Int) by omega, if_true, CQ (n := (i : Int) + 1) (by omega) (by omega)]
        exact Ex.ite (Ex.now _) c
    have a : ∀ b, Ex (fun k => Az.j0 k l b x.f0 x.f1 x.f2 x.f3 x.f4) := fun b =>
      Ex.step (fun k => by rw [Az.j0]) (Ex.ite (Ex.now _) d)
    exact Ex.step (fun k => by rw [Az.f]) (Ex.ite (a _) (Ex.ite (a _) (a _)))
end Go.Proofs.Ytojankgmedccdaa.Pure
end
section
namespace Go.Proofs.Ytojankgmedccdaa.Pure
open Go.RowKit Own PTy Hand PIs RowV YtojankgmedccdaaW.PrintWords YtojankgmedccdaaW.PrintLast
def dup (x : ByteArray) (l : List ByteArray) : Nat → Nat → Bool
  | 0, _ => false
  | d + 1, j => decide ((EQ ByteArray.empty l (j : Int)).toList = x.toList) || dup x l d (j + 1)
theorem Lf (l : List ByteArray) (i j : Nat) (h : j < i) : EQ ByteArray.empty (l.take i) (j : Int) = EQ ByteArray.empty l (j : Int) := by
  unfold EQ
  rw [List.getD_eq_getElem?_getD, List.getD_eq_getElem?_getD, show ((j : Int)).toNat = j from rfl, List.getElem?_take_of_lt h]
theorem J2 (x : ByteArray) (l : List ByteArray) (i : Nat) : ∀ d j, j + d ≤ i → dup x (l.take i) d j = dup x l d j
  | 0, _, _ => rfl
  | d + 1, j, h => by simp only [dup]; rw [Lf l i j (by omega), J2 x l i d (j + 1) (by omega)]
theorem M8 (l : List ByteArray) (x : ByteArray) (c : l.length ≤ maxLen) : ∃ t : Int, Ev (fun k => Fv.f k l x) t ∧ (0 ≤ t ↔ dup x l l.length 0 = true) := by
  have hm := ml
  have key : ∀ d i, i + d = l.length → ∃ t : Int, Ev (fun k => Fv.l0 k l x (l.length : Int) (i : Int)) t ∧ (0 ≤ t ↔ dup x l d i = true) := by
    intro d
    induction d with
    | zero =>
      intro i hi
      refine ⟨-1, Ev.step (f := fun _ => some (-1)) (fun k => ?_) (Ev.now _), by simp [dup]⟩
      simp only [Fv.l0]
      rw [if_neg (by omega)]
    | succ d b =>
      intro i hi
      by_cases h : x.toList = (EQ ByteArray.empty l (i : Int)).toList
      · refine ⟨(i : Int), Ev.step (f := fun _ => some (i : Int)) (fun k => ?_) (Ev.now _), by simp [dup, h]⟩
        simp only [Fv.l0]
        rw [if_pos (by omega), if_pos (by omega), if_pos (by omega), if_pos h]
      · obtain ⟨t, h1, a⟩ := b (i + 1) (by omega)
        refine ⟨t, Ev.step (f := fun k => Fv.l0 k l x (l.length : Int) ((i + 1 : Nat) : Int)) (fun k => ?_) h1, by rw [a]; simp [dup, Ne.symm h]⟩
        simp only [Fv.l0]
        rw [if_pos (by omega), if_pos (by omega), if_pos (by omega), if_neg h, CQ (by omega) (by omega)]
        rfl
  exact key l.length 0 (by omega)
theorem J3 (l : List ByteArray) (x : ByteArray) (i : Nat) (hi : i ≤ l.length) (b : l.length ≤ maxLen) : Ev (fun k => JS.f k (l.take ((i : Int)).toNat) x) (dup x l i 0) := by
  obtain ⟨t, h1, a⟩ := M8 (l.take i) x (by rw [List.length_take]; omega)
  have hn : (l.take i).length = i := by rw [List.length_take]; omega
  rw [hn, J2 x l i i 0 (by omega)] at a
  have e : dup x l i 0 = decide (t ≥ 0) := by
    rw [Bool.eq_iff_iff, ← a]; simp
  rw [e]
  exact Ev.bind (f := fun _ t => some (decide (t ≥ 0))) h1 (Ev.now _)
def IR (l : List ByteArray) : Nat → Nat → Bool
  | 0, _ => true
  | d + 1, i => Ff (EQ ByteArray.empty l (i : Int)) && (!dup (EQ ByteArray.empty l (i : Int)) l i 0 && IR l d (i + 1))
theorem Lg (l : List ByteArray) (h : l.length ≤ maxLen) (a b : Int) (c : ByteArray) (e : List S26) : ∀ d i, i + d = l.length → Ev (fun k => BB.l0 k l (l.length : Int) (i : Int) a b c l e) (IR l d i) := by
  have hm := ml
  intro d
  induction d with
  | zero =>
    intro i hi
    refine Ev.step (f := fun _ => some true) (fun k => ?_) (Ev.now _)
    simp only [BB.l0]
    rw [if_neg (by omega)]
  | succ d j =>
    intro i hi
    refine Ev.step (f := fun k => (BA.f k (EQ ByteArray.empty l (i : Int))).bind fun t => if t = true then ((JS.f k (l.take (i : Int).toNat) (EQ ByteArray.empty l (i : Int))).bind fun g => (if g = true then (some false) else (BB.l0 k l (l.length : Int) ((i + 1 : Nat) : Int) a b c l e))) else some false) (fun k => ?_) ?_
    · simp only [BB.l0]
      rw [if_pos (by omega), if_pos (by omega), if_pos (by omega), CQ (n := (i : Int) + 1) (by omega) (by omega)]
      simp only [show (i : Int) ≤ (l.length : Int) by omega, if_true]
      rfl
    · refine Ev.bind (M5 _) ?_
      simp only [IR]
      cases hn : Ff (EQ ByteArray.empty l (i : Int)) with
      | false => exact Ev.congr (fun k => by rw [if_neg (by simp)]) (by simpa using Ev.now _)
      | true =>
        refine Ev.congr (f := fun k => (JS.f k (l.take (i : Int).toNat) (EQ ByteArray.empty l (i : Int))).bind fun g => (if g = true then (some false) else (BB.l0 k l (l.length : Int) ((i + 1 : Nat) : Int) a b c l e))) (fun k => by rw [if_pos rfl]) ?_
        refine Ev.bind (J3 l _ i (by omega) h) ?_
        cases hd : dup (EQ ByteArray.empty l (i : Int)) l i 0 with
        | true => exact Ev.congr (fun k => by rw [if_pos rfl]) (by simpa using Ev.now _)
        | false => exact Ev.congr (fun k => by rw [if_neg (by simp)]) (by simpa using j (i + 1) (by omega))
def Fw (l : List ByteArray) : Bool := decide (1 ≤ l.length) && decide (l.length ≤ 16) && IR l l.length 0
theorem Lh (x : S26) (g : x.f3.length ≤ maxLen) : Ev (fun k => BB.f k x.f0 x.f1 x.f2 x.f3 x.f4) (G5 x.f2 && Fw x.f3) := by
  have b : Ev (fun k => BB.j0 k true x.f0 x.f1 x.f2 x.f3 x.f4) false := Ev.step (f := fun _ => some false) (fun k => by simp [BB.j0]) (Ev.now _)
  by_cases h0 : x.f2.size = 0
  · have e : G5 x.f2 = false := by unfold G5; simp [h0]
    rw [e]
    exact Ev.congr (fun k => by unfold BB.f; rw [if_pos ((EP _).mpr h0)]) b
  have a : ¬ x.f2.toList = [] := fun h => h0 ((EP _).mp h)
  by_cases h1 : (x.f2.size : Int) > 100
  · have e : G5 x.f2 = false := by unfold G5; simp [show ¬ x.f2.size ≤ 100 by omega]
    rw [e]
    exact Ev.congr (fun k => by unfold BB.f; rw [if_neg a, if_pos h1]) b
  have d : G5 x.f2 = DI (fun c => !GD c) x.f2 x.f2.size 0 := by unfold G5; simp [show x.f2.size ≤ 100 by omega, show 1 ≤ x.f2.size by omega]
  rw [d]
  cases ha : DI (fun c => !GD c) x.f2 x.f2.size 0 with
  | false => exact Ev.congr (fun k => by unfold BB.f; rw [if_neg a, if_neg h1, GX, ha]; simp) b
  | true =>
    by_cases h2 : (x.f3.length : Int) < 1
    · have e : Fw x.f3 = false := by unfold Fw; simp [show ¬ 1 ≤ x.f3.length by omega]
      rw [e]
      exact Ev.congr (fun k => by unfold BB.f; rw [if_neg a, if_neg h1, GX, ha]; simp only [Bool.not_true, Option.bind_some, Bool.false_eq_true, if_false, if_pos h2]) b
    · refine Ev.congr (f := fun k => BB.j0 k (decide ((x.f3.length : Int) > 16)) x.f0 x.f1 x.f2 x.f3 x.f4) (fun k => by unfold BB.f; rw [if_neg a, if_neg h1, GX, ha]; simp only [Bool.not_true, Option.bind_some, Bool.false_eq_true, if_false, if_neg h2]) ?_
      by_cases h3 : (x.f3.length : Int) > 16
      · have e : Fw x.f3 = false := by unfold Fw; simp [show ¬ x.f3.length ≤ 16 by omega]
        rw [e, decide_eq_true h3]
        exact b
      · have e : Fw x.f3 = IR x.f3 x.f3.length 0 := by unfold Fw; simp [show x.f3.length ≤ 16 by omega, show 1 ≤ x.f3.length by omega]
        rw [e, decide_eq_false h3]
        exact Ev.step (f := fun k => BB.l0 k x.f3 (x.f3.length : Int) ((0 : Nat) : Int) x.f0 x.f1 x.f2 x.f3 x.f4) (fun k => by simp [BB.j0]) (by simpa using Lg x.f3 g x.f0 x.f1 x.f2 x.f4 x.f3.length 0 (by omega))
def I8 (x : S26) : Bool := decide (x.f1 = 0) && decide (x.f2.size = 0) && decide (x.f3.length = 0) && decide (x.f4.length = 0)
def I9 (x : S26) : Bool := decide (x.f1 = 0) && decide (x.f4.length = 0) && (G5 x.f2 && Fw x.f3)
def GK (x : S26) : Bool := decide (x.f0 = 1) || decide (x.f0 = 2) || decide (x.f0 = 3)
def scB (x : S26) : Bool := if GK x = true then I8 x else decide (x.f0 = 5) && I9 x
end Go.Proofs.Ytojankgmedccdaa.Pure
end
section
namespace Go.Proofs.Ytojankgmedccdaa.Pure
open Go.RowKit Own PTy Hand PIs RowV YtojankgmedccdaaW.PrintWords YtojankgmedccdaaW.PrintLast
theorem Gh {α : Type} (l : List α) : ((l.length : Int) == 0) = decide (l = []) := by
  rw [Bool.eq_iff_iff]; simp
theorem Ny (x : S26) : Bo.f x.f0 x.f1 x.f2 x.f3 x.f4 false false false = some (I8 x) := by
  unfold Bo.f I8
  by_cases h1 : x.f1 = 0 <;> by_cases h2 : x.f2.size = 0 <;> by_cases h3 : x.f3.length = 0 <;> simp [h1, h2, h3, EP]
  all_goals simp_all [Gh]
theorem LD (x : S26) : Bo.f x.f0 x.f1 x.f2 x.f3 x.f4 false true false = some (decide (x.f1 = 0) && decide (x.f4.length = 0)) := by
  unfold Bo.f
  by_cases h1 : x.f1 = 0 <;> simp [h1, Gh]
theorem Gi (x : S26) : GK x = true ↔ x.f0 = 1 ∨ x.f0 = 2 ∨ x.f0 = 3 := by unfold GK; simp [or_assoc]
theorem Kk (x : S26) (h : GK x = true) : Ev (fun k => BN.f k x.f0 x.f1 x.f2 x.f3 x.f4) (I8 x) := by
  rw [Gi] at h
  refine Ev.step (f := fun k => BN.j0 k x.f0 true x.f0 x.f1 x.f2 x.f3 x.f4) (fun k => ?_) (Ev.step (f := fun _ => some (I8 x)) (fun k => ?_) (Ev.now _))
  · rw [BN.f]
    rcases h with h | h | h <;> rw [h] <;> rfl
  · rw [BN.j0, if_pos rfl, Ny]; rfl
theorem Kl (x : S26) (h : x.f0 = 5) (b : x.f3.length ≤ maxLen) : Ev (fun k => BN.f k x.f0 x.f1 x.f2 x.f3 x.f4) (I9 x) := by
  refine Ev.step (f := fun k => BN.j0 k x.f0 false x.f0 x.f1 x.f2 x.f3 x.f4) (fun k => ?_) ?_
  · rw [BN.f]
    rw [h]; rfl
  by_cases hb : (decide (x.f1 = 0) && decide (x.f4.length = 0)) = true
  · refine Ev.step (f := fun k => (BB.f k x.f0 x.f1 x.f2 x.f3 x.f4).bind fun t145 => (some t145)) (fun k => ?_) ?_
    · rw [BN.j0, if_neg (by simp), if_neg (by omega), if_pos h, LD, hb]
      simp
    · unfold I9
      rw [hb, Bool.true_and]
      exact Ev.bind (Lh x b) (Ev.now _)
  · refine Ev.step (f := fun _ => some (I9 x)) (fun k => ?_) (Ev.now _)
    have a : (decide (x.f1 = 0) && decide (x.f4.length = 0)) = false := by simpa using hb
    unfold I9
    rw [BN.j0, if_neg (by simp), if_neg (by omega), if_pos h, LD, a]
    simp
theorem J4 (x : S26) (c : GK x = true ∨ x.f0 = 5) (b : x.f3.length ≤ maxLen) : Ev (fun k => BN.f k x.f0 x.f1 x.f2 x.f3 x.f4) (scB x) := by
  by_cases hk : GK x = true
  · unfold scB; rw [if_pos hk]; exact Kk x hk
  · have a : x.f0 = 5 := c.resolve_left hk
    unfold scB; rw [if_neg hk, decide_eq_true a, Bool.true_and]; exact Kl x a b
theorem OV (x : S26) (a : ¬ (GK x = true ∨ x.f0 = 5)) : scB x = false := by
  unfold scB
  rw [if_neg (fun h => a (.inl h)), decide_eq_false (fun h => a (.inr h))]
  rfl
theorem Li (x : S26) (a : x.f3.length ≤ maxLen) : Ev (fun k => Bv.f k x.f0 x.f1 x.f2 x.f3 x.f4) (scB x) := by
  by_cases hx : GK x = true ∨ x.f0 = 5
  · refine Ev.congr (f := fun k => (BN.f k x.f0 x.f1 x.f2 x.f3 x.f4).bind fun t => some t) (fun k => ?_) (Ev.bind (J4 x hx a) (Ev.now _))
    unfold Bv.f
    rw [Gi] at hx
    by_cases h1 : x.f0 = 1
    · rw [if_pos h1]
    by_cases h2 : x.f0 = 2
    · rw [if_neg h1, if_pos h2]
    by_cases h3 : x.f0 = 3
    · rw [if_neg h1, if_neg h2, if_pos h3]
    rw [if_neg h1, if_neg h2, if_neg h3, if_pos (by omega)]
  · rw [OV x hx]
    refine Ev.congr (f := fun _ => some false) (fun k => ?_) (Ev.now _)
    unfold Bv.f
    rw [Gi] at hx
    rw [if_neg (by omega), if_neg (by omega), if_neg (by omega), if_neg (by omega)]
end Go.Proofs.Ytojankgmedccdaa.Pure
end
