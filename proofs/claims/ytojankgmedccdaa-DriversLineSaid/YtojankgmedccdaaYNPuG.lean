/- Lemmas. -/
import Derived.Test.YtojankgmedccdaaYNPuD
import Derived.Test.YtojankgmedccdaaYNRowV
section
namespace Go.Proofs.Ytojankgmedccdaa.Pure
open Go.RowKit Own PTy Hand PIs RowV Wo
def Ex {α : Type} (g : Nat → Option α) : Prop := ∃ t, Ev g t
theorem Ex.now {α : Type} (t : α) : Ex (fun _ => some t) := ⟨t, Ev.now t⟩
theorem Ex.ite {α : Type} {c : Prop} [Decidable c] {g f : Nat → Option α} (h1 : Ex g) (a : Ex f) : Ex (fun k => if c then g k else f k) := by
  by_cases h : c
  · simpa [h] using h1
  · simpa [h] using a
theorem Ex.bind {α β : Type} {g : Nat → Option α} {f : Nat → α → Option β} (h : Ex g) (a : ∀ t, Ex (fun k => f k t)) : Ex (fun k => (g k).bind (f k)) := by
  obtain ⟨t, b⟩ := h; obtain ⟨r, hr⟩ := a t; exact ⟨r, Ev.bind b hr⟩
theorem Ex.step {α : Type} {g f : Nat → Option α} (h : ∀ k, g (k + 1) = f k) (a : Ex f) : Ex g := ⟨a.choose, Ev.step h a.choose_spec⟩
theorem Ex.congr {α : Type} {g f : Nat → Option α} (h : ∀ k, g k = f k) (a : Ex f) : Ex g := ⟨a.choose, Ev.congr h a.choose_spec⟩
theorem Ex.loop {α : Type} {n : Nat} {F : Nat → Int → Option α} (a : Ex (fun k => F k (n : Int))) (h : ∀ i : Nat, i < n → Ex (fun k => F k ((i + 1 : Nat) : Int)) → Ex (fun k => F k (i : Int))) : ∀ i : Nat, i ≤ n → Ex (fun k => F k (i : Int)) := by
  have key : ∀ d i, i + d = n → Ex (fun k => F k (i : Int)) := by
    intro d; induction d with
    | zero => intro i hi; obtain rfl : i = n := by omega
              exact a
    | succ d b => intro i hi; exact h i (by omega) (b (i + 1) (by omega))
  exact fun i hi => key (n - i) i (by omega)
theorem ml : maxLen = 9223372036854775807 := by decide
theorem JR {l : List S26} {i : Nat} (h : i < l.length) : Al l (i : Int) ∈ l := by
  unfold Al; rw [List.getD_eq_getElem?_getD, show ((i : Int)).toNat = i from rfl, List.getElem?_eq_getElem h]; exact List.getElem_mem h
theorem FC {l : List S30} {i : Nat} (h : i < l.length) : AB l (i : Int) ∈ l := by
  unfold AB; rw [List.getD_eq_getElem?_getD, show ((i : Int)).toNat = i from rfl, List.getElem?_eq_getElem h]; exact List.getElem_mem h
theorem IC (x : S30) : (⟨x.f0, x.f1, x.f2, x.f3⟩ : S30) = x := by cases x; rfl
theorem KZ : ∀ m (v : S30), okV m v → ∀ a, Ex (fun k => CZ.f k v.f0 v.f1 v.f2 v.f3 a)
  | 0, _, h, _ => h.elim
  | m + 1, v, ⟨_, _, _, _, h5, h6⟩, a => by
    refine Ex.step (fun k => by rw [CZ.f]) ?_; have key : ∀ i : Nat, i ≤ v.f3.length → ∀ b, Ex (fun k => CZ.l0 k b v.f3 (v.f3.length : Int) (i : Int)) := by
      have : ∀ d i, i + d = v.f3.length → ∀ b, Ex (fun k => CZ.l0 k b v.f3 (v.f3.length : Int) (i : Int)) := by
        intro d; induction d with
        | zero =>
          intro i hi b; refine Ex.step (fun k => by rw [CZ.l0]) ?_; simp only [show ¬ ((i : Int) < (v.f3.length : Int)) by omega, if_false]; exact Ex.now _
        | succ d c =>
          intro i hi b; have e := ml; refine Ex.step (fun k => by rw [CZ.l0]) ?_; simp only [show ((i : Int) < (v.f3.length : Int)) by omega, show 0 ≤ (i : Int) by omega, if_true, Bv (n := (i : Int) + 1) (by omega) (by omega)]; exact Ex.ite (Ex.now _) (Ex.bind (KZ m _ (h6 _ (FC (by omega))) _) fun t => c (i + 1) (by omega) t)
      exact fun i hi b => this (v.f3.length - i) i (by omega) b
    exact key 0 (by omega) _
theorem PZ (l : List S30) (c : l.length ≤ maxLen) (m : Nat) (a : ∀ y ∈ l, okV m y) : Ex (fun k => BL.l2 k l (l.length : Int) 0) := by
  have hm := ml; refine Ex.loop (n := l.length) (F := fun k i => BL.l2 k l (l.length : Int) i) ?_ (fun i hi b => ?_) 0 (by omega)
  · refine Ex.step (fun k => by rw [BL.l2]) ?_; simp only [show ¬ ((l.length : Int) < (l.length : Int)) by omega, if_false]; exact Ex.now _
  · refine Ex.step (fun k => by rw [BL.l2]) ?_; simp only [show ((i : Int) < (l.length : Int)) by omega, show 0 ≤ (i : Int) by omega, if_true, Bv (n := (i : Int) + 1) (by omega) (by omega)]; exact Ex.bind (KZ m _ (a _ (FC (by omega))) _) fun t => Ex.ite (Ex.now _) b
theorem Ka : ∀ n (x : S26), okT n x → ∀ (l : List S30) (_ : l.length ≤ maxLen) (m : Nat) (_ : ∀ y ∈ l, okV m y), Ex (fun k => BL.f k x.f0 x.f1 x.f2 x.f3 x.f4 l)
  | 0, _, h, _, _, _, _ => h.elim
  | n + 1, x, ⟨_, _, _, _, h5, h6, h7⟩, l, hl, m, hv => by
    have hm := ml; have h1 : Ex (fun k => BL.l1 k l x.f4 (x.f4.length : Int) 0) := by
      refine Ex.loop (n := x.f4.length) (F := fun k i => BL.l1 k l x.f4 (x.f4.length : Int) i) ?_ (fun i hi c => ?_) 0 (by omega)
      · refine Ex.step (fun k => by rw [BL.l1]) ?_; simp only [show ¬ ((x.f4.length : Int) < (x.f4.length : Int)) by omega, if_false]; exact PZ l hl m hv
      · refine Ex.step (fun k => by rw [BL.l1]) ?_; simp only [show ((i : Int) < (x.f4.length : Int)) by omega, show 0 ≤ (i : Int) by omega, if_true, Bv (n := (i : Int) + 1) (by omega) (by omega)]; exact Ex.ite (Ex.now _) (Ex.bind (Ka n _ (h7 _ (JR (by omega))) [] (by simp) 0 (by simp)) fun t => Ex.ite c (Ex.now _))
    have d : Ex (fun k => BL.l0 k l x.f3 (x.f3.length : Int) 0 x.f0 x.f1 x.f2 x.f3 x.f4) := by
      refine Ex.loop (n := x.f3.length) (F := fun k i => BL.l0 k l x.f3 (x.f3.length : Int) i x.f0 x.f1 x.f2 x.f3 x.f4) ?_ (fun i hi c => ?_) 0 (by omega)
      · refine Ex.step (fun k => by rw [BL.l0]) ?_; simp only [show ¬ ((x.f3.length : Int) < (x.f3.length : Int)) by omega, if_false]; exact h1
      · refine Ex.step (fun k => by rw [BL.l0]) ?_; simp only [show ((i : Int) < (x.f3.length : Int)) by omega, show 0 ≤ (i : Int) by omega, if_true, Bv (n := (i : Int) + 1) (by omega) (by omega)]; exact Ex.ite (Ex.now _) c
    have a : ∀ b, Ex (fun k => BL.j0 k l b x.f0 x.f1 x.f2 x.f3 x.f4) := fun b =>
      Ex.step (fun k => by rw [BL.j0]) (Ex.ite (Ex.now _) d)
    exact Ex.step (fun k => by rw [BL.f]) (Ex.ite (a _) (Ex.ite (a _) (a _)))
end Go.Proofs.Ytojankgmedccdaa.Pure
end
section
namespace Go.Proofs.Ytojankgmedccdaa.Pure
open Go.RowKit Own PTy Hand PIs RowV Wo
def dup (x : ByteArray) (l : List ByteArray) : Nat → Nat → Bool
  | 0, _ => false
  | d + 1, j => decide ((EI ByteArray.empty l (j : Int)).toList = x.toList) || dup x l d (j + 1)
theorem MR (l : List ByteArray) (i j : Nat) (h : j < i) : EI ByteArray.empty (l.take i) (j : Int) = EI ByteArray.empty l (j : Int) := by
  unfold EI; rw [List.getD_eq_getElem?_getD, List.getD_eq_getElem?_getD, show ((j : Int)).toNat = j from rfl, List.getElem?_take_of_lt h]
theorem Kb (x : ByteArray) (l : List ByteArray) (i : Nat) : ∀ d j, j + d ≤ i → dup x (l.take i) d j = dup x l d j
  | 0, _, _ => rfl
  | d + 1, j, h => by simp only [dup]; rw [MR l i j (by omega), Kb x l i d (j + 1) (by omega)]
theorem Nh (l : List ByteArray) (x : ByteArray) (c : l.length ≤ maxLen) : ∃ t : Int, Ev (fun k => Gl.f k l x) t ∧ (0 ≤ t ↔ dup x l l.length 0 = true) := by
  have hm := ml; have key : ∀ d i, i + d = l.length → ∃ t : Int, Ev (fun k => Gl.l0 k l x (l.length : Int) (i : Int)) t ∧ (0 ≤ t ↔ dup x l d i = true) := by
    intro d; induction d with
    | zero =>
      intro i hi; refine ⟨-1, Ev.step (f := fun _ => some (-1)) (fun k => ?_) (Ev.now _), by simp [dup]⟩; simp only [Gl.l0]; rw [if_neg (by omega)]
    | succ d b =>
      intro i hi; by_cases h : x.toList = (EI ByteArray.empty l (i : Int)).toList
      · refine ⟨(i : Int), Ev.step (f := fun _ => some (i : Int)) (fun k => ?_) (Ev.now _), by simp [dup, h]⟩; simp only [Gl.l0]; rw [if_pos (by omega), if_pos (by omega), if_pos (by omega), if_pos h]
      · obtain ⟨t, h1, a⟩ := b (i + 1) (by omega); refine ⟨t, Ev.step (f := fun k => Gl.l0 k l x (l.length : Int) ((i + 1 : Nat) : Int)) (fun k => ?_) h1, by rw [a]; simp [dup, Ne.symm h]⟩; simp only [Gl.l0]; rw [if_pos (by omega), if_pos (by omega), if_pos (by omega), if_neg h, Bv (by omega) (by omega)]; rfl
  exact key l.length 0 (by omega)
theorem Ke (l : List ByteArray) (x : ByteArray) (i : Nat) (hi : i ≤ l.length) (b : l.length ≤ maxLen) : Ev (fun k => KC.f k (l.take ((i : Int)).toNat) x) (dup x l i 0) := by
  obtain ⟨t, h1, a⟩ := Nh (l.take i) x (by rw [List.length_take]; omega); have hn : (l.take i).length = i := by rw [List.length_take]; omega
  rw [hn, Kb x l i i 0 (by omega)] at a; have e : dup x l i 0 = decide (t ≥ 0) := by
    rw [Bool.eq_iff_iff, ← a]; simp
  rw [e]; exact Ev.bind (f := fun _ t => some (decide (t ≥ 0))) h1 (Ev.now _)
def Gq (l : List ByteArray) : Nat → Nat → Bool
  | 0, _ => true
  | d + 1, i => EH (EI ByteArray.empty l (i : Int)) && (!dup (EI ByteArray.empty l (i : Int)) l i 0 && Gq l d (i + 1))
theorem MS (l : List ByteArray) (h : l.length ≤ maxLen) (a b : Int) (c : ByteArray) (e : List S26) : ∀ d i, i + d = l.length → Ev (fun k => BN.l0 k l (l.length : Int) (i : Int) a b c l e) (Gq l d i) := by
  have hm := ml; intro d; induction d with
  | zero =>
    intro i hi; refine Ev.step (f := fun _ => some true) (fun k => ?_) (Ev.now _); simp only [BN.l0]; rw [if_neg (by omega)]
  | succ d j =>
    intro i hi; refine Ev.step (f := fun k => (BM.f k (EI ByteArray.empty l (i : Int))).bind fun t => if t = true then ((KC.f k (l.take (i : Int).toNat) (EI ByteArray.empty l (i : Int))).bind fun g => (if g = true then (some false) else (BN.l0 k l (l.length : Int) ((i + 1 : Nat) : Int) a b c l e))) else some false) (fun k => ?_) ?_
    · simp only [BN.l0]; rw [if_pos (by omega), if_pos (by omega), if_pos (by omega), Bv (n := (i : Int) + 1) (by omega) (by omega)]; simp only [show (i : Int) ≤ (l.length : Int) by omega, if_true]; rfl
    · refine Ev.bind (Nb _) ?_; simp only [Gq]; cases hn : EH (EI ByteArray.empty l (i : Int)) with
      | false => exact Ev.congr (fun k => by rw [if_neg (by simp)]) (by simpa using Ev.now _)
      | true =>
        refine Ev.congr (f := fun k => (KC.f k (l.take (i : Int).toNat) (EI ByteArray.empty l (i : Int))).bind fun g => (if g = true then (some false) else (BN.l0 k l (l.length : Int) ((i + 1 : Nat) : Int) a b c l e))) (fun k => by rw [if_pos rfl]) ?_; refine Ev.bind (Ke l _ i (by omega) h) ?_; cases hd : dup (EI ByteArray.empty l (i : Int)) l i 0 with
        | true => exact Ev.congr (fun k => by rw [if_pos rfl]) (by simpa using Ev.now _)
        | false => exact Ev.congr (fun k => by rw [if_neg (by simp)]) (by simpa using j (i + 1) (by omega))
theorem Nk (l : List ByteArray) (p : l.length ≤ maxLen) (a b : Int) (c : ByteArray) (e : List S26) (x : ByteArray) (i : Nat) (hi : i < l.length) (R : Bool) (g : Ev (fun k => Ah.l0 k l (l.length : Int) ((i + 1 : Nat) : Int) a b c l e) R) :
    ∀ d j, j + d = i → Ev (fun k => Ah.l1 k x l (l.length : Int) (i : Int) (i : Int) (j : Int) a b c l e) (!dup x l d j && R) := by
  have hm := ml; intro d; induction d with
  | zero =>
    intro j m; refine Ev.step (f := fun k => Ah.l0 k l (l.length : Int) ((i + 1 : Nat) : Int) a b c l e) (fun k => ?_) (by simpa [dup] using g); simp only [Ah.l1]; rw [if_neg (by omega), Bv (n := (i : Int) + 1) (by omega) (by omega)]; rfl
  | succ d o =>
    intro j m; by_cases h : (EI ByteArray.empty l (j : Int)).toList = x.toList
    · refine Ev.step (f := fun _ => some false) (fun k => ?_) (by simpa [dup, h] using Ev.now _); simp only [Ah.l1]; rw [if_pos (by omega), if_pos (by omega), if_pos (by omega), if_pos h]
    · refine Ev.step (f := fun k => Ah.l1 k x l (l.length : Int) (i : Int) (i : Int) ((j + 1 : Nat) : Int) a b c l e) (fun k => ?_) (by simpa [dup, h] using o (j + 1) (by omega)); simp only [Ah.l1]; rw [if_pos (by omega), if_pos (by omega), if_pos (by omega), if_neg h, Bv (n := (j : Int) + 1) (by omega) (by omega)]; rfl
theorem Nl (l : List ByteArray) (g : l.length ≤ maxLen) (a b : Int) (c : ByteArray) (e : List S26) : ∀ d i, i + d = l.length → Ev (fun k => Ah.l0 k l (l.length : Int) (i : Int) a b c l e) (Gq l d i) := by
  have hm := ml; intro d; induction d with
  | zero =>
    intro i hi; refine Ev.step (f := fun _ => some true) (fun k => ?_) (Ev.now _); simp only [Ah.l0]; rw [if_neg (by omega)]
  | succ d h =>
    intro i hi; refine Ev.step (f := fun k => (Dp.f k (EI ByteArray.empty l (i : Int))).bind fun t => if t = true then (Ah.l1 k (EI ByteArray.empty l (i : Int)) l (l.length : Int) (i : Int) (i : Int) ((0 : Nat) : Int) a b c l e) else some false) (fun k => ?_) ?_
    · simp only [Ah.l0]; rw [if_pos (by omega), if_pos (by omega), if_pos (by omega)]; rfl
    · refine Ev.bind (Nc _) ?_; simp only [Gq]; cases hn : EH (EI ByteArray.empty l (i : Int)) with
      | false => exact Ev.congr (fun k => by rw [if_neg (by simp)]) (by simpa using Ev.now _)
      | true => exact Ev.congr (fun k => by rw [if_pos rfl]) (by simpa using Nk l g a b c e _ i (by omega) _ (h (i + 1) (by omega)) i 0 (by omega))
def GV (l : List ByteArray) : Bool := decide (1 ≤ l.length) && decide (l.length ≤ 16) && Gq l l.length 0
theorem MU (x : S26) (g : x.f3.length ≤ maxLen) : Ev (fun k => BN.f k x.f0 x.f1 x.f2 x.f3 x.f4) (Hf x.f2 && GV x.f3) := by
  have b : Ev (fun k => BN.j0 k true x.f0 x.f1 x.f2 x.f3 x.f4) false := Ev.step (f := fun _ => some false) (fun k => by simp [BN.j0]) (Ev.now _); by_cases h0 : x.f2.size = 0
  · have e : Hf x.f2 = false := by unfold Hf; simp [h0]
    rw [e]; exact Ev.congr (fun k => by unfold BN.f; rw [if_pos ((ER _).mpr h0)]) b
  have a : ¬ x.f2.toList = [] := fun h => h0 ((ER _).mp h); by_cases h1 : (x.f2.size : Int) > 100
  · have e : Hf x.f2 = false := by unfold Hf; simp [show ¬ x.f2.size ≤ 100 by omega]
    rw [e]; exact Ev.congr (fun k => by unfold BN.f; rw [if_neg a, if_pos h1]) b
  have d : Hf x.f2 = Cj (fun c => !GH c) x.f2 x.f2.size 0 := by unfold Hf; simp [show x.f2.size ≤ 100 by omega, show 1 ≤ x.f2.size by omega]
  rw [d]; cases ha : Cj (fun c => !GH c) x.f2 x.f2.size 0 with
  | false => exact Ev.congr (fun k => by unfold BN.f; rw [if_neg a, if_neg h1, Hr, ha]; simp) b
  | true =>
    by_cases h2 : (x.f3.length : Int) < 1
    · have e : GV x.f3 = false := by unfold GV; simp [show ¬ 1 ≤ x.f3.length by omega]
      rw [e]; exact Ev.congr (fun k => by unfold BN.f; rw [if_neg a, if_neg h1, Hr, ha]; simp only [Bool.not_true, Option.bind_some, Bool.false_eq_true, if_false, if_pos h2]) b
    · refine Ev.congr (f := fun k => BN.j0 k (decide ((x.f3.length : Int) > 16)) x.f0 x.f1 x.f2 x.f3 x.f4) (fun k => by unfold BN.f; rw [if_neg a, if_neg h1, Hr, ha]; simp only [Bool.not_true, Option.bind_some, Bool.false_eq_true, if_false, if_neg h2]) ?_; by_cases h3 : (x.f3.length : Int) > 16
      · have e : GV x.f3 = false := by unfold GV; simp [show ¬ x.f3.length ≤ 16 by omega]
        rw [e, decide_eq_true h3]; exact b
      · have e : GV x.f3 = Gq x.f3 x.f3.length 0 := by unfold GV; simp [show x.f3.length ≤ 16 by omega, show 1 ≤ x.f3.length by omega]
        rw [e, decide_eq_false h3]; exact Ev.step (f := fun k => BN.l0 k x.f3 (x.f3.length : Int) ((0 : Nat) : Int) x.f0 x.f1 x.f2 x.f3 x.f4) (fun k => by simp [BN.j0]) (by simpa using MS x.f3 g x.f0 x.f1 x.f2 x.f4 x.f3.length 0 (by omega))
def IE (x : S26) : Bool := decide (x.f1 = 0) && decide (x.f2.size = 0) && decide (x.f3.length = 0) && decide (x.f4.length = 0)
def GZ (x : S26) : Bool := decide (x.f1 = 0) && decide (x.f4.length = 0) && (Hf x.f2 && GV x.f3)
def FE (x : S26) : Bool := decide (x.f0 = 1) || decide (x.f0 = 2) || decide (x.f0 = 3)
def scB (x : S26) : Bool := if FE x = true then IE x else decide (x.f0 = 5) && GZ x
end Go.Proofs.Ytojankgmedccdaa.Pure
end
section
namespace Go.Proofs.Ytojankgmedccdaa.Pure
open Go.RowKit Own PTy Hand PIs RowV Wo
theorem Ei {α : Type} (l : List α) : ((l.length : Int) == 0) = decide (l = []) := by
  rw [Bool.eq_iff_iff]; simp
theorem Ou (x : S26) : CE.f x.f0 x.f1 x.f2 x.f3 x.f4 false false false = some (IE x) := by
  unfold CE.f IE; by_cases h1 : x.f1 = 0 <;> by_cases h2 : x.f2.size = 0 <;> by_cases h3 : x.f3.length = 0 <;> simp [h1, h2, h3, ER]; all_goals simp_all [Ei]
theorem Ls (x : S26) : CE.f x.f0 x.f1 x.f2 x.f3 x.f4 false true false = some (decide (x.f1 = 0) && decide (x.f4.length = 0)) := by
  unfold CE.f; by_cases h1 : x.f1 = 0 <;> simp [h1, Ei]
theorem ES (x : S26) : FE x = true ↔ x.f0 = 1 ∨ x.f0 = 2 ∨ x.f0 = 3 := by unfold FE; simp [or_assoc]
theorem LP (x : S26) (h : FE x = true) : Ev (fun k => Bc.f k x.f0 x.f1 x.f2 x.f3 x.f4) (IE x) := by
  rw [ES] at h; refine Ev.step (f := fun k => Bc.j0 k x.f0 true x.f0 x.f1 x.f2 x.f3 x.f4) (fun k => ?_) (Ev.step (f := fun _ => some (IE x)) (fun k => ?_) (Ev.now _))
  · rw [Bc.f]; rcases h with h | h | h <;> rw [h] <;> rfl
  · rw [Bc.j0, if_pos rfl, Ou]; rfl
theorem LQ (x : S26) (h : x.f0 = 5) (b : x.f3.length ≤ maxLen) : Ev (fun k => Bc.f k x.f0 x.f1 x.f2 x.f3 x.f4) (GZ x) := by
  refine Ev.step (f := fun k => Bc.j0 k x.f0 false x.f0 x.f1 x.f2 x.f3 x.f4) (fun k => ?_) ?_
  · rw [Bc.f]; rw [h]; rfl
  by_cases hb : (decide (x.f1 = 0) && decide (x.f4.length = 0)) = true
  · refine Ev.step (f := fun k => (BN.f k x.f0 x.f1 x.f2 x.f3 x.f4).bind fun t145 => (some t145)) (fun k => ?_) ?_
    · rw [Bc.j0, if_neg (by simp), if_neg (by omega), if_pos h, Ls, hb]; simp
    · unfold GZ; rw [hb, Bool.true_and]; exact Ev.bind (MU x b) (Ev.now _)
  · refine Ev.step (f := fun _ => some (GZ x)) (fun k => ?_) (Ev.now _); have a : (decide (x.f1 = 0) && decide (x.f4.length = 0)) = false := by simpa using hb
    unfold GZ; rw [Bc.j0, if_neg (by simp), if_neg (by omega), if_pos h, Ls, a]; simp
theorem IY (x : S26) : ∀ k, Ah.f (k + 1) x.f0 x.f1 x.f2 x.f3 x.f4 = Ah.j0 k (decide (x.f2.size = 0) && decide (x.f3.length = 0)) x.f0 x.f1 x.f2 x.f3 x.f4 := by
  intro k; rw [Ah.f]; by_cases h : x.f2.size = 0
  · rw [if_pos ((ER _).mpr h), decide_eq_true h]; congr 1; simp only [Bool.true_and]; rw [Bool.eq_iff_iff]; simp
  · rw [if_neg (fun e => h ((ER _).mp e)), decide_eq_false h]; rfl
theorem Kg (x : S26) (h : FE x = true) : Ev (fun k => Ah.f k x.f0 x.f1 x.f2 x.f3 x.f4) (IE x) := by
  rw [ES] at h; refine Ev.step (IY x) ?_; refine Ev.step (f := fun k => Ah.j1 k (decide (x.f2.size = 0) && decide (x.f3.length = 0)) x.f0 true x.f0 x.f1 x.f2 x.f3 x.f4) (fun k => ?_) (Ev.step (f := fun _ => some (IE x)) (fun k => ?_) (Ev.now _))
  · rw [Ah.j0]; rcases h with h | h | h <;> rw [h] <;> rfl
  · rw [Ah.j1, if_pos rfl]; unfold IE; by_cases h1 : x.f1 = 0 <;> by_cases h2 : x.f2.size = 0 <;> by_cases h3 : x.f3.length = 0 <;> simp [h1, h2, h3]; all_goals simp_all [Ei]
theorem Nn (x : S26) (b : Bool) (h : ¬ FE x = true) : ∀ k, Ah.j0 (k + 1) b x.f0 x.f1 x.f2 x.f3 x.f4 = Ah.j1 k b x.f0 false x.f0 x.f1 x.f2 x.f3 x.f4 := by
  intro k; rw [ES] at h; have h1 : ¬ x.f0 = 1 := fun e => h (.inl e); have a : ¬ x.f0 = 2 := fun e => h (.inr (.inl e)); have c : (x.f0 == 3) = false := beq_eq_false_iff_ne.mpr fun e => h (.inr (.inr e)); rw [Ah.j0, if_neg h1, if_neg a, c]
theorem Np (x : S26) (b : Bool) (a : x.f3.length ≤ maxLen) : Ev (fun k => Ah.j2 k b x.f0 x.f1 x.f2 x.f3 x.f4) (!b && Gq x.f3 x.f3.length 0) := by
  cases b with
  | true => exact Ev.step (f := fun _ => some false) (fun k => by rw [Ah.j2, if_pos rfl]) (Ev.now _)
  | false => exact Ev.step (f := fun k => Ah.l0 k x.f3 (x.f3.length : Int) ((0 : Nat) : Int) x.f0 x.f1 x.f2 x.f3 x.f4) (fun k => by rw [Ah.j2, if_neg (by simp)]; rfl) (by simpa using Nl x.f3 a x.f0 x.f1 x.f2 x.f4 x.f3.length 0 (by omega))
theorem Kh (x : S26) (h : x.f0 = 5) (g : x.f2.size ≤ maxLen) (c : x.f3.length ≤ maxLen) : Ev (fun k => Ah.f k x.f0 x.f1 x.f2 x.f3 x.f4) (GZ x) := by
  have d : ¬ FE x = true := by rw [ES]; omega
  refine Ev.step (IY x) (Ev.step (Nn x _ d) ?_); refine Ev.step (f := fun k => if x.f1 = 0 then (if (x.f4.length : Int) = 0 then ((CB.f k x.f2).bind fun a => (if a = true then (if (x.f3.length : Int) < 1 then (Ah.j2 k true x.f0 x.f1 x.f2 x.f3 x.f4) else (Ah.j2 k (decide ((x.f3.length : Int) > 16)) x.f0 x.f1 x.f2 x.f3 x.f4)) else (Ah.j2 k true x.f0 x.f1 x.f2 x.f3 x.f4))) else (Ah.j2 k true x.f0 x.f1 x.f2 x.f3 x.f4)) else (Ah.j2 k true x.f0 x.f1 x.f2 x.f3 x.f4)) (fun k => ?_) ?_
  · rw [Ah.j1, if_neg (by simp), if_neg (by omega), if_neg (by omega), if_pos h]
  have b := Np x true c; simp only [Bool.not_true, Bool.false_and] at b; by_cases h1 : x.f1 = 0
  · by_cases h4 : x.f4.length = 0
    · refine Ev.congr (f := fun k => (CB.f k x.f2).bind fun a => (if a = true then (if (x.f3.length : Int) < 1 then (Ah.j2 k true x.f0 x.f1 x.f2 x.f3 x.f4) else (Ah.j2 k (decide ((x.f3.length : Int) > 16)) x.f0 x.f1 x.f2 x.f3 x.f4)) else (Ah.j2 k true x.f0 x.f1 x.f2 x.f3 x.f4))) (fun k => by rw [if_pos h1, if_pos (by omega)]) (Ev.bind (Oq x.f2 g) ?_); unfold GZ GV; rw [decide_eq_true h1, decide_eq_true h4]; cases hp : Hf x.f2 with
      | false => exact Ev.congr (fun k => by rw [if_neg (by simp)]) (by simpa using b)
      | true =>
        by_cases h2 : (x.f3.length : Int) < 1
        · rw [decide_eq_false (show ¬ 1 ≤ x.f3.length by omega)]; exact Ev.congr (fun k => by rw [if_pos rfl, if_pos h2]) (by simpa using b)
        · rw [decide_eq_true (show 1 ≤ x.f3.length by omega)]; refine Ev.congr (f := fun k => Ah.j2 k (decide ((x.f3.length : Int) > 16)) x.f0 x.f1 x.f2 x.f3 x.f4) (fun k => by rw [if_pos rfl, if_neg h2]) ?_; have := Np x (decide ((x.f3.length : Int) > 16)) c; have e : (!decide ((x.f3.length : Int) > 16)) = decide (x.f3.length ≤ 16) := by rw [Bool.eq_iff_iff]; simp; omega
          rw [e] at this; simpa using this
    · have e : GZ x = false := by unfold GZ; simp [h4]
      rw [e]; exact Ev.congr (fun k => by rw [if_pos h1, if_neg (by omega)]) b
  · have e : GZ x = false := by unfold GZ; simp [h1]
    rw [e]; exact Ev.congr (fun k => by rw [if_neg h1]) b
theorem Nq : ∀ n (x : S26), okT n x → Ex (fun k => Ah.f k x.f0 x.f1 x.f2 x.f3 x.f4)
  | 0, _, h => h.elim
  | n + 1, x, ⟨_, _, hs, _, hl, _, h7⟩ => by
    by_cases hk : FE x = true
    · exact ⟨_, Kg x hk⟩
    by_cases h5 : x.f0 = 5
    · exact ⟨_, Kh x h5 hs hl⟩
    refine Ex.step (IY x) (Ex.step (Nn x _ hk) (Ex.step (fun k => by rw [Ah.j1, if_neg (by simp)]) ?_)); refine Ex.ite (Ex.ite (Ex.ite (Ex.ite (Ex.now _) (Ex.now _)) (Ex.now _)) (Ex.now _)) (Ex.ite (Ex.ite (Ex.ite (Ex.ite ?_ (Ex.now _)) (Ex.now _)) (Ex.now _)) ?_)
    · by_cases h4 : x.f4.length = 1
      · refine Ex.congr (f := fun k => if ((Al x.f4 0).f0) = 6 then (some false) else ((Ah.f k ((Al x.f4 0).f0) ((Al x.f4 0).f1) ((Al x.f4 0).f2) ((Al x.f4 0).f3) ((Al x.f4 0).f4)).bind fun a => (some a))) (fun k => by rw [if_pos (by omega), if_pos (by omega)]) ?_; exact Ex.ite (Ex.now _) (Ex.bind (Nq n _ (h7 _ (JR (i := 0) (by omega)))) fun t => Ex.now _)
      · exact Ex.congr (fun k => by rw [if_neg (by omega)]) (Ex.now false)
    · exact Ex.congr (fun k => by rw [if_neg h5]) (Ex.now false)
theorem Ki (x : S26) (c : FE x = true ∨ x.f0 = 5) (b : x.f3.length ≤ maxLen) : Ev (fun k => Bc.f k x.f0 x.f1 x.f2 x.f3 x.f4) (scB x) := by
  by_cases hk : FE x = true
  · unfold scB; rw [if_pos hk]; exact LP x hk
  · have a : x.f0 = 5 := c.resolve_left hk; unfold scB; rw [if_neg hk, decide_eq_true a, Bool.true_and]; exact LQ x a b
theorem Nr (x : S26) (d : FE x = true ∨ x.f0 = 5) (c : x.f2.size ≤ maxLen) (b : x.f3.length ≤ maxLen) : Ev (fun k => Ah.f k x.f0 x.f1 x.f2 x.f3 x.f4) (scB x) := by
  by_cases hk : FE x = true
  · unfold scB; rw [if_pos hk]; exact Kg x hk
  · have a : x.f0 = 5 := d.resolve_left hk; unfold scB; rw [if_neg hk, decide_eq_true a, Bool.true_and]; exact Kh x a c b
theorem Ns (x : S26) (a : ¬ (FE x = true ∨ x.f0 = 5)) : scB x = false := by
  unfold scB; rw [if_neg (fun h => a (.inl h)), decide_eq_false (fun h => a (.inr h))]; rfl
theorem MV (x : S26) (a : x.f3.length ≤ maxLen) : Ev (fun k => CP.f k x.f0 x.f1 x.f2 x.f3 x.f4) (scB x) := by
  by_cases hx : FE x = true ∨ x.f0 = 5
  · refine Ev.congr (f := fun k => (Bc.f k x.f0 x.f1 x.f2 x.f3 x.f4).bind fun t => some t) (fun k => ?_) (Ev.bind (Ki x hx a) (Ev.now _)); unfold CP.f; rw [ES] at hx; by_cases h1 : x.f0 = 1
    · rw [if_pos h1]
    by_cases h2 : x.f0 = 2
    · rw [if_neg h1, if_pos h2]
    by_cases h3 : x.f0 = 3
    · rw [if_neg h1, if_neg h2, if_pos h3]
    rw [if_neg h1, if_neg h2, if_neg h3, if_pos (by omega)]
  · rw [Ns x hx]; refine Ev.congr (f := fun _ => some false) (fun k => ?_) (Ev.now _); unfold CP.f; rw [ES] at hx; rw [if_neg (by omega), if_neg (by omega), if_neg (by omega), if_neg (by omega)]
theorem LU (n : Nat) (x : S26) (a : okT n x) : Ev (fun k => EG.f k x.f0 x.f1 x.f2 x.f3 x.f4) (scB x) := by
  cases n with
  | zero => exact a.elim
  | succ n =>
    obtain ⟨_, _, c, _, b, _, _⟩ := id a; by_cases hk : FE x = true ∨ x.f0 = 5
    · unfold EG.f; refine Ev.bind (Nr x hk c b) ?_; cases scB x with
      | false => exact Ev.congr (fun k => by rw [if_neg (by simp)]) (Ev.now _)
      | true =>
        refine Ev.congr (f := fun _ => some true) (fun k => ?_) (Ev.now _); rw [if_pos rfl]; rw [ES] at hk; by_cases h1 : x.f0 = 1
        · rw [if_pos h1]
        by_cases h2 : x.f0 = 2
        · rw [if_neg h1, if_pos h2]
        by_cases h3 : x.f0 = 3
        · rw [if_neg h1, if_neg h2, if_pos h3]
        rw [if_neg h1, if_neg h2, if_neg h3, show x.f0 = 5 by omega]; rfl
    · rw [Ns x hk]; obtain ⟨t, d⟩ := Nq (n + 1) x a; unfold EG.f; refine Ev.bind d ?_; refine Ev.congr (f := fun _ => some false) (fun k => ?_) (Ev.now _); rw [ES] at hk; cases t with
      | false => rfl
      | true =>
        rw [if_pos rfl, if_neg (by omega), if_neg (by omega), if_neg (by omega)]; congr 1; exact beq_eq_false_iff_ne.mpr (by omega)
end Go.Proofs.Ytojankgmedccdaa.Pure
end
