/- Lemmas. -/
import Derived.Test.YtojankgmedccdaaYOPuD
import Derived.Test.YtojankgmedccdaaYORowV
section
namespace Go.Proofs.Ytojankgmedccdaa.Pure
open Go.RowKit Own PTy Hand PIs RowV Wo
def Ex {α : Type} (g : Nat → Option α) : Prop := ∃ t, Ev g t
theorem Ex.now {α : Type} (t : α) : Ex (fun _ => some t) := ⟨t, Ev.now t⟩
theorem Ex.ite {α : Type} {c : Prop} [Decidable c] {g f : Nat → Option α} (h1 : Ex g) (h2 : Ex f) : Ex (fun k => if c then g k else f k) := by
  by_cases h : c
  · simpa [h] using h1
  · simpa [h] using h2
theorem Ex.bind {α β : Type} {g : Nat → Option α} {f : Nat → α → Option β} (h : Ex g) (h2 : ∀ t, Ex (fun k => f k t)) : Ex (fun k => (g k).bind (f k)) := by
  obtain ⟨t, a⟩ := h; obtain ⟨r, hr⟩ := h2 t; exact ⟨r, Ev.bind a hr⟩
theorem Ex.step {α : Type} {g f : Nat → Option α} (h : ∀ k, g (k + 1) = f k) (h2 : Ex f) : Ex g := ⟨h2.choose, Ev.step h h2.choose_spec⟩
theorem Ex.loop {α : Type} {n : Nat} {F : Nat → Int → Option α} (a : Ex (fun k => F k (n : Int))) (h : ∀ i : Nat, i < n → Ex (fun k => F k ((i + 1 : Nat) : Int)) → Ex (fun k => F k (i : Int))) : ∀ i : Nat, i ≤ n → Ex (fun k => F k (i : Int)) := by
  have key : ∀ d i, i + d = n → Ex (fun k => F k (i : Int)) := by
    intro d; induction d with
    | zero => intro i hi; obtain rfl : i = n := by omega
              exact a
    | succ d b => intro i hi; exact h i (by omega) (b (i + 1) (by omega))
  exact fun i hi => key (n - i) i (by omega)
theorem ml : maxLen = 9223372036854775807 := by decide
theorem KU {l : List S26} {i : Nat} (h : i < l.length) : Bd l (i : Int) ∈ l := by
  unfold Bd; rw [List.getD_eq_getElem?_getD, show ((i : Int)).toNat = i from rfl, List.getElem?_eq_getElem h]; exact List.getElem_mem h
theorem Dm {l : List S30} {i : Nat} (h : i < l.length) : AB l (i : Int) ∈ l := by
  unfold AB; rw [List.getD_eq_getElem?_getD, show ((i : Int)).toNat = i from rfl, List.getElem?_eq_getElem h]; exact List.getElem_mem h
theorem I7 (x : S30) : (⟨x.f0, x.f1, x.f2, x.f3⟩ : S30) = x := by cases x; rfl
theorem KV : ∀ m (v : S30), okV m v → ∀ a, Ex (fun k => CF.f k v.f0 v.f1 v.f2 v.f3 a)
  | 0, _, h, _ => h.elim
  | m + 1, v, ⟨_, _, _, _, h5, h6⟩, a => by
    refine Ex.step (fun k => by rw [CF.f]) ?_; have key : ∀ i : Nat, i ≤ v.f3.length → ∀ b, Ex (fun k => CF.l0 k b v.f3 (v.f3.length : Int) (i : Int)) := by
      have : ∀ d i, i + d = v.f3.length → ∀ b, Ex (fun k => CF.l0 k b v.f3 (v.f3.length : Int) (i : Int)) := by
        intro d; induction d with
        | zero =>
          intro i hi b; refine Ex.step (fun k => by rw [CF.l0]) ?_; simp only [show ¬ ((i : Int) < (v.f3.length : Int)) by omega, if_false]; exact Ex.now _
        | succ d c =>
          intro i hi b; have e := ml; refine Ex.step (fun k => by rw [CF.l0]) ?_; simp only [show ((i : Int) < (v.f3.length : Int)) by omega, show 0 ≤ (i : Int) by omega, if_true, CK (n := (i : Int) + 1) (by omega) (by omega)]; exact Ex.ite (Ex.now _) (Ex.bind (KV m _ (h6 _ (Dm (by omega))) _) fun t => c (i + 1) (by omega) t)
      exact fun i hi b => this (v.f3.length - i) i (by omega) b
    exact key 0 (by omega) _
theorem Pv (l : List S30) (c : l.length ≤ maxLen) (m : Nat) (a : ∀ y ∈ l, okV m y) : Ex (fun k => BD.l2 k l (l.length : Int) 0) := by
  have hm := ml; refine Ex.loop (n := l.length) (F := fun k i => BD.l2 k l (l.length : Int) i) ?_ (fun i hi b => ?_) 0 (by omega)
  · refine Ex.step (fun k => by rw [BD.l2]) ?_; simp only [show ¬ ((l.length : Int) < (l.length : Int)) by omega, if_false]; exact Ex.now _
  · refine Ex.step (fun k => by rw [BD.l2]) ?_; simp only [show ((i : Int) < (l.length : Int)) by omega, show 0 ≤ (i : Int) by omega, if_true, CK (n := (i : Int) + 1) (by omega) (by omega)]; exact Ex.bind (KV m _ (a _ (Dm (by omega))) _) fun t => Ex.ite (Ex.now _) b
theorem KW : ∀ n (x : S26), okT n x → ∀ (l : List S30) (_ : l.length ≤ maxLen) (m : Nat) (_ : ∀ y ∈ l, okV m y), Ex (fun k => BD.f k x.f0 x.f1 x.f2 x.f3 x.f4 l)
  | 0, _, h, _, _, _, _ => h.elim
  | n + 1, x, ⟨_, _, _, _, h5, h6, h7⟩, l, hl, m, hv => by
    have hm := ml; have h1 : Ex (fun k => BD.l1 k l x.f4 (x.f4.length : Int) 0) := by
      refine Ex.loop (n := x.f4.length) (F := fun k i => BD.l1 k l x.f4 (x.f4.length : Int) i) ?_ (fun i hi c => ?_) 0 (by omega)
      · refine Ex.step (fun k => by rw [BD.l1]) ?_; simp only [show ¬ ((x.f4.length : Int) < (x.f4.length : Int)) by omega, if_false]; exact Pv l hl m hv
      · refine Ex.step (fun k => by rw [BD.l1]) ?_; simp only [show ((i : Int) < (x.f4.length : Int)) by omega, show 0 ≤ (i : Int) by omega, if_true, CK (n := (i : Int) + 1) (by omega) (by omega)]; exact Ex.ite (Ex.now _) (Ex.bind (KW n _ (h7 _ (KU (by omega))) [] (by simp) 0 (by simp)) fun t => Ex.ite c (Ex.now _))
    have e : Ex (fun k => BD.l0 k l x.f3 (x.f3.length : Int) 0 x.f0 x.f1 x.f2 x.f3 x.f4) := by
      refine Ex.loop (n := x.f3.length) (F := fun k i => BD.l0 k l x.f3 (x.f3.length : Int) i x.f0 x.f1 x.f2 x.f3 x.f4) ?_ (fun i hi c => ?_) 0 (by omega)
      · refine Ex.step (fun k => by rw [BD.l0]) ?_; simp only [show ¬ ((x.f3.length : Int) < (x.f3.length : Int)) by omega, if_false]; exact h1
      · refine Ex.step (fun k => by rw [BD.l0]) ?_; simp only [show ((i : Int) < (x.f3.length : Int)) by omega, show 0 ≤ (i : Int) by omega, if_true, CK (n := (i : Int) + 1) (by omega) (by omega)]; exact Ex.ite (Ex.now _) c
    have a : ∀ b, Ex (fun k => BD.j0 k l b x.f0 x.f1 x.f2 x.f3 x.f4) := fun b =>
      Ex.step (fun k => by rw [BD.j0]) (Ex.ite (Ex.now _) e)
    exact Ex.step (fun k => by rw [BD.f]) (Ex.ite (a _) (Ex.ite (a _) (a _)))
end Go.Proofs.Ytojankgmedccdaa.Pure
end
section
namespace Go.Proofs.Ytojankgmedccdaa.Pure
open Go.RowKit Own PTy Hand PIs RowV Wo
def dup (x : ByteArray) (l : List ByteArray) : Nat → Nat → Bool
  | 0, _ => false
  | d + 1, j => decide ((Ec ByteArray.empty l (j : Int)).toList = x.toList) || dup x l d (j + 1)
theorem Mj (l : List ByteArray) (i j : Nat) (h : j < i) : Ec ByteArray.empty (l.take i) (j : Int) = Ec ByteArray.empty l (j : Int) := by
  unfold Ec; rw [List.getD_eq_getElem?_getD, List.getD_eq_getElem?_getD, show ((j : Int)).toNat = j from rfl, List.getElem?_take_of_lt h]
theorem KX (x : ByteArray) (l : List ByteArray) (i : Nat) : ∀ d j, j + d ≤ i → dup x (l.take i) d j = dup x l d j
  | 0, _, _ => rfl
  | d + 1, j, h => by simp only [dup]; rw [Mj l i j (by omega), KX x l i d (j + 1) (by omega)]
theorem OA (l : List ByteArray) (x : ByteArray) (b : l.length ≤ maxLen) : ∃ t : Int, Ev (fun k => GJ.f k l x) t ∧ (0 ≤ t ↔ dup x l l.length 0 = true) := by
  have hm := ml; have key : ∀ d i, i + d = l.length → ∃ t : Int, Ev (fun k => GJ.l0 k l x (l.length : Int) (i : Int)) t ∧ (0 ≤ t ↔ dup x l d i = true) := by
    intro d; induction d with
    | zero =>
      intro i hi; refine ⟨-1, Ev.step (f := fun _ => some (-1)) (fun k => ?_) (Ev.now _), by simp [dup]⟩; simp only [GJ.l0]; rw [if_neg (by omega)]
    | succ d a =>
      intro i hi; by_cases h : x.toList = (Ec ByteArray.empty l (i : Int)).toList
      · refine ⟨(i : Int), Ev.step (f := fun _ => some (i : Int)) (fun k => ?_) (Ev.now _), by simp [dup, h]⟩; simp only [GJ.l0]; rw [if_pos (by omega), if_pos (by omega), if_pos (by omega), if_pos h]
      · obtain ⟨t, h1, h2⟩ := a (i + 1) (by omega); refine ⟨t, Ev.step (f := fun k => GJ.l0 k l x (l.length : Int) ((i + 1 : Nat) : Int)) (fun k => ?_) h1, by rw [h2]; simp [dup, Ne.symm h]⟩; simp only [GJ.l0]; rw [if_pos (by omega), if_pos (by omega), if_pos (by omega), if_neg h, CK (by omega) (by omega)]; rfl
  exact key l.length 0 (by omega)
theorem KY (l : List ByteArray) (x : ByteArray) (i : Nat) (hi : i ≤ l.length) (a : l.length ≤ maxLen) : Ev (fun k => Jy.f k (l.take ((i : Int)).toNat) x) (dup x l i 0) := by
  obtain ⟨t, h1, h2⟩ := OA (l.take i) x (by rw [List.length_take]; omega); have hn : (l.take i).length = i := by rw [List.length_take]; omega
  rw [hn, KX x l i i 0 (by omega)] at h2; have e : dup x l i 0 = decide (t ≥ 0) := by
    rw [Bool.eq_iff_iff, ← h2]; simp
  rw [e]; exact Ev.bind (f := fun _ t => some (decide (t ≥ 0))) h1 (Ev.now _)
def I8 (l : List ByteArray) : Nat → Nat → Bool
  | 0, _ => true
  | d + 1, i => F8 (Ec ByteArray.empty l (i : Int)) && (!dup (Ec ByteArray.empty l (i : Int)) l i 0 && I8 l d (i + 1))
theorem Mk (l : List ByteArray) (j : l.length ≤ maxLen) (a b : Int) (c : ByteArray) (e : List S26) : ∀ d i, i + d = l.length → Ev (fun k => BG.l0 k l (l.length : Int) (i : Int) a b c l e) (I8 l d i) := by
  have hm := ml; intro d; induction d with
  | zero =>
    intro i hi; refine Ev.step (f := fun _ => some true) (fun k => ?_) (Ev.now _); simp only [BG.l0]; rw [if_neg (by omega)]
  | succ d o =>
    intro i hi; refine Ev.step (f := fun k => (BF.f k (Ec ByteArray.empty l (i : Int))).bind fun t => if t = true then ((Jy.f k (l.take (i : Int).toNat) (Ec ByteArray.empty l (i : Int))).bind fun h => (if h = true then (some false) else (BG.l0 k l (l.length : Int) ((i + 1 : Nat) : Int) a b c l e))) else some false) (fun k => ?_) ?_
    · simp only [BG.l0]; rw [if_pos (by omega), if_pos (by omega), if_pos (by omega), CK (n := (i : Int) + 1) (by omega) (by omega)]; simp only [show (i : Int) ≤ (l.length : Int) by omega, if_true]; rfl
    · refine Ev.bind (N7 _) ?_; simp only [I8]; cases hn : F8 (Ec ByteArray.empty l (i : Int)) with
      | false => exact Ev.congr (fun k => by rw [if_neg (by simp)]) (by simpa using Ev.now _)
      | true =>
        refine Ev.congr (f := fun k => (Jy.f k (l.take (i : Int).toNat) (Ec ByteArray.empty l (i : Int))).bind fun h => (if h = true then (some false) else (BG.l0 k l (l.length : Int) ((i + 1 : Nat) : Int) a b c l e))) (fun k => by rw [if_pos rfl]) ?_; refine Ev.bind (KY l _ i (by omega) j) ?_; cases hd : dup (Ec ByteArray.empty l (i : Int)) l i 0 with
        | true => exact Ev.congr (fun k => by rw [if_pos rfl]) (by simpa using Ev.now _)
        | false => exact Ev.congr (fun k => by rw [if_neg (by simp)]) (by simpa using o (i + 1) (by omega))
def GK (l : List ByteArray) : Bool := decide (1 ≤ l.length) && decide (l.length ≤ 16) && I8 l l.length 0
theorem Ml (x : S26) (j : x.f3.length ≤ maxLen) : Ev (fun k => BG.f k x.f0 x.f1 x.f2 x.f3 x.f4) (IA x.f2 && GK x.f3) := by
  have b : Ev (fun k => BG.j0 k true x.f0 x.f1 x.f2 x.f3 x.f4) false := Ev.step (f := fun _ => some false) (fun k => by simp [BG.j0]) (Ev.now _); by_cases h0 : x.f2.size = 0
  · have e : IA x.f2 = false := by unfold IA; simp [h0]
    rw [e]; exact Ev.congr (fun k => by unfold BG.f; rw [if_pos ((EZ _).mpr h0)]) b
  have a : ¬ x.f2.toList = [] := fun h => h0 ((EZ _).mp h); by_cases h1 : (x.f2.size : Int) > 100
  · have e : IA x.f2 = false := by unfold IA; simp [show ¬ x.f2.size ≤ 100 by omega]
    rw [e]; exact Ev.congr (fun k => by unfold BG.f; rw [if_neg a, if_pos h1]) b
  have i : IA x.f2 = DJ (fun c => !Gg c) x.f2 x.f2.size 0 := by unfold IA; simp [show x.f2.size ≤ 100 by omega, show 1 ≤ x.f2.size by omega]
  rw [i]; cases ha : DJ (fun c => !Gg c) x.f2 x.f2.size 0 with
  | false => exact Ev.congr (fun k => by unfold BG.f; rw [if_neg a, if_neg h1, Gw, ha]; simp) b
  | true =>
    by_cases h2 : (x.f3.length : Int) < 1
    · have e : GK x.f3 = false := by unfold GK; simp [show ¬ 1 ≤ x.f3.length by omega]
      rw [e]; exact Ev.congr (fun k => by unfold BG.f; rw [if_neg a, if_neg h1, Gw, ha]; simp only [Bool.not_true, Option.bind_some, Bool.false_eq_true, if_false, if_pos h2]) b
    · refine Ev.congr (f := fun k => BG.j0 k (decide ((x.f3.length : Int) > 16)) x.f0 x.f1 x.f2 x.f3 x.f4) (fun k => by unfold BG.f; rw [if_neg a, if_neg h1, Gw, ha]; simp only [Bool.not_true, Option.bind_some, Bool.false_eq_true, if_false, if_neg h2]) ?_; by_cases h3 : (x.f3.length : Int) > 16
      · have e : GK x.f3 = false := by unfold GK; simp [show ¬ x.f3.length ≤ 16 by omega]
        rw [e, decide_eq_true h3]; exact b
      · have e : GK x.f3 = I8 x.f3 x.f3.length 0 := by unfold GK; simp [show x.f3.length ≤ 16 by omega, show 1 ≤ x.f3.length by omega]
        rw [e, decide_eq_false h3]; exact Ev.step (f := fun k => BG.l0 k x.f3 (x.f3.length : Int) ((0 : Nat) : Int) x.f0 x.f1 x.f2 x.f3 x.f4) (fun k => by simp [BG.j0]) (by simpa using Mk x.f3 j x.f0 x.f1 x.f2 x.f4 x.f3.length 0 (by omega))
def Jc (x : S26) : Bool := decide (x.f1 = 0) && decide (x.f2.size = 0) && decide (x.f3.length = 0) && decide (x.f4.length = 0)
def Jd (x : S26) : Bool := decide (x.f1 = 0) && decide (x.f4.length = 0) && (IA x.f2 && GK x.f3)
def Gn (x : S26) : Bool := decide (x.f0 = 1) || decide (x.f0 = 2) || decide (x.f0 = 3)
def scB (x : S26) : Bool := if Gn x = true then Jc x else decide (x.f0 = 5) && Jd x
end Go.Proofs.Ytojankgmedccdaa.Pure
end
section
namespace Go.Proofs.Ytojankgmedccdaa.Pure
open Go.RowKit Own PTy Hand PIs RowV Wo
theorem Hd {α : Type} (l : List α) : ((l.length : Int) == 0) = decide (l = []) := by
  rw [Bool.eq_iff_iff]; simp
theorem O8 (x : S26) : Bu.f x.f0 x.f1 x.f2 x.f3 x.f4 false false false = some (Jc x) := by
  unfold Bu.f Jc; by_cases h1 : x.f1 = 0 <;> by_cases h2 : x.f2.size = 0 <;> by_cases h3 : x.f3.length = 0 <;> simp [h1, h2, h3, EZ]; all_goals simp_all [Hd]
theorem MG (x : S26) : Bu.f x.f0 x.f1 x.f2 x.f3 x.f4 false true false = some (decide (x.f1 = 0) && decide (x.f4.length = 0)) := by
  unfold Bu.f; by_cases h1 : x.f1 = 0 <;> simp [h1, Hd]
theorem He (x : S26) : Gn x = true ↔ x.f0 = 1 ∨ x.f0 = 2 ∨ x.f0 = 3 := by unfold Gn; simp [or_assoc]
theorem LV (x : S26) (h : Gn x = true) : Ev (fun k => BU.f k x.f0 x.f1 x.f2 x.f3 x.f4) (Jc x) := by
  rw [He] at h; refine Ev.step (f := fun k => BU.j0 k x.f0 true x.f0 x.f1 x.f2 x.f3 x.f4) (fun k => ?_) (Ev.step (f := fun _ => some (Jc x)) (fun k => ?_) (Ev.now _))
  · rw [BU.f]; rcases h with h | h | h <;> rw [h] <;> rfl
  · rw [BU.j0, if_pos rfl, O8]; rfl
theorem LW (x : S26) (h : x.f0 = 5) (b : x.f3.length ≤ maxLen) : Ev (fun k => BU.f k x.f0 x.f1 x.f2 x.f3 x.f4) (Jd x) := by
  refine Ev.step (f := fun k => BU.j0 k x.f0 false x.f0 x.f1 x.f2 x.f3 x.f4) (fun k => ?_) ?_
  · rw [BU.f]; rw [h]; rfl
  by_cases hb : (decide (x.f1 = 0) && decide (x.f4.length = 0)) = true
  · refine Ev.step (f := fun k => (BG.f k x.f0 x.f1 x.f2 x.f3 x.f4).bind fun t145 => (some t145)) (fun k => ?_) ?_
    · rw [BU.j0, if_neg (by simp), if_neg (by omega), if_pos h, MG, hb]; simp
    · unfold Jd; rw [hb, Bool.true_and]; exact Ev.bind (Ml x b) (Ev.now _)
  · refine Ev.step (f := fun _ => some (Jd x)) (fun k => ?_) (Ev.now _); have a : (decide (x.f1 = 0) && decide (x.f4.length = 0)) = false := by simpa using hb
    unfold Jd; rw [BU.j0, if_neg (by simp), if_neg (by omega), if_pos h, MG, a]; simp
theorem KZ (x : S26) (c : Gn x = true ∨ x.f0 = 5) (b : x.f3.length ≤ maxLen) : Ev (fun k => BU.f k x.f0 x.f1 x.f2 x.f3 x.f4) (scB x) := by
  by_cases hk : Gn x = true
  · unfold scB; rw [if_pos hk]; exact LV x hk
  · have a : x.f0 = 5 := c.resolve_left hk; unfold scB; rw [if_neg hk, decide_eq_true a, Bool.true_and]; exact LW x a b
theorem PZ (x : S26) (a : ¬ (Gn x = true ∨ x.f0 = 5)) : scB x = false := by
  unfold scB; rw [if_neg (fun h => a (.inl h)), decide_eq_false (fun h => a (.inr h))]; rfl
theorem Je (x : S26) (a : x.f3.length ≤ maxLen) : Ev (fun k => Bq.f k x.f0 x.f1 x.f2 x.f3 x.f4) (scB x) := by
  by_cases hx : Gn x = true ∨ x.f0 = 5
  · refine Ev.congr (f := fun k => (BU.f k x.f0 x.f1 x.f2 x.f3 x.f4).bind fun t => some t) (fun k => ?_) (Ev.bind (KZ x hx a) (Ev.now _)); unfold Bq.f; rw [He] at hx; by_cases h1 : x.f0 = 1
    · rw [if_pos h1]
    by_cases h2 : x.f0 = 2
    · rw [if_neg h1, if_pos h2]
    by_cases h3 : x.f0 = 3
    · rw [if_neg h1, if_neg h2, if_pos h3]
    rw [if_neg h1, if_neg h2, if_neg h3, if_pos (by omega)]
  · rw [PZ x hx]; refine Ev.congr (f := fun _ => some false) (fun k => ?_) (Ev.now _); unfold Bq.f; rw [He] at hx; rw [if_neg (by omega), if_neg (by omega), if_neg (by omega), if_neg (by omega)]
end Go.Proofs.Ytojankgmedccdaa.Pure
end
