/- Lemmas. -/
import Derived.Test.YtojankgmedccdaaYNPIsx13
set_option maxRecDepth 100000
section
namespace Go.Proofs.Ytojankgmedccdaa.Pure
open Go.RowKit Own PTy Hand PIs Wo
theorem Bv {n : Int} (h1 : -9223372036854775808 ≤ n) (a : n ≤ 9223372036854775807) : wrap64 n = n := by unfold wrap64; omega
theorem KU (c : Int) : Cm.f c = Da.f c := rfl
theorem NU (c : Int) : D9.f c = Ez.f c := rfl
def EX (c : Int) : Bool := (decide (97 ≤ c) && decide (c ≤ 122)) || (decide (65 ≤ c) && decide (c ≤ 90)) || (decide (48 ≤ c) && decide (c ≤ 57)) || decide (c = 95)
def G5 (c : Int) : Bool := (decide (97 ≤ c) && decide (c ≤ 122)) || (decide (65 ≤ c) && decide (c ≤ 90))
theorem Gp (c : Int) : Da.f c = some (G5 c) := by
  unfold Da.f G5; by_cases h1 : 97 ≤ c <;> by_cases h2 : c ≤ 122 <;> by_cases h3 : 65 ≤ c <;> by_cases h4 : c ≤ 90 <;> simp [h1, h2, h3, h4]
theorem Iw (c : Int) : Ez.f c = some (EX c) := by
  unfold Ez.f Eh.f; rw [Gp]; unfold G5 EX; simp only [Option.bind_some]; by_cases h1 : 97 ≤ c <;> by_cases h2 : c ≤ 122 <;> by_cases h3 : 65 ≤ c <;> by_cases h4 : c ≤ 90 <;> by_cases h5 : 48 ≤ c <;> by_cases h6 : c ≤ 57 <;> simp [h1, h2, h3, h4, h5, h6] <;> rfl
theorem IX (k : Nat) (a : ByteArray) (n i : Int) : CB.l0 (k + 1) a n i = (if i < n then (if 0 ≤ i then (if i < (a.size : Int) then (if GH (bt a i) = true then some false else CB.l0 k a n (wrap64 (i + 1))) else none) else none) else (if (a.size : Int) ≥ 1 then some (decide ((a.size : Int) ≤ 100)) else some false)) := by
  simp only [CB.l0]; by_cases h1 : i < n
  · rw [if_pos h1, if_pos h1]; by_cases h2 : 0 ≤ i
    · rw [if_pos h2, if_pos h2]; by_cases h3 : i < (a.size : Int)
      · rw [if_pos h3, if_pos h3]; unfold GH; generalize bt a i = c; repeat' split
        all_goals first | rfl | (exfalso; simp_all <;> omega) | (exfalso; simp_all; done)
      · rw [if_neg h3, if_neg h3]
    · rw [if_neg h2, if_neg h2]
  · rw [if_neg h1, if_neg h1]
def Cj (p : Int → Bool) (a : ByteArray) : Nat → Nat → Bool
  | 0, _ => true
  | d + 1, i => p (bt a (i : Int)) && Cj p a d (i + 1)
def Hf (a : ByteArray) : Bool := Cj (fun c => !GH c) a a.size 0 && (decide (1 ≤ a.size) && decide (a.size ≤ 100))
theorem Oq (a : ByteArray) (e : a.size ≤ maxLen) : Ev (fun k => CB.f k a) (Hf a) := by
  have hm : maxLen = 9223372036854775807 := by decide
  have key : ∀ d i, i + d = a.size → Ev (fun k => CB.l0 k a (a.size : Int) (i : Int)) (Cj (fun c => !GH c) a d i && (decide (1 ≤ a.size) && decide (a.size ≤ 100))) := by
    intro d; induction d with
    | zero =>
      intro i hi; refine Ev.step (f := fun _ => some (decide (1 ≤ a.size) && decide (a.size ≤ 100))) (fun k => ?_) (by simpa [Cj] using Ev.now _); rw [IX, if_neg (by omega)]; by_cases h : (a.size : Int) ≥ 1
      · rw [if_pos h]; congr 1; rw [Bool.eq_iff_iff]; simp; omega
      · rw [if_neg h]; congr 1; rw [Bool.eq_iff_iff]; simp; omega
    | succ d b =>
      intro i hi; by_cases ho : GH (bt a (i : Int)) = true
      · refine Ev.step (f := fun _ => some false) (fun k => ?_) (by simpa [Cj, ho] using Ev.now _); rw [IX, if_pos (by omega), if_pos (by omega), if_pos (by omega), if_pos ho]
      · refine Ev.step (f := fun k => CB.l0 k a (a.size : Int) ((i + 1 : Nat) : Int)) (fun k => ?_) (by simpa [Cj, ho] using b (i + 1) (by omega)); rw [IX, if_pos (by omega), if_pos (by omega), if_pos (by omega), if_neg ho, Bv (by omega) (by omega)]; rfl
  exact key a.size 0 (by omega)
end Go.Proofs.Ytojankgmedccdaa.Pure
end
section
namespace Go.Proofs.Ytojankgmedccdaa.Pure
open Go.RowKit Own PTy Hand PIs Wo
theorem get_bt (a : ByteArray) (i : Nat) (h : i < a.size) : (((a.get! i).toNat : Nat) : Int) = bt a (i : Int) := by
  unfold bt; rw [dif_pos (by simpa using h)]; simp only [Int.toNat_natCast]; congr 1; have : a.get! i = a[i] := by
    show a.data[i]! = a.data[i]; exact getElem!_pos a.data i h
  rw [this]
theorem NV (n : Int) (h : 123 ≤ n) : GH n = true := by
  unfold GH; have h1 : ¬ n ≤ 122 := by omega
  have a : ¬ n ≤ 90 := by omega
  have b : ¬ n ≤ 57 := by omega
  have c : ¬ n = 95 := by omega
  have d : ¬ n = 46 := by omega
  simp [h1, a, b, c, d]
theorem MM (a : ByteArray) (i : Nat) (h : (a.get! i).toNat < 128) : Utf8.decode a i = ((a.get! i).toNat, 1) := by
  unfold Utf8.decode; simp only [Nat.add_zero]; rw [if_pos h]
theorem MN (a : ByteArray) (i : Nat) (h : ¬ (a.get! i).toNat < 128) : 128 ≤ (Utf8.decode a i).1 := by
  have hr : Utf8.runeError = 65533 := rfl; unfold Utf8.decode; simp only [Nat.add_zero]; rw [if_neg h]; repeat' split
  all_goals (first | (simp only [hr]; omega) | skip)
  all_goals simp_all
  all_goals omega
theorem KV (a : ByteArray) : ∀ f pos, a.size ≤ pos + f → decide (0 ≤ Lib.idxFuncFrom (fun n => GH (n : Int)) true a f pos) = !(Cj (fun c => !GH c) a (a.size - pos) pos) := by
  intro f; induction f with
  | zero =>
    intro pos h; rw [show a.size - pos = 0 by omega]; rfl
  | succ f e =>
    intro pos h; unfold Lib.idxFuncFrom; by_cases hp : pos < a.size
    · rw [if_pos hp, show a.size - pos = (a.size - (pos + 1)) + 1 by omega]; unfold Cj; rw [← get_bt a pos hp]; by_cases hb : (a.get! pos).toNat < 128
      · rw [MM a pos hb]; by_cases ho : GH (((a.get! pos).toNat : Nat) : Int) = true
        · rw [if_pos ho, ho]; simp
        · rw [if_neg ho]; have := e (pos + 1) (by omega); simp only [Bool.not_eq_true] at ho; rw [ho]; simpa using this
      · have h1 := MN a pos hb; have b : GH ((Utf8.decode a pos).1 : Int) = true := NV _ (by omega); have d : GH (((a.get! pos).toNat : Nat) : Int) = true := NV _ (by omega); rw [if_pos b, d]; simp
    · rw [if_neg hp, show a.size - pos = 0 by omega]; rfl
theorem Hr (a : ByteArray) : strings_ContainsFunc.f a = some (!(Cj (fun c => !GH c) a a.size 0)) := by
  unfold strings_ContainsFunc.f Lib.idxFunc; rw [KV a a.size 0 (by omega)]; rfl
def F3 (a : List (List UInt8)) : List UInt8 := a.flatMap (fun x => 32 :: x) ++ [32]
theorem Jr (w : List UInt8) (a : List (List UInt8)) : F3 (w :: a) = 32 :: (w ++ F3 a) := by simp [F3]
theorem MO (a : List (List UInt8)) : ∃ t, F3 a = 32 :: t := by
  cases a with
  | nil => exact ⟨[], rfl⟩
  | cons w a => exact ⟨_, Jr w a⟩
theorem KW : ∀ (a w l : List UInt8), 32 ∉ a → 32 ∉ w → ((a ++ [32]).isPrefixOf (w ++ 32 :: l) = true ↔ a = w)
  | [], [], l, _, _ => by simp
  | [], x :: w, l, _, hw => by
    simp only [List.nil_append, List.cons_append, List.isPrefixOf, Bool.and_eq_true, beq_iff_eq]; constructor
    · rintro ⟨h, _⟩; exact absurd (h ▸ List.mem_cons_self ..) hw
    · intro h; cases h
  | y :: a, [], l, ha, _ => by
    simp only [List.nil_append, List.cons_append, List.isPrefixOf, Bool.and_eq_true, beq_iff_eq]; constructor
    · rintro ⟨h, _⟩; exact absurd (h ▸ List.mem_cons_self ..) ha
    · intro h; cases h
  | y :: a, x :: w, l, ha, hw => by
    have b := KW a w l (fun h => ha (List.mem_cons_of_mem _ h)) (fun h => hw (List.mem_cons_of_mem _ h)); simp only [List.cons_append, List.isPrefixOf, Bool.and_eq_true, beq_iff_eq, List.cons.injEq]; rw [b]
def Ii (s p : List UInt8) : Prop := ∃ i, i ≤ s.length ∧ Lib.occAt s p i = true
theorem KD (s p : List UInt8) : Lib.contains s p = true ↔ Ii s p := by
  unfold Lib.contains Ii; rw [decide_eq_true_iff]; rcases Lib.index_spec s p with ⟨h, hn⟩ | ⟨i, h, hi, ho, _⟩
  · rw [h]; constructor
    · intro a; omega
    · rintro ⟨i, hi, ho⟩; rw [hn i hi] at ho; cases ho
  · rw [h]; exact ⟨fun _ => ⟨i, hi, ho⟩, fun _ => by omega⟩
theorem JM (x : UInt8) (s p : List UInt8) : Ii (x :: s) p ↔ p.isPrefixOf (x :: s) = true ∨ Ii s p := by
  unfold Ii Lib.occAt; constructor
  · rintro ⟨i, hi, ho⟩; cases i with
    | zero => exact .inl ho
    | succ i => exact .inr ⟨i, by simpa using hi, by simpa using ho⟩
  · rintro (h | ⟨i, hi, ho⟩)
    · exact ⟨0, Nat.zero_le _, h⟩
    · exact ⟨i + 1, by simpa using hi, by simpa using ho⟩
theorem JN (a l : List UInt8) : ∀ w : List UInt8, 32 ∉ w → (Ii (w ++ l) (32 :: a) ↔ Ii l (32 :: a))
  | [], _ => Iff.rfl
  | x :: w, hw => by
    rw [List.cons_append, JM, JN a l w (fun h => hw (List.mem_cons_of_mem _ h))]; constructor
    · rintro (h | h)
      · simp only [List.isPrefixOf, Bool.and_eq_true, beq_iff_eq] at h; exact absurd (h.1 ▸ List.mem_cons_self ..) hw
      · exact h
    · exact .inr
theorem JO (a : List UInt8) (d : 32 ∉ a) (c : a ≠ []) : ∀ b : List (List UInt8), (∀ w ∈ b, 32 ∉ w) → (Ii (F3 b) (32 :: (a ++ [32])) ↔ a ∈ b)
  | [], _ => by
    constructor
    · rintro ⟨i, hi, ho⟩; exfalso; have h1 : i = 0 ∨ i = 1 := by simp [F3] at hi; omega
      unfold Lib.occAt at ho; cases a with
      | nil => exact c rfl
      | cons x a => rcases h1 with rfl | rfl <;> simp [F3, List.isPrefixOf] at ho
    · intro h; cases h
  | w :: b, hws => by
    have e := hws w (List.mem_cons_self ..); obtain ⟨t, j⟩ := MO b; rw [Jr, JM, JN (a ++ [32]) (F3 b) w e, JO a d c b (fun x k => hws x (List.mem_cons_of_mem _ k)), List.mem_cons]; have g : (32 :: (a ++ [32])).isPrefixOf (32 :: (w ++ F3 b)) = true ↔ a = w := by
      rw [j]; simp only [List.isPrefixOf, beq_self_eq_true, Bool.true_and]; exact KW a w t d e
    rw [g]
def KE : List (List UInt8) := match E5.f with | some l => l.map (fun x : ByteArray => x.data.toList) | none => []
theorem LJ : LH.data.toList = F3 KE := by decide
theorem KX : ∀ w ∈ KE, (32 : UInt8) ∉ w := by decide
end Go.Proofs.Ytojankgmedccdaa.Pure
end
section
namespace Go.Proofs.Ytojankgmedccdaa.Pure
open Go.RowKit Own PTy Hand PIs Wo
theorem toList_eq (a : ByteArray) : a.toList = a.data.toList := Lib.toList_data a
theorem MP (x : ByteArray) (l : List ByteArray) (c : l.length ≤ maxLen) : Ev (fun k => Cu.f k l x) (l.any fun y => decide (y.toList = x.toList)) := by
  have hm : maxLen = 9223372036854775807 := by decide
  have key : ∀ d i, i + d = l.length → Ev (fun k => Cu.l0 k x l (l.length : Int) (i : Int)) ((l.drop i).any fun y => decide (y.toList = x.toList)) := by
    intro d; induction d with
    | zero =>
      intro i hi; refine Ev.step (f := fun _ => some false) (fun k => ?_) (by rw [List.drop_eq_nil_of_le (by omega)]; exact Ev.now _); simp only [Cu.l0]; rw [if_neg (by omega)]
    | succ d b =>
      intro i hi; have a : i < l.length := by omega
      have hr : EI ByteArray.empty l (i : Int) = l[i] := by simp [EI, List.getD_eq_getElem?_getD, a]
      rw [List.drop_eq_getElem_cons a, List.any_cons]; by_cases he : l[i].toList = x.toList
      · refine Ev.step (f := fun _ => some true) (fun k => ?_) (by rw [decide_eq_true he]; exact Ev.now _); simp only [Cu.l0]; rw [if_pos (by omega), if_pos (by omega), if_pos (by omega), hr, if_pos he]
      · refine Ev.step (f := fun k => Cu.l0 k x l (l.length : Int) ((i + 1 : Nat) : Int)) (fun k => ?_) (by rw [decide_eq_false he, Bool.false_or]; exact b (i + 1) (by omega)); simp only [Cu.l0]; rw [if_pos (by omega), if_pos (by omega), if_pos (by omega), hr, if_neg he, Bv (by omega) (by omega)]; rfl
  exact key l.length 0 (by omega)
def Ij (a : ByteArray) : Bool := decide (a.data.toList ∈ KE)
theorem NW (a : ByteArray) : Ev (fun k => EZ.f k a) (Ij a) := by
  obtain ⟨W, b⟩ : ∃ W, E5.f = some W := ⟨_, rfl⟩; have c : W.length ≤ maxLen := by
    have : W.length = 73 ∨ W.length ≤ 200 := by
      right; have h : (match E5.f with | some l => decide (l.length ≤ 200) | none => true) = true := by decide
      rw [b] at h; simpa using h
    have : maxLen = 9223372036854775807 := by decide
    omega
  have h := MP a W c; have e : (W.any fun y => decide (y.toList = a.toList)) = Ij a := by
    unfold Ij KE; rw [b, Bool.eq_iff_iff]; simp only [List.any_eq_true, decide_eq_true_eq, List.mem_map, toList_eq]
  rw [e] at h; refine Ev.congr (f := fun k => (Cu.f k W a).bind fun t => some t) (fun k => ?_) (Ev.bind h (Ev.now _)); unfold EZ.f; rw [b]; rfl
theorem JP (a b : ByteArray) : (a ++ b).data.toList = a.data.toList ++ b.data.toList := by simp [ByteArray.data_append]
theorem NY (a : ByteArray) (h1 : 1 ≤ a.size) (c : a.size ≤ 1000) (hp : (32 : UInt8) ∉ a.data.toList) : Df.f a = some (Ij a) := by
  have b : a.data.toList ≠ [] := by
    intro h; have : a.size = 0 := by show a.data.size = 0; rw [← Array.length_toList, h]; rfl
    omega
  have hi : ¬ 0 ≤ Lib.indexByte a.data.toList 32 := by
    have key : ∀ l : List UInt8, 32 ∉ l → Lib.indexByte l 32 = -1 := by
      intro l; induction l with
      | nil => intro _; rfl
      | cons x l g =>
        intro h; have d : (x == 32) = false := by
          rw [beq_eq_false_iff_ne]; intro e; exact h (e ▸ List.mem_cons_self ..)
        unfold Lib.indexByte; rw [d, g (fun hm => h (List.mem_cons_of_mem _ hm))]; rfl
    rw [key _ hp]; decide
  unfold Df.f; rw [if_pos c, if_neg (by rw [toList_eq]; exact b), if_neg hi]; congr 1; rw [Bool.eq_iff_iff, KD, LJ, JP, JP]; unfold Ij; rw [decide_eq_true_iff]; exact JO _ hp b _ KX
theorem Ik (p : Int → Bool) (a : ByteArray) : ∀ d i, (Cj p a d i = true ↔ ∀ j, i ≤ j → j < i + d → p (bt a (j : Int)) = true)
  | 0, i => by simp [Cj]; omega
  | d + 1, i => by
    simp only [Cj, Bool.and_eq_true, Ik p a d (i + 1)]; constructor
    · rintro ⟨h, hr⟩ j h1 b; rcases Nat.eq_or_lt_of_le h1 with rfl | h3
      · exact h
      · exact hr j (by omega) (by omega)
    · exact fun h => ⟨h i (by omega) (by omega), fun j h1 b => h j (by omega) (by omega)⟩
def EH (a : ByteArray) : Bool := decide (1 ≤ a.size) && decide (a.size ≤ 40) && G5 (bt a 0) && Cj EX a a.size 0 && !Ij a
theorem NZ : EX 32 = false := by decide
theorem KY (a : ByteArray) (h : Cj EX a a.size 0 = true) : (32 : UInt8) ∉ a.data.toList := by
  intro hm; obtain ⟨j, e, d⟩ := List.getElem_of_mem hm; have b : j < a.size := by simpa using e
  have := (Ik EX a a.size 0).mp h j (by omega) (by omega); have c : bt a (j : Int) = 32 := by
    unfold bt; rw [dif_pos (by simpa using b)]; simp only [Int.toNat_natCast]; have : a[j] = 32 := by
      rw [← d]; exact (Array.getElem_toList ..).symm
    rw [this]; rfl
  rw [c, NZ] at this; cases this
end Go.Proofs.Ytojankgmedccdaa.Pure
end
section
namespace Go.Proofs.Ytojankgmedccdaa.Pure
open Go.RowKit Own PTy Hand PIs Wo
theorem Na (a : ByteArray) (c : a.size ≤ 1000) : ∀ d i, i + d = a.size → Ev (fun k => BM.l0 k a (a.size : Int) (i : Int)) (Cj EX a d i) := by
  intro d; induction d with
  | zero =>
    intro i hi; refine Ev.step (f := fun _ => some true) (fun k => ?_) (Ev.now _); simp only [BM.l0]; rw [if_neg (by omega)]
  | succ d b =>
    intro i hi; by_cases ho : EX (bt a (i : Int)) = true
    · refine Ev.step (f := fun k => BM.l0 k a (a.size : Int) ((i + 1 : Nat) : Int)) (fun k => ?_) (by simpa [Cj, ho] using b (i + 1) (by omega)); simp only [BM.l0]; rw [if_pos (by omega), if_pos (by omega), if_pos (by omega), NU, Iw, ho, Option.bind_some, if_pos rfl, Bv (by omega) (by omega)]; rfl
    · refine Ev.step (f := fun _ => some false) (fun k => ?_) (by simpa [Cj, ho] using Ev.now _); simp only [BM.l0]; rw [if_pos (by omega), if_pos (by omega), if_pos (by omega), NU, Iw, Option.bind_some, if_neg ho]
theorem PY (a : ByteArray) (e : a.size ≤ 1000) : ∀ d i, i + d = a.size → ∃ r : Int, Ev (fun k => EA.l0 k a 0 1 (i : Int)) r ∧ (r = (a.size : Int) ↔ Cj EX a d i = true) := by
  intro d; induction d with
  | zero =>
    intro i hi; refine ⟨(i : Int), Ev.step (f := fun _ => some (i : Int)) (fun k => ?_) (Ev.now _), by simp [Cj]; omega⟩; simp only [EA.l0]; rw [Int.zero_add, Bv (by omega) (by omega), if_neg (by omega)]
  | succ d c =>
    intro i hi; by_cases ho : EX (bt a (i : Int)) = true
    · obtain ⟨r, h1, b⟩ := c (i + 1) (by omega); refine ⟨r, Ev.step (f := fun k => EA.l0 k a 0 1 ((i + 1 : Nat) : Int)) (fun k => ?_) h1, by rw [b]; simp [Cj, ho]⟩; simp only [EA.l0]; rw [Int.zero_add, Bv (n := (i : Int)) (by omega) (by omega), if_pos (by omega), if_pos (by omega)]; unfold IB.f; rw [if_neg (by decide), if_pos rfl, Iw, ho, Option.bind_some, Option.bind_some, if_pos rfl, Bv (by omega) (by omega)]; rfl
    · refine ⟨(i : Int), Ev.step (f := fun _ => some (i : Int)) (fun k => ?_) (Ev.now _), by simp [Cj, ho]; omega⟩; simp only [EA.l0]; rw [Int.zero_add, Bv (n := (i : Int)) (by omega) (by omega), if_pos (by omega), if_pos (by omega)]; unfold IB.f; rw [if_neg (by decide), if_pos rfl, Iw, Option.bind_some, Option.bind_some, if_neg ho]
theorem ER (a : ByteArray) : a.toList = [] ↔ a.size = 0 := by
  rw [toList_eq]; have : a.size = a.data.toList.length := by rw [Array.length_toList]; rfl
  rw [this, List.length_eq_zero_iff]
theorem Nb (a : ByteArray) : Ev (fun k => BM.f k a) (EH a) := by
  have c : ∀ b, Ev (fun k => BM.j0 k b true) false := fun b => Ev.step (f := fun _ => some false) (fun k => by simp [BM.j0]) (Ev.now _); by_cases h0 : a.size = 0
  · have e : EH a = false := by unfold EH; simp [h0]
    rw [e]; exact Ev.congr (fun k => by unfold BM.f; rw [if_pos ((ER a).mpr h0)]) (c a)
  by_cases h4 : a.size ≤ 40
  · by_cases hl : G5 (bt a 0) = true
    · obtain ⟨t, j, g⟩ : ∃ t, Df.f a = some t ∧ EH a = (!t && Cj EX a a.size 0) := by
        by_cases hs : (32 : UInt8) ∈ a.data.toList
        · have i : Cj EX a a.size 0 = false := by
            cases h : Cj EX a a.size 0
            · rfl
            · exact absurd hs (KY a h)
          refine ⟨false, ?_, by unfold EH; simp [i]⟩; unfold Df.f; have hi : 0 ≤ Lib.indexByte a.data.toList 32 := by
            have key : ∀ l : List UInt8, 32 ∈ l → 0 ≤ Lib.indexByte l 32 := by
              intro l; induction l with
              | nil => intro h; cases h
              | cons x l m =>
                intro h; unfold Lib.indexByte; by_cases hx : x = 32
                · simp [hx]
                · have hm : 32 ∈ l := by
                    rcases List.mem_cons.mp h with e | e
                    · exact absurd e.symm hx
                    · exact e
                  have := m hm; have d : (x == 32) = false := beq_eq_false_iff_ne.mpr hx; rw [d]; simp only [Bool.false_eq_true, if_false]; split <;> simp_all; omega
            exact key _ hs
          rw [if_pos (by omega), if_neg (fun h => h0 ((ER a).mp h)), if_pos hi]
        · exact ⟨Ij a, NY a (by omega) (by omega) hs, by
            unfold EH; rw [hl, decide_eq_true h4, decide_eq_true (show 1 ≤ a.size by omega)]; simp [Bool.and_comm]⟩
      rw [g]; refine Ev.congr (f := fun k => BM.j0 k a t) (fun k => ?_) ?_
      · unfold BM.f; rw [if_neg (fun h => h0 ((ER a).mp h)), if_neg (by omega), if_pos (by omega), KU, Gp, hl, Option.bind_some, if_pos rfl, j, Option.bind_some]
      · cases t with
        | true => simpa using c a
        | false =>
          refine Ev.step (f := fun k => BM.l0 k a (a.size : Int) ((0 : Nat) : Int)) (fun k => ?_) (by simpa using Na a (by omega) a.size 0 (by omega)); simp only [BM.j0]; rw [if_neg (by decide)]; rfl
    · have e : EH a = false := by unfold EH; simp [hl]
      rw [e]; exact Ev.congr (fun k => by unfold BM.f; rw [if_neg (fun h => h0 ((ER a).mp h)), if_neg (by omega), if_pos (by omega), KU, Gp, Option.bind_some, if_neg hl]) (c a)
  · have e : EH a = false := by unfold EH; simp [h4]
    rw [e]; exact Ev.congr (fun k => by unfold BM.f; rw [if_neg (fun h => h0 ((ER a).mp h)), if_pos (by omega)]) (c a)
theorem Nc (a : ByteArray) : Ev (fun k => Dp.f k a) (EH a) := by
  by_cases h0 : 1 ≤ a.size
  · by_cases h4 : a.size ≤ 40
    · by_cases hl : G5 (bt a 0) = true
      · obtain ⟨r, h1, c⟩ := PY a (by omega) a.size 0 (by omega); refine Ev.congr (f := fun k => (EA.f k a 0 1).bind fun t => if t = (a.size : Int) then ((EZ.f k a).bind fun b => (some (!b))) else (some false)) (fun k => ?_) (Ev.bind h1 ?_)
        · unfold Dp.f; rw [if_pos (by omega), if_pos (by omega), if_pos (by omega), Gp, hl, Option.bind_some, if_pos rfl]
        · by_cases hr : r = (a.size : Int)
          · have e : EH a = !Ij a := by
              unfold EH; rw [hl, decide_eq_true h4, decide_eq_true h0, c.mp hr]; rfl
            rw [e]; exact Ev.congr (fun k => by rw [if_pos hr]) (Ev.bind (NW a) (Ev.now _))
          · have d : Cj EX a a.size 0 = false := by
              cases h : Cj EX a a.size 0
              · rfl
              · exact absurd (c.mpr h) hr
            have e : EH a = false := by unfold EH; simp [d]
            rw [e]; exact Ev.congr (fun k => by rw [if_neg hr]) (Ev.now _)
      · have e : EH a = false := by unfold EH; simp [hl]
        rw [e]; exact Ev.congr (fun k => by unfold Dp.f; rw [if_pos (by omega), if_pos (by omega), if_pos (by omega), Gp, Option.bind_some, if_neg hl]) (Ev.now _)
    · have e : EH a = false := by unfold EH; simp [h4]
      rw [e]; exact Ev.congr (fun k => by unfold Dp.f; rw [if_pos (by omega), if_neg (by omega)]) (Ev.now _)
  · have e : EH a = false := by unfold EH; simp [h0]
    rw [e]; exact Ev.congr (fun k => by unfold Dp.f; rw [if_neg (by omega)]) (Ev.now _)
end Go.Proofs.Ytojankgmedccdaa.Pure
end
