/- Lemmas. -/
import Derived.Test.YtojankgmedccdaaYAPIsx13
set_option maxRecDepth 100000
section
namespace Go.Proofs.Ytojankgmedccdaa.Pure
open Go.RowKit Own PTy Hand PIs Wo
theorem Bi {n : Int} (h1 : -9223372036854775808 ≤ n) (a : n ≤ 9223372036854775807) : wrap64 n = n := by unfold wrap64; omega
theorem KN (c : Int) : Cb.f c = DW.f c := rfl
theorem NT (c : Int) : Dw.f c = Eo.f c := rfl
def EO (c : Int) : Bool := (decide (97 ≤ c) && decide (c ≤ 122)) || (decide (65 ≤ c) && decide (c ≤ 90)) || (decide (48 ≤ c) && decide (c ≤ 57)) || decide (c = 95)
def Gq (c : Int) : Bool := (decide (97 ≤ c) && decide (c ≤ 122)) || (decide (65 ≤ c) && decide (c ≤ 90))
theorem Gd (c : Int) : DW.f c = some (Gq c) := by
  unfold DW.f Gq; by_cases h1 : 97 ≤ c <;> by_cases h2 : c ≤ 122 <;> by_cases h3 : 65 ≤ c <;> by_cases h4 : c ≤ 90 <;> simp [h1, h2, h3, h4]
theorem Ic (c : Int) : Eo.f c = some (EO c) := by
  unfold Eo.f EZ.f; rw [Gd]; unfold Gq EO; simp only [Option.bind_some]; by_cases h1 : 97 ≤ c <;> by_cases h2 : c ≤ 122 <;> by_cases h3 : 65 ≤ c <;> by_cases h4 : c ≤ 90 <;> by_cases h5 : 48 ≤ c <;> by_cases h6 : c ≤ 57 <;> simp [h1, h2, h3, h4, h5, h6] <;> rfl
theorem IA (k : Nat) (a : ByteArray) (n i : Int) : Bn.l0 (k + 1) a n i = (if i < n then (if 0 ≤ i then (if i < (a.size : Int) then (if F6 (bt a i) = true then some false else Bn.l0 k a n (wrap64 (i + 1))) else none) else none) else (if (a.size : Int) ≥ 1 then some (decide ((a.size : Int) ≤ 100)) else some false)) := by
  simp only [Bn.l0]; by_cases h1 : i < n
  · rw [if_pos h1, if_pos h1]; by_cases h2 : 0 ≤ i
    · rw [if_pos h2, if_pos h2]; by_cases h3 : i < (a.size : Int)
      · rw [if_pos h3, if_pos h3]; unfold F6; generalize bt a i = c; repeat' split
        all_goals first | rfl | (exfalso; simp_all <;> omega) | (exfalso; simp_all; done)
      · rw [if_neg h3, if_neg h3]
    · rw [if_neg h2, if_neg h2]
  · rw [if_neg h1, if_neg h1]
def CY (p : Int → Bool) (a : ByteArray) : Nat → Nat → Bool
  | 0, _ => true
  | d + 1, i => p (bt a (i : Int)) && CY p a d (i + 1)
def Gw (a : ByteArray) : Bool := CY (fun c => !F6 c) a a.size 0 && (decide (1 ≤ a.size) && decide (a.size ≤ 100))
theorem Oj (a : ByteArray) (e : a.size ≤ maxLen) : Ev (fun k => Bn.f k a) (Gw a) := by
  have hm : maxLen = 9223372036854775807 := by decide
  have key : ∀ d i, i + d = a.size → Ev (fun k => Bn.l0 k a (a.size : Int) (i : Int)) (CY (fun c => !F6 c) a d i && (decide (1 ≤ a.size) && decide (a.size ≤ 100))) := by
    intro d; induction d with
    | zero =>
      intro i hi; refine Ev.step (f := fun _ => some (decide (1 ≤ a.size) && decide (a.size ≤ 100))) (fun k => ?_) (by simpa [CY] using Ev.now _); rw [IA, if_neg (by omega)]; by_cases h : (a.size : Int) ≥ 1
      · rw [if_pos h]; congr 1; rw [Bool.eq_iff_iff]; simp; omega
      · rw [if_neg h]; congr 1; rw [Bool.eq_iff_iff]; simp; omega
    | succ d b =>
      intro i hi; by_cases ho : F6 (bt a (i : Int)) = true
      · refine Ev.step (f := fun _ => some false) (fun k => ?_) (by simpa [CY, ho] using Ev.now _); rw [IA, if_pos (by omega), if_pos (by omega), if_pos (by omega), if_pos ho]
      · refine Ev.step (f := fun k => Bn.l0 k a (a.size : Int) ((i + 1 : Nat) : Int)) (fun k => ?_) (by simpa [CY, ho] using b (i + 1) (by omega)); rw [IA, if_pos (by omega), if_pos (by omega), if_pos (by omega), if_neg ho, Bi (by omega) (by omega)]; rfl
  exact key a.size 0 (by omega)
end Go.Proofs.Ytojankgmedccdaa.Pure
end
section
namespace Go.Proofs.Ytojankgmedccdaa.Pure
open Go.RowKit Own PTy Hand PIs Wo
theorem get_bt (a : ByteArray) (i : Nat) (h : i < a.size) : (((a.get! i).toNat : Nat) : Int) = bt a (i : Int) := by
  unfold bt; rw [dif_pos (by simpa using h)]; simp only [Int.toNat_natCast]; congr 1; have : a.get! i = a[i] := by
    show a.data[i]! = a.data[i]; exact getElem!_pos a.data i h
  rw [this]
theorem NU (n : Int) (h : 123 ≤ n) : F6 n = true := by
  unfold F6; have h1 : ¬ n ≤ 122 := by omega
  have a : ¬ n ≤ 90 := by omega
  have b : ¬ n ≤ 57 := by omega
  have c : ¬ n = 95 := by omega
  have d : ¬ n = 46 := by omega
  simp [h1, a, b, c, d]
theorem MI (a : ByteArray) (i : Nat) (h : (a.get! i).toNat < 128) : Utf8.decode a i = ((a.get! i).toNat, 1) := by
  unfold Utf8.decode; simp only [Nat.add_zero]; rw [if_pos h]
theorem MJ (a : ByteArray) (i : Nat) (h : ¬ (a.get! i).toNat < 128) : 128 ≤ (Utf8.decode a i).1 := by
  have hr : Utf8.runeError = 65533 := rfl; unfold Utf8.decode; simp only [Nat.add_zero]; rw [if_neg h]; repeat' split
  all_goals (first | (simp only [hr]; omega) | skip)
  all_goals simp_all
  all_goals omega
theorem KO (a : ByteArray) : ∀ f pos, a.size ≤ pos + f → decide (0 ≤ Lib.idxFuncFrom (fun n => F6 (n : Int)) true a f pos) = !(CY (fun c => !F6 c) a (a.size - pos) pos) := by
  intro f; induction f with
  | zero =>
    intro pos h; rw [show a.size - pos = 0 by omega]; rfl
  | succ f e =>
    intro pos h; unfold Lib.idxFuncFrom; by_cases hp : pos < a.size
    · rw [if_pos hp, show a.size - pos = (a.size - (pos + 1)) + 1 by omega]; unfold CY; rw [← get_bt a pos hp]; by_cases hb : (a.get! pos).toNat < 128
      · rw [MI a pos hb]; by_cases ho : F6 (((a.get! pos).toNat : Nat) : Int) = true
        · rw [if_pos ho, ho]; simp
        · rw [if_neg ho]; have := e (pos + 1) (by omega); simp only [Bool.not_eq_true] at ho; rw [ho]; simpa using this
      · have h1 := MJ a pos hb; have b : F6 ((Utf8.decode a pos).1 : Int) = true := NU _ (by omega); have d : F6 (((a.get! pos).toNat : Nat) : Int) = true := NU _ (by omega); rw [if_pos b, d]; simp
    · rw [if_neg hp, show a.size - pos = 0 by omega]; rfl
theorem HY (a : ByteArray) : strings_ContainsFunc.f a = some (!(CY (fun c => !F6 c) a a.size 0)) := by
  unfold strings_ContainsFunc.f Lib.idxFunc; rw [KO a a.size 0 (by omega)]; rfl
def Fp (a : List (List UInt8)) : List UInt8 := a.flatMap (fun x => 32 :: x) ++ [32]
theorem Jh (w : List UInt8) (a : List (List UInt8)) : Fp (w :: a) = 32 :: (w ++ Fp a) := by simp [Fp]
theorem MK (a : List (List UInt8)) : ∃ t, Fp a = 32 :: t := by
  cases a with
  | nil => exact ⟨[], rfl⟩
  | cons w a => exact ⟨_, Jh w a⟩
theorem KP : ∀ (a w l : List UInt8), 32 ∉ a → 32 ∉ w → ((a ++ [32]).isPrefixOf (w ++ 32 :: l) = true ↔ a = w)
  | [], [], l, _, _ => by simp
  | [], x :: w, l, _, hw => by
    simp only [List.nil_append, List.cons_append, List.isPrefixOf, Bool.and_eq_true, beq_iff_eq]; constructor
    · rintro ⟨h, _⟩; exact absurd (h ▸ List.mem_cons_self ..) hw
    · intro h; cases h
  | y :: a, [], l, ha, _ => by
    simp only [List.nil_append, List.cons_append, List.isPrefixOf, Bool.and_eq_true, beq_iff_eq]; constructor
    · rintro ⟨h, _⟩; exact absurd (h ▸ List.mem_cons_self ..) ha
    · intro h; cases h
  | y :: a, x :: w, l, ha, hw => by
    have b := KP a w l (fun h => ha (List.mem_cons_of_mem _ h)) (fun h => hw (List.mem_cons_of_mem _ h)); simp only [List.cons_append, List.isPrefixOf, Bool.and_eq_true, beq_iff_eq, List.cons.injEq]; rw [b]
def IP (s p : List UInt8) : Prop := ∃ i, i ≤ s.length ∧ Lib.occAt s p i = true
theorem Jz (s p : List UInt8) : Lib.contains s p = true ↔ IP s p := by
  unfold Lib.contains IP; rw [decide_eq_true_iff]; rcases Lib.index_spec s p with ⟨h, hn⟩ | ⟨i, h, hi, ho, _⟩
  · rw [h]; constructor
    · intro a; omega
    · rintro ⟨i, hi, ho⟩; rw [hn i hi] at ho; cases ho
  · rw [h]; exact ⟨fun _ => ⟨i, hi, ho⟩, fun _ => by omega⟩
theorem JA (x : UInt8) (s p : List UInt8) : IP (x :: s) p ↔ p.isPrefixOf (x :: s) = true ∨ IP s p := by
  unfold IP Lib.occAt; constructor
  · rintro ⟨i, hi, ho⟩; cases i with
    | zero => exact .inl ho
    | succ i => exact .inr ⟨i, by simpa using hi, by simpa using ho⟩
  · rintro (h | ⟨i, hi, ho⟩)
    · exact ⟨0, Nat.zero_le _, h⟩
    · exact ⟨i + 1, by simpa using hi, by simpa using ho⟩
theorem JB (a l : List UInt8) : ∀ w : List UInt8, 32 ∉ w → (IP (w ++ l) (32 :: a) ↔ IP l (32 :: a))
  | [], _ => Iff.rfl
  | x :: w, hw => by
    rw [List.cons_append, JA, JB a l w (fun h => hw (List.mem_cons_of_mem _ h))]; constructor
    · rintro (h | h)
      · simp only [List.isPrefixOf, Bool.and_eq_true, beq_iff_eq] at h; exact absurd (h.1 ▸ List.mem_cons_self ..) hw
      · exact h
    · exact .inr
theorem JC (a : List UInt8) (d : 32 ∉ a) (c : a ≠ []) : ∀ b : List (List UInt8), (∀ w ∈ b, 32 ∉ w) → (IP (Fp b) (32 :: (a ++ [32])) ↔ a ∈ b)
  | [], _ => by
    constructor
    · rintro ⟨i, hi, ho⟩; exfalso; have h1 : i = 0 ∨ i = 1 := by simp [Fp] at hi; omega
      unfold Lib.occAt at ho; cases a with
      | nil => exact c rfl
      | cons x a => rcases h1 with rfl | rfl <;> simp [Fp, List.isPrefixOf] at ho
    · intro h; cases h
  | w :: b, hws => by
    have e := hws w (List.mem_cons_self ..); obtain ⟨t, j⟩ := MK b; rw [Jh, JA, JB (a ++ [32]) (Fp b) w e, JC a d c b (fun x k => hws x (List.mem_cons_of_mem _ k)), List.mem_cons]; have g : (32 :: (a ++ [32])).isPrefixOf (32 :: (w ++ Fp b)) = true ↔ a = w := by
      rw [j]; simp only [List.isPrefixOf, beq_self_eq_true, Bool.true_and]; exact KP a w t d e
    rw [g]
def J2 : List (List UInt8) := match Ep.f with | some l => l.map (fun x : ByteArray => x.data.toList) | none => []
theorem K8 : K7.data.toList = Fp J2 := by decide
theorem KQ : ∀ w ∈ J2, (32 : UInt8) ∉ w := by decide
end Go.Proofs.Ytojankgmedccdaa.Pure
end
section
namespace Go.Proofs.Ytojankgmedccdaa.Pure
open Go.RowKit Own PTy Hand PIs Wo
theorem toList_eq (a : ByteArray) : a.toList = a.data.toList := Lib.toList_data a
theorem ML (x : ByteArray) (l : List ByteArray) (c : l.length ≤ maxLen) : Ev (fun k => Cg.f k l x) (l.any fun y => decide (y.toList = x.toList)) := by
  have hm : maxLen = 9223372036854775807 := by decide
  have key : ∀ d i, i + d = l.length → Ev (fun k => Cg.l0 k x l (l.length : Int) (i : Int)) ((l.drop i).any fun y => decide (y.toList = x.toList)) := by
    intro d; induction d with
    | zero =>
      intro i hi; refine Ev.step (f := fun _ => some false) (fun k => ?_) (by rw [List.drop_eq_nil_of_le (by omega)]; exact Ev.now _); simp only [Cg.l0]; rw [if_neg (by omega)]
    | succ d b =>
      intro i hi; have a : i < l.length := by omega
      have hr : D8 ByteArray.empty l (i : Int) = l[i] := by simp [D8, List.getD_eq_getElem?_getD, a]
      rw [List.drop_eq_getElem_cons a, List.any_cons]; by_cases he : l[i].toList = x.toList
      · refine Ev.step (f := fun _ => some true) (fun k => ?_) (by rw [decide_eq_true he]; exact Ev.now _); simp only [Cg.l0]; rw [if_pos (by omega), if_pos (by omega), if_pos (by omega), hr, if_pos he]
      · refine Ev.step (f := fun k => Cg.l0 k x l (l.length : Int) ((i + 1 : Nat) : Int)) (fun k => ?_) (by rw [decide_eq_false he, Bool.false_or]; exact b (i + 1) (by omega)); simp only [Cg.l0]; rw [if_pos (by omega), if_pos (by omega), if_pos (by omega), hr, if_neg he, Bi (by omega) (by omega)]; rfl
  exact key l.length 0 (by omega)
def IQ (a : ByteArray) : Bool := decide (a.data.toList ∈ J2)
theorem NV (a : ByteArray) : Ev (fun k => EP.f k a) (IQ a) := by
  obtain ⟨W, b⟩ : ∃ W, Ep.f = some W := ⟨_, rfl⟩; have c : W.length ≤ maxLen := by
    have : W.length = 73 ∨ W.length ≤ 200 := by
      right; have h : (match Ep.f with | some l => decide (l.length ≤ 200) | none => true) = true := by decide
      rw [b] at h; simpa using h
    have : maxLen = 9223372036854775807 := by decide
    omega
  have h := ML a W c; have e : (W.any fun y => decide (y.toList = a.toList)) = IQ a := by
    unfold IQ J2; rw [b, Bool.eq_iff_iff]; simp only [List.any_eq_true, decide_eq_true_eq, List.mem_map, toList_eq]
  rw [e] at h; refine Ev.congr (f := fun k => (Cg.f k W a).bind fun t => some t) (fun k => ?_) (Ev.bind h (Ev.now _)); unfold EP.f; rw [b]; rfl
theorem JD (a b : ByteArray) : (a ++ b).data.toList = a.data.toList ++ b.data.toList := by simp [ByteArray.data_append]
theorem NW (a : ByteArray) (h1 : 1 ≤ a.size) (c : a.size ≤ 1000) (hp : (32 : UInt8) ∉ a.data.toList) : Da.f a = some (IQ a) := by
  have b : a.data.toList ≠ [] := by
    intro h; have : a.size = 0 := by show a.data.size = 0; rw [← Array.length_toList, h]; rfl
    omega
  have hi : ¬ 0 ≤ Lib.indexByte a.data.toList 32 := by
    have key : ∀ l : List UInt8, 32 ∉ l → Lib.indexByte l 32 = -1 := by
      intro l; induction l with
      | nil => intro _; rfl
      | cons x l g =>
        intro h; have d : (x == 32) = false := by
          rw [beq_eq_false_iff_ne]; intro e; exact h (e ▸ List.mem_cons_self ..)
        unfold Lib.indexByte; rw [d, g (fun hm => h (List.mem_cons_of_mem _ hm))]; rfl
    rw [key _ hp]; decide
  unfold Da.f; rw [if_pos c, if_neg (by rw [toList_eq]; exact b), if_neg hi]; congr 1; rw [Bool.eq_iff_iff, Jz, K8, JD, JD]; unfold IQ; rw [decide_eq_true_iff]; exact JC _ hp b _ KQ
theorem IR (p : Int → Bool) (a : ByteArray) : ∀ d i, (CY p a d i = true ↔ ∀ j, i ≤ j → j < i + d → p (bt a (j : Int)) = true)
  | 0, i => by simp [CY]; omega
  | d + 1, i => by
    simp only [CY, Bool.and_eq_true, IR p a d (i + 1)]; constructor
    · rintro ⟨h, hr⟩ j h1 b; rcases Nat.eq_or_lt_of_le h1 with rfl | h3
      · exact h
      · exact hr j (by omega) (by omega)
    · exact fun h => ⟨h i (by omega) (by omega), fun j h1 b => h j (by omega) (by omega)⟩
def D7 (a : ByteArray) : Bool := decide (1 ≤ a.size) && decide (a.size ≤ 40) && Gq (bt a 0) && CY EO a a.size 0 && !IQ a
theorem NY : EO 32 = false := by decide
theorem KR (a : ByteArray) (h : CY EO a a.size 0 = true) : (32 : UInt8) ∉ a.data.toList := by
  intro hm; obtain ⟨j, e, d⟩ := List.getElem_of_mem hm; have b : j < a.size := by simpa using e
  have := (IR EO a a.size 0).mp h j (by omega) (by omega); have c : bt a (j : Int) = 32 := by
    unfold bt; rw [dif_pos (by simpa using b)]; simp only [Int.toNat_natCast]; have : a[j] = 32 := by
      rw [← d]; exact (Array.getElem_toList ..).symm
    rw [this]; rfl
  rw [c, NY] at this; cases this
end Go.Proofs.Ytojankgmedccdaa.Pure
end
section
namespace Go.Proofs.Ytojankgmedccdaa.Pure
open Go.RowKit Own PTy Hand PIs Wo
theorem NZ (a : ByteArray) (c : a.size ≤ 1000) : ∀ d i, i + d = a.size → Ev (fun k => BB.l0 k a (a.size : Int) (i : Int)) (CY EO a d i) := by
  intro d; induction d with
  | zero =>
    intro i hi; refine Ev.step (f := fun _ => some true) (fun k => ?_) (Ev.now _); simp only [BB.l0]; rw [if_neg (by omega)]
  | succ d b =>
    intro i hi; by_cases ho : EO (bt a (i : Int)) = true
    · refine Ev.step (f := fun k => BB.l0 k a (a.size : Int) ((i + 1 : Nat) : Int)) (fun k => ?_) (by simpa [CY, ho] using b (i + 1) (by omega)); simp only [BB.l0]; rw [if_pos (by omega), if_pos (by omega), if_pos (by omega), NT, Ic, ho, Option.bind_some, if_pos rfl, Bi (by omega) (by omega)]; rfl
    · refine Ev.step (f := fun _ => some false) (fun k => ?_) (by simpa [CY, ho] using Ev.now _); simp only [BB.l0]; rw [if_pos (by omega), if_pos (by omega), if_pos (by omega), NT, Ic, Option.bind_some, if_neg ho]
theorem PW (a : ByteArray) (e : a.size ≤ 1000) : ∀ d i, i + d = a.size → ∃ r : Int, Ev (fun k => Dx.l0 k a 0 1 (i : Int)) r ∧ (r = (a.size : Int) ↔ CY EO a d i = true) := by
  intro d; induction d with
  | zero =>
    intro i hi; refine ⟨(i : Int), Ev.step (f := fun _ => some (i : Int)) (fun k => ?_) (Ev.now _), by simp [CY]; omega⟩; simp only [Dx.l0]; rw [Int.zero_add, Bi (by omega) (by omega), if_neg (by omega)]
  | succ d c =>
    intro i hi; by_cases ho : EO (bt a (i : Int)) = true
    · obtain ⟨r, h1, b⟩ := c (i + 1) (by omega); refine ⟨r, Ev.step (f := fun k => Dx.l0 k a 0 1 ((i + 1 : Nat) : Int)) (fun k => ?_) h1, by rw [b]; simp [CY, ho]⟩; simp only [Dx.l0]; rw [Int.zero_add, Bi (n := (i : Int)) (by omega) (by omega), if_pos (by omega), if_pos (by omega)]; unfold Hr.f; rw [if_neg (by decide), if_pos rfl, Ic, ho, Option.bind_some, Option.bind_some, if_pos rfl, Bi (by omega) (by omega)]; rfl
    · refine ⟨(i : Int), Ev.step (f := fun _ => some (i : Int)) (fun k => ?_) (Ev.now _), by simp [CY, ho]; omega⟩; simp only [Dx.l0]; rw [Int.zero_add, Bi (n := (i : Int)) (by omega) (by omega), if_pos (by omega), if_pos (by omega)]; unfold Hr.f; rw [if_neg (by decide), if_pos rfl, Ic, Option.bind_some, Option.bind_some, if_neg ho]
theorem EJ (a : ByteArray) : a.toList = [] ↔ a.size = 0 := by
  rw [toList_eq]; have : a.size = a.data.toList.length := by rw [Array.length_toList]; rfl
  rw [this, List.length_eq_zero_iff]
theorem Na (a : ByteArray) : Ev (fun k => BB.f k a) (D7 a) := by
  have c : ∀ b, Ev (fun k => BB.j0 k b true) false := fun b => Ev.step (f := fun _ => some false) (fun k => by simp [BB.j0]) (Ev.now _); by_cases h0 : a.size = 0
  · have e : D7 a = false := by unfold D7; simp [h0]
    rw [e]; exact Ev.congr (fun k => by unfold BB.f; rw [if_pos ((EJ a).mpr h0)]) (c a)
  by_cases h4 : a.size ≤ 40
  · by_cases hl : Gq (bt a 0) = true
    · obtain ⟨t, j, g⟩ : ∃ t, Da.f a = some t ∧ D7 a = (!t && CY EO a a.size 0) := by
        by_cases hs : (32 : UInt8) ∈ a.data.toList
        · have i : CY EO a a.size 0 = false := by
            cases h : CY EO a a.size 0
            · rfl
            · exact absurd hs (KR a h)
          refine ⟨false, ?_, by unfold D7; simp [i]⟩; unfold Da.f; have hi : 0 ≤ Lib.indexByte a.data.toList 32 := by
            have key : ∀ l : List UInt8, 32 ∈ l → 0 ≤ Lib.indexByte l 32 := by
              intro l; induction l with
              | nil => intro h; cases h
              | cons x l m =>
                intro h; unfold Lib.indexByte; by_cases hx : x = 32
                · simp [hx]
                · have hm : 32 ∈ l := by
                    rcases List.mem_cons.mp h with e | e
                    · exact absurd e.symm hx
                    · exact e
                  have := m hm; have d : (x == 32) = false := beq_eq_false_iff_ne.mpr hx; rw [d]; simp only [Bool.false_eq_true, if_false]; split <;> simp_all; omega
            exact key _ hs
          rw [if_pos (by omega), if_neg (fun h => h0 ((EJ a).mp h)), if_pos hi]
        · exact ⟨IQ a, NW a (by omega) (by omega) hs, by
            unfold D7; rw [hl, decide_eq_true h4, decide_eq_true (show 1 ≤ a.size by omega)]; simp [Bool.and_comm]⟩
      rw [g]; refine Ev.congr (f := fun k => BB.j0 k a t) (fun k => ?_) ?_
      · unfold BB.f; rw [if_neg (fun h => h0 ((EJ a).mp h)), if_neg (by omega), if_pos (by omega), KN, Gd, hl, Option.bind_some, if_pos rfl, j, Option.bind_some]
      · cases t with
        | true => simpa using c a
        | false =>
          refine Ev.step (f := fun k => BB.l0 k a (a.size : Int) ((0 : Nat) : Int)) (fun k => ?_) (by simpa using NZ a (by omega) a.size 0 (by omega)); simp only [BB.j0]; rw [if_neg (by decide)]; rfl
    · have e : D7 a = false := by unfold D7; simp [hl]
      rw [e]; exact Ev.congr (fun k => by unfold BB.f; rw [if_neg (fun h => h0 ((EJ a).mp h)), if_neg (by omega), if_pos (by omega), KN, Gd, Option.bind_some, if_neg hl]) (c a)
  · have e : D7 a = false := by unfold D7; simp [h4]
    rw [e]; exact Ev.congr (fun k => by unfold BB.f; rw [if_neg (fun h => h0 ((EJ a).mp h)), if_pos (by omega)]) (c a)
theorem Nb (a : ByteArray) : Ev (fun k => Dj.f k a) (D7 a) := by
  by_cases h0 : 1 ≤ a.size
  · by_cases h4 : a.size ≤ 40
    · by_cases hl : Gq (bt a 0) = true
      · obtain ⟨r, h1, c⟩ := PW a (by omega) a.size 0 (by omega); refine Ev.congr (f := fun k => (Dx.f k a 0 1).bind fun t => if t = (a.size : Int) then ((EP.f k a).bind fun b => (some (!b))) else (some false)) (fun k => ?_) (Ev.bind h1 ?_)
        · unfold Dj.f; rw [if_pos (by omega), if_pos (by omega), if_pos (by omega), Gd, hl, Option.bind_some, if_pos rfl]
        · by_cases hr : r = (a.size : Int)
          · have e : D7 a = !IQ a := by
              unfold D7; rw [hl, decide_eq_true h4, decide_eq_true h0, c.mp hr]; rfl
            rw [e]; exact Ev.congr (fun k => by rw [if_pos hr]) (Ev.bind (NV a) (Ev.now _))
          · have d : CY EO a a.size 0 = false := by
              cases h : CY EO a a.size 0
              · rfl
              · exact absurd (c.mpr h) hr
            have e : D7 a = false := by unfold D7; simp [d]
            rw [e]; exact Ev.congr (fun k => by rw [if_neg hr]) (Ev.now _)
      · have e : D7 a = false := by unfold D7; simp [hl]
        rw [e]; exact Ev.congr (fun k => by unfold Dj.f; rw [if_pos (by omega), if_pos (by omega), if_pos (by omega), Gd, Option.bind_some, if_neg hl]) (Ev.now _)
    · have e : D7 a = false := by unfold D7; simp [h4]
      rw [e]; exact Ev.congr (fun k => by unfold Dj.f; rw [if_pos (by omega), if_neg (by omega)]) (Ev.now _)
  · have e : D7 a = false := by unfold D7; simp [h0]
    rw [e]; exact Ev.congr (fun k => by unfold Dj.f; rw [if_neg (by omega)]) (Ev.now _)
end Go.Proofs.Ytojankgmedccdaa.Pure
end
