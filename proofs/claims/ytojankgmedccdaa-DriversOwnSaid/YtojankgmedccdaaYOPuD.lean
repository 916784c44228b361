/- Lemmas. -/
import Derived.Test.YtojankgmedccdaaYOPIsx11
set_option maxRecDepth 100000
section
namespace Go.Proofs.Ytojankgmedccdaa.Pure
open Go.RowKit Own PTy Hand PIs Wo
theorem CK {n : Int} (h1 : -9223372036854775808 ≤ n) (h2 : n ≤ 9223372036854775807) : wrap64 n = n := by unfold wrap64; omega
theorem KP (c : Int) : CZ.f c = Gd.f c := rfl
theorem Nu (c : Int) : Dh.f c = Iw.f c := rfl
def Ez (c : Int) : Bool := (decide (97 ≤ c) && decide (c ≤ 122)) || (decide (65 ≤ c) && decide (c ≤ 90)) || (decide (48 ≤ c) && decide (c ≤ 57)) || decide (c = 95)
def Ha (c : Int) : Bool := (decide (97 ≤ c) && decide (c ≤ 122)) || (decide (65 ≤ c) && decide (c ≤ 90))
theorem Iy (c : Int) : Gd.f c = some (Ha c) := by
  unfold Gd.f Ha; by_cases h1 : 97 ≤ c <;> by_cases h2 : c ≤ 122 <;> by_cases h3 : 65 ≤ c <;> by_cases h4 : c ≤ 90 <;> simp [h1, h2, h3, h4]
theorem ME (c : Int) : Iw.f c = some (Ez c) := by
  unfold Iw.f KO.f; rw [Iy]; unfold Ha Ez; simp only [Option.bind_some]; by_cases h1 : 97 ≤ c <;> by_cases h2 : c ≤ 122 <;> by_cases h3 : 65 ≤ c <;> by_cases h4 : c ≤ 90 <;> by_cases h5 : 48 ≤ c <;> by_cases h6 : c ≤ 57 <;> simp [h1, h2, h3, h4, h5, h6] <;> rfl
def DJ (p : Int → Bool) (a : ByteArray) : Nat → Nat → Bool
  | 0, _ => true
  | d + 1, i => p (bt a (i : Int)) && DJ p a d (i + 1)
def IA (a : ByteArray) : Bool := DJ (fun c => !Gg c) a a.size 0 && (decide (1 ≤ a.size) && decide (a.size ≤ 100))
end Go.Proofs.Ytojankgmedccdaa.Pure
end
section
namespace Go.Proofs.Ytojankgmedccdaa.Pure
open Go.RowKit Own PTy Hand PIs Wo
theorem get_bt (a : ByteArray) (i : Nat) (h : i < a.size) : (((a.get! i).toNat : Nat) : Int) = bt a (i : Int) := by
  unfold bt; rw [dif_pos (by simpa using h)]; simp only [Int.toNat_natCast]; congr 1; have : a.get! i = a[i] := by
    show a.data[i]! = a.data[i]; exact getElem!_pos a.data i h
  rw [this]
theorem Nv (n : Int) (h : 123 ≤ n) : Gg n = true := by
  unfold Gg; have h1 : ¬ n ≤ 122 := by omega
  have h2 : ¬ n ≤ 90 := by omega
  have h3 : ¬ n ≤ 57 := by omega
  have h4 : ¬ n = 95 := by omega
  have a : ¬ n = 46 := by omega
  simp [h1, h2, h3, h4, a]
theorem Mf (a : ByteArray) (i : Nat) (h : (a.get! i).toNat < 128) : Utf8.decode a i = ((a.get! i).toNat, 1) := by
  unfold Utf8.decode; simp only [Nat.add_zero]; rw [if_pos h]
theorem Mg (a : ByteArray) (i : Nat) (h : ¬ (a.get! i).toNat < 128) : 128 ≤ (Utf8.decode a i).1 := by
  have hr : Utf8.runeError = 65533 := rfl; unfold Utf8.decode; simp only [Nat.add_zero]; rw [if_neg h]; repeat' split
  all_goals (first | (simp only [hr]; omega) | skip)
  all_goals simp_all
  all_goals omega
theorem KQ (a : ByteArray) : ∀ f pos, a.size ≤ pos + f → decide (0 ≤ Lib.idxFuncFrom (fun n => Gg (n : Int)) true a f pos) = !(DJ (fun c => !Gg c) a (a.size - pos) pos) := by
  intro f; induction f with
  | zero =>
    intro pos h; rw [show a.size - pos = 0 by omega]; rfl
  | succ f b =>
    intro pos h; unfold Lib.idxFuncFrom; by_cases hp : pos < a.size
    · rw [if_pos hp, show a.size - pos = (a.size - (pos + 1)) + 1 by omega]; unfold DJ; rw [← get_bt a pos hp]; by_cases hb : (a.get! pos).toNat < 128
      · rw [Mf a pos hb]; by_cases ho : Gg (((a.get! pos).toNat : Nat) : Int) = true
        · rw [if_pos ho, ho]; simp
        · rw [if_neg ho]; have := b (pos + 1) (by omega); simp only [Bool.not_eq_true] at ho; rw [ho]; simpa using this
      · have h1 := Mg a pos hb; have h2 : Gg ((Utf8.decode a pos).1 : Int) = true := Nv _ (by omega); have h3 : Gg (((a.get! pos).toNat : Nat) : Int) = true := Nv _ (by omega); rw [if_pos h2, h3]; simp
    · rw [if_neg hp, show a.size - pos = 0 by omega]; rfl
theorem Gw (a : ByteArray) : strings_ContainsFunc.f a = some (!(DJ (fun c => !Gg c) a a.size 0)) := by
  unfold strings_ContainsFunc.f Lib.idxFunc; rw [KQ a a.size 0 (by omega)]; rfl
def FY (a : List (List UInt8)) : List UInt8 := a.flatMap (fun x => 32 :: x) ++ [32]
theorem Jb (w : List UInt8) (a : List (List UInt8)) : FY (w :: a) = 32 :: (w ++ FY a) := by simp [FY]
theorem Mh (a : List (List UInt8)) : ∃ t, FY a = 32 :: t := by
  cases a with
  | nil => exact ⟨[], rfl⟩
  | cons w a => exact ⟨_, Jb w a⟩
theorem KR : ∀ (a w l : List UInt8), 32 ∉ a → 32 ∉ w → ((a ++ [32]).isPrefixOf (w ++ 32 :: l) = true ↔ a = w)
  | [], [], l, _, _ => by simp
  | [], x :: w, l, _, hw => by
    simp only [List.nil_append, List.cons_append, List.isPrefixOf, Bool.and_eq_true, beq_iff_eq]; constructor
    · rintro ⟨h, _⟩; exact absurd (h ▸ List.mem_cons_self ..) hw
    · intro h; cases h
  | y :: a, [], l, ha, _ => by
    simp only [List.nil_append, List.cons_append, List.isPrefixOf, Bool.and_eq_true, beq_iff_eq]; constructor
    · rintro ⟨h, _⟩; exact absurd (h ▸ List.mem_cons_self ..) ha
    · intro h; cases h
  | y :: a, x :: w, l, ha, hw => by
    have b := KR a w l (fun h => ha (List.mem_cons_of_mem _ h)) (fun h => hw (List.mem_cons_of_mem _ h)); simp only [List.cons_append, List.isPrefixOf, Bool.and_eq_true, beq_iff_eq, List.cons.injEq]; rw [b]
def IB (s p : List UInt8) : Prop := ∃ i, i ≤ s.length ∧ Lib.occAt s p i = true
theorem Jz (s p : List UInt8) : Lib.contains s p = true ↔ IB s p := by
  unfold Lib.contains IB; rw [decide_eq_true_iff]; rcases Lib.index_spec s p with ⟨h, hn⟩ | ⟨i, h, hi, ho, _⟩
  · rw [h]; constructor
    · intro a; omega
    · rintro ⟨i, hi, ho⟩; rw [hn i hi] at ho; cases ho
  · rw [h]; exact ⟨fun _ => ⟨i, hi, ho⟩, fun _ => by omega⟩
theorem Iz (x : UInt8) (s p : List UInt8) : IB (x :: s) p ↔ p.isPrefixOf (x :: s) = true ∨ IB s p := by
  unfold IB Lib.occAt; constructor
  · rintro ⟨i, hi, ho⟩; cases i with
    | zero => exact .inl ho
    | succ i => exact .inr ⟨i, by simpa using hi, by simpa using ho⟩
  · rintro (h | ⟨i, hi, ho⟩)
    · exact ⟨0, Nat.zero_le _, h⟩
    · exact ⟨i + 1, by simpa using hi, by simpa using ho⟩
theorem I1 (a l : List UInt8) : ∀ w : List UInt8, 32 ∉ w → (IB (w ++ l) (32 :: a) ↔ IB l (32 :: a))
  | [], _ => Iff.rfl
  | x :: w, hw => by
    rw [List.cons_append, Iz, I1 a l w (fun h => hw (List.mem_cons_of_mem _ h))]; constructor
    · rintro (h | h)
      · simp only [List.isPrefixOf, Bool.and_eq_true, beq_iff_eq] at h; exact absurd (h.1 ▸ List.mem_cons_self ..) hw
      · exact h
    · exact .inr
theorem I4 (a : List UInt8) (e : 32 ∉ a) (c : a ≠ []) : ∀ b : List (List UInt8), (∀ w ∈ b, 32 ∉ w) → (IB (FY b) (32 :: (a ++ [32])) ↔ a ∈ b)
  | [], _ => by
    constructor
    · rintro ⟨i, hi, ho⟩; exfalso; have h1 : i = 0 ∨ i = 1 := by simp [FY] at hi; omega
      unfold Lib.occAt at ho; cases a with
      | nil => exact c rfl
      | cons x a => rcases h1 with rfl | rfl <;> simp [FY, List.isPrefixOf] at ho
    · intro h; cases h
  | w :: b, hws => by
    have j := hws w (List.mem_cons_self ..); obtain ⟨t, k⟩ := Mh b; rw [Jb, Iz, I1 (a ++ [32]) (FY b) w j, I4 a e c b (fun x l => hws x (List.mem_cons_of_mem _ l)), List.mem_cons]; have h2 : (32 :: (a ++ [32])).isPrefixOf (32 :: (w ++ FY b)) = true ↔ a = w := by
      rw [k]; simp only [List.isPrefixOf, beq_self_eq_true, Bool.true_and]; exact KR a w t e j
    rw [h2]
def LM : List (List UInt8) := match Nt.f with | some l => l.map (fun x : ByteArray => x.data.toList) | none => []
theorem LP : LK.data.toList = FY LM := by decide
theorem KS : ∀ w ∈ LM, (32 : UInt8) ∉ w := by decide
end Go.Proofs.Ytojankgmedccdaa.Pure
end
section
namespace Go.Proofs.Ytojankgmedccdaa.Pure
open Go.RowKit Own PTy Hand PIs Wo
theorem toList_eq (a : ByteArray) : a.toList = a.data.toList := Lib.toList_data a
def MF (a : ByteArray) : Bool := decide (a.data.toList ∈ LM)
theorem I5 (a b : ByteArray) : (a ++ b).data.toList = a.data.toList ++ b.data.toList := by simp [ByteArray.data_append]
theorem Nw (a : ByteArray) (h1 : 1 ≤ a.size) (h2 : a.size ≤ 1000) (hp : (32 : UInt8) ∉ a.data.toList) : C8.f a = some (MF a) := by
  have b : a.data.toList ≠ [] := by
    intro h; have : a.size = 0 := by show a.data.size = 0; rw [← Array.length_toList, h]; rfl
    omega
  have hi : ¬ 0 ≤ Lib.indexByte a.data.toList 32 := by
    have key : ∀ l : List UInt8, 32 ∉ l → Lib.indexByte l 32 = -1 := by
      intro l; induction l with
      | nil => intro _; rfl
      | cons x l i =>
        intro h; have c : (x == 32) = false := by
          rw [beq_eq_false_iff_ne]; intro e; exact h (e ▸ List.mem_cons_self ..)
        unfold Lib.indexByte; rw [c, i (fun hm => h (List.mem_cons_of_mem _ hm))]; rfl
    rw [key _ hp]; decide
  unfold C8.f; rw [if_pos h2, if_neg (by rw [toList_eq]; exact b), if_neg hi]; congr 1; rw [Bool.eq_iff_iff, Jz, LP, I5, I5]; unfold MF; rw [decide_eq_true_iff]; exact I4 _ hp b _ KS
theorem IC (p : Int → Bool) (a : ByteArray) : ∀ d i, (DJ p a d i = true ↔ ∀ j, i ≤ j → j < i + d → p (bt a (j : Int)) = true)
  | 0, i => by simp [DJ]; omega
  | d + 1, i => by
    simp only [DJ, Bool.and_eq_true, IC p a d (i + 1)]; constructor
    · rintro ⟨h, hr⟩ j h1 h2; rcases Nat.eq_or_lt_of_le h1 with rfl | h3
      · exact h
      · exact hr j (by omega) (by omega)
    · exact fun h => ⟨h i (by omega) (by omega), fun j h1 h2 => h j (by omega) (by omega)⟩
def F8 (a : ByteArray) : Bool := decide (1 ≤ a.size) && decide (a.size ≤ 40) && Ha (bt a 0) && DJ Ez a a.size 0 && !MF a
theorem Ny : Ez 32 = false := by decide
theorem KT (a : ByteArray) (h : DJ Ez a a.size 0 = true) : (32 : UInt8) ∉ a.data.toList := by
  intro hm; obtain ⟨j, i, e⟩ := List.getElem_of_mem hm; have b : j < a.size := by simpa using i
  have := (IC Ez a a.size 0).mp h j (by omega) (by omega); have c : bt a (j : Int) = 32 := by
    unfold bt; rw [dif_pos (by simpa using b)]; simp only [Int.toNat_natCast]; have : a[j] = 32 := by
      rw [← e]; exact (Array.getElem_toList ..).symm
    rw [this]; rfl
  rw [c, Ny] at this; cases this
end Go.Proofs.Ytojankgmedccdaa.Pure
end
section
namespace Go.Proofs.Ytojankgmedccdaa.Pure
open Go.RowKit Own PTy Hand PIs Wo
theorem Nz (a : ByteArray) (c : a.size ≤ 1000) : ∀ d i, i + d = a.size → Ev (fun k => BF.l0 k a (a.size : Int) (i : Int)) (DJ Ez a d i) := by
  intro d; induction d with
  | zero =>
    intro i hi; refine Ev.step (f := fun _ => some true) (fun k => ?_) (Ev.now _); simp only [BF.l0]; rw [if_neg (by omega)]
  | succ d b =>
    intro i hi; by_cases ho : Ez (bt a (i : Int)) = true
    · refine Ev.step (f := fun k => BF.l0 k a (a.size : Int) ((i + 1 : Nat) : Int)) (fun k => ?_) (by simpa [DJ, ho] using b (i + 1) (by omega)); simp only [BF.l0]; rw [if_pos (by omega), if_pos (by omega), if_pos (by omega), Nu, ME, ho, Option.bind_some, if_pos rfl, CK (by omega) (by omega)]; rfl
    · refine Ev.step (f := fun _ => some false) (fun k => ?_) (by simpa [DJ, ho] using Ev.now _); simp only [BF.l0]; rw [if_pos (by omega), if_pos (by omega), if_pos (by omega), Nu, ME, Option.bind_some, if_neg ho]
theorem EZ (a : ByteArray) : a.toList = [] ↔ a.size = 0 := by
  rw [toList_eq]; have : a.size = a.data.toList.length := by rw [Array.length_toList]; rfl
  rw [this, List.length_eq_zero_iff]
theorem N7 (a : ByteArray) : Ev (fun k => BF.f k a) (F8 a) := by
  have c : ∀ b, Ev (fun k => BF.j0 k b true) false := fun b => Ev.step (f := fun _ => some false) (fun k => by simp [BF.j0]) (Ev.now _); by_cases h0 : a.size = 0
  · have e : F8 a = false := by unfold F8; simp [h0]
    rw [e]; exact Ev.congr (fun k => by unfold BF.f; rw [if_pos ((EZ a).mpr h0)]) (c a)
  by_cases h4 : a.size ≤ 40
  · by_cases hl : Ha (bt a 0) = true
    · obtain ⟨t, q, j⟩ : ∃ t, C8.f a = some t ∧ F8 a = (!t && DJ Ez a a.size 0) := by
        by_cases hs : (32 : UInt8) ∈ a.data.toList
        · have o : DJ Ez a a.size 0 = false := by
            cases h : DJ Ez a a.size 0
            · rfl
            · exact absurd hs (KT a h)
          refine ⟨false, ?_, by unfold F8; simp [o]⟩; unfold C8.f; have hi : 0 ≤ Lib.indexByte a.data.toList 32 := by
            have key : ∀ l : List UInt8, 32 ∈ l → 0 ≤ Lib.indexByte l 32 := by
              intro l; induction l with
              | nil => intro h; cases h
              | cons x l r =>
                intro h; unfold Lib.indexByte; by_cases hx : x = 32
                · simp [hx]
                · have hm : 32 ∈ l := by
                    rcases List.mem_cons.mp h with e | e
                    · exact absurd e.symm hx
                    · exact e
                  have := r hm; have i : (x == 32) = false := beq_eq_false_iff_ne.mpr hx; rw [i]; simp only [Bool.false_eq_true, if_false]; split <;> simp_all; omega
            exact key _ hs
          rw [if_pos (by omega), if_neg (fun h => h0 ((EZ a).mp h)), if_pos hi]
        · exact ⟨MF a, Nw a (by omega) (by omega) hs, by
            unfold F8; rw [hl, decide_eq_true h4, decide_eq_true (show 1 ≤ a.size by omega)]; simp [Bool.and_comm]⟩
      rw [j]; refine Ev.congr (f := fun k => BF.j0 k a t) (fun k => ?_) ?_
      · unfold BF.f; rw [if_neg (fun h => h0 ((EZ a).mp h)), if_neg (by omega), if_pos (by omega), KP, Iy, hl, Option.bind_some, if_pos rfl, q, Option.bind_some]
      · cases t with
        | true => simpa using c a
        | false =>
          refine Ev.step (f := fun k => BF.l0 k a (a.size : Int) ((0 : Nat) : Int)) (fun k => ?_) (by simpa using Nz a (by omega) a.size 0 (by omega)); simp only [BF.j0]; rw [if_neg (by decide)]; rfl
    · have e : F8 a = false := by unfold F8; simp [hl]
      rw [e]; exact Ev.congr (fun k => by unfold BF.f; rw [if_neg (fun h => h0 ((EZ a).mp h)), if_neg (by omega), if_pos (by omega), KP, Iy, Option.bind_some, if_neg hl]) (c a)
  · have e : F8 a = false := by unfold F8; simp [h4]
    rw [e]; exact Ev.congr (fun k => by unfold BF.f; rw [if_neg (fun h => h0 ((EZ a).mp h)), if_pos (by omega)]) (c a)
end Go.Proofs.Ytojankgmedccdaa.Pure
end
