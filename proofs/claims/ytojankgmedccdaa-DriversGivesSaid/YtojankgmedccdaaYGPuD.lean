/- Lemmas for LawDriversGives. -/
import Derived.Test.YtojankgmedccdaaYGPIsx11
section
namespace Go.Proofs.Ytojankgmedccdaa.Pure
open Go.RowKit Own PTy Hand PIs YtojankgmedccdaaW.PrintWords YtojankgmedccdaaW.PrintLast
theorem CG {n : Int} (h1 : -9223372036854775808 ≤ n) (a : n ≤ 9223372036854775807) : wrap64 n = n := by unfold wrap64; omega
theorem Jo (c : Int) : Cb.f c = GK.f c := rfl
theorem M4 (c : Int) : Dp.f c = IQ.f c := rfl
def El (c : Int) : Bool := (decide (97 ≤ c) && decide (c ≤ 122)) || (decide (65 ≤ c) && decide (c ≤ 90)) || (decide (48 ≤ c) && decide (c ≤ 57)) || decide (c = 95)
def Gq (c : Int) : Bool := (decide (97 ≤ c) && decide (c ≤ 122)) || (decide (65 ≤ c) && decide (c ≤ 90))
theorem IR (c : Int) : GK.f c = some (Gq c) := by
  unfold GK.f Gq
  by_cases h1 : 97 ≤ c <;> by_cases h2 : c ≤ 122 <;> by_cases h3 : 65 ≤ c <;> by_cases h4 : c ≤ 90 <;> simp [h1, h2, h3, h4]
theorem LB (c : Int) : IQ.f c = some (El c) := by
  unfold IQ.f Jn.f
  rw [IR]
  unfold Gq El
  simp only [Option.bind_some]
  by_cases h1 : 97 ≤ c <;> by_cases h2 : c ≤ 122 <;> by_cases h3 : 65 ≤ c <;> by_cases h4 : c ≤ 90 <;> by_cases h5 : 48 ≤ c <;> by_cases h6 : c ≤ 57 <;> simp [h1, h2, h3, h4, h5, h6] <;> rfl
def DW (p : Int → Bool) (a : ByteArray) : Nat → Nat → Bool
  | 0, _ => true
  | d + 1, i => p (bt a (i : Int)) && DW p a d (i + 1)
def Hf (a : ByteArray) : Bool := DW (fun c => !GM c) a a.size 0 && (decide (1 ≤ a.size) && decide (a.size ≤ 100))
end Go.Proofs.Ytojankgmedccdaa.Pure
end
section
namespace Go.Proofs.Ytojankgmedccdaa.Pure
open Go.RowKit Own PTy Hand PIs YtojankgmedccdaaW.PrintWords YtojankgmedccdaaW.PrintLast
theorem get_bt (a : ByteArray) (i : Nat) (h : i < a.size) : (((a.get! i).toNat : Nat) : Int) = bt a (i : Int) := by
  unfold bt
  rw [dif_pos (by simpa using h)]
  simp only [Int.toNat_natCast]
  congr 1
  have : a.get! i = a[i] := by
    show a.data[i]! = a.data[i]
    exact getElem!_pos a.data i h
  rw [this]
theorem M5 (n : Int) (h : 123 ≤ n) : GM n = true := by
  unfold GM
  have h1 : ¬ n ≤ 122 := by omega
  have a : ¬ n ≤ 90 := by omega
  have b : ¬ n ≤ 57 := by omega
  have c : ¬ n = 95 := by omega
  have d : ¬ n = 46 := by omega
  simp [h1, a, b, c, d]
theorem Lg (a : ByteArray) (i : Nat) (h : (a.get! i).toNat < 128) : Utf8.decode a i = ((a.get! i).toNat, 1) := by
  unfold Utf8.decode
  simp only [Nat.add_zero]
  rw [if_pos h]
theorem Lh (a : ByteArray) (i : Nat) (h : ¬ (a.get! i).toNat < 128) : 128 ≤ (Utf8.decode a i).1 := by
  have hr : Utf8.runeError = 65533 := rfl
  unfold Utf8.decode
  simp only [Nat.add_zero]
  rw [if_neg h]
  repeat' split
  all_goals (first | (simp only [hr]; omega) | skip)
  all_goals simp_all
  all_goals omega
theorem Jp (a : ByteArray) : ∀ f pos, a.size ≤ pos + f → decide (0 ≤ Lib.idxFuncFrom (fun n => GM (n : Int)) true a f pos) = !(DW (fun c => !GM c) a (a.size - pos) pos) := by
  intro f
  induction f with
  | zero =>
    intro pos h
    rw [show a.size - pos = 0 by omega]
    rfl
  | succ f e =>
    intro pos h
    unfold Lib.idxFuncFrom
    by_cases hp : pos < a.size
    · rw [if_pos hp, show a.size - pos = (a.size - (pos + 1)) + 1 by omega]
      unfold DW
      rw [← get_bt a pos hp]
      by_cases hb : (a.get! pos).toNat < 128
      · rw [Lg a pos hb]
        by_cases ho : GM (((a.get! pos).toNat : Nat) : Int) = true
        · rw [if_pos ho, ho]
          simp
        · rw [if_neg ho]
          have := e (pos + 1) (by omega)
          simp only [Bool.not_eq_true] at ho
          rw [ho]
          simpa using this
      · have h1 := Lh a pos hb
        have b : GM ((Utf8.decode a pos).1 : Int) = true := M5 _ (by omega)
        have d : GM (((a.get! pos).toNat : Nat) : Int) = true := M5 _ (by omega)
        rw [if_pos b, d]
        simp
    · rw [if_neg hp, show a.size - pos = 0 by omega]
      rfl
theorem Gg (a : ByteArray) : strings_ContainsFunc.f a = some (!(DW (fun c => !GM c) a a.size 0)) := by
  unfold strings_ContainsFunc.f Lib.idxFunc
  rw [Jp a a.size 0 (by omega)]
  rfl
def FE (a : List (List UInt8)) : List UInt8 := a.flatMap (fun x => 32 :: x) ++ [32]
theorem I8 (w : List UInt8) (a : List (List UInt8)) : FE (w :: a) = 32 :: (w ++ FE a) := by simp [FE]
theorem Li (a : List (List UInt8)) : ∃ t, FE a = 32 :: t := by
  cases a with
  | nil => exact ⟨[], rfl⟩
  | cons w a => exact ⟨_, I8 w a⟩
theorem Jq : ∀ (a w l : List UInt8), 32 ∉ a → 32 ∉ w → ((a ++ [32]).isPrefixOf (w ++ 32 :: l) = true ↔ a = w)
  | [], [], l, _, _ => by simp
  | [], x :: w, l, _, hw => by
    simp only [List.nil_append, List.cons_append, List.isPrefixOf, Bool.and_eq_true, beq_iff_eq]
    constructor
    · rintro ⟨h, _⟩; exact absurd (h ▸ List.mem_cons_self ..) hw
    · intro h; cases h
  | y :: a, [], l, ha, _ => by
    simp only [List.nil_append, List.cons_append, List.isPrefixOf, Bool.and_eq_true, beq_iff_eq]
    constructor
    · rintro ⟨h, _⟩; exact absurd (h ▸ List.mem_cons_self ..) ha
    · intro h; cases h
  | y :: a, x :: w, l, ha, hw => by
    have b := Jq a w l (fun h => ha (List.mem_cons_of_mem _ h)) (fun h => hw (List.mem_cons_of_mem _ h))
    simp only [List.cons_append, List.isPrefixOf, Bool.and_eq_true, beq_iff_eq, List.cons.injEq]
    rw [b]
def Hg (s p : List UInt8) : Prop := ∃ i, i ≤ s.length ∧ Lib.occAt s p i = true
theorem JV (s p : List UInt8) : Lib.contains s p = true ↔ Hg s p := by
  unfold Lib.contains Hg
  rw [decide_eq_true_iff]
  rcases Lib.index_spec s p with ⟨h, hn⟩ | ⟨i, h, hi, ho, _⟩
  · rw [h]
    constructor
    · intro a; omega
    · rintro ⟨i, hi, ho⟩; rw [hn i hi] at ho; cases ho
  · rw [h]
    exact ⟨fun _ => ⟨i, hi, ho⟩, fun _ => by omega⟩
theorem IU (x : UInt8) (s p : List UInt8) : Hg (x :: s) p ↔ p.isPrefixOf (x :: s) = true ∨ Hg s p := by
  unfold Hg Lib.occAt
  constructor
  · rintro ⟨i, hi, ho⟩
    cases i with
    | zero => exact .inl ho
    | succ i => exact .inr ⟨i, by simpa using hi, by simpa using ho⟩
  · rintro (h | ⟨i, hi, ho⟩)
    · exact ⟨0, Nat.zero_le _, h⟩
    · exact ⟨i + 1, by simpa using hi, by simpa using ho⟩
theorem IV (a l : List UInt8) : ∀ w : List UInt8, 32 ∉ w → (Hg (w ++ l) (32 :: a) ↔ Hg l (32 :: a))
  | [], _ => Iff.rfl
  | x :: w, hw => by
    rw [List.cons_append, IU, IV a l w (fun h => hw (List.mem_cons_of_mem _ h))]
    constructor
    · rintro (h | h)
      · simp only [List.isPrefixOf, Bool.and_eq_true, beq_iff_eq] at h
        exact absurd (h.1 ▸ List.mem_cons_self ..) hw
      · exact h
    · exact .inr
theorem IW (a : List UInt8) (d : 32 ∉ a) (c : a ≠ []) : ∀ b : List (List UInt8), (∀ w ∈ b, 32 ∉ w) → (Hg (FE b) (32 :: (a ++ [32])) ↔ a ∈ b)
  | [], _ => by
    constructor
    · rintro ⟨i, hi, ho⟩
      exfalso
      have h1 : i = 0 ∨ i = 1 := by simp [FE] at hi; omega
      unfold Lib.occAt at ho
      cases a with
      | nil => exact c rfl
      | cons x a => rcases h1 with rfl | rfl <;> simp [FE, List.isPrefixOf] at ho
    · intro h; cases h
  | w :: b, hws => by
    have e := hws w (List.mem_cons_self ..)
    obtain ⟨t, j⟩ := Li b
    rw [I8, IU, IV (a ++ [32]) (FE b) w e, IW a d c b (fun x k => hws x (List.mem_cons_of_mem _ k)), List.mem_cons]
    have g : (32 :: (a ++ [32])).isPrefixOf (32 :: (w ++ FE b)) = true ↔ a = w := by
      rw [j]
      simp only [List.isPrefixOf, beq_self_eq_true, Bool.true_and]
      exact Jq a w t d e
    rw [g]
def KY : List (List UInt8) := match M3.f with | some l => l.map (fun x : ByteArray => x.data.toList) | none => []
set_option maxRecDepth 100000 in
theorem KZ : KX.data.toList = FE KY := by decide
set_option maxRecDepth 100000 in
theorem Jr : ∀ w ∈ KY, (32 : UInt8) ∉ w := by decide
end Go.Proofs.Ytojankgmedccdaa.Pure
end
section
namespace Go.Proofs.Ytojankgmedccdaa.Pure
open Go.RowKit Own PTy Hand PIs YtojankgmedccdaaW.PrintWords YtojankgmedccdaaW.PrintLast
theorem toList_eq (a : ByteArray) : a.toList = a.data.toList := Lib.toList_data a
def LC (a : ByteArray) : Bool := decide (a.data.toList ∈ KY)
theorem IX (a b : ByteArray) : (a ++ b).data.toList = a.data.toList ++ b.data.toList := by simp [ByteArray.data_append]
theorem M6 (a : ByteArray) (h1 : 1 ≤ a.size) (c : a.size ≤ 1000) (hp : (32 : UInt8) ∉ a.data.toList) : DI.f a = some (LC a) := by
  have b : a.data.toList ≠ [] := by
    intro h
    have : a.size = 0 := by show a.data.size = 0; rw [← Array.length_toList, h]; rfl
    omega
  have hi : ¬ 0 ≤ Lib.indexByte a.data.toList 32 := by
    have key : ∀ l : List UInt8, 32 ∉ l → Lib.indexByte l 32 = -1 := by
      intro l
      induction l with
      | nil => intro _; rfl
      | cons x l g =>
        intro h
        have d : (x == 32) = false := by
          rw [beq_eq_false_iff_ne]; intro e; exact h (e ▸ List.mem_cons_self ..)
        unfold Lib.indexByte
        rw [d, g (fun hm => h (List.mem_cons_of_mem _ hm))]
        rfl
    rw [key _ hp]
    decide
  unfold DI.f
  rw [if_pos c, if_neg (by rw [toList_eq]; exact b), if_neg hi]
  congr 1
  rw [Bool.eq_iff_iff, JV, KZ, IX, IX]
  unfold LC
  rw [decide_eq_true_iff]
  exact IW _ hp b _ Jr
theorem Hl (p : Int → Bool) (a : ByteArray) : ∀ d i, (DW p a d i = true ↔ ∀ j, i ≤ j → j < i + d → p (bt a (j : Int)) = true)
  | 0, i => by simp [DW]; omega
  | d + 1, i => by
    simp only [DW, Bool.and_eq_true, Hl p a d (i + 1)]
    constructor
    · rintro ⟨h, hr⟩ j h1 b
      rcases Nat.eq_or_lt_of_le h1 with rfl | h3
      · exact h
      · exact hr j (by omega) (by omega)
    · exact fun h => ⟨h i (by omega) (by omega), fun j h1 b => h j (by omega) (by omega)⟩
def Fw (a : ByteArray) : Bool := decide (1 ≤ a.size) && decide (a.size ≤ 40) && Gq (bt a 0) && DW El a a.size 0 && !LC a
theorem M7 : El 32 = false := by decide
theorem Js (a : ByteArray) (h : DW El a a.size 0 = true) : (32 : UInt8) ∉ a.data.toList := by
  intro hm
  obtain ⟨j, e, d⟩ := List.getElem_of_mem hm
  have b : j < a.size := by simpa using e
  have := (Hl El a a.size 0).mp h j (by omega) (by omega)
  have c : bt a (j : Int) = 32 := by
    unfold bt
    rw [dif_pos (by simpa using b)]
    simp only [Int.toNat_natCast]
    have : a[j] = 32 := by
      rw [← d]
      exact (Array.getElem_toList ..).symm
    rw [this]; rfl
  rw [c, M7] at this
  cases this
end Go.Proofs.Ytojankgmedccdaa.Pure
end
section
namespace Go.Proofs.Ytojankgmedccdaa.Pure
open Go.RowKit Own PTy Hand PIs YtojankgmedccdaaW.PrintWords YtojankgmedccdaaW.PrintLast
theorem M8 (a : ByteArray) (c : a.size ≤ 1000) : ∀ d i, i + d = a.size → Ev (fun k => BD.l0 k a (a.size : Int) (i : Int)) (DW El a d i) := by
  intro d
  induction d with
  | zero =>
    intro i hi
    refine Ev.step (f := fun _ => some true) (fun k => ?_) (Ev.now _)
    simp only [BD.l0]
    rw [if_neg (by omega)]
  | succ d b =>
    intro i hi
    by_cases ho : El (bt a (i : Int)) = true
    · refine Ev.step (f := fun k => BD.l0 k a (a.size : Int) ((i + 1 : Nat) : Int)) (fun k => ?_) (by simpa [DW, ho] using b (i + 1) (by omega))
      simp only [BD.l0]
      rw [if_pos (by omega), if_pos (by omega), if_pos (by omega), M4, LB, ho, Option.bind_some, if_pos rfl, CG (by omega) (by omega)]
      rfl
    · refine Ev.step (f := fun _ => some false) (fun k => ?_) (by simpa [DW, ho] using Ev.now _)
      simp only [BD.l0]
      rw [if_pos (by omega), if_pos (by omega), if_pos (by omega), M4, LB, Option.bind_some, if_neg ho]
theorem EW (a : ByteArray) : a.toList = [] ↔ a.size = 0 := by
  rw [toList_eq]
  have : a.size = a.data.toList.length := by rw [Array.length_toList]; rfl
  rw [this, List.length_eq_zero_iff]
theorem M9 (a : ByteArray) : Ev (fun k => BD.f k a) (Fw a) := by
  have c : ∀ b, Ev (fun k => BD.j0 k b true) false := fun b => Ev.step (f := fun _ => some false) (fun k => by simp [BD.j0]) (Ev.now _)
  by_cases h0 : a.size = 0
  · have e : Fw a = false := by unfold Fw; simp [h0]
    rw [e]
    exact Ev.congr (fun k => by unfold BD.f; rw [if_pos ((EW a).mpr h0)]) (c a)
  by_cases h4 : a.size ≤ 40
  · by_cases hl : Gq (bt a 0) = true
    · obtain ⟨t, j, g⟩ : ∃ t, DI.f a = some t ∧ Fw a = (!t && DW El a a.size 0) := by
        by_cases hs : (32 : UInt8) ∈ a.data.toList
        · have i : DW El a a.size 0 = false := by
            cases h : DW El a a.size 0
            · rfl
            · exact absurd hs (Js a h)
          refine ⟨false, ?_, by unfold Fw; simp [i]⟩
          unfold DI.f
          have hi : 0 ≤ Lib.indexByte a.data.toList 32 := by
            have key : ∀ l : List UInt8, 32 ∈ l → 0 ≤ Lib.indexByte l 32 := by
              intro l
              induction l with
              | nil => intro h; cases h
              | cons x l m =>
                intro h
                unfold Lib.indexByte
                by_cases hx : x = 32
                · simp [hx]
                · have hm : 32 ∈ l := by
                    rcases List.mem_cons.mp h with e | e
                    · exact absurd e.symm hx
                    · exact e
                  have := m hm
                  have d : (x == 32) = false := beq_eq_false_iff_ne.mpr hx
                  rw [d]
                  simp only [Bool.false_eq_true, if_false]
                  split <;> simp_all
                  omega
            exact key _ hs
          rw [if_pos (by omega), if_neg (fun h => h0 ((EW a).mp h)), if_pos hi]
        · exact ⟨LC a, M6 a (by omega) (by omega) hs, by
            unfold Fw
            rw [hl, decide_eq_true h4, decide_eq_true (show 1 ≤ a.size by omega)]
            simp [Bool.and_comm]⟩
      rw [g]
      refine Ev.congr (f := fun k => BD.j0 k a t) (fun k => ?_) ?_
      · unfold BD.f
        rw [if_neg (fun h => h0 ((EW a).mp h)), if_neg (by omega), if_pos (by omega), Jo, IR, hl, Option.bind_some, if_pos rfl, j, Option.bind_some]
      · cases t with
        | true => simpa using c a
        | false =>
          refine Ev.step (f := fun k => BD.l0 k a (a.size : Int) ((0 : Nat) : Int)) (fun k => ?_) (by simpa using M8 a (by omega) a.size 0 (by omega))
          simp only [BD.j0]
          rw [if_neg (by decide)]
          rfl
    · have e : Fw a = false := by unfold Fw; simp [hl]
      rw [e]
      exact Ev.congr (fun k => by unfold BD.f; rw [if_neg (fun h => h0 ((EW a).mp h)), if_neg (by omega), if_pos (by omega), Jo, IR, Option.bind_some, if_neg hl]) (c a)
  · have e : Fw a = false := by unfold Fw; simp [h4]
    rw [e]
    exact Ev.congr (fun k => by unfold BD.f; rw [if_neg (fun h => h0 ((EW a).mp h)), if_pos (by omega)]) (c a)
end Go.Proofs.Ytojankgmedccdaa.Pure
end
