/- Plain facts on the printed functions of package logic and its reference: operations, edges, the fixed calls. -/
import Derived.Test.YtajpgmpidphmgaaPAllG29
import Derived.Test.YtajpgmpidphmgaaPAllF19
namespace Go.Proofs.Ytajpgmpidphmgaa.Pure
open Go.RowKit Go.Proofs.Ytajpgmpidphmgaa.Hand Go.Proofs.Ytajpgmpidphmgaa.PAll Go.Proofs.YtajpgmpidphmgaaW.PrintWords Go.Proofs.YtajpgmpidphmgaaW.PrintLast
theorem awake_20 : netwrightlaw01_awake.f 20 = some true := by decide +kernel
theorem awake_ev : Ev netwrightlaw01_awake.f true := Ev.of (fun k => netwrightlaw01_awake.mono k) awake_20
theorem u8_of {a : Int} (h : (Lit.int .u8 a).wf = true) : 0 ≤ a ∧ a ≤ 255 := by
  have h' : IntKind.u8.min ≤ a ∧ a ≤ IntKind.u8.max := by simpa [Lit.wf] using h
  exact ⟨h'.1, h'.2⟩
theorem bit_f (a : Int) (h : 0 ≤ a) : netwrightref01_Bit.f a = some (decide (a ≤ 3)) := by
  unfold netwrightref01_Bit.f
  repeat' split
  all_goals simp
  all_goals first | omega | (rw [Bool.eq_iff_iff]; simp; omega)
/-- The reference's Op, where the name's table is known. -/
def refAt (S : ByteArray) (a1 a2 : Int) : Option (Int × Int) :=
  (if 0 ≤ (wrap64 ((wrap64 (4 * (wrap64 (a1)))) + (wrap64 (a2)))) then (if (wrap64 ((wrap64 (4 * (wrap64 (a1)))) + (wrap64 (a2)))) < (S.size : Int) then ((netwrightref01_of.f (bt S (wrap64 ((wrap64 (4 * (wrap64 (a1)))) + (wrap64 (a2)))))).bind fun bt105 => (some (bt105.1, 0))) else (none)) else (none))
theorem refOp_out (a0 : ByteArray) (a1 a2 : Int) (h1 : 0 ≤ a1) (h2 : 0 ≤ a2) (h : ¬ (a1 ≤ 3 ∧ a2 ≤ 3)) : netwrightref01_Op.f a0 a1 a2 = some (0, 2) := by
  unfold netwrightref01_Op.f
  obtain ⟨S, b, hT⟩ : ∃ S b, netwrightref01_table.f a0 = some (S, b) := by
    unfold netwrightref01_table.f
    repeat' split
    all_goals exact ⟨_, _, rfl⟩
  rw [hT, bit_f a1 h1, bit_f a2 h2]
  simp only [Option.bind_some]
  cases b
  · simp
  · by_cases h3 : a1 ≤ 3
    · have h4 : ¬ a2 ≤ 3 := fun h4 => h ⟨h3, h4⟩
      simp [h3, h4]
    · simp [h3]
theorem refOp_in (a0 : ByteArray) (a1 a2 : Int) (h1 : 0 ≤ a1) (h2 : 0 ≤ a2) (h3 : a1 ≤ 3) (h4 : a2 ≤ 3) (S : ByteArray) (hT : netwrightref01_table.f a0 = some (S, true)) : netwrightref01_Op.f a0 a1 a2 = refAt S a1 a2 := by
  unfold netwrightref01_Op.f refAt
  rw [hT, bit_f a1 h1, bit_f a2 h2]
  simp [h3, h4]
theorem refOp_no (a0 : ByteArray) (a1 a2 : Int) (S : ByteArray) (hT : netwrightref01_table.f a0 = some (S, false)) : netwrightref01_Op.f a0 a1 a2 = some (0, 2) := by
  unfold netwrightref01_Op.f
  rw [hT]
  simp
theorem op_out (a0 : ByteArray) (a1 a2 : Int) (h1 : 0 ≤ a1) (h2 : 0 ≤ a2) (h : ¬ (a1 ≤ 3 ∧ a2 ≤ 3)) : logic_Op.f a0 a1 a2 = some (0, 2) := by
  unfold logic_Op.f
  rw [if_pos h1, if_pos h2]
  by_cases h3 : a1 ≤ 3
  · have h4 : ¬ a2 ≤ 3 := fun h4 => h ⟨h3, h4⟩
    simp [h3, h4]
  · simp [h3]
/-- Op where the name's table is known. -/
def opAt (l : List Int) (a1 a2 : Int) : Option (Int × Int) := some (l.getD ((if 2 < a1 then 2 else a1) * 3 + (if 2 < a2 then 2 else a2)).toNat 0, 0)
theorem op_in (a0 : ByteArray) (a1 a2 : Int) (h1 : 0 ≤ a1) (h2 : 0 ≤ a2) (h3 : a1 ≤ 3) (h4 : a2 ≤ 3) (l : List Int) (hT : ofF a0.toList = (l, true)) : logic_Op.f a0 a1 a2 = opAt l a1 a2 := by
  unfold logic_Op.f opAt
  rw [if_pos h1, if_pos h2, hT]
  simp [h3, h4]
theorem op_no (a0 : ByteArray) (a1 a2 : Int) (h1 : 0 ≤ a1) (h2 : 0 ≤ a2) (l : List Int) (hT : ofF a0.toList = (l, false)) : logic_Op.f a0 a1 a2 = some (0, 2) := by
  unfold logic_Op.f
  rw [if_pos h1, if_pos h2, hT]
  simp
/-- Both tables of a name say the same. -/
def alike (l : List Int) (S : ByteArray) : Bool := (List.range 4).all fun i => (List.range 4).all fun j => opAt l i j == refAt S i j
theorem alike_at {l : List Int} {S : ByteArray} (h : alike l S = true) (a1 a2 : Int) (h1 : 0 ≤ a1) (h2 : 0 ≤ a2) (h3 : a1 ≤ 3) (h4 : a2 ≤ 3) : opAt l a1 a2 = refAt S a1 a2 := by
  obtain ⟨i, rfl⟩ := Int.eq_ofNat_of_zero_le h1
  obtain ⟨j, rfl⟩ := Int.eq_ofNat_of_zero_le h2
  unfold alike at h
  have := List.all_eq_true.1 (List.all_eq_true.1 h i (by simp; omega)) j (by simp; omega)
  simpa using this
/-- What both say of a name. -/
theorem tables (a0 : ByteArray) : (∃ l S, ofF a0.toList = (l, true) ∧ netwrightref01_table.f a0 = some (S, true) ∧ alike l S = true) ∨ (∃ l S, ofF a0.toList = (l, false) ∧ netwrightref01_table.f a0 = some (S, false)) := by
  unfold ofF netwrightref01_table.f
  by_cases c1 : a0.toList = ([97, 110, 100] : List UInt8)
  · exact .inl ⟨_, _, by rw [if_pos c1], by rw [if_pos c1], by decide +kernel⟩
  by_cases c2 : a0.toList = ([111, 114] : List UInt8)
  · exact .inl ⟨_, _, by rw [if_neg c1, if_pos c2], by rw [if_neg c1, if_pos c2], by decide +kernel⟩
  by_cases c3 : a0.toList = ([120, 111, 114] : List UInt8)
  · exact .inl ⟨_, _, by rw [if_neg c1, if_neg c2, if_pos c3], by rw [if_neg c1, if_neg c2, if_pos c3], by decide +kernel⟩
  by_cases c4 : a0.toList = ([110, 97, 110, 100] : List UInt8)
  · exact .inl ⟨_, _, by rw [if_neg c1, if_neg c2, if_neg c3, if_pos c4], by rw [if_neg c1, if_neg c2, if_neg c3, if_pos c4], by decide +kernel⟩
  by_cases c5 : a0.toList = ([110, 111, 114] : List UInt8)
  · exact .inl ⟨_, _, by rw [if_neg c1, if_neg c2, if_neg c3, if_neg c4, if_pos c5], by rw [if_neg c1, if_neg c2, if_neg c3, if_neg c4, if_pos c5], by decide +kernel⟩
  by_cases c6 : a0.toList = ([120, 110, 111, 114] : List UInt8)
  · exact .inl ⟨_, _, by rw [if_neg c1, if_neg c2, if_neg c3, if_neg c4, if_neg c5, if_pos c6], by rw [if_neg c1, if_neg c2, if_neg c3, if_neg c4, if_neg c5, if_pos c6], by decide +kernel⟩
  · exact .inr ⟨_, _, by rw [if_neg c1, if_neg c2, if_neg c3, if_neg c4, if_neg c5, if_neg c6], by rw [if_neg c1, if_neg c2, if_neg c3, if_neg c4, if_neg c5, if_neg c6]⟩
theorem op_some (a0 : ByteArray) (a1 a2 : Int) (h1 : 0 ≤ a1) (h2 : 0 ≤ a2) : ∃ r, logic_Op.f a0 a1 a2 = some r := by
  unfold logic_Op.f
  rw [if_pos h1, if_pos h2]
  repeat' split
  all_goals exact ⟨_, rfl⟩
theorem op_same (a0 : ByteArray) (a1 a2 : Int) (h1 : 0 ≤ a1) (h2 : 0 ≤ a2) : ∃ r, logic_Op.f a0 a1 a2 = some r ∧ netwrightref01_Op.f a0 a1 a2 = some r := by
  by_cases h : a1 ≤ 3 ∧ a2 ≤ 3
  · rcases tables a0 with ⟨l, S, e1, e2, e3⟩ | ⟨l, S, e1, e2⟩
    · rw [op_in a0 a1 a2 h1 h2 h.1 h.2 l e1, refOp_in a0 a1 a2 h1 h2 h.1 h.2 S e2, ← alike_at e3 a1 a2 h1 h2 h.1 h.2]
      exact ⟨_, rfl, rfl⟩
    · exact ⟨_, op_no a0 a1 a2 h1 h2 l e1, refOp_no a0 a1 a2 S e2⟩
  · exact ⟨_, op_out a0 a1 a2 h1 h2 h, refOp_out a0 a1 a2 h1 h2 h⟩
theorem not_same (a : Int) (h : 0 ≤ a) : ∃ r, logic_Not.f a = some r ∧ netwrightref01_Not.f a = some r := by
  by_cases h3 : a ≤ 3
  · obtain rfl | rfl | rfl | rfl : a = 0 ∨ a = 1 ∨ a = 2 ∨ a = 3 := by omega
    all_goals exact ⟨_, rfl, by decide +kernel⟩
  · unfold logic_Not.f logic_isBit.f netwrightref01_Not.f
    rw [bit_f a h]
    exact ⟨(0, 2), by simp [h3], by simp [h3]⟩
theorem edge_same (a b : Int) (ha : 0 ≤ a) (hb : 0 ≤ b) : ∃ r, logic_Edge.f 2 a b = some r ∧ netwrightref01_Edge.f 2 a b = some r := by
  unfold logic_Edge.f netwrightref01_Edge.f logic_isBit.f
  rw [bit_f a ha, bit_f b hb]
  simp only [Option.bind_some, logic_Edge.j0, netwrightref01_Edge.j0, logic_Edge.j1, netwrightref01_Edge.j1]
  repeat' split
  all_goals first | exact ⟨_, rfl, rfl⟩ | (simp_all; done)
end Go.Proofs.Ytajpgmpidphmgaa.Pure
