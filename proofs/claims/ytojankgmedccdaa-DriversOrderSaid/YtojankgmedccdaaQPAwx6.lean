/- Part of the proof of LawDriversOrder: every definition and lemma is one that it names. -/
import Derived.Test.YtojankgmedccdaaQHandE
import Derived.Test.YtojankgmedccdaaQPAwx0
import Derived.Test.YtojankgmedccdaaQPAwx1
import Derived.Test.YtojankgmedccdaaQPAwx4
import Derived.Test.YtojankgmedccdaaQPAwx5
namespace Go.Proofs.Ytojankgmedccdaa.PAw
open Go.RowKit Own PTy Hand PIs YtojankgmedccdaaW.PrintWords YtojankgmedccdaaW.PrintLast YtojankgmedccdaaW.PrintMore
attribute [local go_sem] max2_int min2_int max_two min_two max_three min_three max_four min_four
set_option linter.unusedVariables false
set_option linter.unusedSimpArgs false
mutual
def drivers_Assign.l0 : Nat → Int → List (S30) → List Int → Bool → List (S30) → Int → Int → Int → Int → ByteArray → List ByteArray → List (S26) → Int → Int → List Int → List (S30) → List (S63) → Int → List Int → Option (Int × Int × List Int × (List (S30)) × (List (S63)) × Int)
 | 0, _, _, _, _, _, _, _, _, _, _, _, _, _, _, _, _, _, _, _ => none
 | k + 1, x2, x3, x4, x5, x56, x57, x58, x213000, x213001, x213002, x213003, x213004, x214000, x214001, x214002, x214003, x214004, x215000, x216000 => if x58 < x57 then (if 0 ≤ x58 then (if x58 < (x56.length : Int) then ((types_Has.f k x213000 x213001 x213002 x213003 x213004 ((rd_T30 x56 x58).f0) ((rd_T30 x56 x58).f1) ((rd_T30 x56 x58).f2) ((rd_T30 x56 x58).f3)).bind fun t221 => (if t221 = true then (drivers_Assign.l0 k x2 x3 x4 x5 x56 x57 (wrap64 (x58 + 1)) x213000 x213001 x213002 x213003 x213004 x214000 x214001 x214002 x214003 x214004 x215000 x216000) else (none))) else (none)) else (none)) else ((drivers_behind.f x214000 x214001 x214002 x214003 x214004 x215000).bind fun t222 => (if t222 = true then (none) else ((api_Trans.f x214004 x2 x4).bind fun t223 => (if t223 < 0 then (if x5 = true then (drivers_Assign.j2 k x3 (x214004.length : Int) 0 x214000 x214001 x214002 x214003 x214004 x215000 x216000) else (drivers_Assign.l1 k x3 (x214004.length : Int) (x214004.length : Int) x213000 x213001 x213002 x213003 x213004 x214000 x214001 x214002 x214003 x214004 x215000 x216000)) else (none)))))
def drivers_Assign.j2 : Nat → List (S30) → Int → Int → Int → Int → List Int → List (S30) → List (S63) → Int → List Int → Option (Int × Int × List Int × (List (S30)) × (List (S63)) × Int)
 | 0, _, _, _, _, _, _, _, _, _, _ => none
 | k + 1, x3, x16, x17, x214000, x214001, x214002, x214003, x214004, x215000, x216000 => if (wrap64 ((wrap64 (x16 - x17)) + (x3.length : Int))) > 64 then (none) else ((drivers_copied.f x214000 x214001 x214002 x214003).bind fun bt227 => (if 0 ≤ x17 then (if x17 ≤ x16 then (if x16 ≤ (x214004.length : Int) then ((drivers_all.f k ((x214004.take (x16 : Int).toNat).drop (x17 : Int).toNat)).bind fun t240 => (drivers_Assign.l2 k x3 (x3.length : Int) 0 x215000 x216000 bt227.1 bt227.2.1 bt227.2.2.1 bt227.2.2.2 t240)) else (none)) else (none)) else (none)))
def drivers_Assign.l2 : Nat → List (S30) → Int → Int → Int → List Int → Int → Int → List Int → List (S30) → List (S63) → Option (Int × Int × List Int × (List (S30)) × (List (S63)) × Int)
 | 0, _, _, _, _, _, _, _, _, _, _ => none
 | k + 1, x120, x121, x122, x215000, x216000, x244000, x244001, x244002, x244003, x244004 => if x122 < x121 then (if 0 ≤ x122 then (if x122 < (x120.length : Int) then (if x122 < (x216000.length : Int) then ((drivers_copied.f ((rd_T30 x120 x122).f0) ((rd_T30 x120 x122).f1) ((rd_T30 x120 x122).f2) ((rd_T30 x120 x122).f3)).bind fun bt247 => (if x244004.length < 1954687338268 then (drivers_Assign.l2 k x120 x121 (wrap64 (x122 + 1)) x215000 x216000 x244000 x244001 x244002 x244003 (x244004 ++ [(⟨wrap64 (x215000 + (rd x216000 x122)), (⟨bt247.1, bt247.2.1, bt247.2.2.1, bt247.2.2.2⟩ : S30)⟩ : S63)])) else (none))) else (none)) else (none)) else (none)) else (some (x244000, x244001, x244002, x244003, x244004, 0))
def drivers_Assign.l1 : Nat → List (S30) → Int → Int → Int → Int → ByteArray → List ByteArray → List (S26) → Int → Int → List Int → List (S30) → List (S63) → Int → List Int → Option (Int × Int × List Int × (List (S30)) × (List (S63)) × Int)
 | 0, _, _, _, _, _, _, _, _, _, _, _, _, _, _, _ => none
 | k + 1, x3, x16, x17, x213000, x213001, x213002, x213003, x213004, x214000, x214001, x214002, x214003, x214004, x215000, x216000 => if x17 > 0 then (if 0 ≤ (wrap64 (x17 - 1)) then (if (wrap64 (x17 - 1)) < (x214004.length : Int) then (if 0 < (x3.length : Int) then ((drivers_equal.f k x213000 x213001 x213002 x213003 x213004 ((rd_T63 x214004 (wrap64 (x17 - 1))).f1.f0) ((rd_T63 x214004 (wrap64 (x17 - 1))).f1.f1) ((rd_T63 x214004 (wrap64 (x17 - 1))).f1.f2) ((rd_T63 x214004 (wrap64 (x17 - 1))).f1.f3) ((rd_T30 x3 0).f0) ((rd_T30 x3 0).f1) ((rd_T30 x3 0).f2) ((rd_T30 x3 0).f3)).bind fun t226 => (if t226 = true then (none) else (drivers_Assign.j2 k x3 x16 x17 x214000 x214001 x214002 x214003 x214004 x215000 x216000))) else (none)) else (none)) else (none)) else (drivers_Assign.j2 k x3 x16 x17 x214000 x214001 x214002 x214003 x214004 x215000 x216000)
end
def drivers_Assign.f (k : Nat) (a0_0 : Int) (a0_1 : Int) (a0_2 : ByteArray) (l0_3 : List ByteArray) (l0_4 : List (S26)) (a1_0 : Int) (a1_1 : Int) (l1_2 : List Int) (l1_3 : List (S30)) (l1_4 : List (S63)) (a2 : Int) (l3 : List (S30)) (l4 : List Int) (a5 : Bool) : Option (Int × Int × List Int × (List (S30)) × (List (S63)) × Int) := (drivers_Is.f k a0_0 a0_1 a0_2 l0_3 l0_4 a1_0 a1_1 l1_2 l1_3 l1_4).bind fun t217 => (if t217 = true then (if a2 < 0 then (none) else (if a2 > 1000000 then (none) else (if (l3.length : Int) < 1 then (none) else (if (l3.length : Int) > 64 then (none) else (if (l4.length : Int) = (l3.length : Int) then ((drivers_rising.f k l4).bind fun t218 => (if t218 = true then (drivers_Assign.l0 k a2 l3 l4 a5 l3 (l3.length : Int) 0 a0_0 a0_1 a0_2 l0_3 l0_4 a1_0 a1_1 l1_2 l1_3 l1_4 a2 l4) else (none))) else (none)))))) else (none))
theorem drivers_Assign.mono_l : ∀ k, (∀ y0 y1 y2 y3 y4 y5 y6 y7 y8 y9 y10 y11 y12 y13 y14 y15 y16 y17 y18, LeO (drivers_Assign.l0 k y0 y1 y2 y3 y4 y5 y6 y7 y8 y9 y10 y11 y12 y13 y14 y15 y16 y17 y18) (drivers_Assign.l0 (k + 1) y0 y1 y2 y3 y4 y5 y6 y7 y8 y9 y10 y11 y12 y13 y14 y15 y16 y17 y18)) ∧ (∀ y0 y1 y2 y3 y4 y5 y6 y7 y8 y9, LeO (drivers_Assign.j2 k y0 y1 y2 y3 y4 y5 y6 y7 y8 y9) (drivers_Assign.j2 (k + 1) y0 y1 y2 y3 y4 y5 y6 y7 y8 y9)) ∧ (∀ y0 y1 y2 y3 y4 y5 y6 y7 y8 y9, LeO (drivers_Assign.l2 k y0 y1 y2 y3 y4 y5 y6 y7 y8 y9) (drivers_Assign.l2 (k + 1) y0 y1 y2 y3 y4 y5 y6 y7 y8 y9)) ∧ (∀ y0 y1 y2 y3 y4 y5 y6 y7 y8 y9 y10 y11 y12 y13 y14, LeO (drivers_Assign.l1 k y0 y1 y2 y3 y4 y5 y6 y7 y8 y9 y10 y11 y12 y13 y14) (drivers_Assign.l1 (k + 1) y0 y1 y2 y3 y4 y5 y6 y7 y8 y9 y10 y11 y12 y13 y14))
 | 0 => ⟨fun _ _ _ _ _ _ _ _ _ _ _ _ _ _ _ _ _ _ _ r h => by simp [drivers_Assign.l0] at h, fun _ _ _ _ _ _ _ _ _ _ r h => by simp [drivers_Assign.j2] at h, fun _ _ _ _ _ _ _ _ _ _ r h => by simp [drivers_Assign.l2] at h, fun _ _ _ _ _ _ _ _ _ _ _ _ _ _ _ r h => by simp [drivers_Assign.l1] at h⟩
 | k + 1 => by
  obtain ⟨ih0, ih1, ih2, ih3⟩ := drivers_Assign.mono_l k
  refine ⟨?_, ?_, ?_, ?_⟩ <;> intros <;> (first | unfold drivers_Assign.l0 | unfold drivers_Assign.j2 | unfold drivers_Assign.l2 | unfold drivers_Assign.l1) <;> repeat' first | (with_reducible first | apply ih0 | apply ih1 | apply ih2 | apply ih3 | apply drivers_Is.mono | apply drivers_all.mono | apply drivers_equal.mono | apply drivers_rising.mono | apply types_Has.mono | apply LeO.refl | apply LeO.none | refine LeO.ite ?_ ?_ | refine LeO.bind ?_ (fun _ => ?_)) | apply ih0 | apply ih1 | apply ih2 | apply ih3 | apply drivers_Is.mono | apply drivers_all.mono | apply drivers_equal.mono | apply drivers_rising.mono | apply types_Has.mono | apply LeO.none | refine LeO.ite ?_ ?_ | refine LeO.bind ?_ (fun _ => ?_)
theorem drivers_Assign.mono : ∀ a0 a1 a2 a3 a4 a5 a6 a7 a8 a9 a10 a11 a12 a13 k, LeO (drivers_Assign.f k a0 a1 a2 a3 a4 a5 a6 a7 a8 a9 a10 a11 a12 a13) (drivers_Assign.f (k + 1) a0 a1 a2 a3 a4 a5 a6 a7 a8 a9 a10 a11 a12 a13) := by
 intro a0 a1 a2 a3 a4 a5 a6 a7 a8 a9 a10 a11 a12 a13 k
 obtain ⟨ih0, ih1, ih2, ih3⟩ := drivers_Assign.mono_l k
 unfold drivers_Assign.f
 repeat' first
   | (with_reducible exact ih0 _ _ _ _ _ _ _ _ _ _ _ _ _ _ _ _ _ _ _)
   | (with_reducible exact ih1 _ _ _ _ _ _ _ _ _ _)
   | (with_reducible exact ih2 _ _ _ _ _ _ _ _ _ _)
   | (with_reducible exact ih3 _ _ _ _ _ _ _ _ _ _ _ _ _ _ _)
   | (with_reducible exact drivers_Is.mono _ _ _ _ _ _ _ _ _ _ _)
   | (with_reducible exact drivers_all.mono _ _)
   | (with_reducible exact drivers_equal.mono _ _ _ _ _ _ _ _ _ _ _ _ _ _)
   | (with_reducible exact drivers_rising.mono _ _)
   | (with_reducible exact types_Has.mono _ _ _ _ _ _ _ _ _ _)
   | (with_reducible exact LeO.refl _)
   | (with_reducible exact LeO.none _)
   | (with_reducible refine LeO.ite ?_ ?_)
   | (with_reducible refine LeO.bind ?_ (fun _ => ?_))
   | exact ih0 _ _ _ _ _ _ _ _ _ _ _ _ _ _ _ _ _ _ _
   | exact ih1 _ _ _ _ _ _ _ _ _ _
   | exact ih2 _ _ _ _ _ _ _ _ _ _
   | exact ih3 _ _ _ _ _ _ _ _ _ _ _ _ _ _ _
   | exact drivers_Is.mono _ _ _ _ _ _ _ _ _ _ _
   | exact drivers_all.mono _ _
   | exact drivers_equal.mono _ _ _ _ _ _ _ _ _ _ _ _ _ _
   | exact drivers_rising.mono _ _
   | exact types_Has.mono _ _ _ _ _ _ _ _ _ _
   | exact LeO.none _
   | refine LeO.ite ?_ ?_
   | refine LeO.bind ?_ (fun _ => ?_)
def drivers_Assign.T17 : Bool × List (List Nat × List Nat) := (true, [([], []), ([0], [0]), ([1], [1]), ([2], [2]), ([2], [2]), ([4, 2], [2, 4]), ([2], [2]), ([6, 2], [2, 6]), ([5, 7, 2], [2, 5, 7]), ([8, 2], [2, 8]), ([9, 2], [2, 9]), ([2], [2]), ([11, 2], [2, 11]), ([12, 2], [2, 12]), ([3, 10, 13, 2, 2], [2, 3, 10, 13]), ([2, 14], [2, 14])])
def drivers_Assign.B17 : List Nat := [0, 1, 3, 7, 7, 23, 7, 71, 247, 503, 1015, 7, 2055, 6151, 16383, 32767]
theorem drivers_Assign.tab17 : rtab .any (opsOf Try.f38 17) = drivers_Assign.T17 := by kernel_rfl
theorem drivers_Assign.bits17 : waitsOk drivers_Assign.T17.2 drivers_Assign.B17 = true := by kernel_rfl
def drivers_Assign.T21 : Bool × List (List Nat × List Nat) := (true, [([], []), ([0], [0]), ([1], [1]), ([], []), ([3], [3]), ([], []), ([], []), ([4, 5, 6], [4, 5, 6]), ([7, 2], [7]), ([2, 8], [2, 8]), ([], []), ([10, 9, 8, 0, 1, 2, 3, 4, 5, 6, 7, 8, 9, 10], [9, 10])])
def drivers_Assign.B21 : List Nat := [0, 1, 3, 0, 8, 0, 0, 120, 255, 511, 0, 2047]
theorem drivers_Assign.tab21 : rtab .any (opsOf Try.f38 21) = drivers_Assign.T21 := by kernel_rfl
theorem drivers_Assign.bits21 : waitsOk drivers_Assign.T21.2 drivers_Assign.B21 = true := by kernel_rfl
def drivers_Assign.T25 : Bool × List (List Nat × List Nat) := (true, [([], []), ([0], [0]), ([], []), ([], []), ([], []), ([3, 4], [3, 4]), ([5], [5]), ([2, 6], [2, 6]), ([], []), ([8], [8]), ([7, 9], [7, 9]), ([10], [10]), ([1, 11, 9], [1, 11]), ([0, 1, 2, 3, 4, 5, 6, 7, 8, 9, 10, 11, 12], []), ([13, 12, 12, 0, 1, 2, 3, 4, 5, 6, 7, 8, 9, 10, 11, 12], [12, 13])])
def drivers_Assign.B25 : List Nat := [0, 1, 0, 0, 0, 24, 56, 124, 0, 256, 1020, 2044, 4095, 8191, 16383]
theorem drivers_Assign.tab25 : rtab .any (opsOf Try.f38 25) = drivers_Assign.T25 := by kernel_rfl
theorem drivers_Assign.bits25 : waitsOk drivers_Assign.T25.2 drivers_Assign.B25 = true := by kernel_rfl
set_option maxHeartbeats 8000000 in
set_option maxRecDepth 100000 in
theorem drivers_Assign.calls (k : Nat) (a0_0 : Int) (a0_1 : Int) (a0_2 : ByteArray) (A0_3 : Option Addr) (c0_3 : Nat) (l0_3 : List ByteArray) (A0_4 : Option Addr) (c0_4 : Nat) (l0_4 : List (S26)) (a1_0 : Int) (a1_1 : Int) (A1_2 : Option Addr) (c1_2 : Nat) (l1_2 : List Int) (P1_3_ : Nat → Prop) (A1_3 : Option Addr) (c1_3 : Nat) (l1_3 : List (S30)) (P1_4_ : Nat → Prop) (A1_4 : Option Addr) (c1_4 : Nat) (l1_4 : List (S63)) (a2 : Int) (P3_ : Nat → Prop) (A3 : Option Addr) (c3 : Nat) (l3 : List (S30)) (A4 : Option Addr) (c4 : Nat) (l4 : List Int) (a5 : Bool) (r1 : Int) (r2 : Int) (r3 : List Int) (r4 : List (S30)) (r5 : List (S63)) (r6 : Int) (w : World) (hG : Glob w) (hr0_3 : Kd.C Kd.string w A0_3 l0_3.length l0_3) (hc0_3 : l0_3.length ≤ c0_3) (hr0_4 : Kd.C k26 w A0_4 l0_4.length l0_4) (hc0_4 : l0_4.length ≤ c0_4) (hr1_2 : Kd.C (Kd.int .u8) w A1_2 l1_2.length l1_2) (hc1_2 : l1_2.length ≤ c1_2) (hs1_3 : Kd.V k30 30 w w.heap.size (fun k_ => P1_3_ k_) (.slice A1_3 l1_3.length c1_3) l1_3) (hs1_4 : Kd.V k63 63 w w.heap.size (fun k_ => P1_4_ k_) (.slice A1_4 l1_4.length c1_4) l1_4) (hs3 : Kd.V k30 30 w w.heap.size (fun k_ => P3_ k_) (.slice A3 l3.length c3) l3) (hr4 : Kd.C (Kd.int .i64) w A4 l4.length l4) (hc4 : l4.length ≤ c4) (h : drivers_Assign.f k a0_0 a0_1 a0_2 l0_3 l0_4 a1_0 a1_1 l1_2 l1_3 l1_4 a2 l3 l4 a5 = some (r1, r2, r3, r4, r5, r6)) :
  Calls Try.prog 38 #[.agg #[.int .i64 a0_0, .int .i64 a0_1, .string a0_2, .slice A0_3 l0_3.length c0_3, .slice A0_4 l0_4.length c0_4], .agg #[.int .i64 a1_0, .int .i64 a1_1, .slice A1_2 l1_2.length c1_2, .slice A1_3 l1_3.length c1_3, .slice A1_4 l1_4.length c1_4], .int .i64 a2, .slice A3 l3.length c3, .slice A4 l4.length c4, .bool a5] w fun e w' => ∃ v2_ v3_ v4_ : Value, e = .returned (.tuple #[.agg #[.int .i64 r1, .int .i64 r2, v2_, v3_, v4_], .int .i64 r6]) ∧ Kd.R (Kd.int .u8) 73 w' w.heap.size (fun k_ => (w.heap.size ≤ k_)) v2_ r3 ∧ Kd.V k30 30 w' w.heap.size (fun k_ => ((P1_3_ k_ ∨ P1_4_ k_ ∨ P3_ k_) ∨ w.heap.size ≤ k_) ∧ some k_ ≠ (v2_ : Value).ownBlock ∧ some k_ ≠ (v4_ : Value).ownBlock) v3_ r4 ∧ Kd.N k63 63 w' w.heap.size (fun k_ => ((P1_3_ k_ ∨ P1_4_ k_ ∨ P3_ k_) ∨ w.heap.size ≤ k_) ∧ some k_ ≠ (v2_ : Value).ownBlock) v4_ r5 ∧ Below w.heap.size w w' := by
 have HG := mk0 hG; clear hG
 have hu26 := Try.underlying26
 have hu33 := Try.underlying33
 have hu30 := Try.underlying30
 have hu63 := Try.underlying63
 have HR0_3 := mk0 hr0_3; have HC0_3 := mk0 hc0_3; clear hr0_3 hc0_3; have HR0_4 := mk0 hr0_4; have HC0_4 := mk0 hc0_4; clear hr0_4 hc0_4; have HR1_2 := mk0 hr1_2; have HC1_2 := mk0 hc1_2; clear hr1_2 hc1_2
 have HO1_3 := mk0 (show Kd.V k30 30 w w.heap.size (fun k_ => ((P1_3_ k_ ∨ P1_4_ k_ ∨ P3_ k_) ∨ w.heap.size ≤ k_)) (.slice A1_3 l1_3.length c1_3) l1_3 from Kd.V_mono hs1_3 (fun k_ hk => .inl (.inl hk)))
 have HO1_4 := mk0 (show Kd.V k63 63 w w.heap.size (fun k_ => ((P1_3_ k_ ∨ P1_4_ k_ ∨ P3_ k_) ∨ w.heap.size ≤ k_)) (.slice A1_4 l1_4.length c1_4) l1_4 from Kd.V_mono hs1_4 (fun k_ hk => .inl (.inr (.inl hk))))
 have HO3 := mk0 (show Kd.V k30 30 w w.heap.size (fun k_ => ((P1_3_ k_ ∨ P1_4_ k_ ∨ P3_ k_) ∨ w.heap.size ≤ k_)) (.slice A3 l3.length c3) l3 from Kd.V_mono hs3 (fun k_ hk => .inl (.inr (.inr hk))))
 have HR4 := mk0 hr4; have HC4 := mk0 hc4; clear hr4 hc4
 have HB := mk0 (Below.refl w.heap.size w)
 have H := h; unfold drivers_Assign.f at H
 clear h
 replace H := bS H; obtain ⟨t217, A7, H⟩ := H
 replace H := iB' H; obtain ⟨rfl, H⟩ | ⟨rfl, H⟩ := H
 ·exact absurd H (by simp)
 by_cases c9 : a2 < 0
 ·rw [if_pos c9] at H
  exact absurd H (by simp)
 rw [if_neg c9] at H; have c9b0 : decide (a2 < 0) = false := decide_eq_false c9; clear c9
 by_cases c10 : a2 > 1000000
 ·rw [if_pos c10] at H
  exact absurd H (by simp)
 rw [if_neg c10] at H; have c10b0 : decide (1000000 < a2) = false := decide_eq_false c10; clear c10
 by_cases c11 : (l3.length : Int) < 1
 ·rw [if_pos c11] at H
  exact absurd H (by simp)
 rw [if_neg c11] at H; have c11b0 : decide ((l3.length : Int) < 1) = false := decide_eq_false c11
 have c11b1 : decide (l3.length < 1) = false := decide_eq_false (by omega)
 clear c11
 by_cases c12 : (l3.length : Int) > 64
 ·rw [if_pos c12] at H
  exact absurd H (by simp)
 rw [if_neg c12] at H; have c12b0 : decide (64 < (l3.length : Int)) = false := decide_eq_false c12
 have c12b1 : decide (64 < l3.length) = false := decide_eq_false (by omega)
 clear c12
 by_cases c13 : (l4.length : Int) = (l3.length : Int)
 rotate_left
 ·rw [if_neg c13] at H
  exact absurd H (by simp)
 rw [if_pos c13] at H
 have c13b0 : ((l4.length : Int) == (l3.length : Int)) = true := beq_iff_eq.mpr c13
 have c13b1 : ((l4.length : Int) != (l3.length : Int)) = false := bne_eq_false_iff_eq.mpr c13
 have c13b2 : (l4.length == l3.length) = true := by first | simpa using c13 | (simp at c13 ⊢; omega)
 clear c13
 replace H := bS H; obtain ⟨t218, A14, H⟩ := H
 replace H := iB' H; obtain ⟨rfl, H⟩ | ⟨rfl, H⟩ := H
 ·exact absurd H (by simp)
 have H' := mk0 H
 clear H
 go_enter Try.func38, Try.ntmps38
 go_wp2_with (first | ((with_reducible refine box_event rfl (N := 6) rfl (cs := #[.int .i64 a0_0, .int .i64 a0_1, .string a0_2, .slice A0_3 l0_3.length c0_3, .slice A0_4 l0_4.length c0_4]) (t := 26) ?hr ?_); (case hr => first | (go_simp; done) | (go_simp; rfl)); intro gb212 hg w16 hbox hb; replace HO1_3 := vB HO1_3 hg hb; replace HO1_4 := vB HO1_4 hg hb; replace HO3 := vB HO3 hg hb; have BK212 := mk0 (hbox); have GE212 := bs (be HB) hg; replace HB := kh HB hb; clear hb hbox hg) | ((with_reducible refine box_event rfl (N := 7) rfl (cs := #[.int .i64 a1_0, .int .i64 a1_1, .slice A1_2 l1_2.length c1_2, .slice A1_3 l1_3.length c1_3, .slice A1_4 l1_4.length c1_4]) (t := 33) ?hr ?_); (case hr => first | (go_simp; done) | (go_simp; rfl)); intro gb213 hg w17 hbox hb; replace HO1_3 := vB HO1_3 hg hb; replace HO1_4 := vB HO1_4 hg hb; replace HO3 := vB HO3 hg hb; have BK213 := mk0 (hbox); have GE213 := bs (be1 HB GE212) hg; replace HB := kh1 HB GE212 hb; have NB212_213 := nb1 (bu BK212) hg; have NB213_212 := nb2 (bu BK212) hg; replace BK212 := kb BK212 hb; clear hb hbox hg) | ((with_reducible refine box_event rfl (N := 8) rfl (cs := #[.int .i64 a2]) (t := 3) ?hr ?_); (case hr => first | (go_simp; done) | (go_simp; rfl)); intro gb214 hg w18 hbox hb; replace HO1_3 := vB HO1_3 hg hb; replace HO1_4 := vB HO1_4 hg hb; replace HO3 := vB HO3 hg hb; have BK214 := mk0 (hbox); have GE214 := bs (be2 HB GE212 GE213) hg; replace HB := kh2 HB GE212 GE213 hb; have NB212_214 := nb1 (bu BK212) hg; have NB214_212 := nb2 (bu BK212) hg; replace BK212 := kb BK212 hb; have NB213_214 := nb1 (bu BK213) hg; have NB214_213 := nb2 (bu BK213) hg; replace BK213 := kb BK213 hb; clear hb hbox hg) | ((with_reducible refine box_event rfl (N := 10) rfl (cs := #[.slice A4 l4.length c4]) (t := 38) ?hr ?_); (case hr => first | (go_simp; done) | (go_simp; rfl)); intro gb215 hg w19 hbox hb; replace HO1_3 := vB HO1_3 hg hb; replace HO1_4 := vB HO1_4 hg hb; replace HO3 := vB HO3 hg hb; have BK215 := mk0 (hbox); have GE215 := bs (be3 HB GE212 GE213 GE214) hg; replace HB := kh3 HB GE212 GE213 GE214 hb; have NB212_215 := nb1 (bu BK212) hg; have NB215_212 := nb2 (bu BK212) hg; replace BK212 := kb BK212 hb; have NB213_215 := nb1 (bu BK213) hg; have NB215_213 := nb2 (bu BK213) hg; replace BK213 := kb BK213 hb; have NB214_215 := nb1 (bu BK214) hg; have NB215_214 := nb2 (bu BK214) hg; replace BK214 := kb BK214 hb; clear hb hbox hg) | ((with_reducible refine box_event rfl (N := 12) rfl (cs := #[.int .i64 0, .int .i64 0, .slice none 0 0, .slice none 0 0, .slice none 0 0]) (t := 33) ?hr ?_); (case hr => first | (go_simp; done) | (go_simp; rfl)); intro gb216 hg w20 hbox hb; replace HO1_3 := vB HO1_3 hg hb; replace HO1_4 := vB HO1_4 hg hb; replace HO3 := vB HO3 hg hb; have BK216 := mk0 (hbox); have GE216 := bs (be4 HB GE212 GE213 GE214 GE215) hg; replace HB := kh4 HB GE212 GE213 GE214 GE215 hb; have NB212_216 := nb1 (bu BK212) hg; have NB216_212 := nb2 (bu BK212) hg; replace BK212 := kb BK212 hb; have NB213_216 := nb1 (bu BK213) hg; have NB216_213 := nb2 (bu BK213) hg; replace BK213 := kb BK213 hb; have NB214_216 := nb1 (bu BK214) hg; have NB216_214 := nb2 (bu BK214) hg; replace BK214 := kb BK214 hb; have NB215_216 := nb1 (bu BK215) hg; have NB216_215 := nb2 (bu BK215) hg; replace BK215 := kb BK215 hb; clear hb hbox hg; have hnb21 := NB212_213.out; have hnc21 := NB213_212.out; have hnb22 := NB212_214.out; have hnc22 := NB214_212.out; have hnb23 := NB212_215.out; have hnc23 := NB215_212.out; have hnb24 := NB212_216.out; have hnc24 := NB216_212.out; have zc25 := cells5 BK212.out; have hnb26 := NB213_214.out; have hnc26 := NB214_213.out; have hnb27 := NB213_215.out; have hnc27 := NB215_213.out; have hnb28 := NB213_216.out; have hnc28 := NB216_213.out; have zc29 := cells5 BK213.out) | ((with_reducible refine gate_callee (f := 19) rfl ?_); refine goB (some 23) rfl rfl Try.func19 (by kernel_rfl) rfl #[.agg #[.int .i64 a0_0, .int .i64 a0_1, .string a0_2, .slice A0_3 l0_3.length c0_3, .slice A0_4 l0_4.length c0_4], .agg #[.int .i64 a1_0, .int .i64 a1_1, .slice A1_2 l1_2.length c1_2, .slice A1_3 l1_3.length c1_3, .slice A1_4 l1_4.length c1_4]] rfl rfl (drivers_Is.calls k a0_0 a0_1 a0_2 _ _ l0_3 _ _ l0_4 a1_0 a1_1 _ _ l1_2 _ _ l1_3 _ _ l1_4 true _ (glob_below HG.out (be5 HB GE212 GE213 GE214 GE215 GE216)) (cu HR0_3 HB) HC0_3.out (cu HR0_4 HB) HC0_4.out (cu HR1_2 HB) HC1_2.out (C_up (Kd.V_reads' HO1_3.out).2.2) ((Kd.V_reads' HO1_3.out).2.1) (C_up (Kd.V_reads' HO1_4.out).2.2) ((Kd.V_reads' HO1_4.out).2.1) A7.out) ?_; intro w30 hb; replace HO1_3 := vb HO1_3 hb; replace HO1_4 := vb HO1_4 hb; replace HO3 := vb HO3 hb; replace BK212 := kb BK212 hb; replace BK213 := kb BK213 hb; replace BK214 := kb BK214 hb; replace BK215 := kb BK215 hb; replace BK216 := kb BK216 hb; replace HB := kh5 HB GE212 GE213 GE214 GE215 GE216 hb; have hnb31 := NB214_215.out; have hnc31 := NB215_214.out; have hnb32 := NB214_216.out; have hnc32 := NB216_214.out; have hcz33_0 : w30.cell? ⟨gb214, 0, none⟩ = some (.int .i64 a2) := bc BK214 0; have hfz33_0 := blk_frozen BK214.out 0; have hnb34 := NB215_216.out; have hnc34 := NB216_215.out; have hcz35_0 : w30.cell? ⟨gb215, 0, none⟩ = some (.slice A4 l4.length c4) := bc BK215 0; have hfz35_0 := blk_frozen BK215.out 0) | (go_at_call 59; refine (drivers_rising.calls k _ _ l4 true _ (cu HR4 HB) HC4.out A14.out).mono ?_; rintro e w' ⟨rfl, ⟨nd, rfl⟩⟩))
 go_loopg [58] k (fun kq v58 w' => ∃ (x58_1 : Int) (x217000_1 : Int) (x217001_1 : Int), v58 = .int .i64 x58_1 ∧ Aside0 (drivers_Assign.l0 kq a2 l3 l4 a5 l3 (l3.length : Int) x58_1 a0_0 a0_1 a0_2 l0_3 l0_4 a1_0 a1_1 l1_2 l1_3 l1_4 a2 l4 = some (r1, r2, r3, r4, r5, r6)) ∧ Aside0 (kq ≤ k) ∧ Aside0 (Kd.V k30 30 w' w.heap.size (fun k_ => ((P1_3_ k_ ∨ P1_4_ k_ ∨ P3_ k_) ∨ w.heap.size ≤ k_) ∧ k_ ≠ gb212 ∧ k_ ≠ gb213 ∧ k_ ≠ gb214 ∧ k_ ≠ gb215 ∧ k_ ≠ gb216) (.slice A3 l3.length c3) l3) ∧ Aside0 (Kd.V k30 30 w' w.heap.size (fun k_ => ((P1_3_ k_ ∨ P1_4_ k_ ∨ P3_ k_) ∨ w.heap.size ≤ k_) ∧ k_ ≠ gb212 ∧ k_ ≠ gb213 ∧ k_ ≠ gb214 ∧ k_ ≠ gb215 ∧ k_ ≠ gb216) (.slice A3 l3.length c3) l3) ∧ Aside0 (Kd.V k30 30 w' w.heap.size (fun k_ => ((P1_3_ k_ ∨ P1_4_ k_ ∨ P3_ k_) ∨ w.heap.size ≤ k_) ∧ k_ ≠ gb212 ∧ k_ ≠ gb213 ∧ k_ ≠ gb214 ∧ k_ ≠ gb215 ∧ k_ ≠ gb216) (.slice A1_3 l1_3.length c1_3) l1_3) ∧ Aside0 (Kd.V k63 63 w' w.heap.size (fun k_ => ((P1_3_ k_ ∨ P1_4_ k_ ∨ P3_ k_) ∨ w.heap.size ≤ k_) ∧ k_ ≠ gb212 ∧ k_ ≠ gb213 ∧ k_ ≠ gb214 ∧ k_ ≠ gb215 ∧ k_ ≠ gb216) (.slice A1_4 l1_4.length c1_4) l1_4) ∧ Aside0 (w'.heap[gb212]? = some (.cells #[.int .i64 a0_0, .int .i64 a0_1, .string a0_2, (.slice A0_3 l0_3.length c0_3), (.slice A0_4 l0_4.length c0_4)] 26 (0, 0))) ∧ Aside0 (w'.heap[gb213]? = some (.cells #[.int .i64 a1_0, .int .i64 a1_1, (.slice A1_2 l1_2.length c1_2), (.slice A1_3 l1_3.length c1_3), (.slice A1_4 l1_4.length c1_4)] 33 (0, 0))) ∧ Aside0 (w'.heap[gb214]? = some (.cells #[.int .i64 a2] 3 (0, 0))) ∧ Aside0 (w'.heap[gb215]? = some (.cells #[(.slice A4 l4.length c4)] 38 (0, 0))) ∧ Aside0 (w'.heap[gb216]? = some (.cells #[.int .i64 x217000_1, .int .i64 x217001_1, (.slice none 0 0), (.slice none 0 0), (.slice none 0 0)] 33 (0, 0))) ∧ Aside0 (Below w.heap.size w w'))
 case atStart => exact ⟨(0), (0), (0), rfl, H', ⟨Nat.le_refl _⟩, ⟨by exact V_pl (Kd.V_mono HO3.out (fun _ hk => ⟨hk.1.1.1.1.1, ⟨hk.1.1.1.1.2, ⟨hk.1.1.1.2, ⟨hk.1.1.2, ⟨hk.1.2, hk.2⟩⟩⟩⟩⟩))⟩, ⟨by exact V_pl (Kd.V_mono HO3.out (fun _ hk => ⟨hk.1.1.1.1.1, ⟨hk.1.1.1.1.2, ⟨hk.1.1.1.2, ⟨hk.1.1.2, ⟨hk.1.2, hk.2⟩⟩⟩⟩⟩))⟩, ⟨by exact V_pl (Kd.V_mono HO1_3.out (fun _ hk => ⟨hk.1.1.1.1.1, ⟨hk.1.1.1.1.2, ⟨hk.1.1.1.2, ⟨hk.1.1.2, ⟨hk.1.2, hk.2⟩⟩⟩⟩⟩))⟩, ⟨by exact V_pl (Kd.V_mono HO1_4.out (fun _ hk => ⟨hk.1.1.1.1.1, ⟨hk.1.1.1.1.2, ⟨hk.1.1.1.2, ⟨hk.1.1.2, ⟨hk.1.2, hk.2⟩⟩⟩⟩⟩))⟩, ⟨bu BK212⟩, ⟨bu BK213⟩, ⟨bu BK214⟩, ⟨bu BK215⟩, ⟨bu BK216⟩, ⟨be5 HB GE212 GE213 GE214 GE215 GE216⟩⟩
 case round =>
  clear H'
  try clear c3; try clear c4; try clear c9; try clear c9b0; try clear c10; try clear c10b0; try clear c11; try clear c11b0; try clear c11b1; try clear c12; try clear c12b0; try clear c12b1; try clear c13; try clear c13b0; try clear c13b1; try clear c13b2; try clear hcz33_0; try clear hfz33_0; try clear hcz35_0; try clear hfz35_0
  obtain ⟨x58_1, x217000_1, x217001_1, rfl, HA, HK1, HO_3, HO_56, HO_214003, HO_214004, BK212, BK213, BK214, BK215, BK216, HB⟩ := hrel
  cases gk with
  | zero => exact absurd HA.out (by simp [drivers_Assign.l0])
  | succ k1 =>
   have H := HA.out; clear HA
   simp only [drivers_Assign.l0] at H
   replace H := iD H; obtain ⟨-, c36b0, H⟩ | ⟨-, c36b0, H⟩ := H
   ·replace H := iN H; obtain ⟨-, c37b0, H⟩ := H
    replace H := iN H; obtain ⟨-, c38b0, H⟩ := H
    replace H := bS H; obtain ⟨t221, A39, H⟩ := H
    replace H := iB' H; obtain ⟨rfl, H⟩ | ⟨rfl, H⟩ := H
    ·exact absurd H (by simp)
    have H' := mk0 H
    clear H
    have p219 : 0 ≤ (x58_1 : Int) := od
    have q219 : x58_1 < (l3.length : Int) := od
    obtain ⟨ad219, A219_2, c219_2, A219_3, c219_3, e219, hx219_0, hx219_1, hx219_2, hx219_3, hl219_2, hi219_2, hl219_3, hi219_3⟩ := at_T30 (Kd.V_reads' HO_56.out).2.2 x58_1 p219 q219
    cases e219
    obtain ⟨ce219, hce219, hMe219, hcc219⟩ := Kd.V_get HO_56.out z30 x58_1 p219 (by first | exact q219 | exact of_decide_eq_true (by assumption) | (have e_ := (Kd.V_reads' HO_56.out).1; omega))
    obtain ⟨ua219_2, uc219_2, ua219_3, uc219_3, rfl, ul219_2, ge219_2, ul219_3, ge219_3⟩ := k30_openF hMe219
    have hv219_2 := hcc219 2 _ rfl
    rw [add_field _ _ 2 (by omega)] at hv219_2
    replace hv219_2 := Option.some.inj (hv219_2.symm.trans hx219_2)
    injection hv219_2 with hva_ hvn_ hvc_
    rw [hva_] at ge219_2
    rw [hvc_] at ul219_2
    have HL219_2 := mk0 (show Kd.V (Kd.int .u8) 73 _ w.heap.size _ _ ((rd_T30 l3 x58_1).f2) from Kd.V_mk ul219_2 ge219_2)
    clear hva_ hvn_ hvc_ ge219_2 ul219_2
    have hv219_3 := hcc219 3 _ rfl
    rw [add_field _ _ 3 (by omega)] at hv219_3
    replace hv219_3 := Option.some.inj (hv219_3.symm.trans hx219_3)
    injection hv219_3 with hva_ hvn_ hvc_
    rw [hva_] at ge219_3
    rw [hvc_] at ul219_3
    have HL219_3 := mk0 (show Kd.V k30 30 _ w.heap.size _ _ ((rd_T30 l3 x58_1).f3) from Kd.V_mk ul219_3 ge219_3)
    clear hva_ hvn_ hvc_ ge219_3 ul219_3; clear hcc219 hce219; have HR219_2 := mk0 hi219_2; have HC219_2 := mk0 hl219_2; clear hi219_2 hl219_2; have HR219_3 := mk0 hi219_3; have HC219_3 := mk0 hl219_3; clear hi219_3 hl219_3; replace p219 := eq_true p219; replace q219 := eq_true q219
    go_wp2_with (first | ((with_reducible refine box_event rfl (N := 15) rfl (cs := #[.int .i64 0, .int .i64 0, .slice none 0 0, .slice none 0 0]) (t := 30) ?hr ?_); (case hr => first | (go_simp; done) | (go_simp; rfl)); intro gb220 hg w41 hbox hb; replace HO_3 := vB HO_3 hg hb; replace HO_56 := vB HO_56 hg hb; replace HO_214003 := vB HO_214003 hg hb; replace HO_214004 := vB HO_214004 hg hb; replace HL219_2 := vB HL219_2 hg hb; replace HL219_3 := vB HL219_3 hg hb; replace HR219_2 := cb HR219_2 hb; replace HR219_3 := cb HR219_3 hb; have BK220 := mk0 (hbox); have GE220 := bs (be5 HB GE212 GE213 GE214 GE215 GE216) hg; replace HB := kh5 HB GE212 GE213 GE214 GE215 GE216 hb; have NB212_220 := nb1 (bu BK212) hg; have NB220_212 := nb2 (bu BK212) hg; replace BK212 := kb BK212 hb; have NB213_220 := nb1 (bu BK213) hg; have NB220_213 := nb2 (bu BK213) hg; replace BK213 := kb BK213 hb; have NB214_220 := nb1 (bu BK214) hg; have NB220_214 := nb2 (bu BK214) hg; replace BK214 := kb BK214 hb; have NB215_220 := nb1 (bu BK215) hg; have NB220_215 := nb2 (bu BK215) hg; replace BK215 := kb BK215 hb; have NB216_220 := nb1 (bu BK216) hg; have NB220_216 := nb2 (bu BK216) hg; replace BK216 := kb BK216 hb; clear hb hbox hg; have hnb42 := NB220_212.out; have hnc42 := NB212_220.out; have hnb43 := NB220_213.out; have hnc43 := NB213_220.out; have hnb44 := NB220_214.out; have hnc44 := NB214_220.out; have hnb45 := NB220_215.out; have hnc45 := NB215_220.out; have hnb46 := NB220_216.out; have hnc46 := NB216_220.out; have zc47 := cells4 BK220.out; have hnb48 := NB212_213.out; have hnc48 := NB213_212.out; have hnb49 := NB212_214.out; have hnc49 := NB214_212.out; have hnb50 := NB212_215.out; have hnc50 := NB215_212.out; have hnb51 := NB212_216.out; have hnc51 := NB216_212.out; have zc52 := cells5 BK212.out) | ((with_reducible refine gate_callee (f := 45) rfl ?_); refine goesL_ (some 64) rfl rfl Try.func45 (by kernel_rfl) rfl #[.agg #[.int .i64 a0_0, .int .i64 a0_1, .string a0_2, .slice A0_3 l0_3.length c0_3, .slice A0_4 l0_4.length c0_4], .agg #[.int .i64 ((rd_T30 l3 x58_1).f0), .int .i64 ((rd_T30 l3 x58_1).f1), .slice A219_2 ((rd_T30 l3 x58_1).f2).length c219_2, .slice A219_3 ((rd_T30 l3 x58_1).f3).length c219_3]] rfl (by (try simp only [List.map_toArray, List.map_cons, List.map_nil]); first | done | rfl | (simp only [List.length_drop, List.length_take]; rfl)) ?_; (with_reducible refine (types_Has.calls k1 a0_0 a0_1 a0_2 _ _ l0_3 _ _ l0_4 ((rd_T30 l3 x58_1).f0) ((rd_T30 l3 x58_1).f1) _ _ ((rd_T30 l3 x58_1).f2) _ _ ((rd_T30 l3 x58_1).f3) true _ ?side9 ?side1 ?side2 ?side3 ?side4 ?side5 ?side6 ?side7 ?side8 A39.out).mono ?_); (case side1 => exact Kd.C_below HR0_3.out (be6 HB GE212 GE213 GE214 GE215 GE216 GE220)); (case side2 => exact HC0_3.out); (case side3 => exact Kd.C_below HR0_4.out (be6 HB GE212 GE213 GE214 GE215 GE216 GE220)); (case side4 => exact HC0_4.out); (case side5 => repeat (first | exact ((Kd.V_reads' (by exact V_pl ((vF (q := gb220) HL219_2 (fun _ hk => hk.2))))).2.2) | (with_reducible refine Kd.C_alloc ?_ _) | (with_reducible refine Kd.C_drewN ?_ _) | (with_reducible refine Kd.C_drew ?_))); (case side6 => exact HC219_2.out); (case side7 => repeat (first | exact ((Kd.V_reads' (by exact V_pl ((vF (q := gb220) HL219_3 (fun _ hk => hk.2))))).2.2) | (with_reducible refine Kd.C_alloc ?_ _) | (with_reducible refine Kd.C_drewN ?_ _) | (with_reducible refine Kd.C_drew ?_))); (case side8 => exact HC219_3.out); (case side9 => exact glob_below HG.out (be6 HB GE212 GE213 GE214 GE215 GE216 GE220)); rintro e w53 ⟨rfl, hb⟩; refine ⟨_, rfl, ?_⟩; replace HO_3 := mk0 (Kd.V_below (by exact V_pl ((vF (q := gb220) HO_3 (fun _ hk => hk.2)))) hb); replace HO_56 := mk0 (Kd.V_below (by exact V_pl ((vF (q := gb220) HO_56 (fun _ hk => hk.2)))) hb); replace HO_214003 := mk0 (Kd.V_below (by exact V_pl ((vF (q := gb220) HO_214003 (fun _ hk => hk.2)))) hb); replace HO_214004 := mk0 (Kd.V_below (by exact V_pl ((vF (q := gb220) HO_214004 (fun _ hk => hk.2)))) hb); replace BK212 := kF NB212_220 BK212 hb; replace BK213 := kF NB213_220 BK213 hb; replace BK214 := kF NB214_220 BK214 hb; replace BK215 := kF NB215_220 BK215 hb; replace BK216 := kF NB216_220 BK216 hb; replace HR219_2 := mk0 (Kd.C_below ((Kd.V_reads' (by exact V_pl ((vF (q := gb220) HL219_2 (fun _ hk => hk.2))))).2.2) hb); replace HL219_2 := mk0 (Kd.V_below (by exact V_pl ((vF (q := gb220) HL219_2 (fun _ hk => hk.2)))) hb); replace HR219_3 := mk0 (Kd.C_below ((Kd.V_reads' (by exact V_pl ((vF (q := gb220) HL219_3 (fun _ hk => hk.2))))).2.2) hb); replace HL219_3 := mk0 (Kd.V_below (by exact V_pl ((vF (q := gb220) HL219_3 (fun _ hk => hk.2)))) hb); replace BK220 := mk0 (blk_below (g := gb220) (o := .cells #[.int .i64 ((rd_T30 l3 x58_1).f0), .int .i64 ((rd_T30 l3 x58_1).f1), .slice A219_2 ((rd_T30 l3 x58_1).f2).length c219_2, .slice A219_3 ((rd_T30 l3 x58_1).f3).length c219_3] 30 (0, 0)) (pB BK220) hb); replace HB := kh6 HB GE212 GE213 GE214 GE215 GE216 GE220 hb))
    go_roundg k1
    case measure => have := HK1.out; omega
    case rel => exact ⟨(wrap64 (x58_1 + 1)), (x217000_1), (x217001_1), rfl, H', ⟨by have := HK1.out; omega⟩, ⟨by exact V_pl (Kd.V_mono HO_3.out (fun _ hk => ⟨hk.1.1, ⟨hk.1.2.1, ⟨hk.1.2.2.1, ⟨hk.1.2.2.2.1, ⟨hk.1.2.2.2.2.1, hk.1.2.2.2.2.2⟩⟩⟩⟩⟩))⟩, ⟨by exact V_pl (Kd.V_mono HO_56.out (fun _ hk => ⟨hk.1.1, ⟨hk.1.2.1, ⟨hk.1.2.2.1, ⟨hk.1.2.2.2.1, ⟨hk.1.2.2.2.2.1, hk.1.2.2.2.2.2⟩⟩⟩⟩⟩))⟩, ⟨by exact V_pl (Kd.V_mono HO_214003.out (fun _ hk => ⟨hk.1.1, ⟨hk.1.2.1, ⟨hk.1.2.2.1, ⟨hk.1.2.2.2.1, ⟨hk.1.2.2.2.2.1, hk.1.2.2.2.2.2⟩⟩⟩⟩⟩))⟩, ⟨by exact V_pl (Kd.V_mono HO_214004.out (fun _ hk => ⟨hk.1.1, ⟨hk.1.2.1, ⟨hk.1.2.2.1, ⟨hk.1.2.2.2.1, ⟨hk.1.2.2.2.2.1, hk.1.2.2.2.2.2⟩⟩⟩⟩⟩))⟩, ⟨bu BK212⟩, ⟨bu BK213⟩, ⟨bu BK214⟩, ⟨bu BK215⟩, ⟨bu BK216⟩, ⟨be6 HB GE212 GE213 GE214 GE215 GE216 GE220⟩⟩
   replace H := bS H; obtain ⟨t222, A54, H⟩ := H
   replace H := iB H; obtain ⟨rfl, H⟩ | ⟨rfl, H⟩ := H
   ·exact absurd H (by simp)
   replace H := bS H; obtain ⟨t223, A56, H⟩ := H
   replace H := iN H; obtain ⟨-, c57b0, H⟩ := H
   have HC58 := mk0 H; clear H; have hnb59 := NB213_212.out; have hnc59 := NB212_213.out; have hnb60 := NB213_214.out; have hnc60 := NB214_213.out; have hnb61 := NB213_215.out; have hnc61 := NB215_213.out; have hnb62 := NB213_216.out; have hnc62 := NB216_213.out
   have zc63 := cells5 BK213.out
   have hnb64 := NB214_212.out; have hnc64 := NB212_214.out; have hnb65 := NB214_215.out; have hnc65 := NB215_214.out; have hnb66 := NB214_216.out; have hnc66 := NB216_214.out
   have hcz67_0 : wr.cell? ⟨gb214, 0, none⟩ = some (.int .i64 a2) := bc BK214 0
   have hfz67_0 := blk_frozen BK214.out 0
   go_upto_if 82 with (first | ((with_reducible refine gate_callee (f := 50) rfl ?_); refine goB (some 70) rfl rfl Try.func50 (by kernel_rfl) rfl #[.agg #[.int .i64 a1_0, .int .i64 a1_1, .slice A1_2 l1_2.length c1_2, .slice A1_3 l1_3.length c1_3, .slice A1_4 l1_4.length c1_4], .int .i64 a2] rfl rfl (drivers_behind.calls a1_0 a1_1 _ _ l1_2 _ _ l1_3 _ _ l1_4 a2 false _ (cu HR1_2 HB) HC1_2.out (C_up (Kd.V_reads' HO_214003.out).2.2) ((Kd.V_reads' HO_214003.out).2.1) (C_up (Kd.V_reads' HO_214004.out).2.2) ((Kd.V_reads' HO_214004.out).2.1) A54.out) ?_; intro w68 hb; replace HO_3 := vb HO_3 hb; replace HO_56 := vb HO_56 hb; replace HO_214003 := vb HO_214003 hb; replace HO_214004 := vb HO_214004 hb; replace BK212 := kb BK212 hb; replace BK213 := kb BK213 hb; replace BK214 := kb BK214 hb; replace BK215 := kb BK215 hb; replace BK216 := kb BK216 hb; replace HB := kh5 HB GE212 GE213 GE214 GE215 GE216 hb; have zc69 := cells5 BK213.out) | ((with_reducible refine gate_callee (f := 60) rfl ?_); refine goB (some 75) rfl rfl Try.func60 (by kernel_rfl) rfl #[.slice A1_4 l1_4.length c1_4, .func (.func 61) #[] #[.pointer (some ⟨gb214, 0, none⟩), .pointer (some ⟨gb215, 0, none⟩)]] rfl rfl (api_Trans.calls _ _ l1_4 a2 _ _ l4 t223 gb214 gb215 _ (C_up (Kd.V_reads' HO_214004.out).2.2) ((Kd.V_reads' HO_214004.out).2.1) (cu HR4 HB) HC4.out (bu BK214) (bu BK215) A56.out) ?_; intro w70 hb; replace HO_3 := vb HO_3 hb; replace HO_56 := vb HO_56 hb; replace HO_214003 := vb HO_214003 hb; replace HO_214004 := vb HO_214004 hb; replace BK212 := kb BK212 hb; replace BK213 := kb BK213 hb; replace BK214 := kb BK214 hb; replace BK215 := kb BK215 hb; replace BK216 := kb BK216 hb; replace HB := kh5 HB GE212 GE213 GE214 GE215 GE216 hb; have zc71 := cells5 BK213.out))
   (try simp only [Act.put, List.setIfInBounds_toArray, List.set_cons_zero, List.set_cons_succ])
   go_cut [17] (fun v17 wc => ∃ (kq : Nat) (x17_57 : Int), v17 = .int .i64 x17_57 ∧ Aside0 (drivers_Assign.j2 kq l3 (l1_4.length : Int) x17_57 a1_0 a1_1 l1_2 l1_3 l1_4 a2 l4 = some (r1, r2, r3, r4, r5, r6)) ∧ Aside0 (kq ≤ k1) ∧ Aside0 (Kd.V k30 30 wc w.heap.size (fun k_ => ((P1_3_ k_ ∨ P1_4_ k_ ∨ P3_ k_) ∨ w.heap.size ≤ k_) ∧ k_ ≠ gb212 ∧ k_ ≠ gb213 ∧ k_ ≠ gb214 ∧ k_ ≠ gb215 ∧ k_ ≠ gb216) (.slice A3 l3.length c3) l3) ∧ Aside0 (Kd.V k30 30 wc w.heap.size (fun k_ => ((P1_3_ k_ ∨ P1_4_ k_ ∨ P3_ k_) ∨ w.heap.size ≤ k_) ∧ k_ ≠ gb212 ∧ k_ ≠ gb213 ∧ k_ ≠ gb214 ∧ k_ ≠ gb215 ∧ k_ ≠ gb216) (.slice A1_3 l1_3.length c1_3) l1_3) ∧ Aside0 (Kd.V k63 63 wc w.heap.size (fun k_ => ((P1_3_ k_ ∨ P1_4_ k_ ∨ P3_ k_) ∨ w.heap.size ≤ k_) ∧ k_ ≠ gb212 ∧ k_ ≠ gb213 ∧ k_ ≠ gb214 ∧ k_ ≠ gb215 ∧ k_ ≠ gb216) (.slice A1_4 l1_4.length c1_4) l1_4) ∧ Aside0 (wc.heap[gb212]? = some (.cells #[.int .i64 a0_0, .int .i64 a0_1, .string a0_2, (.slice A0_3 l0_3.length c0_3), (.slice A0_4 l0_4.length c0_4)] 26 (0, 0))) ∧ Aside0 (wc.heap[gb213]? = some (.cells #[.int .i64 a1_0, .int .i64 a1_1, (.slice A1_2 l1_2.length c1_2), (.slice A1_3 l1_3.length c1_3), (.slice A1_4 l1_4.length c1_4)] 33 (0, 0))) ∧ Aside0 (wc.heap[gb214]? = some (.cells #[.int .i64 a2] 3 (0, 0))) ∧ Aside0 (wc.heap[gb215]? = some (.cells #[(.slice A4 l4.length c4)] 38 (0, 0))) ∧ Aside0 (wc.heap[gb216]? = some (.cells #[.int .i64 x217000_1, .int .i64 x217001_1, (.slice none 0 0), (.slice none 0 0), (.slice none 0 0)] 33 (0, 0))) ∧ Aside0 (Below w.heap.size w wc))
   case first =>
    have H := HC58.out; clear HC58
    replace H := iB H; obtain ⟨rfl, H⟩ | ⟨rfl, H⟩ := H
    ·have H' := mk0 H
     clear H
     go_wp2
     go_meet
     case rel => exact ⟨_, (0), rfl, H', ⟨by have := HK1.out; omega⟩, ⟨V_up HO_3.out⟩, ⟨V_up HO_214003.out⟩, ⟨V_up HO_214004.out⟩, ⟨bu BK212⟩, ⟨bu BK213⟩, ⟨bu BK214⟩, ⟨bu BK215⟩, ⟨bu BK216⟩, ⟨be5 HB GE212 GE213 GE214 GE215 GE216⟩⟩
    have H' := mk0 H
    clear H
    go_wp2
    go_loopg [17] k1 (fun kq v17 w' => ∃ (x17_2 : Int), v17 = .int .i64 x17_2 ∧ Aside0 (drivers_Assign.l1 kq l3 (l1_4.length : Int) x17_2 a0_0 a0_1 a0_2 l0_3 l0_4 a1_0 a1_1 l1_2 l1_3 l1_4 a2 l4 = some (r1, r2, r3, r4, r5, r6)) ∧ Aside0 (kq ≤ k1) ∧ Aside0 (Kd.V k30 30 w' w.heap.size (fun k_ => ((P1_3_ k_ ∨ P1_4_ k_ ∨ P3_ k_) ∨ w.heap.size ≤ k_) ∧ k_ ≠ gb212 ∧ k_ ≠ gb213 ∧ k_ ≠ gb214 ∧ k_ ≠ gb215 ∧ k_ ≠ gb216) (.slice A3 l3.length c3) l3) ∧ Aside0 (Kd.V k30 30 w' w.heap.size (fun k_ => ((P1_3_ k_ ∨ P1_4_ k_ ∨ P3_ k_) ∨ w.heap.size ≤ k_) ∧ k_ ≠ gb212 ∧ k_ ≠ gb213 ∧ k_ ≠ gb214 ∧ k_ ≠ gb215 ∧ k_ ≠ gb216) (.slice A1_3 l1_3.length c1_3) l1_3) ∧ Aside0 (Kd.V k63 63 w' w.heap.size (fun k_ => ((P1_3_ k_ ∨ P1_4_ k_ ∨ P3_ k_) ∨ w.heap.size ≤ k_) ∧ k_ ≠ gb212 ∧ k_ ≠ gb213 ∧ k_ ≠ gb214 ∧ k_ ≠ gb215 ∧ k_ ≠ gb216) (.slice A1_4 l1_4.length c1_4) l1_4) ∧ Aside0 (w'.heap[gb212]? = some (.cells #[.int .i64 a0_0, .int .i64 a0_1, .string a0_2, (.slice A0_3 l0_3.length c0_3), (.slice A0_4 l0_4.length c0_4)] 26 (0, 0))) ∧ Aside0 (w'.heap[gb213]? = some (.cells #[.int .i64 a1_0, .int .i64 a1_1, (.slice A1_2 l1_2.length c1_2), (.slice A1_3 l1_3.length c1_3), (.slice A1_4 l1_4.length c1_4)] 33 (0, 0))) ∧ Aside0 (w'.heap[gb214]? = some (.cells #[.int .i64 a2] 3 (0, 0))) ∧ Aside0 (w'.heap[gb215]? = some (.cells #[(.slice A4 l4.length c4)] 38 (0, 0))) ∧ Aside0 (w'.heap[gb216]? = some (.cells #[.int .i64 x217000_1, .int .i64 x217001_1, (.slice none 0 0), (.slice none 0 0), (.slice none 0 0)] 33 (0, 0))) ∧ Aside0 (Below w.heap.size w w'))
    case atStart => exact ⟨((l1_4.length : Int)), rfl, H', ⟨Nat.le_refl _⟩, ⟨V_up HO_3.out⟩, ⟨V_up HO_214003.out⟩, ⟨V_up HO_214004.out⟩, ⟨bu BK212⟩, ⟨bu BK213⟩, ⟨bu BK214⟩, ⟨bu BK215⟩, ⟨bu BK216⟩, ⟨be5 HB GE212 GE213 GE214 GE215 GE216⟩⟩
    case round =>
     clear H'
     try clear c3; try clear c4; try clear c9; try clear c9b0; try clear c10; try clear c10b0; try clear c11; try clear c11b0; try clear c11b1; try clear c12; try clear c12b0; try clear c12b1; try clear c13; try clear c13b0; try clear c13b1; try clear c13b2; try clear c36b0; try clear c57b0; try clear hcz33_0; try clear hfz33_0; try clear hcz35_0; try clear hfz35_0; try clear hcz67_0; try clear hfz67_0
     obtain ⟨x17_2, rfl, HA, HK2, HO_3, HO_214003, HO_214004, BK212, BK213, BK214, BK215, BK216, HB⟩ := hrel
     cases gk with
     | zero => exact absurd HA.out (by simp [drivers_Assign.l1])
     | succ k2 =>
      have H := HA.out; clear HA
      simp only [drivers_Assign.l1] at H
      by_cases c73 : x17_2 > 0
      rotate_left
      ·rw [if_neg c73] at H
       have c73b0 : decide (0 < x17_2) = false := decide_eq_false c73; clear c73
       (first | rw [c73b0] | (simp only [i64_w, i32_w]; rw [c73b0]) | skip)
       have H' := mk0 H
       clear H
       try go_wp2
       have n0_ := mk0 (Kd.V_drew HO_3.out)
       have n1_ := mk0 (Kd.V_drew HO_214003.out)
       have n2_ := mk0 (Kd.V_drew HO_214004.out)
       have n3_ := mk0 (blk_drew BK212.out)
       have n4_ := mk0 (blk_drew BK213.out)
       have n5_ := mk0 (blk_drew BK214.out)
       have n6_ := mk0 (blk_drew BK215.out)
       have n7_ := mk0 (blk_drew BK216.out)
       have n8_ := mk0 (below_drew1 HB.out)
       clear HO_3; clear HO_214003; clear HO_214004; clear BK212; clear BK213; clear BK214; clear BK215; clear BK216; clear HB; have HO_3 := n0_; have HO_214003 := n1_; have HO_214004 := n2_; have BK212 := n3_; have BK213 := n4_; have BK214 := n5_; have BK215 := n6_; have BK216 := n7_; have HB := n8_; clear n0_ n1_ n2_ n3_ n4_ n5_ n6_ n7_ n8_
       refine start_ (n := 16) (S := fun w' => True) (ds := []) #[false, false, false, false, false, false, false, false, false, false, false, false, false, false, false, false] (by kernel_rfl) rfl rfl trivial (fun hHeld => ?_); refine with_tabW drivers_Assign.tab17 drivers_Assign.bits17 (fun HT_ HW_ => ?_)
       generalize wr.drew = w82 at HO_3 HO_214003 HO_214004 BK212 BK213 BK214 BK215 BK216 HB hHeld ⊢
       refine pu_ (v := ?_) (a' := ?_) 0 84 #[true, false, false, false, false, false, false, false, false, false, false, false, false, false, false, false] HT_ ?_ ?_ ?_
       rotate_left
       ·intro w'
        go_simp
        with_reducible rfl
       rotate_left
       ·simp only [ps]
        rfl
       refine pu_ (v := ?_) (a' := ?_) 1 85 #[true, true, false, false, false, false, false, false, false, false, false, false, false, false, false, false] HT_ ?_ ?_ ?_
       rotate_left
       ·intro w'
        go_simp
        with_reducible rfl
       rotate_left
       ·simp only [ps]
        rfl
       refine pu_ (v := ?_) (a' := ?_) 2 86 #[true, true, true, false, false, false, false, false, false, false, false, false, false, false, false, false] HT_ ?_ ?_ ?_
       rotate_left
       ·intro w'
        go_simp
        with_reducible rfl
       rotate_left
       ·simp only [ps]
        rfl
       refine pure_ (i := 3) (N := some 87) (v := undef) (a' := ?_) (tf 4 12) rfl rfl (any_of HT_.out (by kernel_rfl)) (fun _ _ _ h => h) (Or.inr ⟨by rfl, rfl⟩) ?_ ?_
       rotate_left
       ·simp only [ps]
        rfl
       refine pure_ (i := 4) (N := some 88) (v := undef) (a' := ?_) (tf 5 11) rfl rfl (any_of HT_.out (by kernel_rfl)) (fun _ _ _ h => h) (Or.inr ⟨by rfl, rfl⟩) ?_ ?_
       rotate_left
       ·simp only [ps]
        rfl
       refine pure_ (i := 5) (N := some 89) (v := undef) (a' := ?_) (tf 6 10) rfl rfl (any_of HT_.out (by kernel_rfl)) (fun _ _ _ h => h) (Or.inr ⟨by rfl, rfl⟩) ?_ ?_
       rotate_left
       ·simp only [ps]
        rfl
       refine pure_ (i := 6) (N := some 90) (v := undef) (a' := ?_) (tf 7 9) rfl rfl (any_of HT_.out (by kernel_rfl)) (fun _ _ _ h => h) (Or.inr ⟨by rfl, rfl⟩) ?_ ?_
       rotate_left
       ·simp only [ps]
        rfl
       refine pure_ (i := 7) (N := some 91) (v := undef) (a' := ?_) (tf 8 8) rfl rfl (any_of HT_.out (by kernel_rfl)) (fun _ _ _ h => h) (Or.inr ⟨by rfl, rfl⟩) ?_ ?_
       rotate_left
       ·simp only [ps]
        rfl
       refine pure_ (i := 8) (N := some 92) (v := undef) (a' := ?_) (tf 9 7) rfl rfl (any_of HT_.out (by kernel_rfl)) (fun _ _ _ h => h) (Or.inr ⟨by rfl, rfl⟩) ?_ ?_
       rotate_left
       ·simp only [ps]
        rfl
       refine pure_ (i := 9) (N := some 93) (v := undef) (a' := ?_) (tf 10 6) rfl rfl (any_of HT_.out (by kernel_rfl)) (fun _ _ _ h => h) (Or.inr ⟨by rfl, rfl⟩) ?_ ?_
       rotate_left
       ·simp only [ps]
        rfl
       refine pure_ (i := 10) (N := some 94) (v := undef) (a' := ?_) (tf 11 5) rfl rfl (any_of HT_.out (by kernel_rfl)) (fun _ _ _ h => h) (Or.inr ⟨by rfl, rfl⟩) ?_ ?_
       rotate_left
       ·simp only [ps]
        rfl
       refine pure_ (i := 11) (N := some 95) (v := undef) (a' := ?_) (tf 12 4) rfl rfl (any_of HT_.out (by kernel_rfl)) (fun _ _ _ h => h) (Or.inr ⟨by rfl, rfl⟩) ?_ ?_
       rotate_left
       ·simp only [ps]
        rfl
       refine pure_ (i := 12) (N := some 96) (v := undef) (a' := ?_) (tf 13 3) rfl rfl (any_of HT_.out (by kernel_rfl)) (fun _ _ _ h => h) (Or.inr ⟨by rfl, rfl⟩) ?_ ?_
       rotate_left
       ·simp only [ps]
        rfl
       refine pure_ (i := 13) (N := some 97) (v := undef) (a' := ?_) (tf 14 2) rfl rfl (any_of HT_.out (by kernel_rfl)) (fun _ _ _ h => h) (Or.inr ⟨by rfl, rfl⟩) ?_ ?_
       rotate_left
       ·simp only [ps]
        rfl
       refine pure_ (i := 14) (N := some 98) (v := undef) (a' := ?_) (tf 15 1) rfl rfl (any_of HT_.out (by kernel_rfl)) (fun _ _ _ h => h) (Or.inr ⟨by rfl, rfl⟩) ?_ ?_
       rotate_left
       ·simp only [ps]
        rfl
       refine pu_ (v := ?_) (a' := ?_) 15 99 #[true, true, true, true, true, true, true, true, true, true, true, true, true, true, true, true] HT_ ?_ ?_ ?_
       rotate_left
       ·intro w'
        go_simp
        with_reducible rfl
       rotate_left
       ·simp only [ps]
        rfl
       refine done_ (done_of HT_.out (by kernel_rfl)) ?_
       try go_wp2
       go_meet
       case rel => exact ⟨_, (x17_2), rfl, H', ⟨by have := HK1.out; have := HK2.out; first | omega | exact Nat.le_refl _⟩, ⟨V_up HO_3.out⟩, ⟨V_up HO_214003.out⟩, ⟨V_up HO_214004.out⟩, ⟨bu BK212⟩, ⟨bu BK213⟩, ⟨bu BK214⟩, ⟨bu BK215⟩, ⟨bu BK216⟩, ⟨be5 HB GE212 GE213 GE214 GE215 GE216⟩⟩
      rw [if_pos c73] at H; have c73b0 : decide (0 < x17_2) = true := decide_eq_true c73; clear c73
      (first | rw [c73b0] | (simp only [i64_w, i32_w]; rw [c73b0]) | skip)
      obtain ⟨ji74, hji74⟩ : ∃ j_ : Int, (wrap64 (x17_2 - 1)) = j_ := ⟨_, rfl⟩
      replace H : (if 0 ≤ (ji74) then (if (ji74) < (l1_4.length : Int) then (if 0 < (l3.length : Int) then ((drivers_equal.f k2 a0_0 a0_1 a0_2 l0_3 l0_4 ((rd_T63 l1_4 (ji74)).f1.f0) ((rd_T63 l1_4 (ji74)).f1.f1) ((rd_T63 l1_4 (ji74)).f1.f2) ((rd_T63 l1_4 (ji74)).f1.f3) ((rd_T30 l3 0).f0) ((rd_T30 l3 0).f1) ((rd_T30 l3 0).f2) ((rd_T30 l3 0).f3)).bind fun t226 => (if t226 = true then (none) else (drivers_Assign.j2 k2 l3 (l1_4.length : Int) x17_2 a1_0 a1_1 l1_2 l1_3 l1_4 a2 l4))) else (none)) else (none)) else (none)) = some (r1, r2, r3, r4, r5, r6) := by first | (rw [hji74] at H; exact H) | (simp only [hji74] at H ⊢; exact H)
      have hji74w : (IntKind.i64.wrap (x17_2 - 1)) = ji74 := (i64_w _).trans hji74
      replace H := iN H; obtain ⟨-, c75b0, H⟩ := H
      replace H := iN H; obtain ⟨-, c76b0, H⟩ := H
      replace H := iN H; obtain ⟨c77, c77b0, H⟩ := H
      have c77b1 : decide (0 < l3.length) = true := decide_eq_true (by omega)
      clear c77
      replace H := bS H; obtain ⟨t226, A78, H⟩ := H
      replace H := iB H; obtain ⟨rfl, H⟩ | ⟨rfl, H⟩ := H
      ·exact absurd H (by simp)
      have H' := mk0 H
      clear H
      try go_wp2
      have n0_ := mk0 (Kd.V_drew HO_3.out)
      have n1_ := mk0 (Kd.V_drew HO_214003.out)
      have n2_ := mk0 (Kd.V_drew HO_214004.out)
      have n3_ := mk0 (blk_drew BK212.out)
      have n4_ := mk0 (blk_drew BK213.out)
      have n5_ := mk0 (blk_drew BK214.out)
      have n6_ := mk0 (blk_drew BK215.out)
      have n7_ := mk0 (blk_drew BK216.out)
      have n8_ := mk0 (below_drew1 HB.out)
      clear HO_3; clear HO_214003; clear HO_214004; clear BK212; clear BK213; clear BK214; clear BK215; clear BK216; clear HB; have HO_3 := n0_; have HO_214003 := n1_; have HO_214004 := n2_; have BK212 := n3_; have BK213 := n4_; have BK214 := n5_; have BK215 := n6_; have BK216 := n7_; have HB := n8_; clear n0_ n1_ n2_ n3_ n4_ n5_ n6_ n7_ n8_
      have p224 : 0 ≤ ((ji74) : Int) := od
      have q224 : (ji74) < (l1_4.length : Int) := od
      obtain ⟨ad224, A224_3, c224_3, A224_4, c224_4, e224, hx224_0, hx224_1, hx224_2, hx224_3, hx224_4, hl224_3, hi224_3, hl224_4, hi224_4⟩ := at_T63 (Kd.V_reads' HO_214004.out).2.2 (ji74) p224 q224
      cases e224
      obtain ⟨ce224, hce224, hMe224, hcc224⟩ := Kd.V_get HO_214004.out z63 (ji74) p224 (by first | exact q224 | exact of_decide_eq_true (by assumption) | (have e_ := (Kd.V_reads' HO_214004.out).1; omega))
      obtain ⟨ua224_3, uc224_3, ua224_4, uc224_4, rfl, ul224_3, ge224_3, ul224_4, ge224_4⟩ := k63_openF hMe224
      have hv224_3 := hcc224 3 _ rfl
      rw [add_field _ _ 3 (by omega)] at hv224_3
      replace hv224_3 := Option.some.inj (hv224_3.symm.trans hx224_3)
      injection hv224_3 with hva_ hvn_ hvc_
      rw [hva_] at ge224_3
      rw [hvc_] at ul224_3
      have HL224_3 := mk0 (show Kd.V (Kd.int .u8) 73 _ w.heap.size _ _ ((rd_T63 l1_4 (ji74)).f1.f2) from Kd.V_mk ul224_3 ge224_3)
      clear hva_ hvn_ hvc_ ge224_3 ul224_3
      have hv224_4 := hcc224 4 _ rfl
      rw [add_field _ _ 4 (by omega)] at hv224_4
      replace hv224_4 := Option.some.inj (hv224_4.symm.trans hx224_4)
      injection hv224_4 with hva_ hvn_ hvc_
      rw [hva_] at ge224_4
      rw [hvc_] at ul224_4
      have HL224_4 := mk0 (show Kd.V k30 30 _ w.heap.size _ _ ((rd_T63 l1_4 (ji74)).f1.f3) from Kd.V_mk ul224_4 ge224_4)
      clear hva_ hvn_ hvc_ ge224_4 ul224_4; clear hcc224 hce224; have HR224_3 := mk0 hi224_3; have HC224_3 := mk0 hl224_3; clear hi224_3 hl224_3; have HR224_4 := mk0 hi224_4; have HC224_4 := mk0 hl224_4; clear hi224_4 hl224_4; replace p224 := eq_true p224; replace q224 := eq_true q224
      have p225 : 0 ≤ (0 : Int) := (by omega)
      have q225 : 0 < (l3.length : Int) := od
      obtain ⟨ad225, A225_2, c225_2, A225_3, c225_3, e225, hx225_0, hx225_1, hx225_2, hx225_3, hl225_2, hi225_2, hl225_3, hi225_3⟩ := at_T30 (Kd.V_reads' HO_3.out).2.2 0 p225 q225
      cases e225
      obtain ⟨ce225, hce225, hMe225, hcc225⟩ := Kd.V_get HO_3.out z30 0 p225 (by first | exact q225 | exact of_decide_eq_true (by assumption) | (have e_ := (Kd.V_reads' HO_3.out).1; omega))
      obtain ⟨ua225_2, uc225_2, ua225_3, uc225_3, rfl, ul225_2, ge225_2, ul225_3, ge225_3⟩ := k30_openF hMe225
      have hv225_2 := hcc225 2 _ rfl
      rw [add_field _ _ 2 (by omega)] at hv225_2
      replace hv225_2 := Option.some.inj (hv225_2.symm.trans hx225_2)
      injection hv225_2 with hva_ hvn_ hvc_
      rw [hva_] at ge225_2
      rw [hvc_] at ul225_2
      have HL225_2 := mk0 (show Kd.V (Kd.int .u8) 73 _ w.heap.size _ _ ((rd_T30 l3 0).f2) from Kd.V_mk ul225_2 ge225_2)
      clear hva_ hvn_ hvc_ ge225_2 ul225_2
      have hv225_3 := hcc225 3 _ rfl
      rw [add_field _ _ 3 (by omega)] at hv225_3
      replace hv225_3 := Option.some.inj (hv225_3.symm.trans hx225_3)
      injection hv225_3 with hva_ hvn_ hvc_
      rw [hva_] at ge225_3
      rw [hvc_] at ul225_3
      have HL225_3 := mk0 (show Kd.V k30 30 _ w.heap.size _ _ ((rd_T30 l3 0).f3) from Kd.V_mk ul225_3 ge225_3)
      clear hva_ hvn_ hvc_ ge225_3 ul225_3; clear hcc225 hce225
      have qi225 : (0 < l3.length) = True := eq_true (by omega)
      (try rw [show ((0 : Int)).toNat = 0 from rfl] at hx225_0)
      (try rw [show 0 * 4 = 0 from rfl] at hx225_0)
      (try rw [Addr.add_zero'] at hx225_0)
      (try rw [show ((0 : Int)).toNat = 0 from rfl] at hx225_1)
      (try rw [show 0 * 4 = 0 from rfl] at hx225_1)
      (try rw [Addr.add_zero'] at hx225_1)
      (try rw [show ((0 : Int)).toNat = 0 from rfl] at hx225_2)
      (try rw [show 0 * 4 = 0 from rfl] at hx225_2)
      (try rw [Addr.add_zero'] at hx225_2)
      (try rw [show ((0 : Int)).toNat = 0 from rfl] at hx225_3)
      (try rw [show 0 * 4 = 0 from rfl] at hx225_3)
      (try rw [Addr.add_zero'] at hx225_3)
      have HR225_2 := mk0 hi225_2; have HC225_2 := mk0 hl225_2; clear hi225_2 hl225_2; have HR225_3 := mk0 hi225_3; have HC225_3 := mk0 hl225_3; clear hi225_3 hl225_3; replace p225 := eq_true p225; replace q225 := eq_true q225
      refine start_ (n := 16) (S := fun w' => w'.cell? ⟨gb212, 0, none⟩ = some (.int .i64 a0_0) ∧ w'.cell? ⟨gb212, 1, none⟩ = some (.int .i64 a0_1) ∧ w'.cell? ⟨gb212, 2, none⟩ = some (.string a0_2) ∧ w'.cell? ⟨gb212, 3, none⟩ = some (.slice A0_3 l0_3.length c0_3) ∧ w'.cell? ⟨gb212, 4, none⟩ = some (.slice A0_4 l0_4.length c0_4) ∧ w'.cell? ⟨gb213, 0, none⟩ = some (.int .i64 a1_0) ∧ w'.cell? ⟨gb213, 1, none⟩ = some (.int .i64 a1_1) ∧ w'.cell? ⟨gb213, 2, none⟩ = some (.slice A1_2 l1_2.length c1_2) ∧ w'.cell? ⟨gb213, 3, none⟩ = some (.slice A1_3 l1_3.length c1_3) ∧ w'.cell? ⟨gb213, 4, none⟩ = some (.slice (some ad224) l1_4.length c1_4) ∧ w'.cell? (ad224.add (((ji74)).toNat * 5)) = some (.int .i64 ((rd_T63 l1_4 (ji74)).f0)) ∧ w'.cell? ⟨(ad224.add (((ji74)).toNat * 5)).block, (ad224.add (((ji74)).toNat * 5)).off + 1, none⟩ = some (.int .i64 ((rd_T63 l1_4 (ji74)).f1.f0)) ∧ w'.cell? ⟨(ad224.add (((ji74)).toNat * 5)).block, (ad224.add (((ji74)).toNat * 5)).off + 2, none⟩ = some (.int .i64 ((rd_T63 l1_4 (ji74)).f1.f1)) ∧ w'.cell? ⟨(ad224.add (((ji74)).toNat * 5)).block, (ad224.add (((ji74)).toNat * 5)).off + 3, none⟩ = some (.slice A224_3 ((rd_T63 l1_4 (ji74)).f1.f2).length c224_3) ∧ w'.cell? ⟨(ad224.add (((ji74)).toNat * 5)).block, (ad224.add (((ji74)).toNat * 5)).off + 4, none⟩ = some (.slice A224_4 ((rd_T63 l1_4 (ji74)).f1.f3).length c224_4) ∧ w'.cell? ad225 = some (.int .i64 ((rd_T30 l3 0).f0)) ∧ w'.cell? ⟨ad225.block, ad225.off + 1, none⟩ = some (.int .i64 ((rd_T30 l3 0).f1)) ∧ w'.cell? ⟨ad225.block, ad225.off + 2, none⟩ = some (.slice A225_2 ((rd_T30 l3 0).f2).length c225_2) ∧ w'.cell? ⟨ad225.block, ad225.off + 3, none⟩ = some (.slice A225_3 ((rd_T30 l3 0).f3).length c225_3)) (ds := []) #[false, false, false, false, false, false, false, false, false, false, false, false, false, false, false, false] (by kernel_rfl) rfl rfl ⟨bc BK212 0, bc BK212 1, bc BK212 2, bc BK212 3, bc BK212 4, bc BK213 0, bc BK213 1, bc BK213 2, bc BK213 3, bc BK213 4, hx224_0, hx224_1, hx224_2, hx224_3, hx224_4, hx225_0, hx225_1, hx225_2, hx225_3⟩ (fun hHeld => ?_); refine with_tabW drivers_Assign.tab17 drivers_Assign.bits17 (fun HT_ HW_ => ?_)
      generalize wr.drew = w80 at HO_3 HO_214003 HO_214004 BK212 BK213 BK214 BK215 BK216 HB HL224_3 HL224_4 HL225_2 HL225_3 HR224_3 HR224_4 HR225_2 HR225_3 hx224_0 hx224_1 hx224_2 hx224_3 hx224_4 hx225_0 hx225_1 hx225_2 hx225_3 hHeld ⊢
      refine pu_ (v := ?_) (a' := ?_) 0 84 #[true, false, false, false, false, false, false, false, false, false, false, false, false, false, false, false] HT_ ?_ ?_ ?_
      rotate_left
      ·intro w'
       go_simp
       with_reducible rfl
      rotate_left
      ·simp only [ps]
       rfl
      refine pu_ (v := ?_) (a' := ?_) 1 85 #[true, true, false, false, false, false, false, false, false, false, false, false, false, false, false, false] HT_ ?_ ?_ ?_
      rotate_left
      ·intro w'
       go_simp
       with_reducible rfl
      rotate_left
      ·simp only [ps]
       rfl
      refine pu_ (v := ?_) (a' := ?_) 2 86 #[true, true, true, false, false, false, false, false, false, false, false, false, false, false, false, false] HT_ ?_ ?_ ?_
      rotate_left
      ·intro w'
       go_simp
       with_reducible rfl
      rotate_left
      ·simp only [ps]
       rfl
      refine pu_ (v := ?_) (a' := ?_) 4 88 #[true, true, true, false, true, false, false, false, false, false, false, false, false, false, false, false] HT_ ?_ ?_ ?_
      rotate_left
      ·intro w'
       go_simp
       with_reducible rfl
      rotate_left
      ·simp only [ps]
       rfl
      refine pu_ (v := ?_) (a' := ?_) 6 90 #[true, true, true, false, true, false, true, false, false, false, false, false, false, false, false, false] HT_ ?_ ?_ ?_
      rotate_left
      ·intro w'
       go_simp
       with_reducible rfl
      rotate_left
      ·simp only [ps]
       rfl
      refine pu_ (v := ?_) (a' := ?_) 7 91 #[true, true, true, false, true, false, true, true, false, false, false, false, false, false, false, false] HT_ ?_ ?_ ?_
      rotate_left
      ·intro w'
       go_simp
       with_reducible rfl
      rotate_left
      ·simp only [ps]
       rfl
      refine pu_ (v := ?_) (a' := ?_) 11 95 #[true, true, true, false, true, false, true, true, false, false, false, true, false, false, false, false] HT_ ?_ ?_ ?_
      rotate_left
      ·intro w'
       go_simp
       with_reducible rfl
      rotate_left
      ·simp only [ps]
       rfl
      refine pu_ (v := ?_) (a' := ?_) 12 96 #[true, true, true, false, true, false, true, true, false, false, false, true, true, false, false, false] HT_ ?_ ?_ ?_
      rotate_left
      ·intro w'
       go_simp
       with_reducible rfl
      rotate_left
      ·simp only [ps]
       rfl
      refine take_ (i := 3) (N := some 87) (v := ?_) (a' := ?_) #[true, true, true, true, true, false, true, true, false, false, false, true, true, false, false, false] rfl rfl (take_ofW HT_.out HW_.out (by kernel_rfl)) (fun _ _ _ h => h) (Or.inl ⟨by rfl, ?_⟩) hHeld ?_ ?_
      rotate_left
      ·rintro w' ⟨s0, s1, s2, s3, s4, s5, s6, s7, s8, s9, s10, s11, s12, s13, s14, s15, s16, s17, s18⟩
       go_simp
       with_reducible rfl
      rotate_left
      ·simp only [ps]
       rfl
      refine take_ (i := 5) (N := some 89) (v := ?_) (a' := ?_) #[true, true, true, true, true, true, true, true, false, false, false, true, true, false, false, false] rfl rfl (take_ofW HT_.out HW_.out (by kernel_rfl)) (fun _ _ _ h => h) (Or.inl ⟨by rfl, ?_⟩) hHeld ?_ ?_
      rotate_left
      ·rintro w' ⟨s0, s1, s2, s3, s4, s5, s6, s7, s8, s9, s10, s11, s12, s13, s14, s15, s16, s17, s18⟩
       go_simp
       with_reducible rfl
      rotate_left
      ·simp only [ps]
       rfl
      refine pu_ (v := ?_) (a' := ?_) 8 92 #[true, true, true, true, true, true, true, true, true, false, false, true, true, false, false, false] HT_ ?_ ?_ ?_
      rotate_left
      ·intro w'
       go_simp
       with_reducible rfl
      rotate_left
      ·simp only [ps]
       rfl
      refine pu_ (v := ?_) (a' := ?_) 9 93 #[true, true, true, true, true, true, true, true, true, true, false, true, true, false, false, false] HT_ ?_ ?_ ?_
      rotate_left
      ·intro w'
       go_simp
       with_reducible rfl
      rotate_left
      ·simp only [ps]
       rfl
      refine take_ (i := 10) (N := some 94) (v := ?_) (a' := ?_) (tf 13 3) rfl rfl (take_ofW HT_.out HW_.out (by kernel_rfl)) (fun _ _ _ h => h) (Or.inl ⟨by rfl, ?_⟩) hHeld ?_ ?_
      rotate_left
      ·rintro w' ⟨s0, s1, s2, s3, s4, s5, s6, s7, s8, s9, s10, s11, s12, s13, s14, s15, s16, s17, s18⟩
       go_simp
       with_reducible rfl
      rotate_left
      ·simp only [ps]
       rfl
      refine take_ (i := 13) (N := some 97) (v := ?_) (a' := ?_) (tf 14 2) rfl rfl (take_ofW HT_.out HW_.out (by kernel_rfl)) (fun _ _ _ h => h) (Or.inl ⟨by rfl, ?_⟩) hHeld ?_ ?_
      rotate_left
      ·rintro w' ⟨s0, s1, s2, s3, s4, s5, s6, s7, s8, s9, s10, s11, s12, s13, s14, s15, s16, s17, s18⟩
       go_simp
       with_reducible rfl
      rotate_left
      ·simp only [ps]
       rfl
      refine one_ (i := 14) (N := some 98) (tf 15 1) rfl rfl (one_of HT_.out (by kernel_rfl)) (by decide) (fun K hK => ?_)
      refine goes_ Try.func56 (by kernel_rfl) rfl #[.agg #[.int .i64 a0_0, .int .i64 a0_1, .string a0_2, .slice A0_3 l0_3.length c0_3, .slice A0_4 l0_4.length c0_4], .agg #[.int .i64 ((rd_T63 l1_4 (ji74)).f1.f0), .int .i64 ((rd_T63 l1_4 (ji74)).f1.f1), .slice A224_3 ((rd_T63 l1_4 (ji74)).f1.f2).length c224_3, .slice A224_4 ((rd_T63 l1_4 (ji74)).f1.f3).length c224_4], .agg #[.int .i64 ((rd_T30 l3 0).f0), .int .i64 ((rd_T30 l3 0).f1), .slice A225_2 ((rd_T30 l3 0).f2).length c225_2, .slice A225_3 ((rd_T30 l3 0).f3).length c225_3]] (by rfl) rfl rfl (by (try simp only [List.map_toArray, List.map_cons, List.map_nil]); first | done | (simp only [hji74]; rfl) | rfl | (simp only [List.length_drop, List.length_take]; rfl)) ?_
      with_reducible refine (drivers_equal.calls k2 a0_0 a0_1 a0_2 _ _ l0_3 _ _ l0_4 ((rd_T63 l1_4 (ji74)).f1.f0) ((rd_T63 l1_4 (ji74)).f1.f1) _ _ ((rd_T63 l1_4 (ji74)).f1.f2) _ _ ((rd_T63 l1_4 (ji74)).f1.f3) ((rd_T30 l3 0).f0) ((rd_T30 l3 0).f1) _ _ ((rd_T30 l3 0).f2) _ _ ((rd_T30 l3 0).f3) false _ ?side13 ?side1 ?side2 ?side3 ?side4 ?side5 ?side6 ?side7 ?side8 ?side9 ?side10 ?side11 ?side12 A78.out).mono ?_
      (case side1 => exact cu HR0_3 HB)
      (case side2 => exact HC0_3.out)
      (case side3 => exact cu HR0_4 HB)
      (case side4 => exact HC0_4.out)
      (case side5 => repeat (first | exact (by repeat (first | (with_reducible exact HR224_3.out) | (with_reducible refine Kd.C_alloc ?_ _) | (with_reducible refine Kd.C_drewN ?_ _) | (with_reducible refine Kd.C_drew ?_) | exact HR224_3.out)) | (with_reducible refine Kd.C_alloc ?_ _) | (with_reducible refine Kd.C_drewN ?_ _) | (with_reducible refine Kd.C_drew ?_)))
      (case side6 => exact HC224_3.out)
      (case side7 => repeat (first | exact (by repeat (first | (with_reducible exact HR224_4.out) | (with_reducible refine Kd.C_alloc ?_ _) | (with_reducible refine Kd.C_drewN ?_ _) | (with_reducible refine Kd.C_drew ?_) | exact HR224_4.out)) | (with_reducible refine Kd.C_alloc ?_ _) | (with_reducible refine Kd.C_drewN ?_ _) | (with_reducible refine Kd.C_drew ?_)))
      (case side8 => exact HC224_4.out)
      (case side9 => repeat (first | exact (by repeat (first | (with_reducible exact HR225_2.out) | (with_reducible refine Kd.C_alloc ?_ _) | (with_reducible refine Kd.C_drewN ?_ _) | (with_reducible refine Kd.C_drew ?_) | exact HR225_2.out)) | (with_reducible refine Kd.C_alloc ?_ _) | (with_reducible refine Kd.C_drewN ?_ _) | (with_reducible refine Kd.C_drew ?_)))
      (case side10 => exact HC225_2.out)
      (case side11 => repeat (first | exact (by repeat (first | (with_reducible exact HR225_3.out) | (with_reducible refine Kd.C_alloc ?_ _) | (with_reducible refine Kd.C_drewN ?_ _) | (with_reducible refine Kd.C_drew ?_) | exact HR225_3.out)) | (with_reducible refine Kd.C_alloc ?_ _) | (with_reducible refine Kd.C_drewN ?_ _) | (with_reducible refine Kd.C_drew ?_)))
      (case side12 => exact HC225_3.out)
      (case side13 => exact glob_below HG.out (be5 HB GE212 GE213 GE214 GE215 GE216))
      rintro e w81 ⟨rfl, hb⟩
      have HS10_ := (hb.cell (World.block_lt_of_cell? _ _ (hHeld.2.2.2.2.2.2.2.2.2.2.1))).trans (hHeld.2.2.2.2.2.2.2.2.2.2.1)
      have HS11_ := (hb.cell (World.block_lt_of_cell? _ _ (hHeld.2.2.2.2.2.2.2.2.2.2.2.1))).trans (hHeld.2.2.2.2.2.2.2.2.2.2.2.1)
      have HS12_ := (hb.cell (World.block_lt_of_cell? _ _ (hHeld.2.2.2.2.2.2.2.2.2.2.2.2.1))).trans (hHeld.2.2.2.2.2.2.2.2.2.2.2.2.1)
      have HS13_ := (hb.cell (World.block_lt_of_cell? _ _ (hHeld.2.2.2.2.2.2.2.2.2.2.2.2.2.1))).trans (hHeld.2.2.2.2.2.2.2.2.2.2.2.2.2.1)
      have HS14_ := (hb.cell (World.block_lt_of_cell? _ _ (hHeld.2.2.2.2.2.2.2.2.2.2.2.2.2.2.1))).trans (hHeld.2.2.2.2.2.2.2.2.2.2.2.2.2.2.1)
      have HS15_ := (hb.cell (World.block_lt_of_cell? _ _ (hHeld.2.2.2.2.2.2.2.2.2.2.2.2.2.2.2.1))).trans (hHeld.2.2.2.2.2.2.2.2.2.2.2.2.2.2.2.1)
      have HS16_ := (hb.cell (World.block_lt_of_cell? _ _ (hHeld.2.2.2.2.2.2.2.2.2.2.2.2.2.2.2.2.1))).trans (hHeld.2.2.2.2.2.2.2.2.2.2.2.2.2.2.2.2.1)
      have HS17_ := (hb.cell (World.block_lt_of_cell? _ _ (hHeld.2.2.2.2.2.2.2.2.2.2.2.2.2.2.2.2.2.1))).trans (hHeld.2.2.2.2.2.2.2.2.2.2.2.2.2.2.2.2.2.1)
      have HS18_ := (hb.cell (World.block_lt_of_cell? _ _ (hHeld.2.2.2.2.2.2.2.2.2.2.2.2.2.2.2.2.2.2))).trans (hHeld.2.2.2.2.2.2.2.2.2.2.2.2.2.2.2.2.2.2)
      refine ⟨_, rfl, ?_⟩
      have n0_ := vb HO_3 hb
      have n1_ := vb HO_214003 hb
      have n2_ := vb HO_214004 hb
      have n3_ := vb HL224_3 hb
      have n4_ := vb HL224_4 hb
      have n5_ := vb HL225_2 hb
      have n6_ := vb HL225_3 hb
      have n7_ := kb BK212 hb
      have n8_ := kb BK213 hb
      have n9_ := kb BK214 hb
      have n10_ := kb BK215 hb
      have n11_ := kb BK216 hb
      have n12_ := cb HR224_3 hb
      have n13_ := cb HR224_4 hb
      have n14_ := cb HR225_2 hb
      have n15_ := cb HR225_3 hb
      have n16_ := kh5 HB GE212 GE213 GE214 GE215 GE216 hb
      clear HO_3; clear HO_214003; clear HO_214004; clear HL224_3; clear HL224_4; clear HL225_2; clear HL225_3; clear BK212; clear BK213; clear BK214; clear BK215; clear BK216; clear HR224_3; clear HR224_4; clear HR225_2; clear HR225_3; clear HB; have HO_3 := n0_; have HO_214003 := n1_; have HO_214004 := n2_; have HL224_3 := n3_; have HL224_4 := n4_; have HL225_2 := n5_; have HL225_3 := n6_; have BK212 := n7_; have BK213 := n8_; have BK214 := n9_; have BK215 := n10_; have BK216 := n11_; have HR224_3 := n12_; have HR224_4 := n13_; have HR225_2 := n14_; have HR225_3 := n15_; have HB := n16_; clear n0_ n1_ n2_ n3_ n4_ n5_ n6_ n7_ n8_ n9_ n10_ n11_ n12_ n13_ n14_ n15_ n16_
      try clear hb
      try clear hk
      refine hK.out _ _ ⟨bc BK212 0, bc BK212 1, bc BK212 2, bc BK212 3, bc BK212 4, bc BK213 0, bc BK213 1, bc BK213 2, bc BK213 3, bc BK213 4, HS10_, HS11_, HS12_, HS13_, HS14_, HS15_, HS16_, HS17_, HS18_⟩ (fun hHeld => ?_)
      clear hK K
      refine norm_ (a' := ?_) ?_ ?_
      rotate_left
      ·show Act.put _ (some 98) _ = _
       simp only [ps]
       rfl
      refine pu_ (v := ?_) (a' := ?_) 15 99 #[true, true, true, true, true, true, true, true, true, true, true, true, true, true, true, true] HT_ ?_ ?_ ?_
      rotate_left
      ·intro w'
       go_simp
       with_reducible rfl
      rotate_left
      ·simp only [ps]
       rfl
      refine done_ (done_of HT_.out (by kernel_rfl)) ?_
      try go_wp2
      go_meet
      case rel => exact ⟨_, (x17_2), rfl, H', ⟨by have := HK1.out; have := HK2.out; first | omega | exact Nat.le_refl _⟩, ⟨V_up HO_3.out⟩, ⟨V_up HO_214003.out⟩, ⟨V_up HO_214004.out⟩, ⟨bu BK212⟩, ⟨bu BK213⟩, ⟨bu BK214⟩, ⟨bu BK215⟩, ⟨bu BK216⟩, ⟨be5 HB GE212 GE213 GE214 GE215 GE216⟩⟩
   case rest =>
    clear HC58; try clear c4; try clear c57b0; try clear hcz33_0; try clear hfz33_0; try clear hcz35_0; try clear hfz35_0; try clear hcz67_0; try clear hfz67_0
    obtain ⟨kq, x17_57, rfl, HA, HJ57, HO_3, HO_214003, HO_214004, BK212, BK213, BK214, BK215, BK216, HB⟩ := hcut
    cases kq with
    | zero => exact absurd HA.out (by simp [drivers_Assign.j2])
    | succ kj57 =>
     have H := HA.out; clear HA
     simp only [drivers_Assign.j2] at H
     by_cases c83 : (wrap64 ((wrap64 ((l1_4.length : Int) - x17_57)) + (l3.length : Int))) > 64
     ·rw [if_pos c83] at H
      exact absurd H (by simp)
     rw [if_neg c83] at H; have c83b0 : decide (64 < (wrap64 ((wrap64 ((l1_4.length : Int) - x17_57)) + (l3.length : Int)))) = false := decide_eq_false c83; clear c83
     replace H := Option.bind_eq_some_iff.mp H
     obtain ⟨⟨t227, t228, t229, t232⟩, A840, H⟩ := H
     replace H : (if 0 ≤ x17_57 then (if x17_57 ≤ (l1_4.length : Int) then (if (l1_4.length : Int) ≤ (l1_4.length : Int) then ((drivers_all.f kj57 ((l1_4.take ((l1_4.length : Int) : Int).toNat).drop (x17_57 : Int).toNat)).bind fun t240 => (drivers_Assign.l2 kj57 l3 (l3.length : Int) 0 a2 l4 t227 t228 t229 t232 t240)) else (none)) else (none)) else (none)) = some (r1, r2, r3, r4, r5, r6) := H
     have A84 := mk0 A840; clear A840
     by_cases c85 : 0 ≤ x17_57
     rotate_left
     ·rw [if_neg c85] at H
      exact absurd H (by simp)
     rw [if_pos c85] at H; have c85b0 := eq_true c85; have c85b1 : decide (0 ≤ x17_57) = true := decide_eq_true c85; clear c85
     by_cases c86 : x17_57 ≤ (l1_4.length : Int)
     rotate_left
     ·rw [if_neg c86] at H
      exact absurd H (by simp)
     rw [if_pos c86] at H; have c86b0 := eq_true c86; have c86b1 : decide (x17_57 ≤ (l1_4.length : Int)) = true := decide_eq_true c86; clear c86
     by_cases c87 : (l1_4.length : Int) ≤ (l1_4.length : Int)
     rotate_left
     ·rw [if_neg c87] at H
      exact absurd H (by simp)
     rw [if_pos c87] at H; have c87b0 := eq_true c87; have c87b1 : decide ((l1_4.length : Int) ≤ (l1_4.length : Int)) = true := decide_eq_true c87; clear c87
     obtain ⟨y235, hy235⟩ : ∃ y_ : List (S63), y_ = ((l1_4.take ((l1_4.length : Int) : Int).toNat).drop (x17_57 : Int).toNat) := ⟨_, rfl⟩
     replace H : ((drivers_all.f kj57 y235).bind fun t240 => (drivers_Assign.l2 kj57 l3 (l3.length : Int) 0 a2 l4 t227 t228 t229 t232 t240)) = some (r1, r2, r3, r4, r5, r6) := by first | (rw [hy235]; with_reducible exact H) | (have H2_ := (Option.bind_some _ _).symm.trans H; rw [hy235]; with_reducible exact H2_) | (have H2_ := (Option.bind_some _ _).symm.trans H; with_reducible exact H2_) | with_reducible exact H | (rw [hy235]; exact H) | exact H
     have Ny235 := mk0 hy235; clear hy235
     replace H := bS H; obtain ⟨t240, A88, H⟩ := H
     have H' := mk0 H
     clear H
     try go_wp2
     have n0_ := mk0 (Kd.V_drew HO_3.out)
     have n1_ := mk0 (Kd.V_drew HO_214003.out)
     have n2_ := mk0 (Kd.V_drew HO_214004.out)
     have n3_ := mk0 (blk_drew BK212.out)
     have n4_ := mk0 (blk_drew BK213.out)
     have n5_ := mk0 (blk_drew BK214.out)
     have n6_ := mk0 (blk_drew BK215.out)
     have n7_ := mk0 (blk_drew BK216.out)
     have n8_ := mk0 (below_drew1 HB.out)
     clear HO_3; clear HO_214003; clear HO_214004; clear BK212; clear BK213; clear BK214; clear BK215; clear BK216; clear HB; have HO_3 := n0_; have HO_214003 := n1_; have HO_214004 := n2_; have BK212 := n3_; have BK213 := n4_; have BK214 := n5_; have BK215 := n6_; have BK216 := n7_; have HB := n8_; clear n0_ n1_ n2_ n3_ n4_ n5_ n6_ n7_ n8_
     have q90 : ((l1_4.length : Int) : Int) ≤ ((l1_4.length : Int) : Int) := od
     obtain ⟨i090, hi090, _, hsz90, _⟩ := info_parts info63
     have hroom90 : l1_4.length ≤ c1_4 := (Kd.V_reads' HO_214004.out).2.1
     have hC90 : Kd.F k63 _ _ A1_4 l1_4.length l1_4 := (Kd.V_at (base := w.heap.size) HO_214004.out).2.2
     have ql90 : (x17_57 : Int) ≤ ((l1_4.length : Int) : Int) := od
     have q090 : (0 : Int) ≤ (x17_57 : Int) := od
     have hcut90 := cut_mid (P := Try.prog) 31 63 .i64 .i64 Try.underlying31 hi090 5 hsz90 A1_4 l1_4.length c1_4 x17_57 (l1_4.length : Int) q090 ql90 q90 hroom90
     have hr90 := Kd.F_mid (lo := (x17_57 : Int).toNat) (hi := ((l1_4.length : Int) : Int).toNat) (c := c1_4) hC90 (by omega) (by omega) hroom90
     obtain ⟨A90, hA90⟩ : ∃ A1, A1 = (if c1_4 = (x17_57 : Int).toNat then A1_4 else (A1_4 : Option Addr).map (·.add ((x17_57 : Int).toNat * 5))) := ⟨_, rfl⟩
     obtain ⟨c90, hc90⟩ : ∃ c1, c1 = c1_4 - (x17_57 : Int).toNat := ⟨_, rfl⟩
     have hy90 : y235.length = ((l1_4.length : Int) : Int).toNat - (x17_57 : Int).toNat := (by rw [Ny235.out, List.length_drop, List.length_take] <;> omega)
     rw [show ((l1_4).take ((l1_4.length : Int) : Int).toNat).drop (x17_57 : Int).toNat = y235 from Ny235.out.symm] at hr90
     replace hr90 : Kd.F k63 _ _ A90 y235.length y235 := (by rw [hA90]; exact hr90)
     rw [← hy90, ← hA90, ← hc90] at hcut90
     have HO239 := mk0 (show Kd.V k63 63 _ w.heap.size _ (.slice A90 y235.length c90) y235 from Kd.V_mk (by rw [hy90, hc90]; exact Nat.sub_le_sub_right (Nat.le_trans (by omega) hroom90) _) hr90)
     have HC239 := mk0 (show y235.length ≤ c90 from by rw [hy90, hc90]; exact Nat.sub_le_sub_right (Nat.le_trans (by omega) hroom90) _)
     clear hr90 hC90 hroom90 hi090 hsz90 hc90; have KY90 := mk0 hy90; have KA90 := mk0 hA90; clear hy90 hA90; replace q90 := eq_true q90
     refine start_ (n := 12) (S := fun w' => w'.cell? ⟨gb213, 0, none⟩ = some (.int .i64 a1_0) ∧ w'.cell? ⟨gb213, 1, none⟩ = some (.int .i64 a1_1) ∧ w'.cell? ⟨gb213, 2, none⟩ = some (.slice A1_2 l1_2.length c1_2) ∧ w'.cell? ⟨gb213, 3, none⟩ = some (.slice A1_3 l1_3.length c1_3) ∧ w'.cell? ⟨gb213, 4, none⟩ = some (.slice A1_4 l1_4.length c1_4)) (ds := []) #[false, false, false, false, false, false, false, false, false, false, false, false] (by kernel_rfl) rfl rfl ⟨bc BK213 0, bc BK213 1, bc BK213 2, bc BK213 3, bc BK213 4⟩ (fun hHeld => ?_); refine with_tabW drivers_Assign.tab21 drivers_Assign.bits21 (fun HT_ HW_ => ?_)
     generalize wc.drew = w89 at HO_3 HO_214003 HO_214004 BK212 BK213 BK214 BK215 BK216 HB HO239 hHeld ⊢
     refine pu_ (v := ?_) (a' := ?_) 0 110 #[true, false, false, false, false, false, false, false, false, false, false, false] HT_ ?_ ?_ ?_
     rotate_left
     ·intro w'
      go_simp
      with_reducible rfl
     rotate_left
     ·simp only [ps]
      rfl
     refine pu_ (v := ?_) (a' := ?_) 3 113 #[true, false, false, true, false, false, false, false, false, false, false, false] HT_ ?_ ?_ ?_
     rotate_left
     ·intro w'
      go_simp
      with_reducible rfl
     rotate_left
     ·simp only [ps]
      rfl
     refine pu_ (v := ?_) (a' := ?_) 5 115 #[true, false, false, true, false, true, false, false, false, false, false, false] HT_ ?_ ?_ ?_
     rotate_left
     ·intro w'
      go_simp
      with_reducible rfl
     rotate_left
     ·simp only [ps]
      rfl
     refine pu_ (v := ?_) (a' := ?_) 6 116 #[true, false, false, true, false, true, true, false, false, false, false, false] HT_ ?_ ?_ ?_
     rotate_left
     ·intro w'
      go_simp
      with_reducible rfl
     rotate_left
     ·simp only [ps]
      rfl
     refine take_ (i := 1) (N := some 111) (v := ?_) (a' := ?_) #[true, true, false, true, false, true, true, false, false, false, false, false] rfl rfl (take_ofW HT_.out HW_.out (by kernel_rfl)) (fun _ _ _ h => h) (Or.inl ⟨by rfl, ?_⟩) hHeld ?_ ?_
     rotate_left
     ·rintro w' ⟨s0, s1, s2, s3, s4⟩
      go_simp
      with_reducible rfl
     rotate_left
     ·simp only [ps]
      rfl
     refine take_ (i := 4) (N := some 114) (v := ?_) (a' := ?_) #[true, true, false, true, true, true, true, false, false, false, false, false] rfl rfl (take_ofW HT_.out HW_.out (by kernel_rfl)) (fun _ _ _ h => h) (Or.inl ⟨by rfl, ?_⟩) hHeld ?_ ?_
     rotate_left
     ·rintro w' ⟨s0, s1, s2, s3, s4⟩
      go_simp
      with_reducible rfl
     rotate_left
     ·simp only [ps]
      rfl
     refine pu_ (v := ?_) (a' := ?_) 7 117 #[true, true, false, true, true, true, true, true, false, false, false, false] HT_ ?_ ?_ ?_
     rotate_left
     ·intro w'
      go_simp
      with_reducible rfl
     rotate_left
     ·simp only [ps]
      rfl
     refine join_ (σ := Value × Value × Value × Nat) 1 #[true, true, true, true, true, true, true, true, true, true, true, false] (fun s_ => [(112, .agg #[.int .i64 t227, .int .i64 t228, s_.1, s_.2.1]), (118, s_.2.2.1), (18, .pointer (some ⟨s_.2.2.2, 0, none⟩)), (119, .agg #[.int .i64 t227, .int .i64 t228, s_.1, s_.2.1, s_.2.2.1])]) (fun s_ w' => (w'.cell? ⟨gb213, 0, none⟩ = some (.int .i64 a1_0) ∧ w'.cell? ⟨gb213, 1, none⟩ = some (.int .i64 a1_1) ∧ w'.cell? ⟨gb213, 2, none⟩ = some (.slice A1_2 l1_2.length c1_2) ∧ w'.cell? ⟨gb213, 3, none⟩ = some (.slice A1_3 l1_3.length c1_3) ∧ w'.cell? ⟨gb213, 4, none⟩ = some (.slice A1_4 l1_4.length c1_4)) ∧ (Kd.R (Kd.int .u8) 73 w' w.heap.size (fun k_ => (w.heap.size ≤ k_)) s_.1 t229) ∧ (Kd.V k30 30 w' w.heap.size (fun k_ => ((P1_3_ k_ ∨ P1_4_ k_ ∨ P3_ k_) ∨ w.heap.size ≤ k_) ∧ some k_ ≠ (s_.1 : Value).ownBlock ∧ some k_ ≠ (s_.2.2.1 : Value).ownBlock ∧ k_ ≠ gb212 ∧ k_ ≠ gb213 ∧ k_ ≠ gb214 ∧ k_ ≠ gb215 ∧ k_ ≠ gb216 ∧ k_ ≠ s_.2.2.2) s_.2.1 t232) ∧ (Kd.V k63 63 w' w.heap.size (fun k_ => ((P1_3_ k_ ∨ P1_4_ k_ ∨ P3_ k_) ∨ w.heap.size ≤ k_) ∧ some k_ ≠ (s_.1 : Value).ownBlock ∧ some k_ ≠ (s_.2.2.1 : Value).ownBlock ∧ k_ ≠ gb212 ∧ k_ ≠ gb213 ∧ k_ ≠ gb214 ∧ k_ ≠ gb215 ∧ k_ ≠ gb216 ∧ k_ ≠ s_.2.2.2) (.slice A90 y235.length c90) y235) ∧ (Kd.N k63 63 w' w.heap.size (fun k_ => ((P1_3_ k_ ∨ P1_4_ k_ ∨ P3_ k_) ∨ w.heap.size ≤ k_) ∧ some k_ ≠ (s_.1 : Value).ownBlock ∧ k_ ≠ gb212 ∧ k_ ≠ gb213 ∧ k_ ≠ gb214 ∧ k_ ≠ gb215 ∧ k_ ≠ gb216 ∧ k_ ≠ s_.2.2.2) s_.2.2.1 t240) ∧ (Kd.V k30 30 w' w.heap.size (fun k_ => ((P1_3_ k_ ∨ P1_4_ k_ ∨ P3_ k_) ∨ w.heap.size ≤ k_) ∧ some k_ ≠ (s_.1 : Value).ownBlock ∧ some k_ ≠ (s_.2.2.1 : Value).ownBlock ∧ k_ ≠ gb212 ∧ k_ ≠ gb213 ∧ k_ ≠ gb214 ∧ k_ ≠ gb215 ∧ k_ ≠ gb216 ∧ k_ ≠ s_.2.2.2) (.slice A1_3 l1_3.length c1_3) l1_3) ∧ (Kd.V k63 63 w' w.heap.size (fun k_ => ((P1_3_ k_ ∨ P1_4_ k_ ∨ P3_ k_) ∨ w.heap.size ≤ k_) ∧ some k_ ≠ (s_.1 : Value).ownBlock ∧ some k_ ≠ (s_.2.2.1 : Value).ownBlock ∧ k_ ≠ gb212 ∧ k_ ≠ gb213 ∧ k_ ≠ gb214 ∧ k_ ≠ gb215 ∧ k_ ≠ gb216 ∧ k_ ≠ s_.2.2.2) (.slice A1_4 l1_4.length c1_4) l1_4) ∧ (Kd.V k30 30 w' w.heap.size (fun k_ => ((P1_3_ k_ ∨ P1_4_ k_ ∨ P3_ k_) ∨ w.heap.size ≤ k_) ∧ some k_ ≠ (s_.1 : Value).ownBlock ∧ some k_ ≠ (s_.2.2.1 : Value).ownBlock ∧ k_ ≠ gb212 ∧ k_ ≠ gb213 ∧ k_ ≠ gb214 ∧ k_ ≠ gb215 ∧ k_ ≠ gb216 ∧ k_ ≠ s_.2.2.2) (.slice A3 l3.length c3) l3) ∧ (w'.heap[gb212]? = some (.cells #[.int .i64 a0_0, .int .i64 a0_1, .string a0_2, .slice A0_3 l0_3.length c0_3, .slice A0_4 l0_4.length c0_4] 26 (0, 0))) ∧ (w'.heap[gb213]? = some (.cells #[.int .i64 a1_0, .int .i64 a1_1, .slice A1_2 l1_2.length c1_2, .slice A1_3 l1_3.length c1_3, .slice A1_4 l1_4.length c1_4] 33 (0, 0))) ∧ (w'.heap[gb214]? = some (.cells #[.int .i64 a2] 3 (0, 0))) ∧ (w'.heap[gb215]? = some (.cells #[.slice A4 l4.length c4] 38 (0, 0))) ∧ (w'.heap[gb216]? = some (.cells #[.int .i64 x217000_1, .int .i64 x217001_1, .slice none 0 0, .slice none 0 0, .slice none 0 0] 33 (0, 0))) ∧ (w'.heap[s_.2.2.2]? = some (.cells #[.int .i64 0, .int .i64 0, .slice none 0 0, .slice none 0 0, .slice none 0 0] 33 (0, 0))) ∧ (w.heap.size ≤ s_.2.2.2) ∧ (w.heap.size ≤ s_.2.2.2) ∧ (gb212 ≠ s_.2.2.2) ∧ (s_.2.2.2 ≠ gb212) ∧ (gb213 ≠ s_.2.2.2) ∧ (s_.2.2.2 ≠ gb213) ∧ (gb214 ≠ s_.2.2.2) ∧ (s_.2.2.2 ≠ gb214) ∧ (gb215 ≠ s_.2.2.2) ∧ (s_.2.2.2 ≠ gb215) ∧ (gb216 ≠ s_.2.2.2) ∧ (s_.2.2.2 ≠ gb216) ∧ (Below w.heap.size w w')) ?_ ?_
     rotate_left
     ·intro hCont
      refine two_ (i := 2) (j := 10) (Ni := some 112) (Nj := some 18) #[true, true, true, true, true, true, true, true, false, false, false, false] #[true, true, false, true, true, true, true, true, false, false, true, false] rfl rfl rfl rfl (two_of HT_.out (by kernel_rfl)) (by decide) (by decide) (fun K hK => ?_) (fun K hK => ?_)
      ·skip
       refine goes_ Try.func51 (by kernel_rfl) rfl #[.agg #[.int .i64 a1_0, .int .i64 a1_1, .slice A1_2 l1_2.length c1_2, .slice A1_3 l1_3.length c1_3]] (by rfl) rfl rfl (by (try simp only [List.map_toArray, List.map_cons, List.map_nil]); first | done | rfl | (simp only [List.length_drop, List.length_take]; rfl)) ?_
       with_reducible refine (drivers_copied.calls a1_0 a1_1 _ _ l1_2 (fun k_ => (((P1_3_ k_ ∨ P1_4_ k_ ∨ P3_ k_) ∨ w.heap.size ≤ k_) ∧ (k_ ≠ gb212 ∧ (k_ ≠ gb213 ∧ (k_ ≠ gb214 ∧ (k_ ≠ gb215 ∧ k_ ≠ gb216)))))) _ _ l1_3 t227 t228 t229 t232 _ ?side1 ?side2 ?side3 A84.out).mono ?_
       (case side1 => exact cu HR1_2 HB)
       (case side2 => exact HC1_2.out)
       (case side3 => exact HO_214003.out)
       rintro e w91 ⟨v230, v233, rfl, ho0, ho1, hb⟩
       refine ⟨_, rfl, ?_⟩
       have n0_ := mk0 (Kd.V_elder' (V_up HO_3.out) (Kd.R_base ho0) hb)
       have n1_ := mk0 (Kd.V_elder' (V_up HO_214003.out) (Kd.R_base ho0) hb)
       have n2_ := mk0 (Kd.V_elder' (V_up HO_214004.out) (Kd.R_base ho0) hb)
       have n3_ := mk0 (Kd.V_elder' (V_up HO239.out) (Kd.R_base ho0) hb)
       have n4_ := mk0 (Kd.R_lower (Kd.R_newM (M := fun k_ => (w.heap.size ≤ k_)) (Kd.R_mono (ok' := fun k_ => True) ho0 (fun _ hk_ => trivial)) (below_size (be5 HB GE212 GE213 GE214 GE215 GE216)) (fun k_ h_ => h_)) (below_size (be5 HB GE212 GE213 GE214 GE215 GE216)))
       have n5_ := mk0 (Kd.V_lower (Kd.V_mono (ok' := fun k_ => ((P1_3_ k_ ∨ P1_4_ k_ ∨ P3_ k_) ∨ w.heap.size ≤ k_) ∧ some k_ ≠ (v230 : Value).ownBlock ∧ k_ ≠ gb212 ∧ k_ ≠ gb213 ∧ k_ ≠ gb214 ∧ k_ ≠ gb215 ∧ k_ ≠ gb216) ho1 (fun k_ hk_ => ⟨Or.elim hk_.1 (fun hs_ => hs_.1) (fun hn_ => (.inr (Nat.le_trans (below_size (be5 HB GE212 GE213 GE214 GE215 GE216)) hn_))), hk_.2, Or.elim hk_.1 (fun hs_ => hs_.2.1) (fun hn_ => (Kd.freshB (g := gb212) (o := .cells #[.int .i64 a0_0, .int .i64 a0_1, .string a0_2, .slice A0_3 l0_3.length c0_3, .slice A0_4 l0_4.length c0_4] 26 (0, 0)) (blk_up BK212.out) k_ hn_)), Or.elim hk_.1 (fun hs_ => hs_.2.2.1) (fun hn_ => (Kd.freshB (g := gb213) (o := .cells #[.int .i64 a1_0, .int .i64 a1_1, .slice A1_2 l1_2.length c1_2, .slice A1_3 l1_3.length c1_3, .slice A1_4 l1_4.length c1_4] 33 (0, 0)) (blk_up BK213.out) k_ hn_)), Or.elim hk_.1 (fun hs_ => hs_.2.2.2.1) (fun hn_ => (Kd.freshB (g := gb214) (o := .cells #[.int .i64 a2] 3 (0, 0)) (blk_up BK214.out) k_ hn_)), Or.elim hk_.1 (fun hs_ => hs_.2.2.2.2.1) (fun hn_ => (Kd.freshB (g := gb215) (o := .cells #[.slice A4 l4.length c4] 38 (0, 0)) (blk_up BK215.out) k_ hn_)), Or.elim hk_.1 (fun hs_ => hs_.2.2.2.2.2) (fun hn_ => (Kd.freshB (g := gb216) (o := .cells #[.int .i64 x217000_1, .int .i64 x217001_1, .slice none 0 0, .slice none 0 0, .slice none 0 0] 33 (0, 0)) (blk_up BK216.out) k_ hn_))⟩)) (below_size (be5 HB GE212 GE213 GE214 GE215 GE216)))
       have n6_ := kb BK212 hb
       have n7_ := kb BK213 hb
       have n8_ := kb BK214 hb
       have n9_ := kb BK215 hb
       have n10_ := kb BK216 hb
       have n11_ := kh5 HB GE212 GE213 GE214 GE215 GE216 hb
       clear HO_3; clear HO_214003; clear HO_214004; clear HO239; clear BK212; clear BK213; clear BK214; clear BK215; clear BK216; clear HB; have HO_3 := n0_; have HO_214003 := n1_; have HO_214004 := n2_; have HO239 := n3_; have HO231 := n4_; have HO234 := n5_; have BK212 := n6_; have BK213 := n7_; have BK214 := n8_; have BK215 := n9_; have BK216 := n10_; have HB := n11_; clear n0_ n1_ n2_ n3_ n4_ n5_ n6_ n7_ n8_ n9_ n10_ n11_
       try clear hb
       try clear hk
       try clear hi
       try clear ho0
       try clear ho1
       refine hK.out _ _ ⟨bc BK213 0, bc BK213 1, bc BK213 2, bc BK213 3, bc BK213 4⟩ (fun hHeld => ?_)
       clear hK K
       refine norm_ (a' := ?_) ?_ ?_
       rotate_left
       ·show Act.put _ (some 112) _ = _
        simp only [ps]
        rfl
       refine two_ (i := 8) (j := 10) (Ni := some 118) (Nj := some 18) #[true, true, true, true, true, true, true, true, true, false, false, false] #[true, true, true, true, true, true, true, true, false, false, true, false] rfl rfl rfl rfl (two_of HT_.out (by kernel_rfl)) (by decide) (by decide) (fun K hK => ?_) (fun K hK => ?_)
       ·skip
        refine goes_ Try.func52 (by kernel_rfl) rfl #[.slice A90 y235.length c90] (by rfl) rfl rfl (by (try simp only [List.map_toArray, List.map_cons, List.map_nil]); first | done | rfl | (simp only [List.length_drop, List.length_take]; rfl)) ?_
        with_reducible refine (drivers_all.calls kj57 (fun k_ => ((((P1_3_ k_ ∨ P1_4_ k_ ∨ P3_ k_) ∨ w.heap.size ≤ k_) ∧ (k_ ≠ gb212 ∧ (k_ ≠ gb213 ∧ (k_ ≠ gb214 ∧ (k_ ≠ gb215 ∧ k_ ≠ gb216))))) ∧ some k_ ≠ (v230 : Value).ownBlock)) _ _ y235 t240 _ ?side1 A88.out).mono ?_
        (case side1 => exact HO239.out)
        rintro e w92 ⟨v241, rfl, ho0, hb⟩
        refine ⟨_, rfl, ?_⟩
        have n0_ := mk0 (Kd.V_elder' (V_up HO_3.out) (Kd.N_base ho0) hb)
        have n1_ := mk0 (Kd.V_elder' (V_up HO_214003.out) (Kd.N_base ho0) hb)
        have n2_ := mk0 (Kd.V_elder' (V_up HO_214004.out) (Kd.N_base ho0) hb)
        have n3_ := mk0 (Kd.V_elder' (V_up HO239.out) (Kd.N_base ho0) hb)
        have n4_ := rb HO231 hb
        have n5_ := mk0 (Kd.V_elder' (V_up HO234.out) (Kd.N_base ho0) hb)
        have n6_ := mk0 (Kd.N_lower (Kd.N_mono (ok' := fun k_ => ((P1_3_ k_ ∨ P1_4_ k_ ∨ P3_ k_) ∨ w.heap.size ≤ k_) ∧ some k_ ≠ (v230 : Value).ownBlock ∧ k_ ≠ gb212 ∧ k_ ≠ gb213 ∧ k_ ≠ gb214 ∧ k_ ≠ gb215 ∧ k_ ≠ gb216) ho0 (fun k_ hk_ => ⟨Or.elim hk_ (fun hs_ => hs_.1.1) (fun hn_ => (.inr (Nat.le_trans (below_size (be5 HB GE212 GE213 GE214 GE215 GE216)) hn_))), Or.elim hk_ (fun hs_ => hs_.2) (fun hn_ => (Kd.fresh' (Kd.R_lt (R_up HO231.out)) k_ hn_)), Or.elim hk_ (fun hs_ => hs_.1.2.1) (fun hn_ => (Kd.freshB (g := gb212) (o := .cells #[.int .i64 a0_0, .int .i64 a0_1, .string a0_2, .slice A0_3 l0_3.length c0_3, .slice A0_4 l0_4.length c0_4] 26 (0, 0)) (blk_up BK212.out) k_ hn_)), Or.elim hk_ (fun hs_ => hs_.1.2.2.1) (fun hn_ => (Kd.freshB (g := gb213) (o := .cells #[.int .i64 a1_0, .int .i64 a1_1, .slice A1_2 l1_2.length c1_2, .slice A1_3 l1_3.length c1_3, .slice A1_4 l1_4.length c1_4] 33 (0, 0)) (blk_up BK213.out) k_ hn_)), Or.elim hk_ (fun hs_ => hs_.1.2.2.2.1) (fun hn_ => (Kd.freshB (g := gb214) (o := .cells #[.int .i64 a2] 3 (0, 0)) (blk_up BK214.out) k_ hn_)), Or.elim hk_ (fun hs_ => hs_.1.2.2.2.2.1) (fun hn_ => (Kd.freshB (g := gb215) (o := .cells #[.slice A4 l4.length c4] 38 (0, 0)) (blk_up BK215.out) k_ hn_)), Or.elim hk_ (fun hs_ => hs_.1.2.2.2.2.2) (fun hn_ => (Kd.freshB (g := gb216) (o := .cells #[.int .i64 x217000_1, .int .i64 x217001_1, .slice none 0 0, .slice none 0 0, .slice none 0 0] 33 (0, 0)) (blk_up BK216.out) k_ hn_))⟩)) (below_size (be5 HB GE212 GE213 GE214 GE215 GE216)))
        have n7_ := kb BK212 hb
        have n8_ := kb BK213 hb
        have n9_ := kb BK214 hb
        have n10_ := kb BK215 hb
        have n11_ := kb BK216 hb
        have n12_ := kh5 HB GE212 GE213 GE214 GE215 GE216 hb
        clear HO_3; clear HO_214003; clear HO_214004; clear HO239; clear HO231; clear HO234; clear BK212; clear BK213; clear BK214; clear BK215; clear BK216; clear HB; have HO_3 := n0_; have HO_214003 := n1_; have HO_214004 := n2_; have HO239 := n3_; have HO231 := n4_; have HO234 := n5_; have HO242 := n6_; have BK212 := n7_; have BK213 := n8_; have BK214 := n9_; have BK215 := n10_; have BK216 := n11_; have HB := n12_; clear n0_ n1_ n2_ n3_ n4_ n5_ n6_ n7_ n8_ n9_ n10_ n11_ n12_
        try clear hb
        try clear hk
        try clear hi
        try clear ho0
        obtain ⟨Ao93, co93, eo93⟩ := Kd.N_slice HO242.out
        (first | subst eo93 | (injection eo93 with f1_ f2_ f3_; have f4_ := f1_.symm; have f5_ := f3_.symm; clear f1_ f2_ f3_; subst f4_; subst f5_))
        obtain ⟨Ao94, co94, eo94⟩ := Kd.V_slice HO234.out
        (first | subst eo94 | (injection eo94 with f1_ f2_ f3_; have f4_ := f1_.symm; have f5_ := f3_.symm; clear f1_ f2_ f3_; subst f4_; subst f5_))
        obtain ⟨Ao95, co95, eo95⟩ := Kd.R_slice HO231.out
        (first | subst eo95 | (injection eo95 with f1_ f2_ f3_; have f4_ := f1_.symm; have f5_ := f3_.symm; clear f1_ f2_ f3_; subst f4_; subst f5_))
        refine hK.out _ _ ⟨bc BK213 0, bc BK213 1, bc BK213 2, bc BK213 3, bc BK213 4⟩ (fun hHeld => ?_)
        clear hK K
        refine norm_ (a' := ?_) ?_ ?_
        rotate_left
        ·show Act.put _ (some 118) _ = _
         simp only [ps]
         rfl
        refine pu_ (v := ?_) (a' := ?_) 9 119 #[true, true, true, true, true, true, true, true, true, true, false, false] HT_ ?_ ?_ ?_
        rotate_left
        ·intro w'
         go_simp
         with_reducible rfl
        rotate_left
        ·simp only [ps]
         rfl
        refine one_ (i := 10) (N := some 18) (tf 11 1) rfl rfl (one_of HT_.out (by kernel_rfl)) (by decide) (fun K hK => ?_)
        refine box_step ?hg (N := 18) ?hd (cs := #[.int .i64 0, .int .i64 0, .slice none 0 0, .slice none 0 0, .slice none 0 0]) (t := 33) ?hr ?_; (case hd => rfl); (case hg => rfl); (case hr => first | (go_simp; done) | (go_simp; rfl))
        intro gb243 hg w96 hbox hb
        have n0_ := vB HO_3 hg hb
        have n1_ := vB HO_214003 hg hb
        have n2_ := vB HO_214004 hg hb
        have n3_ := vB HO239 hg hb
        have n4_ := rb HO231 hb
        have n5_ := vB HO234 hg hb
        have n6_ := nB HO242 hg hb
        have n7_ := kb BK212 hb
        have n8_ := kb BK213 hb
        have n9_ := kb BK214 hb
        have n10_ := kb BK215 hb
        have n11_ := kb BK216 hb
        have n12_ := kh5 HB GE212 GE213 GE214 GE215 GE216 hb
        have n13_ := mk0 (hbox)
        have n14_ := bs (be5 HB GE212 GE213 GE214 GE215 GE216) hg
        have n15_ := bs (be5 HB GE212 GE213 GE214 GE215 GE216) hg
        have n16_ := nb1 (bu BK212) hg
        have n17_ := nb2 (bu BK212) hg
        have n18_ := nb1 (bu BK213) hg
        have n19_ := nb2 (bu BK213) hg
        have n20_ := nb1 (bu BK214) hg
        have n21_ := nb2 (bu BK214) hg
        have n22_ := nb1 (bu BK215) hg
        have n23_ := nb2 (bu BK215) hg
        have n24_ := nb1 (bu BK216) hg
        have n25_ := nb2 (bu BK216) hg
        clear HO_3; clear HO_214003; clear HO_214004; clear HO239; clear HO231; clear HO234; clear HO242; clear BK212; clear BK213; clear BK214; clear BK215; clear BK216; clear HB; have HO_3 := n0_; have HO_214003 := n1_; have HO_214004 := n2_; have HO239 := n3_; have HO231 := n4_; have HO234 := n5_; have HO242 := n6_; have BK212 := n7_; have BK213 := n8_; have BK214 := n9_; have BK215 := n10_; have BK216 := n11_; have HB := n12_; have BK243 := n13_; have GW243 := n14_; have GE243 := n15_; have NB212_243 := n16_; have NB243_212 := n17_; have NB213_243 := n18_; have NB243_213 := n19_; have NB214_243 := n20_; have NB243_214 := n21_; have NB215_243 := n22_; have NB243_215 := n23_; have NB216_243 := n24_; have NB243_216 := n25_; clear n0_ n1_ n2_ n3_ n4_ n5_ n6_ n7_ n8_ n9_ n10_ n11_ n12_ n13_ n14_ n15_ n16_ n17_ n18_ n19_ n20_ n21_ n22_ n23_ n24_ n25_; clear hb hbox hg
        refine hK.out _ _ ⟨bc BK213 0, bc BK213 1, bc BK213 2, bc BK213 3, bc BK213 4⟩ (fun hHeld => ?_)
        clear hK K
        refine norm_ (a' := ?_) ?_ ?_
        rotate_left
        ·show Act.put _ (some 18) _ = _
         simp only [ps]
         rfl
        exact norm_ (by simp only [putAll, Act.put, List.setIfInBounds_toArray, List.set_cons_zero, List.set_cons_succ]) (hCont (.slice Ao95 t229.length co95, .slice Ao94 t232.length co94, .slice Ao93 t240.length co93, gb243) _ ⟨hHeld, (by exact R_pl (Kd.R_mono HO231.out (fun _ hk => hk.1))), (by exact V_pl (Kd.V_mono HO234.out (fun _ hk => ⟨hk.1.1.1, ⟨hk.1.1.2.1, ⟨hk.1.2, ⟨hk.1.1.2.2.1, ⟨hk.1.1.2.2.2.1, ⟨hk.1.1.2.2.2.2.1, ⟨hk.1.1.2.2.2.2.2.1, ⟨hk.1.1.2.2.2.2.2.2, hk.2⟩⟩⟩⟩⟩⟩⟩⟩))), (by exact V_pl (Kd.V_mono HO239.out (fun _ hk => ⟨hk.1.1.1.1, ⟨hk.1.1.2, ⟨hk.1.2, ⟨hk.1.1.1.2.1, ⟨hk.1.1.1.2.2.1, ⟨hk.1.1.1.2.2.2.1, ⟨hk.1.1.1.2.2.2.2.1, ⟨hk.1.1.1.2.2.2.2.2, hk.2⟩⟩⟩⟩⟩⟩⟩⟩))), (by exact N_pl (Kd.N_mono HO242.out (fun _ hk => ⟨hk.1.1, ⟨hk.1.2.1, ⟨hk.1.2.2.1, ⟨hk.1.2.2.2.1, ⟨hk.1.2.2.2.2.1, ⟨hk.1.2.2.2.2.2.1, ⟨hk.1.2.2.2.2.2.2, hk.2⟩⟩⟩⟩⟩⟩⟩))), (by exact V_pl (Kd.V_mono HO_214003.out (fun _ hk => ⟨hk.1.1.1.1, ⟨hk.1.1.2, ⟨hk.1.2, ⟨hk.1.1.1.2.1, ⟨hk.1.1.1.2.2.1, ⟨hk.1.1.1.2.2.2.1, ⟨hk.1.1.1.2.2.2.2.1, ⟨hk.1.1.1.2.2.2.2.2, hk.2⟩⟩⟩⟩⟩⟩⟩⟩))), (by exact V_pl (Kd.V_mono HO_214004.out (fun _ hk => ⟨hk.1.1.1.1, ⟨hk.1.1.2, ⟨hk.1.2, ⟨hk.1.1.1.2.1, ⟨hk.1.1.1.2.2.1, ⟨hk.1.1.1.2.2.2.1, ⟨hk.1.1.1.2.2.2.2.1, ⟨hk.1.1.1.2.2.2.2.2, hk.2⟩⟩⟩⟩⟩⟩⟩⟩))), (by exact V_pl (Kd.V_mono HO_3.out (fun _ hk => ⟨hk.1.1.1.1, ⟨hk.1.1.2, ⟨hk.1.2, ⟨hk.1.1.1.2.1, ⟨hk.1.1.1.2.2.1, ⟨hk.1.1.1.2.2.2.1, ⟨hk.1.1.1.2.2.2.2.1, ⟨hk.1.1.1.2.2.2.2.2, hk.2⟩⟩⟩⟩⟩⟩⟩⟩))), (blk_up BK212.out), (blk_up BK213.out), (blk_up BK214.out), (blk_up BK215.out), (blk_up BK216.out), (blk_up BK243.out), GW243.out, GE243.out, NB212_243.out, NB243_212.out, NB213_243.out, NB243_213.out, NB214_243.out, NB243_214.out, NB215_243.out, NB243_215.out, NB216_243.out, NB243_216.out, (be6 HB GE212 GE213 GE214 GE215 GE216 GE243)⟩)
       ·skip
        refine box_step ?hg (N := 18) ?hd (cs := #[.int .i64 0, .int .i64 0, .slice none 0 0, .slice none 0 0, .slice none 0 0]) (t := 33) ?hr ?_; (case hd => rfl); (case hg => rfl); (case hr => first | (go_simp; done) | (go_simp; rfl))
        intro gb243 hg w92 hbox hb
        have n0_ := vB HO_3 hg hb
        have n1_ := vB HO_214003 hg hb
        have n2_ := vB HO_214004 hg hb
        have n3_ := vB HO239 hg hb
        have n4_ := rb HO231 hb
        have n5_ := vB HO234 hg hb
        have n6_ := kb BK212 hb
        have n7_ := kb BK213 hb
        have n8_ := kb BK214 hb
        have n9_ := kb BK215 hb
        have n10_ := kb BK216 hb
        have n11_ := kh5 HB GE212 GE213 GE214 GE215 GE216 hb
        have n12_ := mk0 (hbox)
        have n13_ := bs (be5 HB GE212 GE213 GE214 GE215 GE216) hg
        have n14_ := bs (be5 HB GE212 GE213 GE214 GE215 GE216) hg
        have n15_ := nb1 (bu BK212) hg
        have n16_ := nb2 (bu BK212) hg
        have n17_ := nb1 (bu BK213) hg
        have n18_ := nb2 (bu BK213) hg
        have n19_ := nb1 (bu BK214) hg
        have n20_ := nb2 (bu BK214) hg
        have n21_ := nb1 (bu BK215) hg
        have n22_ := nb2 (bu BK215) hg
        have n23_ := nb1 (bu BK216) hg
        have n24_ := nb2 (bu BK216) hg
        clear HO_3; clear HO_214003; clear HO_214004; clear HO239; clear HO231; clear HO234; clear BK212; clear BK213; clear BK214; clear BK215; clear BK216; clear HB; have HO_3 := n0_; have HO_214003 := n1_; have HO_214004 := n2_; have HO239 := n3_; have HO231 := n4_; have HO234 := n5_; have BK212 := n6_; have BK213 := n7_; have BK214 := n8_; have BK215 := n9_; have BK216 := n10_; have HB := n11_; have BK243 := n12_; have GW243 := n13_; have GE243 := n14_; have NB212_243 := n15_; have NB243_212 := n16_; have NB213_243 := n17_; have NB243_213 := n18_; have NB214_243 := n19_; have NB243_214 := n20_; have NB215_243 := n21_; have NB243_215 := n22_; have NB216_243 := n23_; have NB243_216 := n24_; clear n0_ n1_ n2_ n3_ n4_ n5_ n6_ n7_ n8_ n9_ n10_ n11_ n12_ n13_ n14_ n15_ n16_ n17_ n18_ n19_ n20_ n21_ n22_ n23_ n24_; clear hb hbox hg
        refine hK.out _ _ ⟨bc BK213 0, bc BK213 1, bc BK213 2, bc BK213 3, bc BK213 4⟩ (fun hHeld => ?_)
        clear hK K
        refine norm_ (a' := ?_) ?_ ?_
        rotate_left
        ·show Act.put _ (some 18) _ = _
         simp only [ps]
         rfl
        refine one_ (i := 8) (N := some 118) #[true, true, true, true, true, true, true, true, true, false, true, false] rfl rfl (one_of HT_.out (by kernel_rfl)) (by decide) (fun K hK => ?_)
        refine goes_ Try.func52 (by kernel_rfl) rfl #[.slice A90 y235.length c90] (by rfl) rfl rfl (by (try simp only [List.map_toArray, List.map_cons, List.map_nil]); first | done | rfl | (simp only [List.length_drop, List.length_take]; rfl)) ?_
        with_reducible refine (drivers_all.calls kj57 (fun k_ => (((((P1_3_ k_ ∨ P1_4_ k_ ∨ P3_ k_) ∨ w.heap.size ≤ k_) ∧ (k_ ≠ gb212 ∧ (k_ ≠ gb213 ∧ (k_ ≠ gb214 ∧ (k_ ≠ gb215 ∧ k_ ≠ gb216))))) ∧ some k_ ≠ (v230 : Value).ownBlock) ∧ k_ ≠ gb243)) _ _ y235 t240 _ ?side1 A88.out).mono ?_
        (case side1 => exact HO239.out)
        rintro e w93 ⟨v241, rfl, ho0, hb⟩
        refine ⟨_, rfl, ?_⟩
        have n0_ := mk0 (Kd.V_elder' (V_up HO_3.out) (Kd.N_base ho0) hb)
        have n1_ := mk0 (Kd.V_elder' (V_up HO_214003.out) (Kd.N_base ho0) hb)
        have n2_ := mk0 (Kd.V_elder' (V_up HO_214004.out) (Kd.N_base ho0) hb)
        have n3_ := mk0 (Kd.V_elder' (V_up HO239.out) (Kd.N_base ho0) hb)
        have n4_ := rb HO231 hb
        have n5_ := mk0 (Kd.V_elder' (V_up HO234.out) (Kd.N_base ho0) hb)
        have n6_ := mk0 (Kd.N_lower (Kd.N_mono (ok' := fun k_ => ((P1_3_ k_ ∨ P1_4_ k_ ∨ P3_ k_) ∨ w.heap.size ≤ k_) ∧ some k_ ≠ (v230 : Value).ownBlock ∧ k_ ≠ gb212 ∧ k_ ≠ gb213 ∧ k_ ≠ gb214 ∧ k_ ≠ gb215 ∧ k_ ≠ gb216 ∧ k_ ≠ gb243) ho0 (fun k_ hk_ => ⟨Or.elim hk_ (fun hs_ => hs_.1.1.1) (fun hn_ => (.inr (Nat.le_trans (below_size (be6 HB GE212 GE213 GE214 GE215 GE216 GE243)) hn_))), Or.elim hk_ (fun hs_ => hs_.1.2) (fun hn_ => (Kd.fresh' (Kd.R_lt (R_up HO231.out)) k_ hn_)), Or.elim hk_ (fun hs_ => hs_.1.1.2.1) (fun hn_ => (Kd.freshB (g := gb212) (o := .cells #[.int .i64 a0_0, .int .i64 a0_1, .string a0_2, .slice A0_3 l0_3.length c0_3, .slice A0_4 l0_4.length c0_4] 26 (0, 0)) (blk_up BK212.out) k_ hn_)), Or.elim hk_ (fun hs_ => hs_.1.1.2.2.1) (fun hn_ => (Kd.freshB (g := gb213) (o := .cells #[.int .i64 a1_0, .int .i64 a1_1, .slice A1_2 l1_2.length c1_2, .slice A1_3 l1_3.length c1_3, .slice A1_4 l1_4.length c1_4] 33 (0, 0)) (blk_up BK213.out) k_ hn_)), Or.elim hk_ (fun hs_ => hs_.1.1.2.2.2.1) (fun hn_ => (Kd.freshB (g := gb214) (o := .cells #[.int .i64 a2] 3 (0, 0)) (blk_up BK214.out) k_ hn_)), Or.elim hk_ (fun hs_ => hs_.1.1.2.2.2.2.1) (fun hn_ => (Kd.freshB (g := gb215) (o := .cells #[.slice A4 l4.length c4] 38 (0, 0)) (blk_up BK215.out) k_ hn_)), Or.elim hk_ (fun hs_ => hs_.1.1.2.2.2.2.2) (fun hn_ => (Kd.freshB (g := gb216) (o := .cells #[.int .i64 x217000_1, .int .i64 x217001_1, .slice none 0 0, .slice none 0 0, .slice none 0 0] 33 (0, 0)) (blk_up BK216.out) k_ hn_)), Or.elim hk_ (fun hs_ => hs_.2) (fun hn_ => (Kd.freshB (g := gb243) (o := .cells #[.int .i64 0, .int .i64 0, .slice none 0 0, .slice none 0 0, .slice none 0 0] 33 (0, 0)) (blk_up BK243.out) k_ hn_))⟩)) (below_size (be6 HB GE212 GE213 GE214 GE215 GE216 GE243)))
        have n7_ := kb BK212 hb
        have n8_ := kb BK213 hb
        have n9_ := kb BK214 hb
        have n10_ := kb BK215 hb
        have n11_ := kb BK216 hb
        have n12_ := kb BK243 hb
        have n13_ := kh6 HB GE212 GE213 GE214 GE215 GE216 GE243 hb
        clear HO_3; clear HO_214003; clear HO_214004; clear HO239; clear HO231; clear HO234; clear BK212; clear BK213; clear BK214; clear BK215; clear BK216; clear BK243; clear HB; have HO_3 := n0_; have HO_214003 := n1_; have HO_214004 := n2_; have HO239 := n3_; have HO231 := n4_; have HO234 := n5_; have HO242 := n6_; have BK212 := n7_; have BK213 := n8_; have BK214 := n9_; have BK215 := n10_; have BK216 := n11_; have BK243 := n12_; have HB := n13_; clear n0_ n1_ n2_ n3_ n4_ n5_ n6_ n7_ n8_ n9_ n10_ n11_ n12_ n13_
        try clear hb
        try clear hk
        try clear hi
        try clear ho0
        obtain ⟨Ao94, co94, eo94⟩ := Kd.N_slice HO242.out
        (first | subst eo94 | (injection eo94 with f1_ f2_ f3_; have f4_ := f1_.symm; have f5_ := f3_.symm; clear f1_ f2_ f3_; subst f4_; subst f5_))
        obtain ⟨Ao95, co95, eo95⟩ := Kd.V_slice HO234.out
        (first | subst eo95 | (injection eo95 with f1_ f2_ f3_; have f4_ := f1_.symm; have f5_ := f3_.symm; clear f1_ f2_ f3_; subst f4_; subst f5_))
        obtain ⟨Ao96, co96, eo96⟩ := Kd.R_slice HO231.out
        (first | subst eo96 | (injection eo96 with f1_ f2_ f3_; have f4_ := f1_.symm; have f5_ := f3_.symm; clear f1_ f2_ f3_; subst f4_; subst f5_))
        refine hK.out _ _ ⟨bc BK213 0, bc BK213 1, bc BK213 2, bc BK213 3, bc BK213 4⟩ (fun hHeld => ?_)
        clear hK K
        refine norm_ (a' := ?_) ?_ ?_
        rotate_left
        ·show Act.put _ (some 118) _ = _
         simp only [ps]
         rfl
        refine pu_ (v := ?_) (a' := ?_) 9 119 #[true, true, true, true, true, true, true, true, true, true, true, false] HT_ ?_ ?_ ?_
        rotate_left
        ·intro w'
         go_simp
         with_reducible rfl
        rotate_left
        ·simp only [ps]
         rfl
        exact norm_ (by simp only [putAll, Act.put, List.setIfInBounds_toArray, List.set_cons_zero, List.set_cons_succ]) (hCont (.slice Ao96 t229.length co96, .slice Ao95 t232.length co95, .slice Ao94 t240.length co94, gb243) _ ⟨hHeld, (by exact R_pl (Kd.R_mono HO231.out (fun _ hk => hk.1))), (by exact V_pl (Kd.V_mono HO234.out (fun _ hk => ⟨hk.1.1.1, ⟨hk.1.1.2.1, ⟨hk.2, ⟨hk.1.1.2.2.1, ⟨hk.1.1.2.2.2.1, ⟨hk.1.1.2.2.2.2.1, ⟨hk.1.1.2.2.2.2.2.1, ⟨hk.1.1.2.2.2.2.2.2, hk.1.2⟩⟩⟩⟩⟩⟩⟩⟩))), (by exact V_pl (Kd.V_mono HO239.out (fun _ hk => ⟨hk.1.1.1.1, ⟨hk.1.1.2, ⟨hk.2, ⟨hk.1.1.1.2.1, ⟨hk.1.1.1.2.2.1, ⟨hk.1.1.1.2.2.2.1, ⟨hk.1.1.1.2.2.2.2.1, ⟨hk.1.1.1.2.2.2.2.2, hk.1.2⟩⟩⟩⟩⟩⟩⟩⟩))), (N_up HO242.out), (by exact V_pl (Kd.V_mono HO_214003.out (fun _ hk => ⟨hk.1.1.1.1, ⟨hk.1.1.2, ⟨hk.2, ⟨hk.1.1.1.2.1, ⟨hk.1.1.1.2.2.1, ⟨hk.1.1.1.2.2.2.1, ⟨hk.1.1.1.2.2.2.2.1, ⟨hk.1.1.1.2.2.2.2.2, hk.1.2⟩⟩⟩⟩⟩⟩⟩⟩))), (by exact V_pl (Kd.V_mono HO_214004.out (fun _ hk => ⟨hk.1.1.1.1, ⟨hk.1.1.2, ⟨hk.2, ⟨hk.1.1.1.2.1, ⟨hk.1.1.1.2.2.1, ⟨hk.1.1.1.2.2.2.1, ⟨hk.1.1.1.2.2.2.2.1, ⟨hk.1.1.1.2.2.2.2.2, hk.1.2⟩⟩⟩⟩⟩⟩⟩⟩))), (by exact V_pl (Kd.V_mono HO_3.out (fun _ hk => ⟨hk.1.1.1.1, ⟨hk.1.1.2, ⟨hk.2, ⟨hk.1.1.1.2.1, ⟨hk.1.1.1.2.2.1, ⟨hk.1.1.1.2.2.2.1, ⟨hk.1.1.1.2.2.2.2.1, ⟨hk.1.1.1.2.2.2.2.2, hk.1.2⟩⟩⟩⟩⟩⟩⟩⟩))), (blk_up BK212.out), (blk_up BK213.out), (blk_up BK214.out), (blk_up BK215.out), (blk_up BK216.out), (blk_up BK243.out), GW243.out, GE243.out, NB212_243.out, NB243_212.out, NB213_243.out, NB243_213.out, NB214_243.out, NB243_214.out, NB215_243.out, NB243_215.out, NB216_243.out, NB243_216.out, (be6 HB GE212 GE213 GE214 GE215 GE216 GE243)⟩)
      ·skip
       refine box_step ?hg (N := 18) ?hd (cs := #[.int .i64 0, .int .i64 0, .slice none 0 0, .slice none 0 0, .slice none 0 0]) (t := 33) ?hr ?_; (case hd => rfl); (case hg => rfl); (case hr => first | (go_simp; done) | (go_simp; rfl))
       intro gb243 hg w91 hbox hb
       have n0_ := vB HO_3 hg hb
       have n1_ := vB HO_214003 hg hb
       have n2_ := vB HO_214004 hg hb
       have n3_ := vB HO239 hg hb
       have n4_ := kb BK212 hb
       have n5_ := kb BK213 hb
       have n6_ := kb BK214 hb
       have n7_ := kb BK215 hb
       have n8_ := kb BK216 hb
       have n9_ := kh5 HB GE212 GE213 GE214 GE215 GE216 hb
       have n10_ := mk0 (hbox)
       have n11_ := bs (be5 HB GE212 GE213 GE214 GE215 GE216) hg
       have n12_ := bs (be5 HB GE212 GE213 GE214 GE215 GE216) hg
       have n13_ := nb1 (bu BK212) hg
       have n14_ := nb2 (bu BK212) hg
       have n15_ := nb1 (bu BK213) hg
       have n16_ := nb2 (bu BK213) hg
       have n17_ := nb1 (bu BK214) hg
       have n18_ := nb2 (bu BK214) hg
       have n19_ := nb1 (bu BK215) hg
       have n20_ := nb2 (bu BK215) hg
       have n21_ := nb1 (bu BK216) hg
       have n22_ := nb2 (bu BK216) hg
       clear HO_3; clear HO_214003; clear HO_214004; clear HO239; clear BK212; clear BK213; clear BK214; clear BK215; clear BK216; clear HB; have HO_3 := n0_; have HO_214003 := n1_; have HO_214004 := n2_; have HO239 := n3_; have BK212 := n4_; have BK213 := n5_; have BK214 := n6_; have BK215 := n7_; have BK216 := n8_; have HB := n9_; have BK243 := n10_; have GW243 := n11_; have GE243 := n12_; have NB212_243 := n13_; have NB243_212 := n14_; have NB213_243 := n15_; have NB243_213 := n16_; have NB214_243 := n17_; have NB243_214 := n18_; have NB215_243 := n19_; have NB243_215 := n20_; have NB216_243 := n21_; have NB243_216 := n22_; clear n0_ n1_ n2_ n3_ n4_ n5_ n6_ n7_ n8_ n9_ n10_ n11_ n12_ n13_ n14_ n15_ n16_ n17_ n18_ n19_ n20_ n21_ n22_; clear hb hbox hg
       refine hK.out _ _ ⟨bc BK213 0, bc BK213 1, bc BK213 2, bc BK213 3, bc BK213 4⟩ (fun hHeld => ?_)
       clear hK K
       refine norm_ (a' := ?_) ?_ ?_
       rotate_left
       ·show Act.put _ (some 18) _ = _
        simp only [ps]
        rfl
       refine one_ (i := 2) (N := some 112) #[true, true, true, true, true, true, true, true, false, false, true, false] rfl rfl (one_of HT_.out (by kernel_rfl)) (by decide) (fun K hK => ?_)
       refine goes_ Try.func51 (by kernel_rfl) rfl #[.agg #[.int .i64 a1_0, .int .i64 a1_1, .slice A1_2 l1_2.length c1_2, .slice A1_3 l1_3.length c1_3]] (by rfl) rfl rfl (by (try simp only [List.map_toArray, List.map_cons, List.map_nil]); first | done | rfl | (simp only [List.length_drop, List.length_take]; rfl)) ?_
       with_reducible refine (drivers_copied.calls a1_0 a1_1 _ _ l1_2 (fun k_ => ((((P1_3_ k_ ∨ P1_4_ k_ ∨ P3_ k_) ∨ w.heap.size ≤ k_) ∧ (k_ ≠ gb212 ∧ (k_ ≠ gb213 ∧ (k_ ≠ gb214 ∧ (k_ ≠ gb215 ∧ k_ ≠ gb216))))) ∧ k_ ≠ gb243)) _ _ l1_3 t227 t228 t229 t232 _ ?side1 ?side2 ?side3 A84.out).mono ?_
       (case side1 => exact cu HR1_2 HB)
       (case side2 => exact HC1_2.out)
       (case side3 => exact HO_214003.out)
       rintro e w92 ⟨v230, v233, rfl, ho0, ho1, hb⟩
       refine ⟨_, rfl, ?_⟩
       have n0_ := mk0 (Kd.V_elder' (V_up HO_3.out) (Kd.R_base ho0) hb)
       have n1_ := mk0 (Kd.V_elder' (V_up HO_214003.out) (Kd.R_base ho0) hb)
       have n2_ := mk0 (Kd.V_elder' (V_up HO_214004.out) (Kd.R_base ho0) hb)
       have n3_ := mk0 (Kd.V_elder' (V_up HO239.out) (Kd.R_base ho0) hb)
       have n4_ := mk0 (Kd.R_lower (Kd.R_newM (M := fun k_ => (w.heap.size ≤ k_)) (Kd.R_mono (ok' := fun k_ => True) ho0 (fun _ hk_ => trivial)) (below_size (be6 HB GE212 GE213 GE214 GE215 GE216 GE243)) (fun k_ h_ => h_)) (below_size (be6 HB GE212 GE213 GE214 GE215 GE216 GE243)))
       have n5_ := mk0 (Kd.V_lower (Kd.V_mono (ok' := fun k_ => ((P1_3_ k_ ∨ P1_4_ k_ ∨ P3_ k_) ∨ w.heap.size ≤ k_) ∧ some k_ ≠ (v230 : Value).ownBlock ∧ k_ ≠ gb212 ∧ k_ ≠ gb213 ∧ k_ ≠ gb214 ∧ k_ ≠ gb215 ∧ k_ ≠ gb216 ∧ k_ ≠ gb243) ho1 (fun k_ hk_ => ⟨Or.elim hk_.1 (fun hs_ => hs_.1.1) (fun hn_ => (.inr (Nat.le_trans (below_size (be6 HB GE212 GE213 GE214 GE215 GE216 GE243)) hn_))), hk_.2, Or.elim hk_.1 (fun hs_ => hs_.1.2.1) (fun hn_ => (Kd.freshB (g := gb212) (o := .cells #[.int .i64 a0_0, .int .i64 a0_1, .string a0_2, .slice A0_3 l0_3.length c0_3, .slice A0_4 l0_4.length c0_4] 26 (0, 0)) (blk_up BK212.out) k_ hn_)), Or.elim hk_.1 (fun hs_ => hs_.1.2.2.1) (fun hn_ => (Kd.freshB (g := gb213) (o := .cells #[.int .i64 a1_0, .int .i64 a1_1, .slice A1_2 l1_2.length c1_2, .slice A1_3 l1_3.length c1_3, .slice A1_4 l1_4.length c1_4] 33 (0, 0)) (blk_up BK213.out) k_ hn_)), Or.elim hk_.1 (fun hs_ => hs_.1.2.2.2.1) (fun hn_ => (Kd.freshB (g := gb214) (o := .cells #[.int .i64 a2] 3 (0, 0)) (blk_up BK214.out) k_ hn_)), Or.elim hk_.1 (fun hs_ => hs_.1.2.2.2.2.1) (fun hn_ => (Kd.freshB (g := gb215) (o := .cells #[.slice A4 l4.length c4] 38 (0, 0)) (blk_up BK215.out) k_ hn_)), Or.elim hk_.1 (fun hs_ => hs_.1.2.2.2.2.2) (fun hn_ => (Kd.freshB (g := gb216) (o := .cells #[.int .i64 x217000_1, .int .i64 x217001_1, .slice none 0 0, .slice none 0 0, .slice none 0 0] 33 (0, 0)) (blk_up BK216.out) k_ hn_)), Or.elim hk_.1 (fun hs_ => hs_.2) (fun hn_ => (Kd.freshB (g := gb243) (o := .cells #[.int .i64 0, .int .i64 0, .slice none 0 0, .slice none 0 0, .slice none 0 0] 33 (0, 0)) (blk_up BK243.out) k_ hn_))⟩)) (below_size (be6 HB GE212 GE213 GE214 GE215 GE216 GE243)))
       have n6_ := kb BK212 hb
       have n7_ := kb BK213 hb
       have n8_ := kb BK214 hb
       have n9_ := kb BK215 hb
       have n10_ := kb BK216 hb
       have n11_ := kb BK243 hb
       have n12_ := kh6 HB GE212 GE213 GE214 GE215 GE216 GE243 hb
       clear HO_3; clear HO_214003; clear HO_214004; clear HO239; clear BK212; clear BK213; clear BK214; clear BK215; clear BK216; clear BK243; clear HB; have HO_3 := n0_; have HO_214003 := n1_; have HO_214004 := n2_; have HO239 := n3_; have HO231 := n4_; have HO234 := n5_; have BK212 := n6_; have BK213 := n7_; have BK214 := n8_; have BK215 := n9_; have BK216 := n10_; have BK243 := n11_; have HB := n12_; clear n0_ n1_ n2_ n3_ n4_ n5_ n6_ n7_ n8_ n9_ n10_ n11_ n12_
       try clear hb
       try clear hk
       try clear hi
       try clear ho0
       try clear ho1
       refine hK.out _ _ ⟨bc BK213 0, bc BK213 1, bc BK213 2, bc BK213 3, bc BK213 4⟩ (fun hHeld => ?_)
       clear hK K
       refine norm_ (a' := ?_) ?_ ?_
       rotate_left
       ·show Act.put _ (some 112) _ = _
        simp only [ps]
        rfl
       refine one_ (i := 8) (N := some 118) #[true, true, true, true, true, true, true, true, true, false, true, false] rfl rfl (one_of HT_.out (by kernel_rfl)) (by decide) (fun K hK => ?_)
       refine goes_ Try.func52 (by kernel_rfl) rfl #[.slice A90 y235.length c90] (by rfl) rfl rfl (by (try simp only [List.map_toArray, List.map_cons, List.map_nil]); first | done | rfl | (simp only [List.length_drop, List.length_take]; rfl)) ?_
       with_reducible refine (drivers_all.calls kj57 (fun k_ => (((((P1_3_ k_ ∨ P1_4_ k_ ∨ P3_ k_) ∨ w.heap.size ≤ k_) ∧ (k_ ≠ gb212 ∧ (k_ ≠ gb213 ∧ (k_ ≠ gb214 ∧ (k_ ≠ gb215 ∧ k_ ≠ gb216))))) ∧ k_ ≠ gb243) ∧ some k_ ≠ (v230 : Value).ownBlock)) _ _ y235 t240 _ ?side1 A88.out).mono ?_
       (case side1 => exact HO239.out)
       rintro e w93 ⟨v241, rfl, ho0, hb⟩
       refine ⟨_, rfl, ?_⟩
       have n0_ := mk0 (Kd.V_elder' (V_up HO_3.out) (Kd.N_base ho0) hb)
       have n1_ := mk0 (Kd.V_elder' (V_up HO_214003.out) (Kd.N_base ho0) hb)
       have n2_ := mk0 (Kd.V_elder' (V_up HO_214004.out) (Kd.N_base ho0) hb)
       have n3_ := mk0 (Kd.V_elder' (V_up HO239.out) (Kd.N_base ho0) hb)
       have n4_ := rb HO231 hb
       have n5_ := mk0 (Kd.V_elder' (V_up HO234.out) (Kd.N_base ho0) hb)
       have n6_ := mk0 (Kd.N_lower (Kd.N_mono (ok' := fun k_ => ((P1_3_ k_ ∨ P1_4_ k_ ∨ P3_ k_) ∨ w.heap.size ≤ k_) ∧ some k_ ≠ (v230 : Value).ownBlock ∧ k_ ≠ gb212 ∧ k_ ≠ gb213 ∧ k_ ≠ gb214 ∧ k_ ≠ gb215 ∧ k_ ≠ gb216 ∧ k_ ≠ gb243) ho0 (fun k_ hk_ => ⟨Or.elim hk_ (fun hs_ => hs_.1.1.1) (fun hn_ => (.inr (Nat.le_trans (below_size (be6 HB GE212 GE213 GE214 GE215 GE216 GE243)) hn_))), Or.elim hk_ (fun hs_ => hs_.2) (fun hn_ => (Kd.fresh' (Kd.R_lt (R_up HO231.out)) k_ hn_)), Or.elim hk_ (fun hs_ => hs_.1.1.2.1) (fun hn_ => (Kd.freshB (g := gb212) (o := .cells #[.int .i64 a0_0, .int .i64 a0_1, .string a0_2, .slice A0_3 l0_3.length c0_3, .slice A0_4 l0_4.length c0_4] 26 (0, 0)) (blk_up BK212.out) k_ hn_)), Or.elim hk_ (fun hs_ => hs_.1.1.2.2.1) (fun hn_ => (Kd.freshB (g := gb213) (o := .cells #[.int .i64 a1_0, .int .i64 a1_1, .slice A1_2 l1_2.length c1_2, .slice A1_3 l1_3.length c1_3, .slice A1_4 l1_4.length c1_4] 33 (0, 0)) (blk_up BK213.out) k_ hn_)), Or.elim hk_ (fun hs_ => hs_.1.1.2.2.2.1) (fun hn_ => (Kd.freshB (g := gb214) (o := .cells #[.int .i64 a2] 3 (0, 0)) (blk_up BK214.out) k_ hn_)), Or.elim hk_ (fun hs_ => hs_.1.1.2.2.2.2.1) (fun hn_ => (Kd.freshB (g := gb215) (o := .cells #[.slice A4 l4.length c4] 38 (0, 0)) (blk_up BK215.out) k_ hn_)), Or.elim hk_ (fun hs_ => hs_.1.1.2.2.2.2.2) (fun hn_ => (Kd.freshB (g := gb216) (o := .cells #[.int .i64 x217000_1, .int .i64 x217001_1, .slice none 0 0, .slice none 0 0, .slice none 0 0] 33 (0, 0)) (blk_up BK216.out) k_ hn_)), Or.elim hk_ (fun hs_ => hs_.1.2) (fun hn_ => (Kd.freshB (g := gb243) (o := .cells #[.int .i64 0, .int .i64 0, .slice none 0 0, .slice none 0 0, .slice none 0 0] 33 (0, 0)) (blk_up BK243.out) k_ hn_))⟩)) (below_size (be6 HB GE212 GE213 GE214 GE215 GE216 GE243)))
       have n7_ := kb BK212 hb
       have n8_ := kb BK213 hb
       have n9_ := kb BK214 hb
       have n10_ := kb BK215 hb
       have n11_ := kb BK216 hb
       have n12_ := kb BK243 hb
       have n13_ := kh6 HB GE212 GE213 GE214 GE215 GE216 GE243 hb
       clear HO_3; clear HO_214003; clear HO_214004; clear HO239; clear HO231; clear HO234; clear BK212; clear BK213; clear BK214; clear BK215; clear BK216; clear BK243; clear HB; have HO_3 := n0_; have HO_214003 := n1_; have HO_214004 := n2_; have HO239 := n3_; have HO231 := n4_; have HO234 := n5_; have HO242 := n6_; have BK212 := n7_; have BK213 := n8_; have BK214 := n9_; have BK215 := n10_; have BK216 := n11_; have BK243 := n12_; have HB := n13_; clear n0_ n1_ n2_ n3_ n4_ n5_ n6_ n7_ n8_ n9_ n10_ n11_ n12_ n13_
       try clear hb
       try clear hk
       try clear hi
       try clear ho0
       obtain ⟨Ao94, co94, eo94⟩ := Kd.N_slice HO242.out
       (first | subst eo94 | (injection eo94 with f1_ f2_ f3_; have f4_ := f1_.symm; have f5_ := f3_.symm; clear f1_ f2_ f3_; subst f4_; subst f5_))
       obtain ⟨Ao95, co95, eo95⟩ := Kd.V_slice HO234.out
       (first | subst eo95 | (injection eo95 with f1_ f2_ f3_; have f4_ := f1_.symm; have f5_ := f3_.symm; clear f1_ f2_ f3_; subst f4_; subst f5_))
       obtain ⟨Ao96, co96, eo96⟩ := Kd.R_slice HO231.out
       (first | subst eo96 | (injection eo96 with f1_ f2_ f3_; have f4_ := f1_.symm; have f5_ := f3_.symm; clear f1_ f2_ f3_; subst f4_; subst f5_))
       refine hK.out _ _ ⟨bc BK213 0, bc BK213 1, bc BK213 2, bc BK213 3, bc BK213 4⟩ (fun hHeld => ?_)
       clear hK K
       refine norm_ (a' := ?_) ?_ ?_
       rotate_left
       ·show Act.put _ (some 118) _ = _
        simp only [ps]
        rfl
       refine pu_ (v := ?_) (a' := ?_) 9 119 #[true, true, true, true, true, true, true, true, true, true, true, false] HT_ ?_ ?_ ?_
       rotate_left
       ·intro w'
        go_simp
        with_reducible rfl
       rotate_left
       ·simp only [ps]
        rfl
       exact norm_ (by simp only [putAll, Act.put, List.setIfInBounds_toArray, List.set_cons_zero, List.set_cons_succ]) (hCont (.slice Ao96 t229.length co96, .slice Ao95 t232.length co95, .slice Ao94 t240.length co94, gb243) _ ⟨hHeld, (by exact R_pl (Kd.R_mono HO231.out (fun _ hk => hk.1))), (by exact V_pl (Kd.V_mono HO234.out (fun _ hk => ⟨hk.1.1, ⟨hk.1.2.1, ⟨hk.2, ⟨hk.1.2.2.1, ⟨hk.1.2.2.2.1, ⟨hk.1.2.2.2.2.1, ⟨hk.1.2.2.2.2.2.1, ⟨hk.1.2.2.2.2.2.2.1, hk.1.2.2.2.2.2.2.2⟩⟩⟩⟩⟩⟩⟩⟩))), (by exact V_pl (Kd.V_mono HO239.out (fun _ hk => ⟨hk.1.1.1.1, ⟨hk.1.2, ⟨hk.2, ⟨hk.1.1.1.2.1, ⟨hk.1.1.1.2.2.1, ⟨hk.1.1.1.2.2.2.1, ⟨hk.1.1.1.2.2.2.2.1, ⟨hk.1.1.1.2.2.2.2.2, hk.1.1.2⟩⟩⟩⟩⟩⟩⟩⟩))), (N_up HO242.out), (by exact V_pl (Kd.V_mono HO_214003.out (fun _ hk => ⟨hk.1.1.1.1, ⟨hk.1.2, ⟨hk.2, ⟨hk.1.1.1.2.1, ⟨hk.1.1.1.2.2.1, ⟨hk.1.1.1.2.2.2.1, ⟨hk.1.1.1.2.2.2.2.1, ⟨hk.1.1.1.2.2.2.2.2, hk.1.1.2⟩⟩⟩⟩⟩⟩⟩⟩))), (by exact V_pl (Kd.V_mono HO_214004.out (fun _ hk => ⟨hk.1.1.1.1, ⟨hk.1.2, ⟨hk.2, ⟨hk.1.1.1.2.1, ⟨hk.1.1.1.2.2.1, ⟨hk.1.1.1.2.2.2.1, ⟨hk.1.1.1.2.2.2.2.1, ⟨hk.1.1.1.2.2.2.2.2, hk.1.1.2⟩⟩⟩⟩⟩⟩⟩⟩))), (by exact V_pl (Kd.V_mono HO_3.out (fun _ hk => ⟨hk.1.1.1.1, ⟨hk.1.2, ⟨hk.2, ⟨hk.1.1.1.2.1, ⟨hk.1.1.1.2.2.1, ⟨hk.1.1.1.2.2.2.1, ⟨hk.1.1.1.2.2.2.2.1, ⟨hk.1.1.1.2.2.2.2.2, hk.1.1.2⟩⟩⟩⟩⟩⟩⟩⟩))), (blk_up BK212.out), (blk_up BK213.out), (blk_up BK214.out), (blk_up BK215.out), (blk_up BK216.out), (blk_up BK243.out), GW243.out, GE243.out, NB212_243.out, NB243_212.out, NB213_243.out, NB243_213.out, NB214_243.out, NB243_214.out, NB215_243.out, NB243_215.out, NB216_243.out, NB243_216.out, (be6 HB GE212 GE213 GE214 GE215 GE216 GE243)⟩)
     rintro ⟨v230, v233, v241, gb243⟩ w97 ⟨hS_, h0_, h1_, h2_, h3_, h4_, h5_, h6_, h7_, h8_, h9_, h10_, h11_, h12_, h13_, h14_, h15_, h16_, h17_, h18_, h19_, h20_, h21_, h22_, h23_, h24_, h25_⟩
     have n0_ : Aside0 (Kd.R (Kd.int .u8) 73 w97 w.heap.size (fun k_ => (w.heap.size ≤ k_)) v230 t229) := ⟨h0_⟩
     have n1_ : Aside0 (Kd.V k30 30 w97 w.heap.size (fun k_ => ((P1_3_ k_ ∨ P1_4_ k_ ∨ P3_ k_) ∨ w.heap.size ≤ k_) ∧ some k_ ≠ (v230 : Value).ownBlock ∧ some k_ ≠ (v241 : Value).ownBlock ∧ k_ ≠ gb212 ∧ k_ ≠ gb213 ∧ k_ ≠ gb214 ∧ k_ ≠ gb215 ∧ k_ ≠ gb216 ∧ k_ ≠ gb243) v233 t232) := ⟨h1_⟩
     have n2_ : Aside0 (Kd.V k63 63 w97 w.heap.size (fun k_ => ((P1_3_ k_ ∨ P1_4_ k_ ∨ P3_ k_) ∨ w.heap.size ≤ k_) ∧ some k_ ≠ (v230 : Value).ownBlock ∧ some k_ ≠ (v241 : Value).ownBlock ∧ k_ ≠ gb212 ∧ k_ ≠ gb213 ∧ k_ ≠ gb214 ∧ k_ ≠ gb215 ∧ k_ ≠ gb216 ∧ k_ ≠ gb243) (.slice A90 y235.length c90) y235) := ⟨h2_⟩
     have n3_ : Aside0 (Kd.N k63 63 w97 w.heap.size (fun k_ => ((P1_3_ k_ ∨ P1_4_ k_ ∨ P3_ k_) ∨ w.heap.size ≤ k_) ∧ some k_ ≠ (v230 : Value).ownBlock ∧ k_ ≠ gb212 ∧ k_ ≠ gb213 ∧ k_ ≠ gb214 ∧ k_ ≠ gb215 ∧ k_ ≠ gb216 ∧ k_ ≠ gb243) v241 t240) := ⟨h3_⟩
     have n4_ : Aside0 (Kd.V k30 30 w97 w.heap.size (fun k_ => ((P1_3_ k_ ∨ P1_4_ k_ ∨ P3_ k_) ∨ w.heap.size ≤ k_) ∧ some k_ ≠ (v230 : Value).ownBlock ∧ some k_ ≠ (v241 : Value).ownBlock ∧ k_ ≠ gb212 ∧ k_ ≠ gb213 ∧ k_ ≠ gb214 ∧ k_ ≠ gb215 ∧ k_ ≠ gb216 ∧ k_ ≠ gb243) (.slice A1_3 l1_3.length c1_3) l1_3) := ⟨h4_⟩
     have n5_ : Aside0 (Kd.V k63 63 w97 w.heap.size (fun k_ => ((P1_3_ k_ ∨ P1_4_ k_ ∨ P3_ k_) ∨ w.heap.size ≤ k_) ∧ some k_ ≠ (v230 : Value).ownBlock ∧ some k_ ≠ (v241 : Value).ownBlock ∧ k_ ≠ gb212 ∧ k_ ≠ gb213 ∧ k_ ≠ gb214 ∧ k_ ≠ gb215 ∧ k_ ≠ gb216 ∧ k_ ≠ gb243) (.slice A1_4 l1_4.length c1_4) l1_4) := ⟨h5_⟩
     have n6_ : Aside0 (Kd.V k30 30 w97 w.heap.size (fun k_ => ((P1_3_ k_ ∨ P1_4_ k_ ∨ P3_ k_) ∨ w.heap.size ≤ k_) ∧ some k_ ≠ (v230 : Value).ownBlock ∧ some k_ ≠ (v241 : Value).ownBlock ∧ k_ ≠ gb212 ∧ k_ ≠ gb213 ∧ k_ ≠ gb214 ∧ k_ ≠ gb215 ∧ k_ ≠ gb216 ∧ k_ ≠ gb243) (.slice A3 l3.length c3) l3) := ⟨h6_⟩
     have n7_ : Aside0 (w97.heap[gb212]? = some (.cells #[.int .i64 a0_0, .int .i64 a0_1, .string a0_2, .slice A0_3 l0_3.length c0_3, .slice A0_4 l0_4.length c0_4] 26 (0, 0))) := ⟨h7_⟩
     have n8_ : Aside0 (w97.heap[gb213]? = some (.cells #[.int .i64 a1_0, .int .i64 a1_1, .slice A1_2 l1_2.length c1_2, .slice A1_3 l1_3.length c1_3, .slice A1_4 l1_4.length c1_4] 33 (0, 0))) := ⟨h8_⟩
     have n9_ : Aside0 (w97.heap[gb214]? = some (.cells #[.int .i64 a2] 3 (0, 0))) := ⟨h9_⟩
     have n10_ : Aside0 (w97.heap[gb215]? = some (.cells #[.slice A4 l4.length c4] 38 (0, 0))) := ⟨h10_⟩
     have n11_ : Aside0 (w97.heap[gb216]? = some (.cells #[.int .i64 x217000_1, .int .i64 x217001_1, .slice none 0 0, .slice none 0 0, .slice none 0 0] 33 (0, 0))) := ⟨h11_⟩
     have n12_ : Aside0 (w97.heap[gb243]? = some (.cells #[.int .i64 0, .int .i64 0, .slice none 0 0, .slice none 0 0, .slice none 0 0] 33 (0, 0))) := ⟨h12_⟩
     have n13_ : Aside0 (w.heap.size ≤ gb243) := ⟨h13_⟩
     have n14_ : Aside0 (w.heap.size ≤ gb243) := ⟨h14_⟩
     have n15_ : Aside0 (gb212 ≠ gb243) := ⟨h15_⟩
     have n16_ : Aside0 (gb243 ≠ gb212) := ⟨h16_⟩
     have n17_ : Aside0 (gb213 ≠ gb243) := ⟨h17_⟩
     have n18_ : Aside0 (gb243 ≠ gb213) := ⟨h18_⟩
     have n19_ : Aside0 (gb214 ≠ gb243) := ⟨h19_⟩
     have n20_ : Aside0 (gb243 ≠ gb214) := ⟨h20_⟩
     have n21_ : Aside0 (gb215 ≠ gb243) := ⟨h21_⟩
     have n22_ : Aside0 (gb243 ≠ gb215) := ⟨h22_⟩
     have n23_ : Aside0 (gb216 ≠ gb243) := ⟨h23_⟩
     have n24_ : Aside0 (gb243 ≠ gb216) := ⟨h24_⟩
     have n25_ : Aside0 (Below w.heap.size w w97) := ⟨h25_⟩
     clear HO_3; clear HO_214003; clear HO_214004; clear BK212; clear BK213; clear BK214; clear BK215; clear BK216; clear HB; clear h0_ h1_ h2_ h3_ h4_ h5_ h6_ h7_ h8_ h9_ h10_ h11_ h12_ h13_ h14_ h15_ h16_ h17_ h18_ h19_ h20_ h21_ h22_ h23_ h24_ h25_; have HO231 := n0_; have HO234 := n1_; have HO239 := n2_; have HO242 := n3_; have HO_214003 := n4_; have HO_214004 := n5_; have HO_3 := n6_; have BK212 := n7_; have BK213 := n8_; have BK214 := n9_; have BK215 := n10_; have BK216 := n11_; have BK243 := n12_; have GW243 := n13_; have GE243 := n14_; have NB212_243 := n15_; have NB243_212 := n16_; have NB213_243 := n17_; have NB243_213 := n18_; have NB214_243 := n19_; have NB243_214 := n20_; have NB215_243 := n21_; have NB243_215 := n22_; have NB216_243 := n23_; have NB243_216 := n24_; have HB := n25_; clear n0_ n1_ n2_ n3_ n4_ n5_ n6_ n7_ n8_ n9_ n10_ n11_ n12_ n13_ n14_ n15_ n16_ n17_ n18_ n19_ n20_ n21_ n22_ n23_ n24_ n25_
     have hHeld : w97.cell? ⟨gb213, 0, none⟩ = some (.int .i64 a1_0) ∧ w97.cell? ⟨gb213, 1, none⟩ = some (.int .i64 a1_1) ∧ w97.cell? ⟨gb213, 2, none⟩ = some (.slice A1_2 l1_2.length c1_2) ∧ w97.cell? ⟨gb213, 3, none⟩ = some (.slice A1_3 l1_3.length c1_3) ∧ w97.cell? ⟨gb213, 4, none⟩ = some (.slice A1_4 l1_4.length c1_4) := hS_
     obtain ⟨Ao98, co98, eo98⟩ := Kd.N_slice HO242.out
     (first | subst eo98 | (injection eo98 with f1_ f2_ f3_; have f4_ := f1_.symm; have f5_ := f3_.symm; clear f1_ f2_ f3_; subst f4_; subst f5_))
     obtain ⟨Ao99, co99, eo99⟩ := Kd.V_slice HO234.out
     (first | subst eo99 | (injection eo99 with f1_ f2_ f3_; have f4_ := f1_.symm; have f5_ := f3_.symm; clear f1_ f2_ f3_; subst f4_; subst f5_))
     obtain ⟨Ao100, co100, eo100⟩ := Kd.R_slice HO231.out
     (first | subst eo100 | (injection eo100 with f1_ f2_ f3_; have f4_ := f1_.symm; have f5_ := f3_.symm; clear f1_ f2_ f3_; subst f4_; subst f5_))
     refine norm_ (a' := ?_) ?_ ?_
     rotate_left
     ·simp only [putAll, Act.put, List.setIfInBounds_toArray, List.set_cons_zero, List.set_cons_succ]
      rfl
     refine one_ (i := 11) (N := none) (tf 12 0) rfl rfl (one_of HT_.out (by kernel_rfl)) (by decide) (fun K hK => ?_)
     have hs101 : w97.cell? ⟨gb243, 0, none⟩ = some (.int .i64 0) := bc BK243 0
     have hfs101 := blk_frozen BK243.out 0
     have hns101_0 := NB212_243.out; have hns101_1 := NB213_243.out; have hns101_2 := NB214_243.out; have hns101_3 := NB215_243.out; have hns101_4 := NB216_243.out; have hms101_0 := NB243_212.out; have hms101_1 := NB243_213.out; have hms101_2 := NB243_214.out; have hms101_3 := NB243_215.out; have hms101_4 := NB243_216.out
     have hs102 : w97.cell? ⟨gb243, 1, none⟩ = some (.int .i64 0) := bc BK243 1
     have hfs102 := blk_frozen BK243.out 1
     have hns102_0 := NB212_243.out; have hns102_1 := NB213_243.out; have hns102_2 := NB214_243.out; have hns102_3 := NB215_243.out; have hns102_4 := NB216_243.out; have hms102_0 := NB243_212.out; have hms102_1 := NB243_213.out; have hms102_2 := NB243_214.out; have hms102_3 := NB243_215.out; have hms102_4 := NB243_216.out
     have hs103 : w97.cell? ⟨gb243, 2, none⟩ = some (.slice none 0 0) := bc BK243 2
     have hfs103 := blk_frozen BK243.out 2
     have hns103_0 := NB212_243.out; have hns103_1 := NB213_243.out; have hns103_2 := NB214_243.out; have hns103_3 := NB215_243.out; have hns103_4 := NB216_243.out; have hms103_0 := NB243_212.out; have hms103_1 := NB243_213.out; have hms103_2 := NB243_214.out; have hms103_3 := NB243_215.out; have hms103_4 := NB243_216.out
     have hs104 : w97.cell? ⟨gb243, 3, none⟩ = some (.slice none 0 0) := bc BK243 3
     have hfs104 := blk_frozen BK243.out 3
     have hns104_0 := NB212_243.out; have hns104_1 := NB213_243.out; have hns104_2 := NB214_243.out; have hns104_3 := NB215_243.out; have hns104_4 := NB216_243.out; have hms104_0 := NB243_212.out; have hms104_1 := NB243_213.out; have hms104_2 := NB243_214.out; have hms104_3 := NB243_215.out; have hms104_4 := NB243_216.out
     have hs105 : w97.cell? ⟨gb243, 4, none⟩ = some (.slice none 0 0) := bc BK243 4
     have hfs105 := blk_frozen BK243.out 4
     have hns105_0 := NB212_243.out; have hns105_1 := NB213_243.out; have hns105_2 := NB214_243.out; have hns105_3 := NB215_243.out; have hns105_4 := NB216_243.out; have hms105_0 := NB243_212.out; have hms105_1 := NB243_213.out; have hms105_2 := NB243_214.out; have hms105_3 := NB243_215.out; have hms105_4 := NB243_216.out
     refine skip_ (w1 := ?_) (by rfl) rfl ?_ ?_
     rotate_left
     ·go_simp
      rfl
     refine hK.out _ _ ⟨((cell_far (p := ⟨gb243, _, none⟩) NB213_243.out _).trans (((cell_far (p := ⟨gb243, _, none⟩) NB213_243.out _).trans (((cell_far (p := ⟨gb243, _, none⟩) NB213_243.out _).trans (((cell_far (p := ⟨gb243, _, none⟩) NB213_243.out _).trans (((cell_far (p := ⟨gb243, _, none⟩) NB213_243.out _).trans (hHeld.1)))))))))), ((cell_far (p := ⟨gb243, _, none⟩) NB213_243.out _).trans (((cell_far (p := ⟨gb243, _, none⟩) NB213_243.out _).trans (((cell_far (p := ⟨gb243, _, none⟩) NB213_243.out _).trans (((cell_far (p := ⟨gb243, _, none⟩) NB213_243.out _).trans (((cell_far (p := ⟨gb243, _, none⟩) NB213_243.out _).trans (hHeld.2.1)))))))))), ((cell_far (p := ⟨gb243, _, none⟩) NB213_243.out _).trans (((cell_far (p := ⟨gb243, _, none⟩) NB213_243.out _).trans (((cell_far (p := ⟨gb243, _, none⟩) NB213_243.out _).trans (((cell_far (p := ⟨gb243, _, none⟩) NB213_243.out _).trans (((cell_far (p := ⟨gb243, _, none⟩) NB213_243.out _).trans (hHeld.2.2.1)))))))))), ((cell_far (p := ⟨gb243, _, none⟩) NB213_243.out _).trans (((cell_far (p := ⟨gb243, _, none⟩) NB213_243.out _).trans (((cell_far (p := ⟨gb243, _, none⟩) NB213_243.out _).trans (((cell_far (p := ⟨gb243, _, none⟩) NB213_243.out _).trans (((cell_far (p := ⟨gb243, _, none⟩) NB213_243.out _).trans (hHeld.2.2.2.1)))))))))), ((cell_far (p := ⟨gb243, _, none⟩) NB213_243.out _).trans (((cell_far (p := ⟨gb243, _, none⟩) NB213_243.out _).trans (((cell_far (p := ⟨gb243, _, none⟩) NB213_243.out _).trans (((cell_far (p := ⟨gb243, _, none⟩) NB213_243.out _).trans (((cell_far (p := ⟨gb243, _, none⟩) NB213_243.out _).trans (hHeld.2.2.2.2))))))))))⟩ (fun hHeld => ?_)
     clear hK K
     refine done_ (done_of HT_.out (by kernel_rfl)) ?_
     try go_wp2
     go_loopg [122] kj57 (fun kq v122 w' => ∃ (x122_3 : Int) (x244004_3 : List (S63)) (u244004 : Value), v122 = .int .i64 x122_3 ∧ Aside0 (drivers_Assign.l2 kq l3 (l3.length : Int) x122_3 a2 l4 t227 t228 t229 t232 x244004_3 = some (r1, r2, r3, r4, r5, r6)) ∧ Aside0 (kq ≤ kj57) ∧ Aside0 (Kd.V k30 30 w' w.heap.size (fun k_ => ((P1_3_ k_ ∨ P1_4_ k_ ∨ P3_ k_) ∨ w.heap.size ≤ k_) ∧ some k_ ≠ ((.slice Ao100 t229.length co100) : Value).ownBlock ∧ some k_ ≠ (u244004 : Value).ownBlock ∧ k_ ≠ gb212 ∧ k_ ≠ gb213 ∧ k_ ≠ gb214 ∧ k_ ≠ gb215 ∧ k_ ≠ gb216 ∧ k_ ≠ gb243) (.slice A3 l3.length c3) l3) ∧ Aside0 (Kd.V k30 30 w' w.heap.size (fun k_ => ((P1_3_ k_ ∨ P1_4_ k_ ∨ P3_ k_) ∨ w.heap.size ≤ k_) ∧ some k_ ≠ ((.slice Ao100 t229.length co100) : Value).ownBlock ∧ some k_ ≠ (u244004 : Value).ownBlock ∧ k_ ≠ gb212 ∧ k_ ≠ gb213 ∧ k_ ≠ gb214 ∧ k_ ≠ gb215 ∧ k_ ≠ gb216 ∧ k_ ≠ gb243) (.slice A1_3 l1_3.length c1_3) l1_3) ∧ Aside0 (Kd.V k63 63 w' w.heap.size (fun k_ => ((P1_3_ k_ ∨ P1_4_ k_ ∨ P3_ k_) ∨ w.heap.size ≤ k_) ∧ some k_ ≠ ((.slice Ao100 t229.length co100) : Value).ownBlock ∧ some k_ ≠ (u244004 : Value).ownBlock ∧ k_ ≠ gb212 ∧ k_ ≠ gb213 ∧ k_ ≠ gb214 ∧ k_ ≠ gb215 ∧ k_ ≠ gb216 ∧ k_ ≠ gb243) (.slice A1_4 l1_4.length c1_4) l1_4) ∧ Aside0 (Kd.R (Kd.int .u8) 73 w' w.heap.size (fun k_ => (w.heap.size ≤ k_)) (.slice Ao100 t229.length co100) t229) ∧ Aside0 (Kd.V k30 30 w' w.heap.size (fun k_ => ((P1_3_ k_ ∨ P1_4_ k_ ∨ P3_ k_) ∨ w.heap.size ≤ k_) ∧ some k_ ≠ ((.slice Ao100 t229.length co100) : Value).ownBlock ∧ some k_ ≠ (u244004 : Value).ownBlock ∧ k_ ≠ gb212 ∧ k_ ≠ gb213 ∧ k_ ≠ gb214 ∧ k_ ≠ gb215 ∧ k_ ≠ gb216 ∧ k_ ≠ gb243) (.slice Ao99 t232.length co99) t232) ∧ Aside0 (Kd.N k63 63 w' w.heap.size (fun k_ => ((P1_3_ k_ ∨ P1_4_ k_ ∨ P3_ k_) ∨ w.heap.size ≤ k_) ∧ some k_ ≠ ((.slice Ao100 t229.length co100) : Value).ownBlock ∧ k_ ≠ gb212 ∧ k_ ≠ gb213 ∧ k_ ≠ gb214 ∧ k_ ≠ gb215 ∧ k_ ≠ gb216 ∧ k_ ≠ gb243) u244004 x244004_3) ∧ Aside0 (w'.heap[gb212]? = some (.cells #[.int .i64 a0_0, .int .i64 a0_1, .string a0_2, (.slice A0_3 l0_3.length c0_3), (.slice A0_4 l0_4.length c0_4)] 26 (0, 0))) ∧ Aside0 (w'.heap[gb213]? = some (.cells #[.int .i64 a1_0, .int .i64 a1_1, (.slice A1_2 l1_2.length c1_2), (.slice A1_3 l1_3.length c1_3), (.slice A1_4 l1_4.length c1_4)] 33 (0, 0))) ∧ Aside0 (w'.heap[gb214]? = some (.cells #[.int .i64 a2] 3 (0, 0))) ∧ Aside0 (w'.heap[gb215]? = some (.cells #[(.slice A4 l4.length c4)] 38 (0, 0))) ∧ Aside0 (w'.heap[gb216]? = some (.cells #[.int .i64 x217000_1, .int .i64 x217001_1, (.slice none 0 0), (.slice none 0 0), (.slice none 0 0)] 33 (0, 0))) ∧ Aside0 (w'.heap[gb243]? = some (.cells #[.int .i64 t227, .int .i64 t228, (.slice Ao100 t229.length co100), (.slice Ao99 t232.length co99), u244004] 33 (0, 0))) ∧ Aside0 (Below w.heap.size w w'))
     case atStart => exact ⟨(0), (t240), (.slice Ao98 t240.length co98), rfl, H', ⟨Nat.le_refl _⟩, ⟨by exact V_pl (Kd.V_mono (vI (q := gb243) (Kd.V_mono HO_3.out (fun k_ hk => (⟨hk, hk.2.2.2.2.2.2.2.2⟩ : _ ∧ k_ ≠ gb243))) (fun _ hk => hk.2)) (fun _ hk => ⟨hk.1.1, ⟨hk.1.2.1, ⟨hk.1.2.2.1, ⟨hk.1.2.2.2.1, ⟨hk.1.2.2.2.2.1, ⟨hk.1.2.2.2.2.2.1, ⟨hk.1.2.2.2.2.2.2.1, ⟨hk.1.2.2.2.2.2.2.2.1, hk.1.2.2.2.2.2.2.2.2⟩⟩⟩⟩⟩⟩⟩⟩))⟩, ⟨by exact V_pl (Kd.V_mono (vI (q := gb243) (Kd.V_mono HO_214003.out (fun k_ hk => (⟨hk, hk.2.2.2.2.2.2.2.2⟩ : _ ∧ k_ ≠ gb243))) (fun _ hk => hk.2)) (fun _ hk => ⟨hk.1.1, ⟨hk.1.2.1, ⟨hk.1.2.2.1, ⟨hk.1.2.2.2.1, ⟨hk.1.2.2.2.2.1, ⟨hk.1.2.2.2.2.2.1, ⟨hk.1.2.2.2.2.2.2.1, ⟨hk.1.2.2.2.2.2.2.2.1, hk.1.2.2.2.2.2.2.2.2⟩⟩⟩⟩⟩⟩⟩⟩))⟩, ⟨by exact V_pl (Kd.V_mono (vI (q := gb243) (Kd.V_mono HO_214004.out (fun k_ hk => (⟨hk, hk.2.2.2.2.2.2.2.2⟩ : _ ∧ k_ ≠ gb243))) (fun _ hk => hk.2)) (fun _ hk => ⟨hk.1.1, ⟨hk.1.2.1, ⟨hk.1.2.2.1, ⟨hk.1.2.2.2.1, ⟨hk.1.2.2.2.2.1, ⟨hk.1.2.2.2.2.2.1, ⟨hk.1.2.2.2.2.2.2.1, ⟨hk.1.2.2.2.2.2.2.2.1, hk.1.2.2.2.2.2.2.2.2⟩⟩⟩⟩⟩⟩⟩⟩))⟩, ⟨by exact R_pl (Kd.R_mono (rI (q := gb243) (Kd.R_types HO231.out BK243.out (by decide)) (fun _ hk => hk.2)) (fun _ hk => hk.1))⟩, ⟨by exact V_pl (Kd.V_mono (vI (q := gb243) (Kd.V_mono HO234.out (fun k_ hk => (⟨hk, hk.2.2.2.2.2.2.2.2⟩ : _ ∧ k_ ≠ gb243))) (fun _ hk => hk.2)) (fun _ hk => ⟨hk.1.1, ⟨hk.1.2.1, ⟨hk.1.2.2.1, ⟨hk.1.2.2.2.1, ⟨hk.1.2.2.2.2.1, ⟨hk.1.2.2.2.2.2.1, ⟨hk.1.2.2.2.2.2.2.1, ⟨hk.1.2.2.2.2.2.2.2.1, hk.1.2.2.2.2.2.2.2.2⟩⟩⟩⟩⟩⟩⟩⟩))⟩, ⟨by exact N_pl (Kd.N_mono (nI (q := gb243) (Kd.N_mono HO242.out (fun k_ hk => (⟨hk, hk.2.2.2.2.2.2.2⟩ : _ ∧ k_ ≠ gb243))) (fun _ hk => hk.2)) (fun _ hk => ⟨hk.1.1, ⟨hk.1.2.1, ⟨hk.1.2.2.1, ⟨hk.1.2.2.2.1, ⟨hk.1.2.2.2.2.1, ⟨hk.1.2.2.2.2.2.1, ⟨hk.1.2.2.2.2.2.2.1, hk.1.2.2.2.2.2.2.2⟩⟩⟩⟩⟩⟩⟩))⟩, ⟨bF NB212_243 BK212⟩, ⟨bF NB213_243 BK213⟩, ⟨bF NB214_243 BK214⟩, ⟨bF NB215_243 BK215⟩, ⟨bF NB216_243 BK216⟩, ⟨pB BK243⟩, ⟨be6 HB GE212 GE213 GE214 GE215 GE216 GE243⟩⟩
     case round =>
      clear H'
      try clear c1; try clear c3; try clear c4; try clear c9; try clear c90
      obtain ⟨x122_3, x244004_3, u244004, rfl, HA, HK3, HO_120, HO_214003, HO_214004, HO_244002, HO_244003, HO_244004, BK212, BK213, BK214, BK215, BK216, BK243, HB⟩ := hrel
      cases gk with
      | zero => exact absurd HA.out (by simp [drivers_Assign.l2])
      | succ k3 =>
       have H := HA.out; clear HA
       simp only [drivers_Assign.l2] at H
       replace H := iD' H; obtain ⟨-, c106b0, H⟩ | ⟨-, c106b0, H⟩ := H
       ·simp only [Option.some.injEq, Prod.mk.injEq] at H
        obtain ⟨rfl, rfl, rfl, rfl, rfl, rfl⟩ := H
        have hnb128 := NB243_212.out; have hnc128 := NB212_243.out; have hnb129 := NB243_213.out; have hnc129 := NB213_243.out; have hnb130 := NB243_214.out; have hnc130 := NB214_243.out; have hnb131 := NB243_215.out; have hnc131 := NB215_243.out; have hnb132 := NB243_216.out; have hnc132 := NB216_243.out
        have zc133 := cells5 BK243.out
        have hnb134 := NB216_212.out; have hnc134 := NB212_216.out; have hnb135 := NB216_213.out; have hnc135 := NB213_216.out; have hnb136 := NB216_214.out; have hnc136 := NB214_216.out; have hnb137 := NB216_215.out; have hnc137 := NB215_216.out
        have zc138 := cells5 BK216.out
        obtain ⟨Ao139, co139, eo139⟩ := Kd.N_slice HO_244004.out
        subst eo139
        go_wp2
        refine bodyPost_ret (results_ct rfl _ _ gb216 33 #[.int .i64 t227, .int .i64 t228, .slice Ao100 t229.length co100, .slice Ao99 t232.length co99, .slice Ao139 x244004_3.length co139] (0, 0) _ rfl (pB BK216) Try.underlying33 rfl (by kernel_rfl)) rfl ?_
        exact ⟨_, _, _, rfl, by exact R_pl (Kd.R_mono (rI (q := gb216) (Kd.R_types HO_244002.out BK216.out (by decide)) (fun _ hk => hk.2)) (fun _ hk => hk.1)), by exact V_pl (Kd.V_mono (vI (q := gb216) (Kd.V_mono HO_244003.out (fun k_ hk => (⟨hk, hk.2.2.2.2.2.2.2.1⟩ : _ ∧ k_ ≠ gb216))) (fun _ hk => hk.2)) (fun _ hk => ⟨hk.1.1, ⟨hk.1.2.1, hk.1.2.2.1⟩⟩)), by exact N_pl (Kd.N_mono (nI (q := gb216) (Kd.N_mono HO_244004.out (fun k_ hk => (⟨hk, hk.2.2.2.2.2.2.1⟩ : _ ∧ k_ ≠ gb216))) (fun _ hk => hk.2)) (fun _ hk => ⟨hk.1.1, hk.1.2.1⟩)), be6 HB GE212 GE213 GE214 GE215 GE216 GE243⟩
       replace H := iN H; obtain ⟨-, c107b0, H⟩ := H
       replace H := iN H; obtain ⟨-, c108b0, H⟩ := H
       replace H := iN H; obtain ⟨-, c109b0, H⟩ := H
       replace H := Option.bind_eq_some_iff.mp H
       obtain ⟨⟨t247, t248, t249, t252⟩, A1100, H⟩ := H
       replace H : (if x244004_3.length < 1954687338268 then (drivers_Assign.l2 k3 l3 (l3.length : Int) (wrap64 (x122_3 + 1)) a2 l4 t227 t228 t229 t232 (x244004_3 ++ [(⟨wrap64 (a2 + (rd l4 x122_3)), (⟨t247, t248, t249, t252⟩ : S30)⟩ : S63)])) else (none)) = some (r1, r2, r3, r4, r5, r6) := H
       have A110 := mk0 A1100; clear A1100
       by_cases c111 : x244004_3.length < 1954687338268
       rotate_left
       ·rw [if_neg c111] at H
        exact absurd H (by simp)
       rw [if_pos c111] at H; have LMc111 := mk0 c111; clear c111
       obtain ⟨y255, hy255⟩ : ∃ y_ : List (S63), y_ = (x244004_3 ++ [(⟨wrap64 (a2 + (rd l4 x122_3)), (⟨t247, t248, t249, t252⟩ : S30)⟩ : S63)]) := ⟨_, rfl⟩
       replace H : (drivers_Assign.l2 k3 l3 (l3.length : Int) (wrap64 (x122_3 + 1)) a2 l4 t227 t228 t229 t232 y255) = some (r1, r2, r3, r4, r5, r6) := by first | (rw [hy255]; with_reducible exact H) | (have H2_ := (Option.bind_some _ _).symm.trans H; rw [hy255]; with_reducible exact H2_) | (have H2_ := (Option.bind_some _ _).symm.trans H; with_reducible exact H2_) | with_reducible exact H | (rw [hy255]; exact H) | exact H
       have Ny255 := mk0 hy255; clear hy255
       have H' := mk0 H
       clear H
       have p244 : 0 ≤ (x122_3 : Int) := od
       have q244 : x122_3 < (l3.length : Int) := od
       obtain ⟨ad244, A244_2, c244_2, A244_3, c244_3, e244, hx244_0, hx244_1, hx244_2, hx244_3, hl244_2, hi244_2, hl244_3, hi244_3⟩ := at_T30 (Kd.V_reads' HO_120.out).2.2 x122_3 p244 q244
       cases e244
       obtain ⟨ce244, hce244, hMe244, hcc244⟩ := Kd.V_get HO_120.out z30 x122_3 p244 (by first | exact q244 | exact of_decide_eq_true (by assumption) | (have e_ := (Kd.V_reads' HO_120.out).1; omega))
       obtain ⟨ua244_2, uc244_2, ua244_3, uc244_3, rfl, ul244_2, ge244_2, ul244_3, ge244_3⟩ := k30_openF hMe244
       have hv244_2 := hcc244 2 _ rfl
       rw [add_field _ _ 2 (by omega)] at hv244_2
       replace hv244_2 := Option.some.inj (hv244_2.symm.trans hx244_2)
       injection hv244_2 with hva_ hvn_ hvc_
       rw [hva_] at ge244_2
       rw [hvc_] at ul244_2
       have HL244_2 := mk0 (show Kd.V (Kd.int .u8) 73 _ w.heap.size _ _ ((rd_T30 l3 x122_3).f2) from Kd.V_mk ul244_2 ge244_2)
       clear hva_ hvn_ hvc_ ge244_2 ul244_2
       have hv244_3 := hcc244 3 _ rfl
       rw [add_field _ _ 3 (by omega)] at hv244_3
       replace hv244_3 := Option.some.inj (hv244_3.symm.trans hx244_3)
       injection hv244_3 with hva_ hvn_ hvc_
       rw [hva_] at ge244_3
       rw [hvc_] at ul244_3
       have HL244_3 := mk0 (show Kd.V k30 30 _ w.heap.size _ _ ((rd_T30 l3 x122_3).f3) from Kd.V_mk ul244_3 ge244_3)
       clear hva_ hvn_ hvc_ ge244_3 ul244_3; clear hcc244 hce244; have HR244_2 := mk0 hi244_2; have HC244_2 := mk0 hl244_2; clear hi244_2 hl244_2; have HR244_3 := mk0 hi244_3; have HC244_3 := mk0 hl244_3; clear hi244_3 hl244_3; replace p244 := eq_true p244; replace q244 := eq_true q244
       try go_wp2_with ((with_reducible refine box_event rfl (N := 20) rfl (cs := #[.int .i64 0, .int .i64 0, .slice none 0 0, .slice none 0 0]) (t := 30) ?hr ?_); (case hr => first | (go_simp; done) | (go_simp; rfl)); intro gb245 hg w112 hbox hb; replace HO_120 := vB HO_120 hg hb; replace HO_214003 := vB HO_214003 hg hb; replace HO_214004 := vB HO_214004 hg hb; replace HO_244002 := rb HO_244002 hb; replace HO_244003 := vB HO_244003 hg hb; replace HO_244004 := nB HO_244004 hg hb; replace HL244_2 := vB HL244_2 hg hb; replace HL244_3 := vB HL244_3 hg hb; replace HR244_2 := cb HR244_2 hb; replace HR244_3 := cb HR244_3 hb; have BK245 := mk0 (hbox); have GE245 := bs (be6 HB GE212 GE213 GE214 GE215 GE216 GE243) hg; replace HB := kh6 HB GE212 GE213 GE214 GE215 GE216 GE243 hb; have NB212_245 := nb1 (bu BK212) hg; have NB245_212 := nb2 (bu BK212) hg; replace BK212 := kb BK212 hb; have NB213_245 := nb1 (bu BK213) hg; have NB245_213 := nb2 (bu BK213) hg; replace BK213 := kb BK213 hb; have NB214_245 := nb1 (bu BK214) hg; have NB245_214 := nb2 (bu BK214) hg; replace BK214 := kb BK214 hb; have NB215_245 := nb1 (bu BK215) hg; have NB245_215 := nb2 (bu BK215) hg; replace BK215 := kb BK215 hb; have NB216_245 := nb1 (bu BK216) hg; have NB245_216 := nb2 (bu BK216) hg; replace BK216 := kb BK216 hb; have NB243_245 := nb1 (bu BK243) hg; have NB245_243 := nb2 (bu BK243) hg; replace BK243 := kb BK243 hb; clear hb hbox hg; have hnb113 := NB245_212.out; have hnc113 := NB212_245.out; have hnb114 := NB245_213.out; have hnc114 := NB213_245.out; have hnb115 := NB245_214.out; have hnc115 := NB214_245.out; have hnb116 := NB245_215.out; have hnc116 := NB215_245.out; have hnb117 := NB245_216.out; have hnc117 := NB216_245.out; have hnb118 := NB245_243.out; have hnc118 := NB243_245.out; have zc119 := cells4 BK245.out)
       have n0_ : Aside0 (Kd.V k30 30 ((((w112.setCell ⟨gb245, 0, none⟩ (.int .i64 ((rd_T30 l3 x122_3).f0))).setCell ⟨gb245, 1, none⟩ (.int .i64 ((rd_T30 l3 x122_3).f1))).setCell ⟨gb245, 2, none⟩ (.slice A244_2 ((rd_T30 l3 x122_3).f2).length c244_2)).setCell ⟨gb245, 3, none⟩ (.slice A244_3 ((rd_T30 l3 x122_3).f3).length c244_3)) w.heap.size (fun k_ => ((P1_3_ k_ ∨ P1_4_ k_ ∨ P3_ k_) ∨ w.heap.size ≤ k_) ∧ some k_ ≠ (.slice Ao100 t229.length co100 : Value).ownBlock ∧ some k_ ≠ (u244004 : Value).ownBlock ∧ k_ ≠ gb212 ∧ k_ ≠ gb213 ∧ k_ ≠ gb214 ∧ k_ ≠ gb215 ∧ k_ ≠ gb216 ∧ k_ ≠ gb243 ∧ k_ ≠ gb245) (.slice (some ad244) l3.length c3) l3) := ⟨by exact V_pl (Kd.V_mono (vI (q := gb245) (Kd.V_mono HO_120.out (fun k_ hk => (⟨hk, hk.2⟩ : _ ∧ k_ ≠ gb245))) (fun _ hk => hk.2)) (fun _ hk => ⟨hk.1.1.1, ⟨hk.1.1.2.1, ⟨hk.1.1.2.2.1, ⟨hk.1.1.2.2.2.1, ⟨hk.1.1.2.2.2.2.1, ⟨hk.1.1.2.2.2.2.2.1, ⟨hk.1.1.2.2.2.2.2.2.1, ⟨hk.1.1.2.2.2.2.2.2.2.1, ⟨hk.1.1.2.2.2.2.2.2.2.2, hk.1.2⟩⟩⟩⟩⟩⟩⟩⟩⟩))⟩
       have n1_ : Aside0 (Kd.V k30 30 ((((w112.setCell ⟨gb245, 0, none⟩ (.int .i64 ((rd_T30 l3 x122_3).f0))).setCell ⟨gb245, 1, none⟩ (.int .i64 ((rd_T30 l3 x122_3).f1))).setCell ⟨gb245, 2, none⟩ (.slice A244_2 ((rd_T30 l3 x122_3).f2).length c244_2)).setCell ⟨gb245, 3, none⟩ (.slice A244_3 ((rd_T30 l3 x122_3).f3).length c244_3)) w.heap.size (fun k_ => ((P1_3_ k_ ∨ P1_4_ k_ ∨ P3_ k_) ∨ w.heap.size ≤ k_) ∧ some k_ ≠ (.slice Ao100 t229.length co100 : Value).ownBlock ∧ some k_ ≠ (u244004 : Value).ownBlock ∧ k_ ≠ gb212 ∧ k_ ≠ gb213 ∧ k_ ≠ gb214 ∧ k_ ≠ gb215 ∧ k_ ≠ gb216 ∧ k_ ≠ gb243 ∧ k_ ≠ gb245) (.slice A1_3 l1_3.length c1_3) l1_3) := ⟨by exact V_pl (Kd.V_mono (vI (q := gb245) (Kd.V_mono HO_214003.out (fun k_ hk => (⟨hk, hk.2⟩ : _ ∧ k_ ≠ gb245))) (fun _ hk => hk.2)) (fun _ hk => ⟨hk.1.1.1, ⟨hk.1.1.2.1, ⟨hk.1.1.2.2.1, ⟨hk.1.1.2.2.2.1, ⟨hk.1.1.2.2.2.2.1, ⟨hk.1.1.2.2.2.2.2.1, ⟨hk.1.1.2.2.2.2.2.2.1, ⟨hk.1.1.2.2.2.2.2.2.2.1, ⟨hk.1.1.2.2.2.2.2.2.2.2, hk.1.2⟩⟩⟩⟩⟩⟩⟩⟩⟩))⟩
       have n2_ : Aside0 (Kd.V k63 63 ((((w112.setCell ⟨gb245, 0, none⟩ (.int .i64 ((rd_T30 l3 x122_3).f0))).setCell ⟨gb245, 1, none⟩ (.int .i64 ((rd_T30 l3 x122_3).f1))).setCell ⟨gb245, 2, none⟩ (.slice A244_2 ((rd_T30 l3 x122_3).f2).length c244_2)).setCell ⟨gb245, 3, none⟩ (.slice A244_3 ((rd_T30 l3 x122_3).f3).length c244_3)) w.heap.size (fun k_ => ((P1_3_ k_ ∨ P1_4_ k_ ∨ P3_ k_) ∨ w.heap.size ≤ k_) ∧ some k_ ≠ (.slice Ao100 t229.length co100 : Value).ownBlock ∧ some k_ ≠ (u244004 : Value).ownBlock ∧ k_ ≠ gb212 ∧ k_ ≠ gb213 ∧ k_ ≠ gb214 ∧ k_ ≠ gb215 ∧ k_ ≠ gb216 ∧ k_ ≠ gb243 ∧ k_ ≠ gb245) (.slice A1_4 l1_4.length c1_4) l1_4) := ⟨by exact V_pl (Kd.V_mono (vI (q := gb245) (Kd.V_mono HO_214004.out (fun k_ hk => (⟨hk, hk.2⟩ : _ ∧ k_ ≠ gb245))) (fun _ hk => hk.2)) (fun _ hk => ⟨hk.1.1.1, ⟨hk.1.1.2.1, ⟨hk.1.1.2.2.1, ⟨hk.1.1.2.2.2.1, ⟨hk.1.1.2.2.2.2.1, ⟨hk.1.1.2.2.2.2.2.1, ⟨hk.1.1.2.2.2.2.2.2.1, ⟨hk.1.1.2.2.2.2.2.2.2.1, ⟨hk.1.1.2.2.2.2.2.2.2.2, hk.1.2⟩⟩⟩⟩⟩⟩⟩⟩⟩))⟩
       have n3_ : Aside0 (Kd.R (Kd.int .u8) 73 ((((w112.setCell ⟨gb245, 0, none⟩ (.int .i64 ((rd_T30 l3 x122_3).f0))).setCell ⟨gb245, 1, none⟩ (.int .i64 ((rd_T30 l3 x122_3).f1))).setCell ⟨gb245, 2, none⟩ (.slice A244_2 ((rd_T30 l3 x122_3).f2).length c244_2)).setCell ⟨gb245, 3, none⟩ (.slice A244_3 ((rd_T30 l3 x122_3).f3).length c244_3)) w.heap.size (fun k_ => (w.heap.size ≤ k_)) (.slice Ao100 t229.length co100) t229) := ⟨by exact R_pl (Kd.R_mono (rI (q := gb245) (Kd.R_types HO_244002.out BK245.out (by decide)) (fun _ hk => hk.2)) (fun _ hk => hk.1))⟩
       have n4_ : Aside0 (Kd.V k30 30 ((((w112.setCell ⟨gb245, 0, none⟩ (.int .i64 ((rd_T30 l3 x122_3).f0))).setCell ⟨gb245, 1, none⟩ (.int .i64 ((rd_T30 l3 x122_3).f1))).setCell ⟨gb245, 2, none⟩ (.slice A244_2 ((rd_T30 l3 x122_3).f2).length c244_2)).setCell ⟨gb245, 3, none⟩ (.slice A244_3 ((rd_T30 l3 x122_3).f3).length c244_3)) w.heap.size (fun k_ => ((P1_3_ k_ ∨ P1_4_ k_ ∨ P3_ k_) ∨ w.heap.size ≤ k_) ∧ some k_ ≠ (.slice Ao100 t229.length co100 : Value).ownBlock ∧ some k_ ≠ (u244004 : Value).ownBlock ∧ k_ ≠ gb212 ∧ k_ ≠ gb213 ∧ k_ ≠ gb214 ∧ k_ ≠ gb215 ∧ k_ ≠ gb216 ∧ k_ ≠ gb243 ∧ k_ ≠ gb245) (.slice Ao99 t232.length co99) t232) := ⟨by exact V_pl (Kd.V_mono (vI (q := gb245) (Kd.V_mono HO_244003.out (fun k_ hk => (⟨hk, hk.2⟩ : _ ∧ k_ ≠ gb245))) (fun _ hk => hk.2)) (fun _ hk => ⟨hk.1.1.1, ⟨hk.1.1.2.1, ⟨hk.1.1.2.2.1, ⟨hk.1.1.2.2.2.1, ⟨hk.1.1.2.2.2.2.1, ⟨hk.1.1.2.2.2.2.2.1, ⟨hk.1.1.2.2.2.2.2.2.1, ⟨hk.1.1.2.2.2.2.2.2.2.1, ⟨hk.1.1.2.2.2.2.2.2.2.2, hk.1.2⟩⟩⟩⟩⟩⟩⟩⟩⟩))⟩
       have n5_ : Aside0 (Kd.N k63 63 ((((w112.setCell ⟨gb245, 0, none⟩ (.int .i64 ((rd_T30 l3 x122_3).f0))).setCell ⟨gb245, 1, none⟩ (.int .i64 ((rd_T30 l3 x122_3).f1))).setCell ⟨gb245, 2, none⟩ (.slice A244_2 ((rd_T30 l3 x122_3).f2).length c244_2)).setCell ⟨gb245, 3, none⟩ (.slice A244_3 ((rd_T30 l3 x122_3).f3).length c244_3)) w.heap.size (fun k_ => ((P1_3_ k_ ∨ P1_4_ k_ ∨ P3_ k_) ∨ w.heap.size ≤ k_) ∧ some k_ ≠ (.slice Ao100 t229.length co100 : Value).ownBlock ∧ k_ ≠ gb212 ∧ k_ ≠ gb213 ∧ k_ ≠ gb214 ∧ k_ ≠ gb215 ∧ k_ ≠ gb216 ∧ k_ ≠ gb243 ∧ k_ ≠ gb245) u244004 x244004_3) := ⟨by exact N_pl (Kd.N_mono (nI (q := gb245) (Kd.N_mono HO_244004.out (fun k_ hk => (⟨hk, hk.2⟩ : _ ∧ k_ ≠ gb245))) (fun _ hk => hk.2)) (fun _ hk => ⟨hk.1.1.1, ⟨hk.1.1.2.1, ⟨hk.1.1.2.2.1, ⟨hk.1.1.2.2.2.1, ⟨hk.1.1.2.2.2.2.1, ⟨hk.1.1.2.2.2.2.2.1, ⟨hk.1.1.2.2.2.2.2.2.1, ⟨hk.1.1.2.2.2.2.2.2.2, hk.1.2⟩⟩⟩⟩⟩⟩⟩⟩))⟩
       have n6_ : Aside0 (Kd.V (Kd.int .u8) 73 ((((w112.setCell ⟨gb245, 0, none⟩ (.int .i64 ((rd_T30 l3 x122_3).f0))).setCell ⟨gb245, 1, none⟩ (.int .i64 ((rd_T30 l3 x122_3).f1))).setCell ⟨gb245, 2, none⟩ (.slice A244_2 ((rd_T30 l3 x122_3).f2).length c244_2)).setCell ⟨gb245, 3, none⟩ (.slice A244_3 ((rd_T30 l3 x122_3).f3).length c244_3)) w.heap.size (fun k_ => ((P1_3_ k_ ∨ P1_4_ k_ ∨ P3_ k_) ∨ w.heap.size ≤ k_) ∧ some k_ ≠ (.slice Ao100 t229.length co100 : Value).ownBlock ∧ some k_ ≠ (u244004 : Value).ownBlock ∧ k_ ≠ gb212 ∧ k_ ≠ gb213 ∧ k_ ≠ gb214 ∧ k_ ≠ gb215 ∧ k_ ≠ gb216 ∧ k_ ≠ gb243 ∧ k_ ≠ gb245) (.slice A244_2 ((rd_T30 l3 x122_3).f2).length c244_2) ((rd_T30 l3 x122_3).f2)) := ⟨by exact V_pl (Kd.V_mono (vI (q := gb245) (Kd.V_mono HL244_2.out (fun k_ hk => (⟨hk, hk.2⟩ : _ ∧ k_ ≠ gb245))) (fun _ hk => hk.2)) (fun _ hk => ⟨hk.1.1.1, ⟨hk.1.1.2.1, ⟨hk.1.1.2.2.1, ⟨hk.1.1.2.2.2.1, ⟨hk.1.1.2.2.2.2.1, ⟨hk.1.1.2.2.2.2.2.1, ⟨hk.1.1.2.2.2.2.2.2.1, ⟨hk.1.1.2.2.2.2.2.2.2.1, ⟨hk.1.1.2.2.2.2.2.2.2.2, hk.1.2⟩⟩⟩⟩⟩⟩⟩⟩⟩))⟩
       have n7_ : Aside0 (Kd.V k30 30 ((((w112.setCell ⟨gb245, 0, none⟩ (.int .i64 ((rd_T30 l3 x122_3).f0))).setCell ⟨gb245, 1, none⟩ (.int .i64 ((rd_T30 l3 x122_3).f1))).setCell ⟨gb245, 2, none⟩ (.slice A244_2 ((rd_T30 l3 x122_3).f2).length c244_2)).setCell ⟨gb245, 3, none⟩ (.slice A244_3 ((rd_T30 l3 x122_3).f3).length c244_3)) w.heap.size (fun k_ => ((P1_3_ k_ ∨ P1_4_ k_ ∨ P3_ k_) ∨ w.heap.size ≤ k_) ∧ some k_ ≠ (.slice Ao100 t229.length co100 : Value).ownBlock ∧ some k_ ≠ (u244004 : Value).ownBlock ∧ k_ ≠ gb212 ∧ k_ ≠ gb213 ∧ k_ ≠ gb214 ∧ k_ ≠ gb215 ∧ k_ ≠ gb216 ∧ k_ ≠ gb243 ∧ k_ ≠ gb245) (.slice A244_3 ((rd_T30 l3 x122_3).f3).length c244_3) ((rd_T30 l3 x122_3).f3)) := ⟨by exact V_pl (Kd.V_mono (vI (q := gb245) (Kd.V_mono HL244_3.out (fun k_ hk => (⟨hk, hk.2⟩ : _ ∧ k_ ≠ gb245))) (fun _ hk => hk.2)) (fun _ hk => ⟨hk.1.1.1, ⟨hk.1.1.2.1, ⟨hk.1.1.2.2.1, ⟨hk.1.1.2.2.2.1, ⟨hk.1.1.2.2.2.2.1, ⟨hk.1.1.2.2.2.2.2.1, ⟨hk.1.1.2.2.2.2.2.2.1, ⟨hk.1.1.2.2.2.2.2.2.2.1, ⟨hk.1.1.2.2.2.2.2.2.2.2, hk.1.2⟩⟩⟩⟩⟩⟩⟩⟩⟩))⟩
       have n8_ : Aside0 (((((w112.setCell ⟨gb245, 0, none⟩ (.int .i64 ((rd_T30 l3 x122_3).f0))).setCell ⟨gb245, 1, none⟩ (.int .i64 ((rd_T30 l3 x122_3).f1))).setCell ⟨gb245, 2, none⟩ (.slice A244_2 ((rd_T30 l3 x122_3).f2).length c244_2)).setCell ⟨gb245, 3, none⟩ (.slice A244_3 ((rd_T30 l3 x122_3).f3).length c244_3)).heap[gb212]? = some (.cells #[.int .i64 a0_0, .int .i64 a0_1, .string a0_2, .slice A0_3 l0_3.length c0_3, .slice A0_4 l0_4.length c0_4] 26 (0, 0))) := ⟨bF NB212_245 BK212⟩
       have n9_ : Aside0 (((((w112.setCell ⟨gb245, 0, none⟩ (.int .i64 ((rd_T30 l3 x122_3).f0))).setCell ⟨gb245, 1, none⟩ (.int .i64 ((rd_T30 l3 x122_3).f1))).setCell ⟨gb245, 2, none⟩ (.slice A244_2 ((rd_T30 l3 x122_3).f2).length c244_2)).setCell ⟨gb245, 3, none⟩ (.slice A244_3 ((rd_T30 l3 x122_3).f3).length c244_3)).heap[gb213]? = some (.cells #[.int .i64 a1_0, .int .i64 a1_1, .slice A1_2 l1_2.length c1_2, .slice A1_3 l1_3.length c1_3, .slice A1_4 l1_4.length c1_4] 33 (0, 0))) := ⟨bF NB213_245 BK213⟩
       have n10_ : Aside0 (((((w112.setCell ⟨gb245, 0, none⟩ (.int .i64 ((rd_T30 l3 x122_3).f0))).setCell ⟨gb245, 1, none⟩ (.int .i64 ((rd_T30 l3 x122_3).f1))).setCell ⟨gb245, 2, none⟩ (.slice A244_2 ((rd_T30 l3 x122_3).f2).length c244_2)).setCell ⟨gb245, 3, none⟩ (.slice A244_3 ((rd_T30 l3 x122_3).f3).length c244_3)).heap[gb214]? = some (.cells #[.int .i64 a2] 3 (0, 0))) := ⟨bF NB214_245 BK214⟩
       have n11_ : Aside0 (((((w112.setCell ⟨gb245, 0, none⟩ (.int .i64 ((rd_T30 l3 x122_3).f0))).setCell ⟨gb245, 1, none⟩ (.int .i64 ((rd_T30 l3 x122_3).f1))).setCell ⟨gb245, 2, none⟩ (.slice A244_2 ((rd_T30 l3 x122_3).f2).length c244_2)).setCell ⟨gb245, 3, none⟩ (.slice A244_3 ((rd_T30 l3 x122_3).f3).length c244_3)).heap[gb215]? = some (.cells #[.slice A4 l4.length c4] 38 (0, 0))) := ⟨bF NB215_245 BK215⟩
       have n12_ : Aside0 (((((w112.setCell ⟨gb245, 0, none⟩ (.int .i64 ((rd_T30 l3 x122_3).f0))).setCell ⟨gb245, 1, none⟩ (.int .i64 ((rd_T30 l3 x122_3).f1))).setCell ⟨gb245, 2, none⟩ (.slice A244_2 ((rd_T30 l3 x122_3).f2).length c244_2)).setCell ⟨gb245, 3, none⟩ (.slice A244_3 ((rd_T30 l3 x122_3).f3).length c244_3)).heap[gb216]? = some (.cells #[.int .i64 x217000_1, .int .i64 x217001_1, .slice none 0 0, .slice none 0 0, .slice none 0 0] 33 (0, 0))) := ⟨bF NB216_245 BK216⟩
       have n13_ : Aside0 (((((w112.setCell ⟨gb245, 0, none⟩ (.int .i64 ((rd_T30 l3 x122_3).f0))).setCell ⟨gb245, 1, none⟩ (.int .i64 ((rd_T30 l3 x122_3).f1))).setCell ⟨gb245, 2, none⟩ (.slice A244_2 ((rd_T30 l3 x122_3).f2).length c244_2)).setCell ⟨gb245, 3, none⟩ (.slice A244_3 ((rd_T30 l3 x122_3).f3).length c244_3)).heap[gb243]? = some (.cells #[.int .i64 t227, .int .i64 t228, .slice Ao100 t229.length co100, .slice Ao99 t232.length co99, u244004] 33 (0, 0))) := ⟨bF NB243_245 BK243⟩
       have n14_ : Aside0 (((((w112.setCell ⟨gb245, 0, none⟩ (.int .i64 ((rd_T30 l3 x122_3).f0))).setCell ⟨gb245, 1, none⟩ (.int .i64 ((rd_T30 l3 x122_3).f1))).setCell ⟨gb245, 2, none⟩ (.slice A244_2 ((rd_T30 l3 x122_3).f2).length c244_2)).setCell ⟨gb245, 3, none⟩ (.slice A244_3 ((rd_T30 l3 x122_3).f3).length c244_3)).heap[gb245]? = some (.cells #[.int .i64 ((rd_T30 l3 x122_3).f0), .int .i64 ((rd_T30 l3 x122_3).f1), .slice A244_2 ((rd_T30 l3 x122_3).f2).length c244_2, .slice A244_3 ((rd_T30 l3 x122_3).f3).length c244_3] 30 (0, 0))) := ⟨pB BK245⟩
       have n15_ : Aside0 (Below w.heap.size w ((((w112.setCell ⟨gb245, 0, none⟩ (.int .i64 ((rd_T30 l3 x122_3).f0))).setCell ⟨gb245, 1, none⟩ (.int .i64 ((rd_T30 l3 x122_3).f1))).setCell ⟨gb245, 2, none⟩ (.slice A244_2 ((rd_T30 l3 x122_3).f2).length c244_2)).setCell ⟨gb245, 3, none⟩ (.slice A244_3 ((rd_T30 l3 x122_3).f3).length c244_3))) := ⟨be7 HB GE212 GE213 GE214 GE215 GE216 GE243 GE245⟩
       try clear HO_120
       try clear HO_214003
       try clear HO_214004
       try clear HO_244002
       try clear HO_244003
       try clear HO_244004
       try clear HL244_2
       try clear HL244_3
       try clear BK212
       try clear BK213
       try clear BK214
       try clear BK215
       try clear BK216
       try clear BK243
       try clear BK245
       try clear HB
       generalize ((((w112.setCell ⟨gb245, 0, none⟩ (.int .i64 ((rd_T30 l3 x122_3).f0))).setCell ⟨gb245, 1, none⟩ (.int .i64 ((rd_T30 l3 x122_3).f1))).setCell ⟨gb245, 2, none⟩ (.slice A244_2 ((rd_T30 l3 x122_3).f2).length c244_2)).setCell ⟨gb245, 3, none⟩ (.slice A244_3 ((rd_T30 l3 x122_3).f3).length c244_3)) = w120 at n0_ n1_ n2_ n3_ n4_ n5_ n6_ n7_ n8_ n9_ n10_ n11_ n12_ n13_ n14_ n15_ ⊢
       have HO_120 := n0_; have HO_214003 := n1_; have HO_214004 := n2_; have HO_244002 := n3_; have HO_244003 := n4_; have HO_244004 := n5_; have HL244_2 := n6_; have HL244_3 := n7_; have BK212 := n8_; have BK213 := n9_; have BK214 := n10_; have BK215 := n11_; have BK216 := n12_; have BK243 := n13_; have BK245 := n14_; have HB := n15_; clear n0_ n1_ n2_ n3_ n4_ n5_ n6_ n7_ n8_ n9_ n10_ n11_ n12_ n13_ n14_ n15_
       have n0_ := mk0 (Kd.V_drew HO_120.out)
       have n1_ := mk0 (Kd.V_drew HO_214003.out)
       have n2_ := mk0 (Kd.V_drew HO_214004.out)
       have n3_ := mk0 (Kd.R_drew HO_244002.out)
       have n4_ := mk0 (Kd.V_drew HO_244003.out)
       have n5_ := mk0 (Kd.N_drew HO_244004.out)
       have n6_ := mk0 (Kd.V_drew HL244_2.out)
       have n7_ := mk0 (Kd.V_drew HL244_3.out)
       have n8_ := mk0 (blk_drew BK212.out)
       have n9_ := mk0 (blk_drew BK213.out)
       have n10_ := mk0 (blk_drew BK214.out)
       have n11_ := mk0 (blk_drew BK215.out)
       have n12_ := mk0 (blk_drew BK216.out)
       have n13_ := mk0 (blk_drew BK243.out)
       have n14_ := mk0 (blk_drew BK245.out)
       have n15_ := mk0 (below_drew1 HB.out)
       clear HO_120; clear HO_214003; clear HO_214004; clear HO_244002; clear HO_244003; clear HO_244004; clear HL244_2; clear HL244_3; clear BK212; clear BK213; clear BK214; clear BK215; clear BK216; clear BK243; clear BK245; clear HB; have HO_120 := n0_; have HO_214003 := n1_; have HO_214004 := n2_; have HO_244002 := n3_; have HO_244003 := n4_; have HO_244004 := n5_; have HL244_2 := n6_; have HL244_3 := n7_; have BK212 := n8_; have BK213 := n9_; have BK214 := n10_; have BK215 := n11_; have BK216 := n12_; have BK243 := n13_; have BK245 := n14_; have HB := n15_; clear n0_ n1_ n2_ n3_ n4_ n5_ n6_ n7_ n8_ n9_ n10_ n11_ n12_ n13_ n14_ n15_
       have p246 : 0 ≤ (x122_3 : Int) := od
       have q246 : x122_3 < (l4.length : Int) := od
       obtain ⟨ad246, e246, hx246_0⟩ := Kd.at_int HR4.out x122_3 p246 q246
       have hw246_0 := hx246_0; cases e246
       replace hx246_0 := keepc HB.out hx246_0
       replace p246 := eq_true p246; replace q246 := eq_true q246
       refine start_ (n := 15) (S := fun w' => w'.cell? ⟨gb243, 0, none⟩ = some (.int .i64 t227) ∧ w'.cell? ⟨gb243, 1, none⟩ = some (.int .i64 t228) ∧ w'.cell? ⟨gb243, 2, none⟩ = some (.slice Ao100 t229.length co100) ∧ w'.cell? ⟨gb243, 3, none⟩ = some (.slice Ao99 t232.length co99) ∧ w'.cell? ⟨gb243, 4, none⟩ = some (u244004) ∧ w'.cell? ⟨gb214, 0, none⟩ = some (.int .i64 a2) ∧ w'.cell? ⟨gb215, 0, none⟩ = some (.slice (some ad246) l4.length c4) ∧ w'.cell? ⟨gb245, 0, none⟩ = some (.int .i64 ((rd_T30 l3 x122_3).f0)) ∧ w'.cell? ⟨gb245, 1, none⟩ = some (.int .i64 ((rd_T30 l3 x122_3).f1)) ∧ w'.cell? ⟨gb245, 2, none⟩ = some (.slice A244_2 ((rd_T30 l3 x122_3).f2).length c244_2) ∧ w'.cell? ⟨gb245, 3, none⟩ = some (.slice A244_3 ((rd_T30 l3 x122_3).f3).length c244_3) ∧ w'.cell? (ad246.add (x122_3).toNat) = some (.int .i64 (rd l4 x122_3))) (ds := [14]) #[false, false, false, false, false, false, false, false, false, false, false, false, false, false, false] (by kernel_rfl) rfl rfl ⟨bc BK243 0, bc BK243 1, bc BK243 2, bc BK243 3, bc BK243 4, bc BK214 0, bc BK215 0, bc BK245 0, bc BK245 1, bc BK245 2, bc BK245 3, (keepc HB.out hw246_0)⟩ (fun hHeld => ?_); refine with_tabW drivers_Assign.tab25 drivers_Assign.bits25 (fun HT_ HW_ => ?_)
       generalize w120.drew = w121 at HO_120 HO_214003 HO_214004 HO_244002 HO_244003 HO_244004 HL244_2 HL244_3 BK212 BK213 BK214 BK215 BK216 BK243 BK245 HB hx246_0 hHeld ⊢
       refine pu_ (v := ?_) (a' := ?_) 0 127 #[true, false, false, false, false, false, false, false, false, false, false, false, false, false, false] HT_ ?_ ?_ ?_
       rotate_left
       ·intro w'
        go_simp
        with_reducible rfl
       rotate_left
       ·simp only [ps]
        rfl
       refine pu_ (v := ?_) (a' := ?_) 4 131 #[true, false, false, false, true, false, false, false, false, false, false, false, false, false, false] HT_ ?_ ?_ ?_
       rotate_left
       ·intro w'
        go_simp
        with_reducible rfl
       rotate_left
       ·simp only [ps]
        rfl
       refine take_ (i := 1) (N := some 128) (v := ?_) (a' := ?_) #[true, true, false, false, true, false, false, false, false, false, false, false, false, false, false] rfl rfl (take_ofW HT_.out HW_.out (by kernel_rfl)) (fun _ _ _ h => h) (Or.inl ⟨by rfl, ?_⟩) hHeld ?_ ?_
       rotate_left
       ·rintro w' ⟨s0, s1, s2, s3, s4, s5, s6, s7, s8, s9, s10, s11⟩
        go_simp
        with_reducible rfl
       rotate_left
       ·simp only [ps]
        rfl
       refine take_ (i := 2) (N := some 129) (v := ?_) (a' := ?_) #[true, true, true, false, true, false, false, false, false, false, false, false, false, false, false] rfl rfl (take_ofW HT_.out HW_.out (by kernel_rfl)) (fun _ _ _ h => h) (Or.inl ⟨by rfl, ?_⟩) hHeld ?_ ?_
       rotate_left
       ·rintro w' ⟨s0, s1, s2, s3, s4, s5, s6, s7, s8, s9, s10, s11⟩
        go_simp
        with_reducible rfl
       rotate_left
       ·simp only [ps]
        rfl
       refine take_ (i := 3) (N := some 130) (v := ?_) (a' := ?_) (tf 5 10) rfl rfl (take_ofW HT_.out HW_.out (by kernel_rfl)) (fun _ _ _ h => h) (Or.inl ⟨by rfl, ?_⟩) hHeld ?_ ?_
       rotate_left
       ·rintro w' ⟨s0, s1, s2, s3, s4, s5, s6, s7, s8, s9, s10, s11⟩
        go_simp
        with_reducible rfl
       rotate_left
       ·simp only [ps]
        rfl
       refine pu_ (v := ?_) (a' := ?_) 5 132 #[true, true, true, true, true, true, false, false, false, false, false, false, false, false, false] HT_ ?_ ?_ ?_
       rotate_left
       ·intro w'
        go_simp
        with_reducible rfl
       rotate_left
       ·simp only [ps]
        rfl
       refine take_ (i := 6) (N := some 133) (v := ?_) (a' := ?_) (tf 7 8) rfl rfl (take_ofW HT_.out HW_.out (by kernel_rfl)) (fun _ _ _ h => h) (Or.inl ⟨by rfl, ?_⟩) hHeld ?_ ?_
       rotate_left
       ·rintro w' ⟨s0, s1, s2, s3, s4, s5, s6, s7, s8, s9, s10, s11⟩
        go_simp
        with_reducible rfl
       rotate_left
       ·simp only [ps]
        rfl
       refine pu_ (v := ?_) (a' := ?_) 7 134 #[true, true, true, true, true, true, true, true, false, false, false, false, false, false, false] HT_ ?_ ?_ ?_
       rotate_left
       ·intro w'
        go_simp
        with_reducible rfl
       rotate_left
       ·simp only [ps]
        rfl
       refine take_ (i := 8) (N := some 135) (v := ?_) (a' := ?_) (tf 9 6) rfl rfl (take_ofW HT_.out HW_.out (by kernel_rfl)) (fun _ _ _ h => h) (Or.inl ⟨by rfl, ?_⟩) hHeld ?_ ?_
       rotate_left
       ·rintro w' ⟨s0, s1, s2, s3, s4, s5, s6, s7, s8, s9, s10, s11⟩
        go_simp
        with_reducible rfl
       rotate_left
       ·simp only [ps]
        rfl
       refine one_ (i := 9) (N := some 136) (tf 10 5) rfl rfl (one_of HT_.out (by kernel_rfl)) (by decide) (fun K hK => ?_)
       refine goes_ Try.func51 (by kernel_rfl) rfl #[.agg #[.int .i64 ((rd_T30 l3 x122_3).f0), .int .i64 ((rd_T30 l3 x122_3).f1), .slice A244_2 ((rd_T30 l3 x122_3).f2).length c244_2, .slice A244_3 ((rd_T30 l3 x122_3).f3).length c244_3]] (by rfl) rfl rfl (by (try simp only [List.map_toArray, List.map_cons, List.map_nil]); first | done | rfl | (simp only [List.length_drop, List.length_take]; rfl)) ?_
       with_reducible refine (drivers_copied.calls ((rd_T30 l3 x122_3).f0) ((rd_T30 l3 x122_3).f1) _ _ ((rd_T30 l3 x122_3).f2) (fun k_ => (((P1_3_ k_ ∨ P1_4_ k_ ∨ P3_ k_) ∨ w.heap.size ≤ k_) ∧ (some k_ ≠ (.slice Ao100 t229.length co100 : Value).ownBlock ∧ (some k_ ≠ (u244004 : Value).ownBlock ∧ (k_ ≠ gb212 ∧ (k_ ≠ gb213 ∧ (k_ ≠ gb214 ∧ (k_ ≠ gb215 ∧ (k_ ≠ gb216 ∧ (k_ ≠ gb243 ∧ k_ ≠ gb245)))))))))) _ _ ((rd_T30 l3 x122_3).f3) t247 t248 t249 t252 _ ?side1 ?side2 ?side3 A110.out).mono ?_
       (case side1 => repeat (first | exact ((Kd.V_reads' (V_up HL244_2.out)).2.2) | (with_reducible refine Kd.C_alloc ?_ _) | (with_reducible refine Kd.C_drewN ?_ _) | (with_reducible refine Kd.C_drew ?_)))
       (case side2 => exact HC244_2.out)
       (case side3 => exact HL244_3.out)
       rintro e w122 ⟨v250, v253, rfl, ho0, ho1, hb⟩
       refine ⟨_, rfl, ?_⟩
       have n0_ := mk0 (Kd.V_elder' (V_up HO_120.out) (Kd.R_base ho0) hb)
       have n1_ := mk0 (Kd.V_elder' (V_up HO_214003.out) (Kd.R_base ho0) hb)
       have n2_ := mk0 (Kd.V_elder' (V_up HO_214004.out) (Kd.R_base ho0) hb)
       have n3_ := mk0 (Kd.R_elder' (R_up HO_244002.out) (Kd.R_base ho0) hb)
       have n4_ := mk0 (Kd.V_elder' (V_up HO_244003.out) (Kd.R_base ho0) hb)
       have n5_ := mk0 (Kd.N_elder' (N_up HO_244004.out) (Kd.R_base ho0) hb)
       have n6_ := mk0 (Kd.V_elder' (V_up HL244_2.out) (Kd.R_base ho0) hb)
       have n7_ := mk0 (Kd.V_elder' (V_up HL244_3.out) (Kd.R_base ho0) hb)
       have n8_ := mk0 (Kd.R_lower (Kd.R_new' (Kd.R_newM (M := fun k_ => (w.heap.size ≤ k_)) (Kd.R_mono (ok' := fun k_ => True) ho0 (fun _ hk_ => trivial)) (below_size (be7 HB GE212 GE213 GE214 GE215 GE216 GE243 GE245)) (fun k_ h_ => h_)) (Kd.R_lt (R_up HO_244002.out))) (below_size (be7 HB GE212 GE213 GE214 GE215 GE216 GE243 GE245)))
       have n9_ := mk0 (Kd.V_lower (Kd.V_mono (ok' := fun k_ => ((P1_3_ k_ ∨ P1_4_ k_ ∨ P3_ k_) ∨ w.heap.size ≤ k_) ∧ some k_ ≠ (v250 : Value).ownBlock ∧ some k_ ≠ (.slice Ao100 t229.length co100 : Value).ownBlock ∧ some k_ ≠ (u244004 : Value).ownBlock ∧ k_ ≠ gb212 ∧ k_ ≠ gb213 ∧ k_ ≠ gb214 ∧ k_ ≠ gb215 ∧ k_ ≠ gb216 ∧ k_ ≠ gb243 ∧ k_ ≠ gb245) ho1 (fun k_ hk_ => ⟨Or.elim hk_.1 (fun hs_ => hs_.1) (fun hn_ => (.inr (Nat.le_trans (below_size (be7 HB GE212 GE213 GE214 GE215 GE216 GE243 GE245)) hn_))), hk_.2, Or.elim hk_.1 (fun hs_ => hs_.2.1) (fun hn_ => (Kd.fresh' (Kd.R_lt (R_up HO_244002.out)) k_ hn_)), Or.elim hk_.1 (fun hs_ => hs_.2.2.1) (fun hn_ => (Kd.fresh' (Kd.N_lt (N_up HO_244004.out)) k_ hn_)), Or.elim hk_.1 (fun hs_ => hs_.2.2.2.1) (fun hn_ => (Kd.freshB (g := gb212) (o := .cells #[.int .i64 a0_0, .int .i64 a0_1, .string a0_2, .slice A0_3 l0_3.length c0_3, .slice A0_4 l0_4.length c0_4] 26 (0, 0)) (blk_up BK212.out) k_ hn_)), Or.elim hk_.1 (fun hs_ => hs_.2.2.2.2.1) (fun hn_ => (Kd.freshB (g := gb213) (o := .cells #[.int .i64 a1_0, .int .i64 a1_1, .slice A1_2 l1_2.length c1_2, .slice A1_3 l1_3.length c1_3, .slice A1_4 l1_4.length c1_4] 33 (0, 0)) (blk_up BK213.out) k_ hn_)), Or.elim hk_.1 (fun hs_ => hs_.2.2.2.2.2.1) (fun hn_ => (Kd.freshB (g := gb214) (o := .cells #[.int .i64 a2] 3 (0, 0)) (blk_up BK214.out) k_ hn_)), Or.elim hk_.1 (fun hs_ => hs_.2.2.2.2.2.2.1) (fun hn_ => (Kd.freshB (g := gb215) (o := .cells #[.slice (some ad246) l4.length c4] 38 (0, 0)) (blk_up BK215.out) k_ hn_)), Or.elim hk_.1 (fun hs_ => hs_.2.2.2.2.2.2.2.1) (fun hn_ => (Kd.freshB (g := gb216) (o := .cells #[.int .i64 x217000_1, .int .i64 x217001_1, .slice none 0 0, .slice none 0 0, .slice none 0 0] 33 (0, 0)) (blk_up BK216.out) k_ hn_)), Or.elim hk_.1 (fun hs_ => hs_.2.2.2.2.2.2.2.2.1) (fun hn_ => (Kd.freshB (g := gb243) (o := .cells #[.int .i64 t227, .int .i64 t228, .slice Ao100 t229.length co100, .slice Ao99 t232.length co99, u244004] 33 (0, 0)) (blk_up BK243.out) k_ hn_)), Or.elim hk_.1 (fun hs_ => hs_.2.2.2.2.2.2.2.2.2) (fun hn_ => (Kd.freshB (g := gb245) (o := .cells #[.int .i64 ((rd_T30 l3 x122_3).f0), .int .i64 ((rd_T30 l3 x122_3).f1), .slice A244_2 ((rd_T30 l3 x122_3).f2).length c244_2, .slice A244_3 ((rd_T30 l3 x122_3).f3).length c244_3] 30 (0, 0)) (blk_up BK245.out) k_ hn_))⟩)) (below_size (be7 HB GE212 GE213 GE214 GE215 GE216 GE243 GE245)))
       have n10_ := kb BK212 hb
       have n11_ := kb BK213 hb
       have n12_ := kb BK214 hb
       have n13_ := kb BK215 hb
       have n14_ := kb BK216 hb
       have n15_ := kb BK243 hb
       have n16_ := kb BK245 hb
       have n17_ := kh7 HB GE212 GE213 GE214 GE215 GE216 GE243 GE245 hb
       clear HO_120; clear HO_214003; clear HO_214004; clear HO_244002; clear HO_244003; clear HO_244004; clear HL244_2; clear HL244_3; clear BK212; clear BK213; clear BK214; clear BK215; clear BK216; clear BK243; clear BK245; clear HB; have HO_120 := n0_; have HO_214003 := n1_; have HO_214004 := n2_; have HO_244002 := n3_; have HO_244003 := n4_; have HO_244004 := n5_; have HL244_2 := n6_; have HL244_3 := n7_; have HO251 := n8_; have HO254 := n9_; have BK212 := n10_; have BK213 := n11_; have BK214 := n12_; have BK215 := n13_; have BK216 := n14_; have BK243 := n15_; have BK245 := n16_; have HB := n17_; clear n0_ n1_ n2_ n3_ n4_ n5_ n6_ n7_ n8_ n9_ n10_ n11_ n12_ n13_ n14_ n15_ n16_ n17_
       try clear hb
       try clear hk
       try clear hi
       try clear ho0
       try clear ho1
       obtain ⟨Ao123, co123, eo123⟩ := Kd.V_slice HO254.out
       (first | subst eo123 | (injection eo123 with f1_ f2_ f3_; have f4_ := f1_.symm; have f5_ := f3_.symm; clear f1_ f2_ f3_; subst f4_; subst f5_))
       obtain ⟨Ao124, co124, eo124⟩ := Kd.R_slice HO251.out
       (first | subst eo124 | (injection eo124 with f1_ f2_ f3_; have f4_ := f1_.symm; have f5_ := f3_.symm; clear f1_ f2_ f3_; subst f4_; subst f5_))
       refine hK.out _ _ ⟨bc BK243 0, bc BK243 1, bc BK243 2, bc BK243 3, bc BK243 4, bc BK214 0, bc BK215 0, bc BK245 0, bc BK245 1, bc BK245 2, bc BK245 3, (keepc HB.out hw246_0)⟩ (fun hHeld => ?_)
       clear hK K
       refine norm_ (a' := ?_) ?_ ?_
       rotate_left
       ·show Act.put _ (some 136) _ = _
        simp only [ps]
        rfl
       refine pu_ (v := ?_) (a' := ?_) 10 137 #[true, true, true, true, true, true, true, true, true, true, true, false, false, false, false] HT_ ?_ ?_ ?_
       rotate_left
       ·intro w'
        go_simp
        with_reducible rfl
       rotate_left
       ·simp only [ps]
        rfl
       refine one_ (i := 11) (N := some 138) (tf 12 3) rfl rfl (one_of HT_.out (by kernel_rfl)) (by decide) (fun K hK => ?_)
       refine value_ (w1 := ?_) (v := ?_) (by rfl) rfl ?_ ?_
       rotate_left 2
       ·go_simp
        constructor
        ·rfl
        ·rfl
       refine hK.out _ _ ⟨(blk_cell (blk_alloc BK243.out _) 0).trans rfl, (blk_cell (blk_alloc BK243.out _) 1).trans rfl, (blk_cell (blk_alloc BK243.out _) 2).trans rfl, (blk_cell (blk_alloc BK243.out _) 3).trans rfl, (blk_cell (blk_alloc BK243.out _) 4).trans rfl, (blk_cell (blk_alloc BK214.out _) 0).trans rfl, (blk_cell (blk_alloc BK215.out _) 0).trans rfl, (blk_cell (blk_alloc BK245.out _) 0).trans rfl, (blk_cell (blk_alloc BK245.out _) 1).trans rfl, (blk_cell (blk_alloc BK245.out _) 2).trans rfl, (blk_cell (blk_alloc BK245.out _) 3).trans rfl, (World.cell?_alloc_lt _ _ _ (World.block_lt_of_cell? _ _ ((keepc HB.out hw246_0)))).trans ((keepc HB.out hw246_0))⟩ (fun hHeld => ?_)
       clear hK K
       refine norm_ (a' := ?_) ?_ ?_
       rotate_left
       ·show Act.put _ (some 138) _ = _
        simp only [ps]
        rfl
       refine one_ (i := 12) (N := some 139) (tf 13 2) rfl rfl (one_of HT_.out (by kernel_rfl)) (by decide) (fun K hK => ?_)
       refine Kd.N_append_step k63 (w0 := w) w.heap.size (by rfl) (.tmp 128) (.tmp 138) 31 63 (.agg #[(.int .i64 0), (.int .i64 0), (.int .i64 0), (.slice none 0 0), (.slice none 0 0)]) 72 rfl Try.underlying31 info63 rfl (by decide) (by omega) u244004 x244004_3 (⟨wrap64 (a2 + (rd l4 x122_3)), (⟨t247, t248, t249, t252⟩ : S30)⟩ : S63) [.int .i64 (wrap64 (a2 + (rd l4 x122_3))), .int .i64 t247, .int .i64 t248, .slice Ao124 t249.length co124, .slice Ao123 t252.length co123] (fun k_ => ((P1_3_ k_ ∨ P1_4_ k_ ∨ P3_ k_) ∨ w.heap.size ≤ k_) ∧ some k_ ≠ (.slice Ao100 t229.length co100 : Value).ownBlock ∧ k_ ≠ gb212 ∧ k_ ≠ gb213 ∧ k_ ≠ gb214 ∧ k_ ≠ gb215 ∧ k_ ≠ gb216 ∧ k_ ≠ gb243 ∧ k_ ≠ gb245) (fun k_ => ((fun k_ => ((P1_3_ k_ ∨ P1_4_ k_ ∨ P3_ k_) ∨ w.heap.size ≤ k_) ∧ some k_ ≠ (.slice Ao100 t229.length co100 : Value).ownBlock ∧ k_ ≠ gb212 ∧ k_ ≠ gb213 ∧ k_ ≠ gb214 ∧ k_ ≠ gb215 ∧ k_ ≠ gb216 ∧ k_ ≠ gb243 ∧ k_ ≠ gb245)) k_ ∧ some k_ ≠ (u244004 : Value).ownBlock) rfl rfl ?aP (fun _ hk => hk) ?aF ?aO ?aB ?aS ?aL ?_
       (case aP => exact (k63_mkF _ _ (⟨wrap64 (a2 + (rd l4 x122_3)), (⟨t247, t248, t249, t252⟩ : S30)⟩ : S63) (Kd.R_reads' (Kd.R_mono (ok' := (fun k_ => ((fun k_ => ((P1_3_ k_ ∨ P1_4_ k_ ∨ P3_ k_) ∨ w.heap.size ≤ k_) ∧ some k_ ≠ (.slice Ao100 t229.length co100 : Value).ownBlock ∧ k_ ≠ gb212 ∧ k_ ≠ gb213 ∧ k_ ≠ gb214 ∧ k_ ≠ gb215 ∧ k_ ≠ gb216 ∧ k_ ≠ gb243 ∧ k_ ≠ gb245)) k_ ∧ some k_ ≠ (u244004 : Value).ownBlock)) (Kd.R_types (Kd.R_types (Kd.R_types (Kd.R_types (Kd.R_types (Kd.R_types (Kd.R_types (Kd.R_apart' (HO251.out) (Kd.N_typed HO_244004.out) (by decide)) BK212.out (by decide)) BK213.out (by decide)) BK214.out (by decide)) BK215.out (by decide)) BK216.out (by decide)) BK243.out (by decide)) BK245.out (by decide)) (fun k_ hk => ⟨⟨(.inr (hk.1.1.1.1.1.1.1.1.1.1)), ⟨hk.1.1.1.1.1.1.1.1.2, ⟨hk.1.1.1.1.1.1.2, ⟨hk.1.1.1.1.1.2, ⟨hk.1.1.1.1.2, ⟨hk.1.1.1.2, ⟨hk.1.1.2, ⟨hk.1.2, hk.2⟩⟩⟩⟩⟩⟩⟩⟩, hk.1.1.1.1.1.1.1.2⟩))).2.1 (Kd.R_F (Kd.R_mono (ok' := (fun k_ => ((fun k_ => ((P1_3_ k_ ∨ P1_4_ k_ ∨ P3_ k_) ∨ w.heap.size ≤ k_) ∧ some k_ ≠ (.slice Ao100 t229.length co100 : Value).ownBlock ∧ k_ ≠ gb212 ∧ k_ ≠ gb213 ∧ k_ ≠ gb214 ∧ k_ ≠ gb215 ∧ k_ ≠ gb216 ∧ k_ ≠ gb243 ∧ k_ ≠ gb245)) k_ ∧ some k_ ≠ (u244004 : Value).ownBlock)) (Kd.R_types (Kd.R_types (Kd.R_types (Kd.R_types (Kd.R_types (Kd.R_types (Kd.R_types (Kd.R_apart' (HO251.out) (Kd.N_typed HO_244004.out) (by decide)) BK212.out (by decide)) BK213.out (by decide)) BK214.out (by decide)) BK215.out (by decide)) BK216.out (by decide)) BK243.out (by decide)) BK245.out (by decide)) (fun k_ hk => ⟨⟨(.inr (hk.1.1.1.1.1.1.1.1.1.1)), ⟨hk.1.1.1.1.1.1.1.1.2, ⟨hk.1.1.1.1.1.1.2, ⟨hk.1.1.1.1.1.2, ⟨hk.1.1.1.1.2, ⟨hk.1.1.1.2, ⟨hk.1.1.2, ⟨hk.1.2, hk.2⟩⟩⟩⟩⟩⟩⟩⟩, hk.1.1.1.1.1.1.1.2⟩))) (Kd.V_reads' (Kd.V_mono (ok' := (fun k_ => ((fun k_ => ((P1_3_ k_ ∨ P1_4_ k_ ∨ P3_ k_) ∨ w.heap.size ≤ k_) ∧ some k_ ≠ (.slice Ao100 t229.length co100 : Value).ownBlock ∧ k_ ≠ gb212 ∧ k_ ≠ gb213 ∧ k_ ≠ gb214 ∧ k_ ≠ gb215 ∧ k_ ≠ gb216 ∧ k_ ≠ gb243 ∧ k_ ≠ gb245)) k_ ∧ some k_ ≠ (u244004 : Value).ownBlock)) (HO254.out) (fun k_ hk => ⟨⟨hk.1, ⟨hk.2.2.1, ⟨hk.2.2.2.2.1, ⟨hk.2.2.2.2.2.1, ⟨hk.2.2.2.2.2.2.1, ⟨hk.2.2.2.2.2.2.2.1, ⟨hk.2.2.2.2.2.2.2.2.1, ⟨hk.2.2.2.2.2.2.2.2.2.1, hk.2.2.2.2.2.2.2.2.2.2⟩⟩⟩⟩⟩⟩⟩⟩, hk.2.2.2.1⟩))).2.1 (Kd.V_F (Kd.V_mono (ok' := (fun k_ => ((fun k_ => ((P1_3_ k_ ∨ P1_4_ k_ ∨ P3_ k_) ∨ w.heap.size ≤ k_) ∧ some k_ ≠ (.slice Ao100 t229.length co100 : Value).ownBlock ∧ k_ ≠ gb212 ∧ k_ ≠ gb213 ∧ k_ ≠ gb214 ∧ k_ ≠ gb215 ∧ k_ ≠ gb216 ∧ k_ ≠ gb243 ∧ k_ ≠ gb245)) k_ ∧ some k_ ≠ (u244004 : Value).ownBlock)) (HO254.out) (fun k_ hk => ⟨⟨hk.1, ⟨hk.2.2.1, ⟨hk.2.2.2.2.1, ⟨hk.2.2.2.2.2.1, ⟨hk.2.2.2.2.2.2.1, ⟨hk.2.2.2.2.2.2.2.1, ⟨hk.2.2.2.2.2.2.2.2.1, ⟨hk.2.2.2.2.2.2.2.2.2.1, hk.2.2.2.2.2.2.2.2.2.2⟩⟩⟩⟩⟩⟩⟩⟩, hk.2.2.2.1⟩)))))
       (case aB => exact (be7 HB GE212 GE213 GE214 GE215 GE216 GE243 GE245))
       (case aF => exact (fun k_ hk => ⟨(.inr (Nat.le_trans (below_size (be7 HB GE212 GE213 GE214 GE215 GE216 GE243 GE245)) hk)), Kd.fresh' (Kd.R_lt (R_up HO_244002.out)) k_ hk, Kd.freshB (g := gb212) (o := .cells #[.int .i64 a0_0, .int .i64 a0_1, .string a0_2, .slice A0_3 l0_3.length c0_3, .slice A0_4 l0_4.length c0_4] 26 (0, 0)) (blk_up BK212.out) k_ hk, Kd.freshB (g := gb213) (o := .cells #[.int .i64 a1_0, .int .i64 a1_1, .slice A1_2 l1_2.length c1_2, .slice A1_3 l1_3.length c1_3, .slice A1_4 l1_4.length c1_4] 33 (0, 0)) (blk_up BK213.out) k_ hk, Kd.freshB (g := gb214) (o := .cells #[.int .i64 a2] 3 (0, 0)) (blk_up BK214.out) k_ hk, Kd.freshB (g := gb215) (o := .cells #[.slice (some ad246) l4.length c4] 38 (0, 0)) (blk_up BK215.out) k_ hk, Kd.freshB (g := gb216) (o := .cells #[.int .i64 x217000_1, .int .i64 x217001_1, .slice none 0 0, .slice none 0 0, .slice none 0 0] 33 (0, 0)) (blk_up BK216.out) k_ hk, Kd.freshB (g := gb243) (o := .cells #[.int .i64 t227, .int .i64 t228, .slice Ao100 t229.length co100, .slice Ao99 t232.length co99, u244004] 33 (0, 0)) (blk_up BK243.out) k_ hk, Kd.freshB (g := gb245) (o := .cells #[.int .i64 ((rd_T30 l3 x122_3).f0), .int .i64 ((rd_T30 l3 x122_3).f1), .slice A244_2 ((rd_T30 l3 x122_3).f2).length c244_2, .slice A244_3 ((rd_T30 l3 x122_3).f3).length c244_3] 30 (0, 0)) (blk_up BK245.out) k_ hk⟩))
       (case aO => exact (by exact N_pl (Kd.N_mono HO_244004.out (fun _ hk => ⟨hk.1.1, ⟨hk.1.2.1, ⟨hk.1.2.2.1, ⟨hk.1.2.2.2.1, ⟨hk.1.2.2.2.2.1, ⟨hk.1.2.2.2.2.2.1, ⟨hk.1.2.2.2.2.2.2.1, ⟨hk.1.2.2.2.2.2.2.2.1, hk.1.2.2.2.2.2.2.2.2⟩⟩⟩⟩⟩⟩⟩⟩))))
       (case aS => exact (below_size (be7 HB GE212 GE213 GE214 GE215 GE216 GE243 GE245)))
       (case aL => have := LMc111.out; omega)
       intro v256 w125 ho hb hg hat
       rw [← Ny255.out] at ho
       have n0_ := mk0 (Kd.V_afterv (ok := (fun k_ => ((P1_3_ k_ ∨ P1_4_ k_ ∨ P3_ k_) ∨ w.heap.size ≤ k_) ∧ some k_ ≠ (.slice Ao100 t229.length co100 : Value).ownBlock ∧ some k_ ≠ (.slice Ao124 t249.length co124 : Value).ownBlock ∧ k_ ≠ gb212 ∧ k_ ≠ gb213 ∧ k_ ≠ gb214 ∧ k_ ≠ gb215 ∧ k_ ≠ gb216 ∧ k_ ≠ gb243 ∧ k_ ≠ gb245)) (by exact V_pl (Kd.V_mono HO_120.out (fun _ hk => ⟨⟨hk.1.1, ⟨hk.1.2.1, ⟨hk.2, ⟨hk.1.2.2.2.1, ⟨hk.1.2.2.2.2.1, ⟨hk.1.2.2.2.2.2.1, ⟨hk.1.2.2.2.2.2.2.1, ⟨hk.1.2.2.2.2.2.2.2.1, ⟨hk.1.2.2.2.2.2.2.2.2.1, hk.1.2.2.2.2.2.2.2.2.2⟩⟩⟩⟩⟩⟩⟩⟩⟩, hk.1.2.2.1⟩))) hg hat)
       have n1_ := mk0 (Kd.V_afterv (ok := (fun k_ => ((P1_3_ k_ ∨ P1_4_ k_ ∨ P3_ k_) ∨ w.heap.size ≤ k_) ∧ some k_ ≠ (.slice Ao100 t229.length co100 : Value).ownBlock ∧ some k_ ≠ (.slice Ao124 t249.length co124 : Value).ownBlock ∧ k_ ≠ gb212 ∧ k_ ≠ gb213 ∧ k_ ≠ gb214 ∧ k_ ≠ gb215 ∧ k_ ≠ gb216 ∧ k_ ≠ gb243 ∧ k_ ≠ gb245)) (by exact V_pl (Kd.V_mono HO_214003.out (fun _ hk => ⟨⟨hk.1.1, ⟨hk.1.2.1, ⟨hk.2, ⟨hk.1.2.2.2.1, ⟨hk.1.2.2.2.2.1, ⟨hk.1.2.2.2.2.2.1, ⟨hk.1.2.2.2.2.2.2.1, ⟨hk.1.2.2.2.2.2.2.2.1, ⟨hk.1.2.2.2.2.2.2.2.2.1, hk.1.2.2.2.2.2.2.2.2.2⟩⟩⟩⟩⟩⟩⟩⟩⟩, hk.1.2.2.1⟩))) hg hat)
       have n2_ := mk0 (Kd.V_afterv (ok := (fun k_ => ((P1_3_ k_ ∨ P1_4_ k_ ∨ P3_ k_) ∨ w.heap.size ≤ k_) ∧ some k_ ≠ (.slice Ao100 t229.length co100 : Value).ownBlock ∧ some k_ ≠ (.slice Ao124 t249.length co124 : Value).ownBlock ∧ k_ ≠ gb212 ∧ k_ ≠ gb213 ∧ k_ ≠ gb214 ∧ k_ ≠ gb215 ∧ k_ ≠ gb216 ∧ k_ ≠ gb243 ∧ k_ ≠ gb245)) (by exact V_pl (Kd.V_mono HO_214004.out (fun _ hk => ⟨⟨hk.1.1, ⟨hk.1.2.1, ⟨hk.2, ⟨hk.1.2.2.2.1, ⟨hk.1.2.2.2.2.1, ⟨hk.1.2.2.2.2.2.1, ⟨hk.1.2.2.2.2.2.2.1, ⟨hk.1.2.2.2.2.2.2.2.1, ⟨hk.1.2.2.2.2.2.2.2.2.1, hk.1.2.2.2.2.2.2.2.2.2⟩⟩⟩⟩⟩⟩⟩⟩⟩, hk.1.2.2.1⟩))) hg hat)
       have n3_ := mk0 (Kd.R_over' (R_up HO_244002.out) (Kd.N_typed (N_up HO_244004.out)) (by decide) hg)
       have n4_ := mk0 (Kd.V_afterv (ok := (fun k_ => ((P1_3_ k_ ∨ P1_4_ k_ ∨ P3_ k_) ∨ w.heap.size ≤ k_) ∧ some k_ ≠ (.slice Ao100 t229.length co100 : Value).ownBlock ∧ some k_ ≠ (.slice Ao124 t249.length co124 : Value).ownBlock ∧ k_ ≠ gb212 ∧ k_ ≠ gb213 ∧ k_ ≠ gb214 ∧ k_ ≠ gb215 ∧ k_ ≠ gb216 ∧ k_ ≠ gb243 ∧ k_ ≠ gb245)) (by exact V_pl (Kd.V_mono HO_244003.out (fun _ hk => ⟨⟨hk.1.1, ⟨hk.1.2.1, ⟨hk.2, ⟨hk.1.2.2.2.1, ⟨hk.1.2.2.2.2.1, ⟨hk.1.2.2.2.2.2.1, ⟨hk.1.2.2.2.2.2.2.1, ⟨hk.1.2.2.2.2.2.2.2.1, ⟨hk.1.2.2.2.2.2.2.2.2.1, hk.1.2.2.2.2.2.2.2.2.2⟩⟩⟩⟩⟩⟩⟩⟩⟩, hk.1.2.2.1⟩))) hg hat)
       have n5_ := mk0 (blk_grown (g := gb212) (o := .cells #[.int .i64 a0_0, .int .i64 a0_1, .string a0_2, .slice A0_3 l0_3.length c0_3, .slice A0_4 l0_4.length c0_4] 26 (0, 0)) (blk_up BK212.out) hg (Kd.N_ne HO_244004.out BK212.out (by decide)))
       have n6_ := mk0 (blk_grown (g := gb213) (o := .cells #[.int .i64 a1_0, .int .i64 a1_1, .slice A1_2 l1_2.length c1_2, .slice A1_3 l1_3.length c1_3, .slice A1_4 l1_4.length c1_4] 33 (0, 0)) (blk_up BK213.out) hg (Kd.N_ne HO_244004.out BK213.out (by decide)))
       have n7_ := mk0 (blk_grown (g := gb214) (o := .cells #[.int .i64 a2] 3 (0, 0)) (blk_up BK214.out) hg (Kd.N_ne HO_244004.out BK214.out (by decide)))
       have n8_ := mk0 (blk_grown (g := gb215) (o := .cells #[.slice (some ad246) l4.length c4] 38 (0, 0)) (blk_up BK215.out) hg (Kd.N_ne HO_244004.out BK215.out (by decide)))
       have n9_ := mk0 (blk_grown (g := gb216) (o := .cells #[.int .i64 x217000_1, .int .i64 x217001_1, .slice none 0 0, .slice none 0 0, .slice none 0 0] 33 (0, 0)) (blk_up BK216.out) hg (Kd.N_ne HO_244004.out BK216.out (by decide)))
       have n10_ := mk0 (blk_grown (g := gb243) (o := .cells #[.int .i64 t227, .int .i64 t228, .slice Ao100 t229.length co100, .slice Ao99 t232.length co99, u244004] 33 (0, 0)) (blk_up BK243.out) hg (Kd.N_ne HO_244004.out BK243.out (by decide)))
       have n11_ := mk0 (Kd.V_afterv (ok := (fun k_ => ((P1_3_ k_ ∨ P1_4_ k_ ∨ P3_ k_) ∨ w.heap.size ≤ k_) ∧ some k_ ≠ (.slice Ao100 t229.length co100 : Value).ownBlock ∧ some k_ ≠ (.slice Ao124 t249.length co124 : Value).ownBlock ∧ k_ ≠ gb212 ∧ k_ ≠ gb213 ∧ k_ ≠ gb214 ∧ k_ ≠ gb215 ∧ k_ ≠ gb216 ∧ k_ ≠ gb243 ∧ k_ ≠ gb245)) (by exact V_pl (Kd.V_mono HL244_2.out (fun _ hk => ⟨⟨hk.1.1, ⟨hk.1.2.1, ⟨hk.2, ⟨hk.1.2.2.2.1, ⟨hk.1.2.2.2.2.1, ⟨hk.1.2.2.2.2.2.1, ⟨hk.1.2.2.2.2.2.2.1, ⟨hk.1.2.2.2.2.2.2.2.1, ⟨hk.1.2.2.2.2.2.2.2.2.1, hk.1.2.2.2.2.2.2.2.2.2⟩⟩⟩⟩⟩⟩⟩⟩⟩, hk.1.2.2.1⟩))) hg hat)
       have n12_ := mk0 (Kd.V_afterv (ok := (fun k_ => ((P1_3_ k_ ∨ P1_4_ k_ ∨ P3_ k_) ∨ w.heap.size ≤ k_) ∧ some k_ ≠ (.slice Ao100 t229.length co100 : Value).ownBlock ∧ some k_ ≠ (.slice Ao124 t249.length co124 : Value).ownBlock ∧ k_ ≠ gb212 ∧ k_ ≠ gb213 ∧ k_ ≠ gb214 ∧ k_ ≠ gb215 ∧ k_ ≠ gb216 ∧ k_ ≠ gb243 ∧ k_ ≠ gb245)) (by exact V_pl (Kd.V_mono HL244_3.out (fun _ hk => ⟨⟨hk.1.1, ⟨hk.1.2.1, ⟨hk.2, ⟨hk.1.2.2.2.1, ⟨hk.1.2.2.2.2.1, ⟨hk.1.2.2.2.2.2.1, ⟨hk.1.2.2.2.2.2.2.1, ⟨hk.1.2.2.2.2.2.2.2.1, ⟨hk.1.2.2.2.2.2.2.2.2.1, hk.1.2.2.2.2.2.2.2.2.2⟩⟩⟩⟩⟩⟩⟩⟩⟩, hk.1.2.2.1⟩))) hg hat)
       have n13_ := mk0 (blk_grown (g := gb245) (o := .cells #[.int .i64 ((rd_T30 l3 x122_3).f0), .int .i64 ((rd_T30 l3 x122_3).f1), .slice A244_2 ((rd_T30 l3 x122_3).f2).length c244_2, .slice A244_3 ((rd_T30 l3 x122_3).f3).length c244_3] 30 (0, 0)) (blk_up BK245.out) hg (Kd.N_ne HO_244004.out BK245.out (by decide)))
       have n14_ := mk0 (Kd.V_afterv (ok := (fun k_ => ((P1_3_ k_ ∨ P1_4_ k_ ∨ P3_ k_) ∨ w.heap.size ≤ k_) ∧ some k_ ≠ (.slice Ao100 t229.length co100 : Value).ownBlock ∧ some k_ ≠ (.slice Ao124 t249.length co124 : Value).ownBlock ∧ k_ ≠ gb212 ∧ k_ ≠ gb213 ∧ k_ ≠ gb214 ∧ k_ ≠ gb215 ∧ k_ ≠ gb216 ∧ k_ ≠ gb243 ∧ k_ ≠ gb245)) (by exact V_pl (Kd.V_mono HO254.out (fun _ hk => ⟨⟨hk.1, ⟨hk.2.2.1, ⟨hk.2.1, ⟨hk.2.2.2.2.1, ⟨hk.2.2.2.2.2.1, ⟨hk.2.2.2.2.2.2.1, ⟨hk.2.2.2.2.2.2.2.1, ⟨hk.2.2.2.2.2.2.2.2.1, ⟨hk.2.2.2.2.2.2.2.2.2.1, hk.2.2.2.2.2.2.2.2.2.2⟩⟩⟩⟩⟩⟩⟩⟩⟩, hk.2.2.2.1⟩))) hg hat)
       have n15_ := mk0 (hb)
       have n16_ := mk0 (ho)
       clear HO_120; clear HO_214003; clear HO_214004; clear HO_244002; clear HO_244003; clear BK212; clear BK213; clear BK214; clear BK215; clear BK216; clear BK243; clear HL244_2; clear HL244_3; clear BK245; clear HO254; clear HB; clear HO_244004; clear HO251; have HO_120 := n0_; have HO_214003 := n1_; have HO_214004 := n2_; have HO_244002 := n3_; have HO_244003 := n4_; have BK212 := n5_; have BK213 := n6_; have BK214 := n7_; have BK215 := n8_; have BK216 := n9_; have BK243 := n10_; have HL244_2 := n11_; have HL244_3 := n12_; have BK245 := n13_; have HO254 := n14_; have HB := n15_; have HO257 := n16_; clear n0_ n1_ n2_ n3_ n4_ n5_ n6_ n7_ n8_ n9_ n10_ n11_ n12_ n13_ n14_ n15_ n16_; clear ho hb hg hat
       obtain ⟨Ao126, co126, eo126⟩ := Kd.N_slice HO257.out
       (first | subst eo126 | (injection eo126 with f1_ f2_ f3_; have f4_ := f1_.symm; have f5_ := f3_.symm; clear f1_ f2_ f3_; subst f4_; subst f5_))
       refine hK.out _ _ ⟨bc BK243 0, bc BK243 1, bc BK243 2, bc BK243 3, bc BK243 4, bc BK214 0, bc BK215 0, bc BK245 0, bc BK245 1, bc BK245 2, bc BK245 3, (keepc HB.out hw246_0)⟩ (fun hHeld => ?_)
       clear hK K
       refine norm_ (a' := ?_) ?_ ?_
       rotate_left
       ·show Act.put _ (some 139) _ = _
        simp only [ps]
        rfl
       refine pu_ (v := ?_) (a' := ?_) 13 140 #[true, true, true, true, true, true, true, true, true, true, true, true, true, true, false] HT_ ?_ ?_ ?_
       rotate_left
       ·intro w'
        go_simp
        with_reducible rfl
       rotate_left
       ·simp only [ps]
        rfl
       refine last_ (i := 14) (N := none) (tf 15 0) rfl rfl (one_of HT_.out (by kernel_rfl)) (by decide) (fun K hK => ?_)
       have hs127 : w125.cell? ⟨gb243, 4, none⟩ = some (u244004) := bc BK243 4
       have hfs127 := blk_frozen BK243.out 4
       have hns127_0 := NB212_243.out; have hns127_1 := NB213_243.out; have hns127_2 := NB214_243.out; have hns127_3 := NB215_243.out; have hns127_4 := NB216_243.out; have hns127_6 := NB245_243.out; have hms127_0 := NB243_212.out; have hms127_1 := NB243_213.out; have hms127_2 := NB243_214.out; have hms127_3 := NB243_215.out; have hms127_4 := NB243_216.out; have hms127_6 := NB243_245.out
       refine skip_ (w1 := ?_) (by rfl) rfl ?_ ?_
       rotate_left
       ·go_simp
        rfl
       refine hK.out _ _ ?_
       clear hK K
       refine done_ (done_of HT_.out (by kernel_rfl)) ?_
       try go_wp2
       go_roundg k3
       case measure => have := HK1.out; have := HJ57.out; have := HK3.out; omega
       case rel => exact ⟨(wrap64 (x122_3 + 1)), (y255), (.slice Ao126 y255.length co126), rfl, H', ⟨by have := HK1.out; have := HJ57.out; have := HK3.out; omega⟩, ⟨by exact V_pl (Kd.V_mono (vI (q := gb243) (Kd.V_mono HO_120.out (fun k_ hk => (⟨hk, hk.1.2.2.2.2.2.2.2.2.1⟩ : _ ∧ k_ ≠ gb243))) (fun _ hk => hk.2)) (fun _ hk => ⟨hk.1.1.1, ⟨hk.1.1.2.1, ⟨hk.1.2, ⟨hk.1.1.2.2.2.1, ⟨hk.1.1.2.2.2.2.1, ⟨hk.1.1.2.2.2.2.2.1, ⟨hk.1.1.2.2.2.2.2.2.1, ⟨hk.1.1.2.2.2.2.2.2.2.1, hk.1.1.2.2.2.2.2.2.2.2.1⟩⟩⟩⟩⟩⟩⟩⟩))⟩, ⟨by exact V_pl (Kd.V_mono (vI (q := gb243) (Kd.V_mono HO_214003.out (fun k_ hk => (⟨hk, hk.1.2.2.2.2.2.2.2.2.1⟩ : _ ∧ k_ ≠ gb243))) (fun _ hk => hk.2)) (fun _ hk => ⟨hk.1.1.1, ⟨hk.1.1.2.1, ⟨hk.1.2, ⟨hk.1.1.2.2.2.1, ⟨hk.1.1.2.2.2.2.1, ⟨hk.1.1.2.2.2.2.2.1, ⟨hk.1.1.2.2.2.2.2.2.1, ⟨hk.1.1.2.2.2.2.2.2.2.1, hk.1.1.2.2.2.2.2.2.2.2.1⟩⟩⟩⟩⟩⟩⟩⟩))⟩, ⟨by exact V_pl (Kd.V_mono (vI (q := gb243) (Kd.V_mono HO_214004.out (fun k_ hk => (⟨hk, hk.1.2.2.2.2.2.2.2.2.1⟩ : _ ∧ k_ ≠ gb243))) (fun _ hk => hk.2)) (fun _ hk => ⟨hk.1.1.1, ⟨hk.1.1.2.1, ⟨hk.1.2, ⟨hk.1.1.2.2.2.1, ⟨hk.1.1.2.2.2.2.1, ⟨hk.1.1.2.2.2.2.2.1, ⟨hk.1.1.2.2.2.2.2.2.1, ⟨hk.1.1.2.2.2.2.2.2.2.1, hk.1.1.2.2.2.2.2.2.2.2.1⟩⟩⟩⟩⟩⟩⟩⟩))⟩, ⟨by exact R_pl (Kd.R_mono (rI (q := gb243) (Kd.R_types HO_244002.out BK243.out (by decide)) (fun _ hk => hk.2)) (fun _ hk => hk.1.1))⟩, ⟨by exact V_pl (Kd.V_mono (vI (q := gb243) (Kd.V_mono HO_244003.out (fun k_ hk => (⟨hk, hk.1.2.2.2.2.2.2.2.2.1⟩ : _ ∧ k_ ≠ gb243))) (fun _ hk => hk.2)) (fun _ hk => ⟨hk.1.1.1, ⟨hk.1.1.2.1, ⟨hk.1.2, ⟨hk.1.1.2.2.2.1, ⟨hk.1.1.2.2.2.2.1, ⟨hk.1.1.2.2.2.2.2.1, ⟨hk.1.1.2.2.2.2.2.2.1, ⟨hk.1.1.2.2.2.2.2.2.2.1, hk.1.1.2.2.2.2.2.2.2.2.1⟩⟩⟩⟩⟩⟩⟩⟩))⟩, ⟨by exact N_pl (Kd.N_mono (nI (q := gb243) (Kd.N_mono HO257.out (fun k_ hk => (⟨hk, hk.2.2.2.2.2.2.2.1⟩ : _ ∧ k_ ≠ gb243))) (fun _ hk => hk.2)) (fun _ hk => ⟨hk.1.1, ⟨hk.1.2.1, ⟨hk.1.2.2.1, ⟨hk.1.2.2.2.1, ⟨hk.1.2.2.2.2.1, ⟨hk.1.2.2.2.2.2.1, ⟨hk.1.2.2.2.2.2.2.1, hk.1.2.2.2.2.2.2.2.1⟩⟩⟩⟩⟩⟩⟩))⟩, ⟨bF NB212_243 BK212⟩, ⟨bF NB213_243 BK213⟩, ⟨bF NB214_243 BK214⟩, ⟨bF NB215_243 BK215⟩, ⟨bF NB216_243 BK216⟩, ⟨pB BK243⟩, ⟨be7 HB GE212 GE213 GE214 GE215 GE216 GE243 GE245⟩⟩
end Go.Proofs.Ytojankgmedccdaa.PAw
