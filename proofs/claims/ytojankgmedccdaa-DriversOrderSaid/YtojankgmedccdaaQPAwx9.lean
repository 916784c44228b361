/- Part of the proof of LawDriversOrder: every definition and lemma is one that it names. -/
import Derived.Test.YtojankgmedccdaaQPAwx0
import Derived.Test.YtojankgmedccdaaQPAwx1
import Derived.Test.YtojankgmedccdaaQPAwx3
import Derived.Test.YtojankgmedccdaaQPAwx4
namespace Go.Proofs.Ytojankgmedccdaa.PAw
open Go.RowKit Own PTy Hand PIs YtojankgmedccdaaW.PrintWords YtojankgmedccdaaW.PrintLast YtojankgmedccdaaW.PrintMore
attribute [local go_sem] max2_int min2_int max_two min_two max_three min_three max_four min_four
set_option linter.unusedVariables false
set_option linter.unusedSimpArgs false
def drivers_Shape.l0 : Nat → Int → List (S63) → List (S63) → Int → Int → Int → Int → ByteArray → List ByteArray → List (S26) → Int → Int → List Int → List (S30) → Option ((List (S63)) × Int)
 | 0, _, _, _, _, _, _, _, _, _, _, _, _, _, _ => none
 | k + 1, x3, x10, x36, x37, x38, x193000, x193001, x193002, x193003, x193004, x197000, x197001, x197002, x197003 => if x38 < x37 then (if 0 ≤ x38 then (if x38 < (x36.length : Int) then (if ((rd_T63 x36 x38).f0) > x3 then (some (x10, 0)) else ((drivers_equal.f k x193000 x193001 x193002 x193003 x193004 x197000 x197001 x197002 x197003 ((rd_T63 x36 x38).f1.f0) ((rd_T63 x36 x38).f1.f1) ((rd_T63 x36 x38).f1.f2) ((rd_T63 x36 x38).f1.f3)).bind fun t199 => (if t199 = true then (none) else ((drivers_copied.f ((rd_T63 x36 x38).f1.f0) ((rd_T63 x36 x38).f1.f1) ((rd_T63 x36 x38).f1.f2) ((rd_T63 x36 x38).f1.f3)).bind fun bt200 => (if x10.length < 1954687338268 then (drivers_Shape.l0 k x3 (x10 ++ [(⟨(rd_T63 x36 x38).f0, (⟨bt200.1, bt200.2.1, bt200.2.2.1, bt200.2.2.2⟩ : S30)⟩ : S63)]) x36 x37 (wrap64 (x38 + 1)) x193000 x193001 x193002 x193003 x193004 ((rd_T63 x36 x38).f1.f0) ((rd_T63 x36 x38).f1.f1) ((rd_T63 x36 x38).f1.f2) ((rd_T63 x36 x38).f1.f3)) else (none)))))) else (none)) else (none)) else (some (x10, 0))
def drivers_Shape.f (k : Nat) (a0_0 : Int) (a0_1 : Int) (a0_2 : ByteArray) (l0_3 : List ByteArray) (l0_4 : List (S26)) (a1_0 : Int) (a1_1 : Int) (l1_2 : List Int) (l1_3 : List (S30)) (l1_4 : List (S63)) (a2 : Int) (a3 : Int) : Option ((List (S63)) × Int) := (drivers_Is.f k a0_0 a0_1 a0_2 l0_3 l0_4 a1_0 a1_1 l1_2 l1_3 l1_4).bind fun t194 => (if t194 = true then (if (mn a2 a3) < 0 then (none) else (if (mx a2 a3) > 2000000 then (none) else ((drivers_behind.f a1_0 a1_1 l1_2 l1_3 l1_4 a2).bind fun t195 => (if t195 = true then (some (([] : List (S63)), 5)) else (drivers_Shape.l0 k a3 ([] : List (S63)) l1_4 (l1_4.length : Int) 0 a0_0 a0_1 a0_2 l0_3 l0_4 a1_0 a1_1 l1_2 l1_3))))) else (none))
theorem drivers_Shape.mono_l : ∀ k, (∀ y0 y1 y2 y3 y4 y5 y6 y7 y8 y9 y10 y11 y12 y13, LeO (drivers_Shape.l0 k y0 y1 y2 y3 y4 y5 y6 y7 y8 y9 y10 y11 y12 y13) (drivers_Shape.l0 (k + 1) y0 y1 y2 y3 y4 y5 y6 y7 y8 y9 y10 y11 y12 y13))
 | 0 => fun _ _ _ _ _ _ _ _ _ _ _ _ _ _ r h => by simp [drivers_Shape.l0] at h
 | k + 1 => by
  have ih0 := drivers_Shape.mono_l k
  ·intro y0 y1 y2 y3 y4 y5 y6 y7 y8 y9 y10 y11 y12 y13
   unfold drivers_Shape.l0
   repeat' first
   | (with_reducible exact ih0 _ _ _ _ _ _ _ _ _ _ _ _ _ _)
   | (with_reducible exact drivers_Is.mono _ _ _ _ _ _ _ _ _ _ _)
   | (with_reducible exact drivers_equal.mono _ _ _ _ _ _ _ _ _ _ _ _ _ _)
   | (with_reducible exact LeO.refl _)
   | (with_reducible exact LeO.none _)
   | (with_reducible refine LeO.ite ?_ ?_)
   | (with_reducible refine LeO.bind ?_ (fun _ => ?_))
   | exact ih0 _ _ _ _ _ _ _ _ _ _ _ _ _ _
   | exact drivers_Is.mono _ _ _ _ _ _ _ _ _ _ _
   | exact drivers_equal.mono _ _ _ _ _ _ _ _ _ _ _ _ _ _
   | exact LeO.none _
   | refine LeO.ite ?_ ?_
   | refine LeO.bind ?_ (fun _ => ?_)
theorem drivers_Shape.mono : ∀ a0 a1 a2 a3 a4 a5 a6 a7 a8 a9 a10 a11 k, LeO (drivers_Shape.f k a0 a1 a2 a3 a4 a5 a6 a7 a8 a9 a10 a11) (drivers_Shape.f (k + 1) a0 a1 a2 a3 a4 a5 a6 a7 a8 a9 a10 a11) := by
 intro a0 a1 a2 a3 a4 a5 a6 a7 a8 a9 a10 a11 k
 have ih0 := drivers_Shape.mono_l k
 unfold drivers_Shape.f
 repeat' first
   | (with_reducible exact ih0 _ _ _ _ _ _ _ _ _ _ _ _ _ _)
   | (with_reducible exact drivers_Is.mono _ _ _ _ _ _ _ _ _ _ _)
   | (with_reducible exact drivers_equal.mono _ _ _ _ _ _ _ _ _ _ _ _ _ _)
   | (with_reducible exact LeO.refl _)
   | (with_reducible exact LeO.none _)
   | (with_reducible refine LeO.ite ?_ ?_)
   | (with_reducible refine LeO.bind ?_ (fun _ => ?_))
   | exact ih0 _ _ _ _ _ _ _ _ _ _ _ _ _ _
   | exact drivers_Is.mono _ _ _ _ _ _ _ _ _ _ _
   | exact drivers_equal.mono _ _ _ _ _ _ _ _ _ _ _ _ _ _
   | exact LeO.none _
   | refine LeO.ite ?_ ?_
   | refine LeO.bind ?_ (fun _ => ?_)
def drivers_Shape.T12 : Bool × List (List Nat × List Nat) := (true, [([], []), ([], []), ([1], [1]), ([], []), ([3], [3]), ([4], [4]), ([2, 5], [2, 5]), ([6], [6]), ([0, 7, 5], [0, 7]), ([8, 8, 0, 1, 2, 3, 4, 5, 6, 7, 8], [0, 8])])
def drivers_Shape.B12 : List Nat := [0, 0, 2, 0, 8, 24, 62, 126, 255, 511]
theorem drivers_Shape.tab12 : rtab .any (opsOf Try.f33 12) = drivers_Shape.T12 := by kernel_rfl
theorem drivers_Shape.bits12 : waitsOk drivers_Shape.T12.2 drivers_Shape.B12 = true := by kernel_rfl
set_option maxHeartbeats 8000000 in
set_option maxRecDepth 100000 in
theorem drivers_Shape.calls (k : Nat) (a0_0 : Int) (a0_1 : Int) (a0_2 : ByteArray) (A0_3 : Option Addr) (c0_3 : Nat) (l0_3 : List ByteArray) (A0_4 : Option Addr) (c0_4 : Nat) (l0_4 : List (S26)) (a1_0 : Int) (a1_1 : Int) (P1_2_ : Nat → Prop) (A1_2 : Option Addr) (c1_2 : Nat) (l1_2 : List Int) (P1_3_ : Nat → Prop) (A1_3 : Option Addr) (c1_3 : Nat) (l1_3 : List (S30)) (P1_4_ : Nat → Prop) (A1_4 : Option Addr) (c1_4 : Nat) (l1_4 : List (S63)) (a2 : Int) (a3 : Int) (r1 : List (S63)) (r2 : Int) (w : World) (hG : Glob w) (hr0_3 : Kd.C Kd.string w A0_3 l0_3.length l0_3) (hc0_3 : l0_3.length ≤ c0_3) (hr0_4 : Kd.C k26 w A0_4 l0_4.length l0_4) (hc0_4 : l0_4.length ≤ c0_4) (hs1_2 : Kd.V (Kd.int .u8) 73 w w.heap.size (fun k_ => P1_2_ k_) (.slice A1_2 l1_2.length c1_2) l1_2) (hs1_3 : Kd.V k30 30 w w.heap.size (fun k_ => P1_3_ k_) (.slice A1_3 l1_3.length c1_3) l1_3) (hs1_4 : Kd.V k63 63 w w.heap.size (fun k_ => P1_4_ k_) (.slice A1_4 l1_4.length c1_4) l1_4) (h : drivers_Shape.f k a0_0 a0_1 a0_2 l0_3 l0_4 a1_0 a1_1 l1_2 l1_3 l1_4 a2 a3 = some (r1, r2)) :
  Calls Try.prog 33 #[.agg #[.int .i64 a0_0, .int .i64 a0_1, .string a0_2, .slice A0_3 l0_3.length c0_3, .slice A0_4 l0_4.length c0_4], .agg #[.int .i64 a1_0, .int .i64 a1_1, .slice A1_2 l1_2.length c1_2, .slice A1_3 l1_3.length c1_3, .slice A1_4 l1_4.length c1_4], .int .i64 a2, .int .i64 a3] w fun e w' => ∃ v0_ : Value, e = .returned (.tuple #[v0_, .int .i64 r2]) ∧ Kd.N k63 63 w' w.heap.size (fun k_ => ((P1_2_ k_ ∨ P1_3_ k_ ∨ P1_4_ k_) ∨ w.heap.size ≤ k_)) v0_ r1 ∧ Below w.heap.size w w' := by
 have HG := mk0 hG; clear hG
 have hu26 := Try.underlying26
 have hu33 := Try.underlying33
 have hu30 := Try.underlying30
 have hu63 := Try.underlying63
 have HR0_3 := mk0 hr0_3; have HC0_3 := mk0 hc0_3; clear hr0_3 hc0_3; have HR0_4 := mk0 hr0_4; have HC0_4 := mk0 hc0_4; clear hr0_4 hc0_4
 have HO1_2 := mk0 (show Kd.V (Kd.int .u8) 73 w w.heap.size (fun k_ => ((P1_2_ k_ ∨ P1_3_ k_ ∨ P1_4_ k_) ∨ w.heap.size ≤ k_)) (.slice A1_2 l1_2.length c1_2) l1_2 from Kd.V_mono hs1_2 (fun k_ hk => .inl (.inl hk)))
 have HO1_3 := mk0 (show Kd.V k30 30 w w.heap.size (fun k_ => ((P1_2_ k_ ∨ P1_3_ k_ ∨ P1_4_ k_) ∨ w.heap.size ≤ k_)) (.slice A1_3 l1_3.length c1_3) l1_3 from Kd.V_mono hs1_3 (fun k_ hk => .inl (.inr (.inl hk))))
 have HO1_4 := mk0 (show Kd.V k63 63 w w.heap.size (fun k_ => ((P1_2_ k_ ∨ P1_3_ k_ ∨ P1_4_ k_) ∨ w.heap.size ≤ k_)) (.slice A1_4 l1_4.length c1_4) l1_4 from Kd.V_mono hs1_4 (fun k_ hk => .inl (.inr (.inr hk))))
 have HB := mk0 (Below.refl w.heap.size w)
 have H := h; unfold drivers_Shape.f at H
 clear h
 replace H := bS H; obtain ⟨t194, A5, H⟩ := H
 replace H := iB' H; obtain ⟨rfl, H⟩ | ⟨rfl, H⟩ := H
 ·exact absurd H (by simp)
 obtain ⟨ji7, hji7⟩ : ∃ j_ : Int, (mn a2 a3) = j_ := ⟨_, rfl⟩
 replace H : (if (ji7) < 0 then (none) else (if (mx a2 a3) > 2000000 then (none) else ((drivers_behind.f a1_0 a1_1 l1_2 l1_3 l1_4 a2).bind fun t195 => (if t195 = true then (some (([] : List (S63)), 5)) else (drivers_Shape.l0 k a3 ([] : List (S63)) l1_4 (l1_4.length : Int) 0 a0_0 a0_1 a0_2 l0_3 l0_4 a1_0 a1_1 l1_2 l1_3))))) = some (r1, r2) := by first | (rw [hji7] at H; exact H) | (simp only [hji7] at H ⊢; exact H)
 (try rw [hji7] at A5)
 have hji7_ : (if a3 < a2 then a3 else a2) = ji7 := hji7
 by_cases c8 : (ji7) < 0
 ·rw [if_pos c8] at H
  exact absurd H (by simp)
 rw [if_neg c8] at H; have c8b0 : decide ((ji7) < 0) = false := decide_eq_false c8; clear c8
 obtain ⟨ji9, hji9⟩ : ∃ j_ : Int, (mx a2 a3) = j_ := ⟨_, rfl⟩
 replace H : (if (ji9) > 2000000 then (none) else ((drivers_behind.f a1_0 a1_1 l1_2 l1_3 l1_4 a2).bind fun t195 => (if t195 = true then (some (([] : List (S63)), 5)) else (drivers_Shape.l0 k a3 ([] : List (S63)) l1_4 (l1_4.length : Int) 0 a0_0 a0_1 a0_2 l0_3 l0_4 a1_0 a1_1 l1_2 l1_3)))) = some (r1, r2) := by first | (rw [hji9] at H; exact H) | (simp only [hji9] at H ⊢; exact H)
 (try rw [hji9] at A5)
 have hji9_ : (if a2 < a3 then a3 else a2) = ji9 := hji9
 by_cases c10 : (ji9) > 2000000
 ·rw [if_pos c10] at H
  exact absurd H (by simp)
 rw [if_neg c10] at H; have c10b0 : decide (2000000 < (ji9)) = false := decide_eq_false c10; clear c10
 replace H := bS H; obtain ⟨t195, A11, H⟩ := H
 replace H := iB H; obtain ⟨rfl, H⟩ | ⟨rfl, H⟩ := H
 ·simp only [Option.some.injEq, Prod.mk.injEq] at H
  obtain ⟨rfl, rfl⟩ := H
  go_enter Try.func33, Try.ntmps33
  go_wp2_with (first | ((with_reducible refine box_event rfl (N := 4) rfl (cs := #[.int .i64 a0_0, .int .i64 a0_1, .string a0_2, .slice A0_3 l0_3.length c0_3, .slice A0_4 l0_4.length c0_4]) (t := 26) ?hr ?_); (case hr => first | (go_simp; done) | (go_simp; rfl)); intro gb192 hg w13 hbox hb; replace HO1_2 := vB HO1_2 hg hb; replace HO1_3 := vB HO1_3 hg hb; replace HO1_4 := vB HO1_4 hg hb; have BK192 := mk0 (hbox); have GE192 := bs (be HB) hg; replace HB := kh HB hb; clear hb hbox hg) | ((with_reducible refine box_event rfl (N := 5) rfl (cs := #[.int .i64 a1_0, .int .i64 a1_1, .slice A1_2 l1_2.length c1_2, .slice A1_3 l1_3.length c1_3, .slice A1_4 l1_4.length c1_4]) (t := 33) ?hr ?_); (case hr => first | (go_simp; done) | (go_simp; rfl)); intro gb193 hg w14 hbox hb; replace HO1_2 := vB HO1_2 hg hb; replace HO1_3 := vB HO1_3 hg hb; replace HO1_4 := vB HO1_4 hg hb; have BK193 := mk0 (hbox); have GE193 := bs (be1 HB GE192) hg; replace HB := kh1 HB GE192 hb; have NB192_193 := nb1 (bu BK192) hg; have NB193_192 := nb2 (bu BK192) hg; replace BK192 := kb BK192 hb; clear hb hbox hg; have hnb15 := NB192_193.out; have hnc15 := NB193_192.out; have z16 := cells5 BK192.out; have z17 := cells5 BK193.out) | ((with_reducible refine gate_callee (f := 19) rfl ?_); refine goB (some 16) rfl rfl Try.func19 (by kernel_rfl) rfl #[.agg #[.int .i64 a0_0, .int .i64 a0_1, .string a0_2, .slice A0_3 l0_3.length c0_3, .slice A0_4 l0_4.length c0_4], .agg #[.int .i64 a1_0, .int .i64 a1_1, .slice A1_2 l1_2.length c1_2, .slice A1_3 l1_3.length c1_3, .slice A1_4 l1_4.length c1_4]] rfl rfl (drivers_Is.calls k a0_0 a0_1 a0_2 _ _ l0_3 _ _ l0_4 a1_0 a1_1 _ _ l1_2 _ _ l1_3 _ _ l1_4 true _ (glob_below HG.out (be2 HB GE192 GE193)) (cu HR0_3 HB) HC0_3.out (cu HR0_4 HB) HC0_4.out (C_up (Kd.V_reads' HO1_2.out).2.2) ((Kd.V_reads' HO1_2.out).2.1) (C_up (Kd.V_reads' HO1_3.out).2.2) ((Kd.V_reads' HO1_3.out).2.1) (C_up (Kd.V_reads' HO1_4.out).2.2) ((Kd.V_reads' HO1_4.out).2.1) A5.out) ?_; intro w18 hb; replace HO1_2 := vb HO1_2 hb; replace HO1_3 := vb HO1_3 hb; replace HO1_4 := vb HO1_4 hb; replace BK192 := kb BK192 hb; replace BK193 := kb BK193 hb; replace HB := kh2 HB GE192 GE193 hb; have z19 := cells5 BK193.out) | ((with_reducible refine gate_callee (f := 50) rfl ?_); refine goB (some 32) rfl rfl Try.func50 (by kernel_rfl) rfl #[.agg #[.int .i64 a1_0, .int .i64 a1_1, .slice A1_2 l1_2.length c1_2, .slice A1_3 l1_3.length c1_3, .slice A1_4 l1_4.length c1_4], .int .i64 a2] rfl rfl (drivers_behind.calls a1_0 a1_1 _ _ l1_2 _ _ l1_3 _ _ l1_4 a2 true _ (C_up (Kd.V_reads' HO1_2.out).2.2) ((Kd.V_reads' HO1_2.out).2.1) (C_up (Kd.V_reads' HO1_3.out).2.2) ((Kd.V_reads' HO1_3.out).2.1) (C_up (Kd.V_reads' HO1_4.out).2.2) ((Kd.V_reads' HO1_4.out).2.1) A11.out) ?_; intro w20 hb; replace HO1_2 := vb HO1_2 hb; replace HO1_3 := vb HO1_3 hb; replace HO1_4 := vb HO1_4 hb; replace BK192 := kb BK192 hb; replace BK193 := kb BK193 hb; replace HB := kh2 HB GE192 GE193 hb))
  go_ret2
  exact ⟨_, by first | rfl | (simp [errW_none, errW_some] <;> rfl) | (simp only [← hji7, ← hji9]; first | rfl | (simp [errW_none, errW_some] <;> rfl)) | (simp [*, errW_none, errW_some] <;> rfl), by first | exact Kd.R_nil _ _ _ _ _ | exact Kd.N_nil _ _ _ _ _ | exact Kd.V_nil _ _ _ _ _ | exact Kd.Q_nil _ _ _ _ _ | exact Kd.S_nil _ _ _ _ _, be2 HB GE192 GE193⟩
 have H' := mk0 H
 clear H
 go_enter Try.func33, Try.ntmps33
 go_wp2_with (first | ((with_reducible refine box_event rfl (N := 4) rfl (cs := #[.int .i64 a0_0, .int .i64 a0_1, .string a0_2, .slice A0_3 l0_3.length c0_3, .slice A0_4 l0_4.length c0_4]) (t := 26) ?hr ?_); (case hr => first | (go_simp; done) | (go_simp; rfl)); intro gb192 hg w21 hbox hb; replace HO1_2 := vB HO1_2 hg hb; replace HO1_3 := vB HO1_3 hg hb; replace HO1_4 := vB HO1_4 hg hb; have BK192 := mk0 (hbox); have GE192 := bs (be HB) hg; replace HB := kh HB hb; clear hb hbox hg) | ((with_reducible refine box_event rfl (N := 5) rfl (cs := #[.int .i64 a1_0, .int .i64 a1_1, .slice A1_2 l1_2.length c1_2, .slice A1_3 l1_3.length c1_3, .slice A1_4 l1_4.length c1_4]) (t := 33) ?hr ?_); (case hr => first | (go_simp; done) | (go_simp; rfl)); intro gb193 hg w22 hbox hb; replace HO1_2 := vB HO1_2 hg hb; replace HO1_3 := vB HO1_3 hg hb; replace HO1_4 := vB HO1_4 hg hb; have BK193 := mk0 (hbox); have GE193 := bs (be1 HB GE192) hg; replace HB := kh1 HB GE192 hb; have NB192_193 := nb1 (bu BK192) hg; have NB193_192 := nb2 (bu BK192) hg; replace BK192 := kb BK192 hb; clear hb hbox hg; have hnb23 := NB192_193.out; have hnc23 := NB193_192.out; have z24 := cells5 BK192.out; have z25 := cells5 BK193.out) | ((with_reducible refine gate_callee (f := 19) rfl ?_); refine goB (some 16) rfl rfl Try.func19 (by kernel_rfl) rfl #[.agg #[.int .i64 a0_0, .int .i64 a0_1, .string a0_2, .slice A0_3 l0_3.length c0_3, .slice A0_4 l0_4.length c0_4], .agg #[.int .i64 a1_0, .int .i64 a1_1, .slice A1_2 l1_2.length c1_2, .slice A1_3 l1_3.length c1_3, .slice A1_4 l1_4.length c1_4]] rfl rfl (drivers_Is.calls k a0_0 a0_1 a0_2 _ _ l0_3 _ _ l0_4 a1_0 a1_1 _ _ l1_2 _ _ l1_3 _ _ l1_4 true _ (glob_below HG.out (be2 HB GE192 GE193)) (cu HR0_3 HB) HC0_3.out (cu HR0_4 HB) HC0_4.out (C_up (Kd.V_reads' HO1_2.out).2.2) ((Kd.V_reads' HO1_2.out).2.1) (C_up (Kd.V_reads' HO1_3.out).2.2) ((Kd.V_reads' HO1_3.out).2.1) (C_up (Kd.V_reads' HO1_4.out).2.2) ((Kd.V_reads' HO1_4.out).2.1) A5.out) ?_; intro w26 hb; replace HO1_2 := vb HO1_2 hb; replace HO1_3 := vb HO1_3 hb; replace HO1_4 := vb HO1_4 hb; replace BK192 := kb BK192 hb; replace BK193 := kb BK193 hb; replace HB := kh2 HB GE192 GE193 hb; have z27 := cells5 BK193.out) | ((with_reducible refine gate_callee (f := 50) rfl ?_); refine goB (some 32) rfl rfl Try.func50 (by kernel_rfl) rfl #[.agg #[.int .i64 a1_0, .int .i64 a1_1, .slice A1_2 l1_2.length c1_2, .slice A1_3 l1_3.length c1_3, .slice A1_4 l1_4.length c1_4], .int .i64 a2] rfl rfl (drivers_behind.calls a1_0 a1_1 _ _ l1_2 _ _ l1_3 _ _ l1_4 a2 false _ (C_up (Kd.V_reads' HO1_2.out).2.2) ((Kd.V_reads' HO1_2.out).2.1) (C_up (Kd.V_reads' HO1_3.out).2.2) ((Kd.V_reads' HO1_3.out).2.1) (C_up (Kd.V_reads' HO1_4.out).2.2) ((Kd.V_reads' HO1_4.out).2.1) A11.out) ?_; intro w28 hb; replace HO1_2 := vb HO1_2 hb; replace HO1_3 := vb HO1_3 hb; replace HO1_4 := vb HO1_4 hb; replace BK192 := kb BK192 hb; replace BK193 := kb BK193 hb; replace HB := kh2 HB GE192 GE193 hb; have z29 := cells5 BK193.out) | ((with_reducible refine box_event rfl (N := 11) rfl (cs := #[.int .i64 0, .int .i64 0, .slice none 0 0, .slice none 0 0]) (t := 30) ?hr ?_); (case hr => first | (go_simp; done) | (go_simp; rfl)); intro gb196 hg w30 hbox hb; replace HO1_2 := vB HO1_2 hg hb; replace HO1_3 := vB HO1_3 hg hb; replace HO1_4 := vB HO1_4 hg hb; have BK196 := mk0 (hbox); have GE196 := bs (be2 HB GE192 GE193) hg; replace HB := kh2 HB GE192 GE193 hb; have NB192_196 := nb1 (bu BK192) hg; have NB196_192 := nb2 (bu BK192) hg; replace BK192 := kb BK192 hb; have NB193_196 := nb1 (bu BK193) hg; have NB196_193 := nb2 (bu BK193) hg; replace BK193 := kb BK193 hb; clear hb hbox hg; have hnb31 := NB196_192.out; have hnc31 := NB192_196.out; have hnb32 := NB196_193.out; have hnc32 := NB193_196.out; have z33 := cells4 BK196.out; have z34 := cells5 BK193.out))
 go_loopg [10, 38] k (fun kq v10 v38 w' => ∃ (x10_1 : List (S63)) (x38_1 : Int) (x197000_1 : Int) (x197001_1 : Int) (x197002_1 : List Int) (x197003_1 : List (S30)) (u197002 : Value) (u197003 : Value), v38 = .int .i64 x38_1 ∧ Aside0 (drivers_Shape.l0 kq a3 x10_1 l1_4 (l1_4.length : Int) x38_1 a0_0 a0_1 a0_2 l0_3 l0_4 x197000_1 x197001_1 x197002_1 x197003_1 = some (r1, r2)) ∧ Aside0 (kq ≤ k) ∧ Aside0 (Kd.N k63 63 w' w.heap.size (fun k_ => ((P1_2_ k_ ∨ P1_3_ k_ ∨ P1_4_ k_) ∨ w.heap.size ≤ k_) ∧ k_ ≠ gb192 ∧ k_ ≠ gb193 ∧ k_ ≠ gb196) v10 x10_1) ∧ Aside0 (Kd.V k63 63 w' w.heap.size (fun k_ => ((P1_2_ k_ ∨ P1_3_ k_ ∨ P1_4_ k_) ∨ w.heap.size ≤ k_) ∧ some k_ ≠ (v10 : Value).ownBlock ∧ k_ ≠ gb192 ∧ k_ ≠ gb193 ∧ k_ ≠ gb196) (.slice A1_4 l1_4.length c1_4) l1_4) ∧ Aside0 (Kd.V (Kd.int .u8) 73 w' w.heap.size (fun k_ => ((P1_2_ k_ ∨ P1_3_ k_ ∨ P1_4_ k_) ∨ w.heap.size ≤ k_) ∧ some k_ ≠ (v10 : Value).ownBlock ∧ k_ ≠ gb192 ∧ k_ ≠ gb193 ∧ k_ ≠ gb196) (.slice A1_2 l1_2.length c1_2) l1_2) ∧ Aside0 (Kd.V k30 30 w' w.heap.size (fun k_ => ((P1_2_ k_ ∨ P1_3_ k_ ∨ P1_4_ k_) ∨ w.heap.size ≤ k_) ∧ some k_ ≠ (v10 : Value).ownBlock ∧ k_ ≠ gb192 ∧ k_ ≠ gb193 ∧ k_ ≠ gb196) (.slice A1_3 l1_3.length c1_3) l1_3) ∧ Aside0 (Kd.V k63 63 w' w.heap.size (fun k_ => ((P1_2_ k_ ∨ P1_3_ k_ ∨ P1_4_ k_) ∨ w.heap.size ≤ k_) ∧ some k_ ≠ (v10 : Value).ownBlock ∧ k_ ≠ gb192 ∧ k_ ≠ gb193 ∧ k_ ≠ gb196) (.slice A1_4 l1_4.length c1_4) l1_4) ∧ Aside0 (Kd.V (Kd.int .u8) 73 w' w.heap.size (fun k_ => ((P1_2_ k_ ∨ P1_3_ k_ ∨ P1_4_ k_) ∨ w.heap.size ≤ k_) ∧ some k_ ≠ (v10 : Value).ownBlock ∧ k_ ≠ gb192 ∧ k_ ≠ gb193 ∧ k_ ≠ gb196) u197002 x197002_1) ∧ Aside0 (Kd.V k30 30 w' w.heap.size (fun k_ => ((P1_2_ k_ ∨ P1_3_ k_ ∨ P1_4_ k_) ∨ w.heap.size ≤ k_) ∧ some k_ ≠ (v10 : Value).ownBlock ∧ k_ ≠ gb192 ∧ k_ ≠ gb193 ∧ k_ ≠ gb196) u197003 x197003_1) ∧ Aside0 (w'.heap[gb192]? = some (.cells #[.int .i64 a0_0, .int .i64 a0_1, .string a0_2, (.slice A0_3 l0_3.length c0_3), (.slice A0_4 l0_4.length c0_4)] 26 (0, 0))) ∧ Aside0 (w'.heap[gb193]? = some (.cells #[.int .i64 a1_0, .int .i64 a1_1, (.slice A1_2 l1_2.length c1_2), (.slice A1_3 l1_3.length c1_3), (.slice A1_4 l1_4.length c1_4)] 33 (0, 0))) ∧ Aside0 (w'.heap[gb196]? = some (.cells #[.int .i64 x197000_1, .int .i64 x197001_1, u197002, u197003] 30 (0, 0))) ∧ Aside0 (Below w.heap.size w w'))
 case atStart => exact ⟨(([] : List (S63))), (0), (a1_0), (a1_1), (l1_2), (l1_3), (.slice A1_2 l1_2.length c1_2), (.slice A1_3 l1_3.length c1_3), rfl, H', ⟨Nat.le_refl _⟩, ⟨by first | exact Kd.R_nil _ _ _ _ _ | exact Kd.N_nil _ _ _ _ _ | exact Kd.V_nil _ _ _ _ _ | exact Kd.Q_nil _ _ _ _ _ | exact Kd.S_nil _ _ _ _ _⟩, ⟨by exact V_pl (Kd.V_mono (vI (q := gb196) (Kd.V_mono HO1_4.out (fun k_ hk => (⟨hk, hk.2⟩ : _ ∧ k_ ≠ gb196))) (fun _ hk => hk.2)) (fun _ hk => ⟨hk.1.1.1.1, ⟨(by simp [Value.ownBlock]), ⟨hk.1.1.1.2, ⟨hk.1.1.2, hk.1.2⟩⟩⟩⟩))⟩, ⟨by exact V_pl (Kd.V_mono (vI (q := gb196) (Kd.V_mono HO1_2.out (fun k_ hk => (⟨hk, hk.2⟩ : _ ∧ k_ ≠ gb196))) (fun _ hk => hk.2)) (fun _ hk => ⟨hk.1.1.1.1, ⟨(by simp [Value.ownBlock]), ⟨hk.1.1.1.2, ⟨hk.1.1.2, hk.1.2⟩⟩⟩⟩))⟩, ⟨by exact V_pl (Kd.V_mono (vI (q := gb196) (Kd.V_mono HO1_3.out (fun k_ hk => (⟨hk, hk.2⟩ : _ ∧ k_ ≠ gb196))) (fun _ hk => hk.2)) (fun _ hk => ⟨hk.1.1.1.1, ⟨(by simp [Value.ownBlock]), ⟨hk.1.1.1.2, ⟨hk.1.1.2, hk.1.2⟩⟩⟩⟩))⟩, ⟨by exact V_pl (Kd.V_mono (vI (q := gb196) (Kd.V_mono HO1_4.out (fun k_ hk => (⟨hk, hk.2⟩ : _ ∧ k_ ≠ gb196))) (fun _ hk => hk.2)) (fun _ hk => ⟨hk.1.1.1.1, ⟨(by simp [Value.ownBlock]), ⟨hk.1.1.1.2, ⟨hk.1.1.2, hk.1.2⟩⟩⟩⟩))⟩, ⟨by exact V_pl (Kd.V_mono (vI (q := gb196) (Kd.V_mono HO1_2.out (fun k_ hk => (⟨hk, hk.2⟩ : _ ∧ k_ ≠ gb196))) (fun _ hk => hk.2)) (fun _ hk => ⟨hk.1.1.1.1, ⟨(by simp [Value.ownBlock]), ⟨hk.1.1.1.2, ⟨hk.1.1.2, hk.1.2⟩⟩⟩⟩))⟩, ⟨by exact V_pl (Kd.V_mono (vI (q := gb196) (Kd.V_mono HO1_3.out (fun k_ hk => (⟨hk, hk.2⟩ : _ ∧ k_ ≠ gb196))) (fun _ hk => hk.2)) (fun _ hk => ⟨hk.1.1.1.1, ⟨(by simp [Value.ownBlock]), ⟨hk.1.1.1.2, ⟨hk.1.1.2, hk.1.2⟩⟩⟩⟩))⟩, ⟨bF NB192_196 BK192⟩, ⟨bF NB193_196 BK193⟩, ⟨pB BK196⟩, ⟨be3 HB GE192 GE193 GE196⟩⟩
 case round =>
  clear H'
  try clear c8; try clear c8b0; try clear c10; try clear c10b0
  obtain ⟨x10_1, x38_1, x197000_1, x197001_1, x197002_1, x197003_1, u197002, u197003, rfl, HA, HK1, HO_10, HO_36, HO_194002, HO_194003, HO_194004, HO_197002, HO_197003, BK192, BK193, BK196, HB⟩ := hrel
  cases gk with
  | zero => exact absurd HA.out (by simp [drivers_Shape.l0])
  | succ k1 =>
   have H := HA.out; clear HA
   simp only [drivers_Shape.l0] at H
   replace H := iD' H; obtain ⟨-, c35b0, H⟩ | ⟨-, c35b0, H⟩ := H
   ·simp only [Option.some.injEq, Prod.mk.injEq] at H
    obtain ⟨rfl, rfl⟩ := H
    go_wp2
    go_ret2
    exact ⟨_, by first | rfl | (simp [errW_none, errW_some] <;> rfl) | (simp only [← hji7, ← hji9]; first | rfl | (simp [errW_none, errW_some] <;> rfl)) | (simp [*, errW_none, errW_some] <;> rfl), by exact N_pl (Kd.N_mono HO_10.out (fun _ hk => hk.1)), be3 HB GE192 GE193 GE196⟩
   replace H := iN H; obtain ⟨-, c36b0, H⟩ := H
   replace H := iN H; obtain ⟨-, c37b0, H⟩ := H
   by_cases c38 : ((rd_T63 l1_4 x38_1).f0) > a3
   ·rw [if_pos c38] at H
    have c38b0 : decide (a3 < ((rd_T63 l1_4 x38_1).f0)) = true := decide_eq_true c38; clear c38
    simp only [Option.some.injEq, Prod.mk.injEq] at H
    obtain ⟨rfl, rfl⟩ := H
    have p197 : 0 ≤ (x38_1 : Int) := od
    have q197 : x38_1 < (l1_4.length : Int) := od
    obtain ⟨ad197, A197_3, c197_3, A197_4, c197_4, e197, hx197_0, hx197_1, hx197_2, hx197_3, hx197_4, hl197_3, hi197_3, hl197_4, hi197_4⟩ := at_T63 (Kd.V_reads' HO_36.out).2.2 x38_1 p197 q197
    cases e197
    obtain ⟨ce197, hce197, hMe197, hcc197⟩ := Kd.V_get HO_36.out z63 x38_1 p197 (by first | exact q197 | exact of_decide_eq_true (by assumption) | (have e_ := (Kd.V_reads' HO_36.out).1; omega))
    obtain ⟨ua197_3, uc197_3, ua197_4, uc197_4, rfl, ul197_3, ge197_3, ul197_4, ge197_4⟩ := k63_openF hMe197
    have hv197_3 := hcc197 3 _ rfl
    rw [add_field _ _ 3 (by omega)] at hv197_3
    replace hv197_3 := Option.some.inj (hv197_3.symm.trans hx197_3)
    injection hv197_3 with hva_ hvn_ hvc_
    rw [hva_] at ge197_3
    rw [hvc_] at ul197_3
    have HL197_3 := mk0 (show Kd.V (Kd.int .u8) 73 _ w.heap.size _ _ ((rd_T63 l1_4 x38_1).f1.f2) from Kd.V_mk ul197_3 ge197_3)
    clear hva_ hvn_ hvc_ ge197_3 ul197_3
    have hv197_4 := hcc197 4 _ rfl
    rw [add_field _ _ 4 (by omega)] at hv197_4
    replace hv197_4 := Option.some.inj (hv197_4.symm.trans hx197_4)
    injection hv197_4 with hva_ hvn_ hvc_
    rw [hva_] at ge197_4
    rw [hvc_] at ul197_4
    have HL197_4 := mk0 (show Kd.V k30 30 _ w.heap.size _ _ ((rd_T63 l1_4 x38_1).f1.f3) from Kd.V_mk ul197_4 ge197_4)
    clear hva_ hvn_ hvc_ ge197_4 ul197_4; clear hcc197 hce197; have HR197_3 := mk0 hi197_3; have HC197_3 := mk0 hl197_3; clear hi197_3 hl197_3; have HR197_4 := mk0 hi197_4; have HC197_4 := mk0 hl197_4; clear hi197_4 hl197_4; replace p197 := eq_true p197; replace q197 := eq_true q197
    go_wp2_with ((with_reducible refine box_event rfl (N := 13) rfl (cs := #[.int .i64 0, .int .i64 0, .int .i64 0, .slice none 0 0, .slice none 0 0]) (t := 63) ?hr ?_); (case hr => first | (go_simp; done) | (go_simp; rfl)); intro gb198 hg w39 hbox hb; replace HO_10 := nB HO_10 hg hb; replace HO_36 := vB HO_36 hg hb; replace HO_194002 := vB HO_194002 hg hb; replace HO_194003 := vB HO_194003 hg hb; replace HO_194004 := vB HO_194004 hg hb; replace HO_197002 := vB HO_197002 hg hb; replace HO_197003 := vB HO_197003 hg hb; replace HL197_3 := vB HL197_3 hg hb; replace HL197_4 := vB HL197_4 hg hb; replace HR197_3 := cb HR197_3 hb; replace HR197_4 := cb HR197_4 hb; have BK198 := mk0 (hbox); have GE198 := bs (be3 HB GE192 GE193 GE196) hg; replace HB := kh3 HB GE192 GE193 GE196 hb; have NB192_198 := nb1 (bu BK192) hg; have NB198_192 := nb2 (bu BK192) hg; replace BK192 := kb BK192 hb; have NB193_198 := nb1 (bu BK193) hg; have NB198_193 := nb2 (bu BK193) hg; replace BK193 := kb BK193 hb; have NB196_198 := nb1 (bu BK196) hg; have NB198_196 := nb2 (bu BK196) hg; replace BK196 := kb BK196 hb; clear hb hbox hg; have hnb40 := NB198_192.out; have hnc40 := NB192_198.out; have hnb41 := NB198_193.out; have hnc41 := NB193_198.out; have hnb42 := NB198_196.out; have hnc42 := NB196_198.out; have z43 := cells5 BK198.out)
    go_ret2
    exact ⟨_, by first | rfl | (simp [errW_none, errW_some] <;> rfl) | (simp only [← hji7, ← hji9]; first | rfl | (simp [errW_none, errW_some] <;> rfl)) | (simp [*, errW_none, errW_some] <;> rfl), by exact N_pl (Kd.N_mono (nI (q := gb198) (Kd.N_mono HO_10.out (fun k_ hk => (⟨hk, hk.2⟩ : _ ∧ k_ ≠ gb198))) (fun _ hk => hk.2)) (fun _ hk => hk.1.1.1)), be4 HB GE192 GE193 GE196 GE198⟩
   rw [if_neg c38] at H; have c38b0 : decide (a3 < ((rd_T63 l1_4 x38_1).f0)) = false := decide_eq_false c38; clear c38
   replace H := bS H; obtain ⟨t199, A44, H⟩ := H
   replace H := iB H; obtain ⟨rfl, H⟩ | ⟨rfl, H⟩ := H
   ·exact absurd H (by simp)
   replace H := Option.bind_eq_some_iff.mp H
   obtain ⟨⟨t200, t201, t202, t205⟩, A460, H⟩ := H
   replace H : (if x10_1.length < 1954687338268 then (drivers_Shape.l0 k1 a3 (x10_1 ++ [(⟨(rd_T63 l1_4 x38_1).f0, (⟨t200, t201, t202, t205⟩ : S30)⟩ : S63)]) l1_4 (l1_4.length : Int) (wrap64 (x38_1 + 1)) a0_0 a0_1 a0_2 l0_3 l0_4 ((rd_T63 l1_4 x38_1).f1.f0) ((rd_T63 l1_4 x38_1).f1.f1) ((rd_T63 l1_4 x38_1).f1.f2) ((rd_T63 l1_4 x38_1).f1.f3)) else (none)) = some (r1, r2) := H
   have A46 := mk0 A460; clear A460
   by_cases c47 : x10_1.length < 1954687338268
   rotate_left
   ·rw [if_neg c47] at H
    exact absurd H (by simp)
   rw [if_pos c47] at H; have LMc47 := mk0 c47; clear c47
   obtain ⟨y208, hy208⟩ : ∃ y_ : List (S63), y_ = (x10_1 ++ [(⟨(rd_T63 l1_4 x38_1).f0, (⟨t200, t201, t202, t205⟩ : S30)⟩ : S63)]) := ⟨_, rfl⟩
   replace H : (drivers_Shape.l0 k1 a3 y208 l1_4 (l1_4.length : Int) (wrap64 (x38_1 + 1)) a0_0 a0_1 a0_2 l0_3 l0_4 ((rd_T63 l1_4 x38_1).f1.f0) ((rd_T63 l1_4 x38_1).f1.f1) ((rd_T63 l1_4 x38_1).f1.f2) ((rd_T63 l1_4 x38_1).f1.f3)) = some (r1, r2) := by first | (rw [hy208]; with_reducible exact H) | (have H2_ := (Option.bind_some _ _).symm.trans H; rw [hy208]; with_reducible exact H2_) | (have H2_ := (Option.bind_some _ _).symm.trans H; with_reducible exact H2_) | with_reducible exact H | (rw [hy208]; exact H) | exact H
   have Ny208 := mk0 hy208; clear hy208
   have H' := mk0 H
   clear H
   have p197 : 0 ≤ (x38_1 : Int) := od
   have q197 : x38_1 < (l1_4.length : Int) := od
   obtain ⟨ad197, A197_3, c197_3, A197_4, c197_4, e197, hx197_0, hx197_1, hx197_2, hx197_3, hx197_4, hl197_3, hi197_3, hl197_4, hi197_4⟩ := at_T63 (Kd.V_reads' HO_36.out).2.2 x38_1 p197 q197
   cases e197
   obtain ⟨ce197, hce197, hMe197, hcc197⟩ := Kd.V_get HO_36.out z63 x38_1 p197 (by first | exact q197 | exact of_decide_eq_true (by assumption) | (have e_ := (Kd.V_reads' HO_36.out).1; omega))
   obtain ⟨ua197_3, uc197_3, ua197_4, uc197_4, rfl, ul197_3, ge197_3, ul197_4, ge197_4⟩ := k63_openF hMe197
   have hv197_3 := hcc197 3 _ rfl
   rw [add_field _ _ 3 (by omega)] at hv197_3
   replace hv197_3 := Option.some.inj (hv197_3.symm.trans hx197_3)
   injection hv197_3 with hva_ hvn_ hvc_
   rw [hva_] at ge197_3
   rw [hvc_] at ul197_3
   have HL197_3 := mk0 (show Kd.V (Kd.int .u8) 73 _ w.heap.size _ _ ((rd_T63 l1_4 x38_1).f1.f2) from Kd.V_mk ul197_3 ge197_3)
   clear hva_ hvn_ hvc_ ge197_3 ul197_3
   have hv197_4 := hcc197 4 _ rfl
   rw [add_field _ _ 4 (by omega)] at hv197_4
   replace hv197_4 := Option.some.inj (hv197_4.symm.trans hx197_4)
   injection hv197_4 with hva_ hvn_ hvc_
   rw [hva_] at ge197_4
   rw [hvc_] at ul197_4
   have HL197_4 := mk0 (show Kd.V k30 30 _ w.heap.size _ _ ((rd_T63 l1_4 x38_1).f1.f3) from Kd.V_mk ul197_4 ge197_4)
   clear hva_ hvn_ hvc_ ge197_4 ul197_4; clear hcc197 hce197; have HR197_3 := mk0 hi197_3; have HC197_3 := mk0 hl197_3; clear hi197_3 hl197_3; have HR197_4 := mk0 hi197_4; have HC197_4 := mk0 hl197_4; clear hi197_4 hl197_4; replace p197 := eq_true p197; replace q197 := eq_true q197
   try go_wp2_with (first | ((with_reducible refine box_event rfl (N := 13) rfl (cs := #[.int .i64 0, .int .i64 0, .int .i64 0, .slice none 0 0, .slice none 0 0]) (t := 63) ?hr ?_); (case hr => first | (go_simp; done) | (go_simp; rfl)); intro gb198 hg w48 hbox hb; replace HO_10 := nB HO_10 hg hb; replace HO_36 := vB HO_36 hg hb; replace HO_194002 := vB HO_194002 hg hb; replace HO_194003 := vB HO_194003 hg hb; replace HO_194004 := vB HO_194004 hg hb; replace HO_197002 := vB HO_197002 hg hb; replace HO_197003 := vB HO_197003 hg hb; replace HL197_3 := vB HL197_3 hg hb; replace HL197_4 := vB HL197_4 hg hb; replace HR197_3 := cb HR197_3 hb; replace HR197_4 := cb HR197_4 hb; have BK198 := mk0 (hbox); have GE198 := bs (be3 HB GE192 GE193 GE196) hg; replace HB := kh3 HB GE192 GE193 GE196 hb; have NB192_198 := nb1 (bu BK192) hg; have NB198_192 := nb2 (bu BK192) hg; replace BK192 := kb BK192 hb; have NB193_198 := nb1 (bu BK193) hg; have NB198_193 := nb2 (bu BK193) hg; replace BK193 := kb BK193 hb; have NB196_198 := nb1 (bu BK196) hg; have NB198_196 := nb2 (bu BK196) hg; replace BK196 := kb BK196 hb; clear hb hbox hg; have hnb49 := NB198_192.out; have hnc49 := NB192_198.out; have hnb50 := NB198_193.out; have hnc50 := NB193_198.out; have hnb51 := NB198_196.out; have hnc51 := NB196_198.out; have z52 := cells5 BK198.out; have hnb53 := NB192_193.out; have hnc53 := NB193_192.out; have hnb54 := NB192_196.out; have hnc54 := NB196_192.out; have z55 := cells5 BK192.out; have hnb56 := NB196_193.out; have hnc56 := NB193_196.out; have z57 := cells4 BK196.out; obtain ⟨Ao58, co58, eo58⟩ := Kd.V_slice HO_197002.out; subst eo58; obtain ⟨Ao59, co59, eo59⟩ := Kd.V_slice HO_197003.out; subst eo59) | (go_at_call 56; (with_reducible refine (drivers_equal.calls k1 a0_0 a0_1 a0_2 _ _ l0_3 _ _ l0_4 x197000_1 x197001_1 _ _ x197002_1 _ _ x197003_1 ((rd_T63 l1_4 x38_1).f1.f0) ((rd_T63 l1_4 x38_1).f1.f1) _ _ ((rd_T63 l1_4 x38_1).f1.f2) _ _ ((rd_T63 l1_4 x38_1).f1.f3) false _ ?side13 ?side1 ?side2 ?side3 ?side4 ?side5 ?side6 ?side7 ?side8 ?side9 ?side10 ?side11 ?side12 A44.out).mono ?_); (case side1 => exact Kd.C_below HR0_3.out (be4 HB GE192 GE193 GE196 GE198)); (case side2 => exact HC0_3.out); (case side3 => exact Kd.C_below HR0_4.out (be4 HB GE192 GE193 GE196 GE198)); (case side4 => exact HC0_4.out); (case side5 => refine (Kd.V_reads' (e := 73) (base := w.heap.size) (ok := fun k_ => ((((P1_2_ k_ ∨ P1_3_ k_ ∨ P1_4_ k_) ∨ w.heap.size ≤ k_) ∧ (some k_ ≠ (u10 : Value).ownBlock ∧ (k_ ≠ gb192 ∧ (k_ ≠ gb193 ∧ k_ ≠ gb196)))) ∧ k_ ≠ gb198)) (n := x197002_1.length) (c := co58) ?_).2.2; exact (by exact V_pl ((vF (q := gb198) HO_197002 (fun _ hk => hk.2))))); (case side6 => exact (Kd.V_reads' HO_197002.out).2.1); (case side7 => refine (Kd.V_reads' (e := 30) (base := w.heap.size) (ok := fun k_ => ((((P1_2_ k_ ∨ P1_3_ k_ ∨ P1_4_ k_) ∨ w.heap.size ≤ k_) ∧ (some k_ ≠ (u10 : Value).ownBlock ∧ (k_ ≠ gb192 ∧ (k_ ≠ gb193 ∧ k_ ≠ gb196)))) ∧ k_ ≠ gb198)) (n := x197003_1.length) (c := co59) ?_).2.2; exact (by exact V_pl ((vF (q := gb198) HO_197003 (fun _ hk => hk.2))))); (case side8 => exact (Kd.V_reads' HO_197003.out).2.1); (case side9 => repeat (first | exact ((Kd.V_reads' (by exact V_pl ((vF (q := gb198) HL197_3 (fun _ hk => hk.2))))).2.2) | (with_reducible refine Kd.C_alloc ?_ _) | (with_reducible refine Kd.C_drewN ?_ _) | (with_reducible refine Kd.C_drew ?_))); (case side10 => exact HC197_3.out); (case side11 => repeat (first | exact ((Kd.V_reads' (by exact V_pl ((vF (q := gb198) HL197_4 (fun _ hk => hk.2))))).2.2) | (with_reducible refine Kd.C_alloc ?_ _) | (with_reducible refine Kd.C_drewN ?_ _) | (with_reducible refine Kd.C_drew ?_))); (case side12 => exact HC197_4.out); (case side13 => exact glob_below HG.out (be4 HB GE192 GE193 GE196 GE198)); rintro e w60 ⟨rfl, hb⟩; replace HO_10 := mk0 (Kd.N_below (by exact N_pl ((nF (q := gb198) HO_10 (fun _ hk => hk.2)))) hb); replace HO_36 := mk0 (Kd.V_below (by exact V_pl ((vF (q := gb198) HO_36 (fun _ hk => hk.2)))) hb); replace HO_194002 := mk0 (Kd.V_below (by exact V_pl ((vF (q := gb198) HO_194002 (fun _ hk => hk.2)))) hb); replace HO_194003 := mk0 (Kd.V_below (by exact V_pl ((vF (q := gb198) HO_194003 (fun _ hk => hk.2)))) hb); replace HO_194004 := mk0 (Kd.V_below (by exact V_pl ((vF (q := gb198) HO_194004 (fun _ hk => hk.2)))) hb); replace HO_197002 := mk0 (Kd.V_below (by exact V_pl ((vF (q := gb198) HO_197002 (fun _ hk => hk.2)))) hb); replace HO_197003 := mk0 (Kd.V_below (by exact V_pl ((vF (q := gb198) HO_197003 (fun _ hk => hk.2)))) hb); replace BK192 := kF NB192_198 BK192 hb; replace BK193 := kF NB193_198 BK193 hb; replace BK196 := kF NB196_198 BK196 hb; replace HR197_3 := mk0 (Kd.C_below ((Kd.V_reads' (by exact V_pl ((vF (q := gb198) HL197_3 (fun _ hk => hk.2))))).2.2) hb); replace HL197_3 := mk0 (Kd.V_below (by exact V_pl ((vF (q := gb198) HL197_3 (fun _ hk => hk.2)))) hb); replace HR197_4 := mk0 (Kd.C_below ((Kd.V_reads' (by exact V_pl ((vF (q := gb198) HL197_4 (fun _ hk => hk.2))))).2.2) hb); replace HL197_4 := mk0 (Kd.V_below (by exact V_pl ((vF (q := gb198) HL197_4 (fun _ hk => hk.2)))) hb); replace BK198 := mk0 (blk_below (g := gb198) (o := .cells #[.int .i64 ((rd_T63 l1_4 x38_1).f0), .int .i64 ((rd_T63 l1_4 x38_1).f1.f0), .int .i64 ((rd_T63 l1_4 x38_1).f1.f1), .slice A197_3 ((rd_T63 l1_4 x38_1).f1.f2).length c197_3, .slice A197_4 ((rd_T63 l1_4 x38_1).f1.f3).length c197_4] 63 (0, 0)) (pB BK198) hb); replace HB := kh4 HB GE192 GE193 GE196 GE198 hb))
   have n0_ := mk0 (Kd.N_drew HO_10.out)
   have n1_ := mk0 (Kd.V_drew HO_36.out)
   have n2_ := mk0 (Kd.V_drew HO_194002.out)
   have n3_ := mk0 (Kd.V_drew HO_194003.out)
   have n4_ := mk0 (Kd.V_drew HO_194004.out)
   have n5_ := mk0 (Kd.V_drew HO_197002.out)
   have n6_ := mk0 (Kd.V_drew HO_197003.out)
   have n7_ := mk0 (Kd.V_drew HL197_3.out)
   have n8_ := mk0 (Kd.V_drew HL197_4.out)
   have n9_ := mk0 (blk_drew BK192.out)
   have n10_ := mk0 (blk_drew BK193.out)
   have n11_ := mk0 (blk_drew BK196.out)
   have n12_ := mk0 (blk_drew BK198.out)
   have n13_ := mk0 (Kd.C_drew HR197_3.out)
   have n14_ := mk0 (Kd.C_drew HR197_4.out)
   have n15_ := mk0 (below_drew1 HB.out)
   clear HO_10; clear HO_36; clear HO_194002; clear HO_194003; clear HO_194004; clear HO_197002; clear HO_197003; clear HL197_3; clear HL197_4; clear BK192; clear BK193; clear BK196; clear BK198; clear HR197_3; clear HR197_4; clear HB; have HO_10 := n0_; have HO_36 := n1_; have HO_194002 := n2_; have HO_194003 := n3_; have HO_194004 := n4_; have HO_197002 := n5_; have HO_197003 := n6_; have HL197_3 := n7_; have HL197_4 := n8_; have BK192 := n9_; have BK193 := n10_; have BK196 := n11_; have BK198 := n12_; have HR197_3 := n13_; have HR197_4 := n14_; have HB := n15_; clear n0_ n1_ n2_ n3_ n4_ n5_ n6_ n7_ n8_ n9_ n10_ n11_ n12_ n13_ n14_ n15_
   refine start_ (n := 10) (S := fun w' => w'.cell? ⟨gb198, 0, none⟩ = some (.int .i64 ((rd_T63 l1_4 x38_1).f0)) ∧ w'.cell? ⟨gb198, 1, none⟩ = some (.int .i64 ((rd_T63 l1_4 x38_1).f1.f0)) ∧ w'.cell? ⟨gb198, 2, none⟩ = some (.int .i64 ((rd_T63 l1_4 x38_1).f1.f1)) ∧ w'.cell? ⟨gb198, 3, none⟩ = some (.slice A197_3 ((rd_T63 l1_4 x38_1).f1.f2).length c197_3) ∧ w'.cell? ⟨gb198, 4, none⟩ = some (.slice A197_4 ((rd_T63 l1_4 x38_1).f1.f3).length c197_4)) (ds := []) #[false, false, false, false, false, false, false, false, false, false] (by kernel_rfl) rfl rfl ⟨bc BK198 0, bc BK198 1, bc BK198 2, bc BK198 3, bc BK198 4⟩ (fun hHeld => ?_); refine with_tabW drivers_Shape.tab12 drivers_Shape.bits12 (fun HT_ HW_ => ?_)
   generalize w60.drew = w61 at HO_10 HO_36 HO_194002 HO_194003 HO_194004 HO_197002 HO_197003 HL197_3 HL197_4 BK192 BK193 BK196 BK198 HR197_3 HR197_4 HB hHeld ⊢
   refine pu_ (v := ?_) (a' := ?_) 0 52 #[true, false, false, false, false, false, false, false, false, false] HT_ ?_ ?_ ?_
   rotate_left
   ·intro w'
    go_simp
    with_reducible rfl
   rotate_left
   ·simp only [ps]
    rfl
   refine pu_ (v := ?_) (a' := ?_) 1 53 #[true, true, false, false, false, false, false, false, false, false] HT_ ?_ ?_ ?_
   rotate_left
   ·intro w'
    go_simp
    with_reducible rfl
   rotate_left
   ·simp only [ps]
    rfl
   refine pu_ (v := ?_) (a' := ?_) 3 55 #[true, true, false, true, false, false, false, false, false, false] HT_ ?_ ?_ ?_
   rotate_left
   ·intro w'
    go_simp
    with_reducible rfl
   rotate_left
   ·simp only [ps]
    rfl
   refine take_ (i := 2) (N := some 54) (v := ?_) (a' := ?_) (tf 4 6) rfl rfl (take_ofW HT_.out HW_.out (by kernel_rfl)) (fun _ _ _ h => h) (Or.inl ⟨by rfl, ?_⟩) hHeld ?_ ?_
   rotate_left
   ·rintro w' ⟨s0, s1, s2, s3, s4⟩
    go_simp
    with_reducible rfl
   rotate_left
   ·simp only [ps]
    rfl
   refine take_ (i := 4) (N := some 56) (v := ?_) (a' := ?_) (tf 5 5) rfl rfl (take_ofW HT_.out HW_.out (by kernel_rfl)) (fun _ _ _ h => h) (Or.inl ⟨by rfl, ?_⟩) hHeld ?_ ?_
   rotate_left
   ·rintro w' ⟨s0, s1, s2, s3, s4⟩
    go_simp
    with_reducible rfl
   rotate_left
   ·simp only [ps]
    rfl
   refine one_ (i := 5) (N := some 57) (tf 6 4) rfl rfl (one_of HT_.out (by kernel_rfl)) (by decide) (fun K hK => ?_)
   refine goes_ Try.func51 (by kernel_rfl) rfl #[.agg #[.int .i64 ((rd_T63 l1_4 x38_1).f1.f0), .int .i64 ((rd_T63 l1_4 x38_1).f1.f1), .slice A197_3 ((rd_T63 l1_4 x38_1).f1.f2).length c197_3, .slice A197_4 ((rd_T63 l1_4 x38_1).f1.f3).length c197_4]] (by rfl) rfl rfl (by (try simp only [List.map_toArray, List.map_cons, List.map_nil]); first | done | rfl | (simp only [List.length_drop, List.length_take]; rfl)) ?_
   with_reducible refine (drivers_copied.calls ((rd_T63 l1_4 x38_1).f1.f0) ((rd_T63 l1_4 x38_1).f1.f1) _ _ ((rd_T63 l1_4 x38_1).f1.f2) (fun k_ => ((((P1_2_ k_ ∨ P1_3_ k_ ∨ P1_4_ k_) ∨ w.heap.size ≤ k_) ∧ (some k_ ≠ (u10 : Value).ownBlock ∧ (k_ ≠ gb192 ∧ (k_ ≠ gb193 ∧ k_ ≠ gb196)))) ∧ k_ ≠ gb198)) _ _ ((rd_T63 l1_4 x38_1).f1.f3) t200 t201 t202 t205 _ ?side1 ?side2 ?side3 A46.out).mono ?_
   (case side1 => repeat (first | exact (by repeat (first | (with_reducible exact HR197_3.out) | (with_reducible refine Kd.C_alloc ?_ _) | (with_reducible refine Kd.C_drewN ?_ _) | (with_reducible refine Kd.C_drew ?_) | exact HR197_3.out)) | (with_reducible refine Kd.C_alloc ?_ _) | (with_reducible refine Kd.C_drewN ?_ _) | (with_reducible refine Kd.C_drew ?_)))
   (case side2 => exact HC197_3.out)
   (case side3 => exact HL197_4.out)
   rintro e w62 ⟨v203, v206, rfl, ho0, ho1, hb⟩
   refine ⟨_, rfl, ?_⟩
   have n0_ := mk0 (Kd.N_elder' (N_up HO_10.out) (Kd.R_base ho0) hb)
   have n1_ := mk0 (Kd.V_elder' (V_up HO_36.out) (Kd.R_base ho0) hb)
   have n2_ := mk0 (Kd.V_elder' (V_up HO_194002.out) (Kd.R_base ho0) hb)
   have n3_ := mk0 (Kd.V_elder' (V_up HO_194003.out) (Kd.R_base ho0) hb)
   have n4_ := mk0 (Kd.V_elder' (V_up HO_194004.out) (Kd.R_base ho0) hb)
   have n5_ := mk0 (Kd.V_elder' (V_up HO_197002.out) (Kd.R_base ho0) hb)
   have n6_ := mk0 (Kd.V_elder' (V_up HO_197003.out) (Kd.R_base ho0) hb)
   have n7_ := mk0 (Kd.V_elder' (V_up HL197_3.out) (Kd.R_base ho0) hb)
   have n8_ := mk0 (Kd.V_elder' (V_up HL197_4.out) (Kd.R_base ho0) hb)
   have n9_ := mk0 (Kd.R_lower (Kd.R_newM (M := fun k_ => (w.heap.size ≤ k_)) (Kd.R_mono (ok' := fun k_ => True) ho0 (fun _ hk_ => trivial)) (below_size (be4 HB GE192 GE193 GE196 GE198)) (fun k_ h_ => h_)) (below_size (be4 HB GE192 GE193 GE196 GE198)))
   have n10_ := mk0 (Kd.V_lower (Kd.V_mono (ok' := fun k_ => ((P1_2_ k_ ∨ P1_3_ k_ ∨ P1_4_ k_) ∨ w.heap.size ≤ k_) ∧ some k_ ≠ (v203 : Value).ownBlock ∧ some k_ ≠ (u10 : Value).ownBlock ∧ k_ ≠ gb192 ∧ k_ ≠ gb193 ∧ k_ ≠ gb196 ∧ k_ ≠ gb198) ho1 (fun k_ hk_ => ⟨Or.elim hk_.1 (fun hs_ => hs_.1.1) (fun hn_ => (.inr (Nat.le_trans (below_size (be4 HB GE192 GE193 GE196 GE198)) hn_))), hk_.2, Or.elim hk_.1 (fun hs_ => hs_.1.2.1) (fun hn_ => (Kd.fresh' (Kd.N_lt (N_up HO_10.out)) k_ hn_)), Or.elim hk_.1 (fun hs_ => hs_.1.2.2.1) (fun hn_ => (Kd.freshB (g := gb192) (o := .cells #[.int .i64 a0_0, .int .i64 a0_1, .string a0_2, .slice A0_3 l0_3.length c0_3, .slice A0_4 l0_4.length c0_4] 26 (0, 0)) (blk_up BK192.out) k_ hn_)), Or.elim hk_.1 (fun hs_ => hs_.1.2.2.2.1) (fun hn_ => (Kd.freshB (g := gb193) (o := .cells #[.int .i64 a1_0, .int .i64 a1_1, .slice A1_2 l1_2.length c1_2, .slice A1_3 l1_3.length c1_3, .slice (some ad197) l1_4.length c1_4] 33 (0, 0)) (blk_up BK193.out) k_ hn_)), Or.elim hk_.1 (fun hs_ => hs_.1.2.2.2.2) (fun hn_ => (Kd.freshB (g := gb196) (o := .cells #[.int .i64 x197000_1, .int .i64 x197001_1, .slice Ao58 x197002_1.length co58, .slice Ao59 x197003_1.length co59] 30 (0, 0)) (blk_up BK196.out) k_ hn_)), Or.elim hk_.1 (fun hs_ => hs_.2) (fun hn_ => (Kd.freshB (g := gb198) (o := .cells #[.int .i64 ((rd_T63 l1_4 x38_1).f0), .int .i64 ((rd_T63 l1_4 x38_1).f1.f0), .int .i64 ((rd_T63 l1_4 x38_1).f1.f1), .slice A197_3 ((rd_T63 l1_4 x38_1).f1.f2).length c197_3, .slice A197_4 ((rd_T63 l1_4 x38_1).f1.f3).length c197_4] 63 (0, 0)) (blk_up BK198.out) k_ hn_))⟩)) (below_size (be4 HB GE192 GE193 GE196 GE198)))
   have n11_ := kb BK192 hb
   have n12_ := kb BK193 hb
   have n13_ := kb BK196 hb
   have n14_ := cb HR197_3 hb
   have n15_ := cb HR197_4 hb
   have n16_ := kb BK198 hb
   have n17_ := kh4 HB GE192 GE193 GE196 GE198 hb
   clear HO_10; clear HO_36; clear HO_194002; clear HO_194003; clear HO_194004; clear HO_197002; clear HO_197003; clear HL197_3; clear HL197_4; clear BK192; clear BK193; clear BK196; clear HR197_3; clear HR197_4; clear BK198; clear HB; have HO_10 := n0_; have HO_36 := n1_; have HO_194002 := n2_; have HO_194003 := n3_; have HO_194004 := n4_; have HO_197002 := n5_; have HO_197003 := n6_; have HL197_3 := n7_; have HL197_4 := n8_; have HO204 := n9_; have HO207 := n10_; have BK192 := n11_; have BK193 := n12_; have BK196 := n13_; have HR197_3 := n14_; have HR197_4 := n15_; have BK198 := n16_; have HB := n17_; clear n0_ n1_ n2_ n3_ n4_ n5_ n6_ n7_ n8_ n9_ n10_ n11_ n12_ n13_ n14_ n15_ n16_ n17_
   try clear hb
   try clear hk
   try clear ho0
   try clear ho1
   obtain ⟨Ao63, co63, eo63⟩ := Kd.V_slice HO207.out
   (first | subst eo63 | (injection eo63 with f1_ f2_ f3_; have f4_ := f1_.symm; have f5_ := f3_.symm; clear f1_ f2_ f3_; subst f4_; subst f5_))
   obtain ⟨Ao64, co64, eo64⟩ := Kd.R_slice HO204.out
   (first | subst eo64 | (injection eo64 with f1_ f2_ f3_; have f4_ := f1_.symm; have f5_ := f3_.symm; clear f1_ f2_ f3_; subst f4_; subst f5_))
   refine hK.out _ _ ⟨bc BK198 0, bc BK198 1, bc BK198 2, bc BK198 3, bc BK198 4⟩ (fun hHeld => ?_)
   clear hK K
   refine norm_ (a' := ?_) ?_ ?_
   rotate_left
   ·show Act.put _ (some 57) _ = _
    simp only [ps]
    rfl
   refine pu_ (v := ?_) (a' := ?_) 6 58 #[true, true, true, true, true, true, true, false, false, false] HT_ ?_ ?_ ?_
   rotate_left
   ·intro w'
    go_simp
    with_reducible rfl
   rotate_left
   ·simp only [ps]
    rfl
   refine one_ (i := 7) (N := some 59) (tf 8 2) rfl rfl (one_of HT_.out (by kernel_rfl)) (by decide) (fun K hK => ?_)
   refine value_ (w1 := ?_) (v := ?_) (by rfl) rfl ?_ ?_
   rotate_left 2
   ·go_simp
    constructor
    ·rfl
    ·rfl
   refine hK.out _ _ ⟨(blk_cell (blk_alloc BK198.out _) 0).trans rfl, (blk_cell (blk_alloc BK198.out _) 1).trans rfl, (blk_cell (blk_alloc BK198.out _) 2).trans rfl, (blk_cell (blk_alloc BK198.out _) 3).trans rfl, (blk_cell (blk_alloc BK198.out _) 4).trans rfl⟩ (fun hHeld => ?_)
   clear hK K
   refine norm_ (a' := ?_) ?_ ?_
   rotate_left
   ·show Act.put _ (some 59) _ = _
    simp only [ps]
    rfl
   refine one_ (i := 8) (N := some 60) (tf 9 1) rfl rfl (one_of HT_.out (by kernel_rfl)) (by decide) (fun K hK => ?_)
   refine Kd.N_append_step k63 (w0 := w) w.heap.size (by rfl) (.tmp 52) (.tmp 59) 31 63 (.agg #[(.int .i64 0), (.int .i64 0), (.int .i64 0), (.slice none 0 0), (.slice none 0 0)]) 72 rfl Try.underlying31 info63 rfl (by decide) (by omega) u10 x10_1 (⟨(rd_T63 l1_4 x38_1).f0, (⟨t200, t201, t202, t205⟩ : S30)⟩ : S63) [.int .i64 ((rd_T63 l1_4 x38_1).f0), .int .i64 t200, .int .i64 t201, .slice Ao64 t202.length co64, .slice Ao63 t205.length co63] (fun k_ => ((P1_2_ k_ ∨ P1_3_ k_ ∨ P1_4_ k_) ∨ w.heap.size ≤ k_) ∧ k_ ≠ gb192 ∧ k_ ≠ gb193 ∧ k_ ≠ gb196 ∧ k_ ≠ gb198) (fun k_ => ((fun k_ => ((P1_2_ k_ ∨ P1_3_ k_ ∨ P1_4_ k_) ∨ w.heap.size ≤ k_) ∧ k_ ≠ gb192 ∧ k_ ≠ gb193 ∧ k_ ≠ gb196 ∧ k_ ≠ gb198)) k_ ∧ some k_ ≠ (u10 : Value).ownBlock) rfl rfl ?aP (fun _ hk => hk) ?aF ?aO ?aB ?aS ?aL ?_
   (case aP => exact (k63_mkF _ _ (⟨(rd_T63 l1_4 x38_1).f0, (⟨t200, t201, t202, t205⟩ : S30)⟩ : S63) (Kd.R_reads' (Kd.R_mono (ok' := (fun k_ => ((fun k_ => ((P1_2_ k_ ∨ P1_3_ k_ ∨ P1_4_ k_) ∨ w.heap.size ≤ k_) ∧ k_ ≠ gb192 ∧ k_ ≠ gb193 ∧ k_ ≠ gb196 ∧ k_ ≠ gb198)) k_ ∧ some k_ ≠ (u10 : Value).ownBlock)) (Kd.R_types (Kd.R_types (Kd.R_types (Kd.R_types (Kd.R_apart' (HO204.out) (Kd.N_typed HO_10.out) (by decide)) BK192.out (by decide)) BK193.out (by decide)) BK196.out (by decide)) BK198.out (by decide)) (fun k_ hk => ⟨⟨(.inr (hk.1.1.1.1.1.1)), ⟨hk.1.1.1.2, ⟨hk.1.1.2, ⟨hk.1.2, hk.2⟩⟩⟩⟩, hk.1.1.1.1.2⟩))).2.1 (Kd.R_F (Kd.R_mono (ok' := (fun k_ => ((fun k_ => ((P1_2_ k_ ∨ P1_3_ k_ ∨ P1_4_ k_) ∨ w.heap.size ≤ k_) ∧ k_ ≠ gb192 ∧ k_ ≠ gb193 ∧ k_ ≠ gb196 ∧ k_ ≠ gb198)) k_ ∧ some k_ ≠ (u10 : Value).ownBlock)) (Kd.R_types (Kd.R_types (Kd.R_types (Kd.R_types (Kd.R_apart' (HO204.out) (Kd.N_typed HO_10.out) (by decide)) BK192.out (by decide)) BK193.out (by decide)) BK196.out (by decide)) BK198.out (by decide)) (fun k_ hk => ⟨⟨(.inr (hk.1.1.1.1.1.1)), ⟨hk.1.1.1.2, ⟨hk.1.1.2, ⟨hk.1.2, hk.2⟩⟩⟩⟩, hk.1.1.1.1.2⟩))) (Kd.V_reads' (Kd.V_mono (ok' := (fun k_ => ((fun k_ => ((P1_2_ k_ ∨ P1_3_ k_ ∨ P1_4_ k_) ∨ w.heap.size ≤ k_) ∧ k_ ≠ gb192 ∧ k_ ≠ gb193 ∧ k_ ≠ gb196 ∧ k_ ≠ gb198)) k_ ∧ some k_ ≠ (u10 : Value).ownBlock)) (HO207.out) (fun k_ hk => ⟨⟨hk.1, ⟨hk.2.2.2.1, ⟨hk.2.2.2.2.1, ⟨hk.2.2.2.2.2.1, hk.2.2.2.2.2.2⟩⟩⟩⟩, hk.2.2.1⟩))).2.1 (Kd.V_F (Kd.V_mono (ok' := (fun k_ => ((fun k_ => ((P1_2_ k_ ∨ P1_3_ k_ ∨ P1_4_ k_) ∨ w.heap.size ≤ k_) ∧ k_ ≠ gb192 ∧ k_ ≠ gb193 ∧ k_ ≠ gb196 ∧ k_ ≠ gb198)) k_ ∧ some k_ ≠ (u10 : Value).ownBlock)) (HO207.out) (fun k_ hk => ⟨⟨hk.1, ⟨hk.2.2.2.1, ⟨hk.2.2.2.2.1, ⟨hk.2.2.2.2.2.1, hk.2.2.2.2.2.2⟩⟩⟩⟩, hk.2.2.1⟩)))))
   (case aB => exact (be4 HB GE192 GE193 GE196 GE198))
   (case aF => exact (fun k_ hk => ⟨(.inr (Nat.le_trans (below_size (be4 HB GE192 GE193 GE196 GE198)) hk)), Kd.freshB (g := gb192) (o := .cells #[.int .i64 a0_0, .int .i64 a0_1, .string a0_2, .slice A0_3 l0_3.length c0_3, .slice A0_4 l0_4.length c0_4] 26 (0, 0)) (blk_up BK192.out) k_ hk, Kd.freshB (g := gb193) (o := .cells #[.int .i64 a1_0, .int .i64 a1_1, .slice A1_2 l1_2.length c1_2, .slice A1_3 l1_3.length c1_3, .slice (some ad197) l1_4.length c1_4] 33 (0, 0)) (blk_up BK193.out) k_ hk, Kd.freshB (g := gb196) (o := .cells #[.int .i64 x197000_1, .int .i64 x197001_1, .slice Ao58 x197002_1.length co58, .slice Ao59 x197003_1.length co59] 30 (0, 0)) (blk_up BK196.out) k_ hk, Kd.freshB (g := gb198) (o := .cells #[.int .i64 ((rd_T63 l1_4 x38_1).f0), .int .i64 ((rd_T63 l1_4 x38_1).f1.f0), .int .i64 ((rd_T63 l1_4 x38_1).f1.f1), .slice A197_3 ((rd_T63 l1_4 x38_1).f1.f2).length c197_3, .slice A197_4 ((rd_T63 l1_4 x38_1).f1.f3).length c197_4] 63 (0, 0)) (blk_up BK198.out) k_ hk⟩))
   (case aO => exact (by exact N_pl (Kd.N_mono HO_10.out (fun _ hk => ⟨hk.1.1.1, ⟨hk.1.1.2.1, ⟨hk.1.1.2.2.1, ⟨hk.1.1.2.2.2, hk.1.2⟩⟩⟩⟩))))
   (case aS => exact (below_size (be4 HB GE192 GE193 GE196 GE198)))
   (case aL => have := LMc47.out; omega)
   intro v209 w65 ho hb hg hat
   rw [← Ny208.out] at ho
   have n0_ := mk0 (Kd.V_afterv (ok := (fun k_ => ((P1_2_ k_ ∨ P1_3_ k_ ∨ P1_4_ k_) ∨ w.heap.size ≤ k_) ∧ some k_ ≠ (.slice Ao64 t202.length co64 : Value).ownBlock ∧ k_ ≠ gb192 ∧ k_ ≠ gb193 ∧ k_ ≠ gb196 ∧ k_ ≠ gb198)) (by exact V_pl (Kd.V_mono HO_36.out (fun _ hk => ⟨⟨hk.1.1.1, ⟨hk.2, ⟨hk.1.1.2.2.1, ⟨hk.1.1.2.2.2.1, ⟨hk.1.1.2.2.2.2, hk.1.2⟩⟩⟩⟩⟩, hk.1.1.2.1⟩))) hg hat)
   have n1_ := mk0 (Kd.V_afterv (ok := (fun k_ => ((P1_2_ k_ ∨ P1_3_ k_ ∨ P1_4_ k_) ∨ w.heap.size ≤ k_) ∧ some k_ ≠ (.slice Ao64 t202.length co64 : Value).ownBlock ∧ k_ ≠ gb192 ∧ k_ ≠ gb193 ∧ k_ ≠ gb196 ∧ k_ ≠ gb198)) (by exact V_pl (Kd.V_mono HO_194002.out (fun _ hk => ⟨⟨hk.1.1.1, ⟨hk.2, ⟨hk.1.1.2.2.1, ⟨hk.1.1.2.2.2.1, ⟨hk.1.1.2.2.2.2, hk.1.2⟩⟩⟩⟩⟩, hk.1.1.2.1⟩))) hg hat)
   have n2_ := mk0 (Kd.V_afterv (ok := (fun k_ => ((P1_2_ k_ ∨ P1_3_ k_ ∨ P1_4_ k_) ∨ w.heap.size ≤ k_) ∧ some k_ ≠ (.slice Ao64 t202.length co64 : Value).ownBlock ∧ k_ ≠ gb192 ∧ k_ ≠ gb193 ∧ k_ ≠ gb196 ∧ k_ ≠ gb198)) (by exact V_pl (Kd.V_mono HO_194003.out (fun _ hk => ⟨⟨hk.1.1.1, ⟨hk.2, ⟨hk.1.1.2.2.1, ⟨hk.1.1.2.2.2.1, ⟨hk.1.1.2.2.2.2, hk.1.2⟩⟩⟩⟩⟩, hk.1.1.2.1⟩))) hg hat)
   have n3_ := mk0 (Kd.V_afterv (ok := (fun k_ => ((P1_2_ k_ ∨ P1_3_ k_ ∨ P1_4_ k_) ∨ w.heap.size ≤ k_) ∧ some k_ ≠ (.slice Ao64 t202.length co64 : Value).ownBlock ∧ k_ ≠ gb192 ∧ k_ ≠ gb193 ∧ k_ ≠ gb196 ∧ k_ ≠ gb198)) (by exact V_pl (Kd.V_mono HO_194004.out (fun _ hk => ⟨⟨hk.1.1.1, ⟨hk.2, ⟨hk.1.1.2.2.1, ⟨hk.1.1.2.2.2.1, ⟨hk.1.1.2.2.2.2, hk.1.2⟩⟩⟩⟩⟩, hk.1.1.2.1⟩))) hg hat)
   have n4_ := mk0 (Kd.V_afterv (ok := (fun k_ => ((P1_2_ k_ ∨ P1_3_ k_ ∨ P1_4_ k_) ∨ w.heap.size ≤ k_) ∧ some k_ ≠ (.slice Ao64 t202.length co64 : Value).ownBlock ∧ k_ ≠ gb192 ∧ k_ ≠ gb193 ∧ k_ ≠ gb196 ∧ k_ ≠ gb198)) (by exact V_pl (Kd.V_mono HO_197002.out (fun _ hk => ⟨⟨hk.1.1.1, ⟨hk.2, ⟨hk.1.1.2.2.1, ⟨hk.1.1.2.2.2.1, ⟨hk.1.1.2.2.2.2, hk.1.2⟩⟩⟩⟩⟩, hk.1.1.2.1⟩))) hg hat)
   have n5_ := mk0 (Kd.V_afterv (ok := (fun k_ => ((P1_2_ k_ ∨ P1_3_ k_ ∨ P1_4_ k_) ∨ w.heap.size ≤ k_) ∧ some k_ ≠ (.slice Ao64 t202.length co64 : Value).ownBlock ∧ k_ ≠ gb192 ∧ k_ ≠ gb193 ∧ k_ ≠ gb196 ∧ k_ ≠ gb198)) (by exact V_pl (Kd.V_mono HO_197003.out (fun _ hk => ⟨⟨hk.1.1.1, ⟨hk.2, ⟨hk.1.1.2.2.1, ⟨hk.1.1.2.2.2.1, ⟨hk.1.1.2.2.2.2, hk.1.2⟩⟩⟩⟩⟩, hk.1.1.2.1⟩))) hg hat)
   have n6_ := mk0 (blk_grown (g := gb192) (o := .cells #[.int .i64 a0_0, .int .i64 a0_1, .string a0_2, .slice A0_3 l0_3.length c0_3, .slice A0_4 l0_4.length c0_4] 26 (0, 0)) (blk_up BK192.out) hg (Kd.N_ne HO_10.out BK192.out (by decide)))
   have n7_ := mk0 (blk_grown (g := gb193) (o := .cells #[.int .i64 a1_0, .int .i64 a1_1, .slice A1_2 l1_2.length c1_2, .slice A1_3 l1_3.length c1_3, .slice (some ad197) l1_4.length c1_4] 33 (0, 0)) (blk_up BK193.out) hg (Kd.N_ne HO_10.out BK193.out (by decide)))
   have n8_ := mk0 (blk_grown (g := gb196) (o := .cells #[.int .i64 x197000_1, .int .i64 x197001_1, .slice Ao58 x197002_1.length co58, .slice Ao59 x197003_1.length co59] 30 (0, 0)) (blk_up BK196.out) hg (Kd.N_ne HO_10.out BK196.out (by decide)))
   have n9_ := mk0 (Kd.V_afterv (ok := (fun k_ => ((P1_2_ k_ ∨ P1_3_ k_ ∨ P1_4_ k_) ∨ w.heap.size ≤ k_) ∧ some k_ ≠ (.slice Ao64 t202.length co64 : Value).ownBlock ∧ k_ ≠ gb192 ∧ k_ ≠ gb193 ∧ k_ ≠ gb196 ∧ k_ ≠ gb198)) (by exact V_pl (Kd.V_mono HL197_3.out (fun _ hk => ⟨⟨hk.1.1.1, ⟨hk.2, ⟨hk.1.1.2.2.1, ⟨hk.1.1.2.2.2.1, ⟨hk.1.1.2.2.2.2, hk.1.2⟩⟩⟩⟩⟩, hk.1.1.2.1⟩))) hg hat)
   have n10_ := mk0 (Kd.V_afterv (ok := (fun k_ => ((P1_2_ k_ ∨ P1_3_ k_ ∨ P1_4_ k_) ∨ w.heap.size ≤ k_) ∧ some k_ ≠ (.slice Ao64 t202.length co64 : Value).ownBlock ∧ k_ ≠ gb192 ∧ k_ ≠ gb193 ∧ k_ ≠ gb196 ∧ k_ ≠ gb198)) (by exact V_pl (Kd.V_mono HL197_4.out (fun _ hk => ⟨⟨hk.1.1.1, ⟨hk.2, ⟨hk.1.1.2.2.1, ⟨hk.1.1.2.2.2.1, ⟨hk.1.1.2.2.2.2, hk.1.2⟩⟩⟩⟩⟩, hk.1.1.2.1⟩))) hg hat)
   have n11_ := mk0 (blk_grown (g := gb198) (o := .cells #[.int .i64 ((rd_T63 l1_4 x38_1).f0), .int .i64 ((rd_T63 l1_4 x38_1).f1.f0), .int .i64 ((rd_T63 l1_4 x38_1).f1.f1), .slice A197_3 ((rd_T63 l1_4 x38_1).f1.f2).length c197_3, .slice A197_4 ((rd_T63 l1_4 x38_1).f1.f3).length c197_4] 63 (0, 0)) (blk_up BK198.out) hg (Kd.N_away HO_10.out (fun _ hk => hk.1.2)))
   have n12_ := mk0 (Kd.V_afterv (ok := (fun k_ => ((P1_2_ k_ ∨ P1_3_ k_ ∨ P1_4_ k_) ∨ w.heap.size ≤ k_) ∧ some k_ ≠ (.slice Ao64 t202.length co64 : Value).ownBlock ∧ k_ ≠ gb192 ∧ k_ ≠ gb193 ∧ k_ ≠ gb196 ∧ k_ ≠ gb198)) (by exact V_pl (Kd.V_mono HO207.out (fun _ hk => ⟨⟨hk.1, ⟨hk.2.1, ⟨hk.2.2.2.1, ⟨hk.2.2.2.2.1, ⟨hk.2.2.2.2.2.1, hk.2.2.2.2.2.2⟩⟩⟩⟩⟩, hk.2.2.1⟩))) hg hat)
   have n13_ := mk0 (hb)
   have n14_ := mk0 (ho)
   clear HO_36; clear HO_194002; clear HO_194003; clear HO_194004; clear HO_197002; clear HO_197003; clear BK192; clear BK193; clear BK196; clear HL197_3; clear HL197_4; clear BK198; clear HO207; clear HB; clear HO_10; clear HO204; have HO_36 := n0_; have HO_194002 := n1_; have HO_194003 := n2_; have HO_194004 := n3_; have HO_197002 := n4_; have HO_197003 := n5_; have BK192 := n6_; have BK193 := n7_; have BK196 := n8_; have HL197_3 := n9_; have HL197_4 := n10_; have BK198 := n11_; have HO207 := n12_; have HB := n13_; have HO210 := n14_; clear n0_ n1_ n2_ n3_ n4_ n5_ n6_ n7_ n8_ n9_ n10_ n11_ n12_ n13_ n14_; clear ho hb hg hat
   refine hK.out _ _ ⟨bc BK198 0, bc BK198 1, bc BK198 2, bc BK198 3, bc BK198 4⟩ (fun hHeld => ?_)
   clear hK K
   refine norm_ (a' := ?_) ?_ ?_
   rotate_left
   ·show Act.put _ (some 60) _ = _
    simp only [ps]
    rfl
   refine pu_ (v := ?_) (a' := ?_) 9 10 #[true, true, true, true, true, true, true, true, true, true] HT_ ?_ ?_ ?_
   rotate_left
   ·intro w'
    go_simp
    with_reducible rfl
   rotate_left
   ·simp only [ps]
    rfl
   refine done_ (done_of HT_.out (by kernel_rfl)) ?_
   have z66 := cells5 BK198.out
   have z67 := cells4 BK196.out
   try go_wp2
   go_roundg k1
   case measure => have := HK1.out; omega
   case rel => exact ⟨(y208), (wrap64 (x38_1 + 1)), ((rd_T63 l1_4 x38_1).f1.f0), ((rd_T63 l1_4 x38_1).f1.f1), ((rd_T63 l1_4 x38_1).f1.f2), ((rd_T63 l1_4 x38_1).f1.f3), (.slice A197_3 ((rd_T63 l1_4 x38_1).f1.f2).length c197_3), (.slice A197_4 ((rd_T63 l1_4 x38_1).f1.f3).length c197_4), rfl, H', ⟨by have := HK1.out; omega⟩, ⟨by exact N_pl (Kd.N_mono (nI (q := gb196) (Kd.N_mono HO210.out (fun k_ hk => (⟨hk, hk.2.2.2.1⟩ : _ ∧ k_ ≠ gb196))) (fun _ hk => hk.2)) (fun _ hk => ⟨hk.1.1, ⟨hk.1.2.1, ⟨hk.1.2.2.1, hk.1.2.2.2.1⟩⟩⟩))⟩, ⟨by exact V_pl (Kd.V_mono (vI (q := gb196) (Kd.V_mono HO_36.out (fun k_ hk => (⟨hk, hk.1.2.2.2.2.1⟩ : _ ∧ k_ ≠ gb196))) (fun _ hk => hk.2)) (fun _ hk => ⟨hk.1.1.1, ⟨hk.1.2, ⟨hk.1.1.2.2.1, ⟨hk.1.1.2.2.2.1, hk.1.1.2.2.2.2.1⟩⟩⟩⟩))⟩, ⟨by exact V_pl (Kd.V_mono (vI (q := gb196) (Kd.V_mono HO_194002.out (fun k_ hk => (⟨hk, hk.1.2.2.2.2.1⟩ : _ ∧ k_ ≠ gb196))) (fun _ hk => hk.2)) (fun _ hk => ⟨hk.1.1.1, ⟨hk.1.2, ⟨hk.1.1.2.2.1, ⟨hk.1.1.2.2.2.1, hk.1.1.2.2.2.2.1⟩⟩⟩⟩))⟩, ⟨by exact V_pl (Kd.V_mono (vI (q := gb196) (Kd.V_mono HO_194003.out (fun k_ hk => (⟨hk, hk.1.2.2.2.2.1⟩ : _ ∧ k_ ≠ gb196))) (fun _ hk => hk.2)) (fun _ hk => ⟨hk.1.1.1, ⟨hk.1.2, ⟨hk.1.1.2.2.1, ⟨hk.1.1.2.2.2.1, hk.1.1.2.2.2.2.1⟩⟩⟩⟩))⟩, ⟨by exact V_pl (Kd.V_mono (vI (q := gb196) (Kd.V_mono HO_194004.out (fun k_ hk => (⟨hk, hk.1.2.2.2.2.1⟩ : _ ∧ k_ ≠ gb196))) (fun _ hk => hk.2)) (fun _ hk => ⟨hk.1.1.1, ⟨hk.1.2, ⟨hk.1.1.2.2.1, ⟨hk.1.1.2.2.2.1, hk.1.1.2.2.2.2.1⟩⟩⟩⟩))⟩, ⟨by exact V_pl (Kd.V_mono (vI (q := gb196) (Kd.V_mono HL197_3.out (fun k_ hk => (⟨hk, hk.1.2.2.2.2.1⟩ : _ ∧ k_ ≠ gb196))) (fun _ hk => hk.2)) (fun _ hk => ⟨hk.1.1.1, ⟨hk.1.2, ⟨hk.1.1.2.2.1, ⟨hk.1.1.2.2.2.1, hk.1.1.2.2.2.2.1⟩⟩⟩⟩))⟩, ⟨by exact V_pl (Kd.V_mono (vI (q := gb196) (Kd.V_mono HL197_4.out (fun k_ hk => (⟨hk, hk.1.2.2.2.2.1⟩ : _ ∧ k_ ≠ gb196))) (fun _ hk => hk.2)) (fun _ hk => ⟨hk.1.1.1, ⟨hk.1.2, ⟨hk.1.1.2.2.1, ⟨hk.1.1.2.2.2.1, hk.1.1.2.2.2.2.1⟩⟩⟩⟩))⟩, ⟨bF NB192_196 BK192⟩, ⟨bF NB193_196 BK193⟩, ⟨pB BK196⟩, ⟨be4 HB GE192 GE193 GE196 GE198⟩⟩
end Go.Proofs.Ytojankgmedccdaa.PAw
