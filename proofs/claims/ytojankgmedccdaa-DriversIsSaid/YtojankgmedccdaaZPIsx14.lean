/- Part of the proof of LawDriversIs: every definition and lemma is one that it names. -/
import Derived.Test.YtojankgmedccdaaZPIsx0
import Derived.Test.YtojankgmedccdaaZPIsx3
import Derived.Test.YtojankgmedccdaaZPIsx6
import Derived.Test.YtojankgmedccdaaZPIsx10
import Derived.Test.YtojankgmedccdaaZPIsx11
import Derived.Test.YtojankgmedccdaaZPIsx13
import Derived.Test.YtojankgmedccdaaZAwB
namespace Go.Proofs.Ytojankgmedccdaa.PIs
open Go.RowKit Go.Proofs.Ytojankgmedccdaa.Own Go.Proofs.Ytojankgmedccdaa.PTy Go.Proofs.Ytojankgmedccdaa.Hand Go.Proofs.YtojankgmedccdaaW.PrintWords Go.Proofs.YtojankgmedccdaaW.PrintLast Go.Proofs.YtojankgmedccdaaW.PrintMore
attribute [local go_sem] max2_int min2_int max_two min_two max_three min_three max_four min_four
set_option linter.unusedVariables false
set_option linter.unusedSimpArgs false
def v15DriversIs.f (k : Nat) (a0_0 : Int) (a0_1 : Int) (a0_2 : ByteArray) (l0_3 : List ByteArray) (l0_4 : List (S26)) (a1_0 : Int) (a1_1 : Int) (l1_2 : List Int) (l1_3 : List (S30)) (l1_4 : List (S63)) : Option (Bool) := (v15few.f k a0_0 a0_1 a0_2 l0_3 l0_4 a1_0 a1_1 l1_2 l1_3 l1_4 ([] : List (S30))).bind fun t224 => (if t224 = true then ((drivers_Scalar.f k a0_0 a0_1 a0_2 l0_3 l0_4).bind fun t226 => ((r15Scalar.f k a0_0 a0_1 a0_2 l0_3 l0_4).bind fun t227 => (if (t226 == t227) = true then ((drivers_Is.f k a0_0 a0_1 a0_2 l0_3 l0_4 a1_0 a1_1 l1_2 l1_3 l1_4).bind fun t228 => ((r15Is.f k a0_0 a0_1 a0_2 l0_3 l0_4 a1_0 a1_1 l1_2 l1_3 l1_4).bind fun t229 => (if (t228 == t229) = true then ((v15awake.f k).bind fun t230 => (some t230)) else (none)))) else (none)))) else ((v15awake.f k).bind fun t225 => (some t225)))
theorem v15DriversIs.mono : ∀ a0 a1 a2 a3 a4 a5 a6 a7 a8 a9 k, LeO (v15DriversIs.f k a0 a1 a2 a3 a4 a5 a6 a7 a8 a9) (v15DriversIs.f (k + 1) a0 a1 a2 a3 a4 a5 a6 a7 a8 a9) := by
 intro a0 a1 a2 a3 a4 a5 a6 a7 a8 a9 k
 unfold v15DriversIs.f
 repeat' first
   | (with_reducible exact drivers_Is.mono _ _ _ _ _ _ _ _ _ _ _)
   | (with_reducible exact drivers_Scalar.mono _ _ _ _ _ _)
   | (with_reducible exact v15awake.mono _)
   | (with_reducible exact v15few.mono _ _ _ _ _ _ _ _ _ _ _ _)
   | (with_reducible exact r15Is.mono _ _ _ _ _ _ _ _ _ _ _)
   | (with_reducible exact r15Scalar.mono _ _ _ _ _ _)
   | (with_reducible exact LeO.refl _)
   | (with_reducible exact LeO.none _)
   | (with_reducible refine LeO.ite ?_ ?_)
   | (with_reducible refine LeO.bind ?_ (fun _ => ?_))
   | exact drivers_Is.mono _ _ _ _ _ _ _ _ _ _ _
   | exact drivers_Scalar.mono _ _ _ _ _ _
   | exact v15awake.mono _
   | exact v15few.mono _ _ _ _ _ _ _ _ _ _ _ _
   | exact r15Is.mono _ _ _ _ _ _ _ _ _ _ _
   | exact r15Scalar.mono _ _ _ _ _ _
   | exact LeO.none _
   | refine LeO.ite ?_ ?_
   | refine LeO.bind ?_ (fun _ => ?_)
def v15DriversIs.T3 : Bool × List (List Nat × List Nat) := (true, [([], []), ([0], [0]), ([], []), ([2, 1], [2]), ([1, 3], [1, 3]), ([4, 3], [4]), ([5], [5]), ([5], [5]), ([6, 7, 5, 5], [5, 6, 7]), ([5], [5]), ([5], [5]), ([9, 10, 8, 5], [5, 9, 10]), ([8, 11, 5], [5, 8, 11]), ([5, 12], [5, 12]), ([13, 11], [13]), ([14, 14], [14]), ([14, 15], [14, 15]), ([16, 15, 0, 1, 2, 3, 4, 5, 6, 7, 8, 9, 10, 11, 12, 13, 14, 15, 16], [16])])
def v15DriversIs.B3 : List Nat := [0, 1, 0, 7, 15, 31, 63, 63, 255, 63, 63, 2047, 4095, 8191, 16383, 32767, 65535, 131071]
theorem v15DriversIs.tab3 : rtab .any (opsOf Try.f3 3) = v15DriversIs.T3 := by kernel_rfl
theorem v15DriversIs.bits3 : waitsOk v15DriversIs.T3.2 v15DriversIs.B3 = true := by kernel_rfl
set_option maxHeartbeats 8000000 in
set_option maxRecDepth 100000 in
theorem v15DriversIs.calls (k : Nat) (a0_0 : Int) (a0_1 : Int) (a0_2 : ByteArray) (A0_3 : Option Addr) (c0_3 : Nat) (l0_3 : List ByteArray) (A0_4 : Option Addr) (c0_4 : Nat) (l0_4 : List (S26)) (a1_0 : Int) (a1_1 : Int) (A1_2 : Option Addr) (c1_2 : Nat) (l1_2 : List Int) (A1_3 : Option Addr) (c1_3 : Nat) (l1_3 : List (S30)) (A1_4 : Option Addr) (c1_4 : Nat) (l1_4 : List (S63)) (r : Bool) (w : World) (hG : Glob w) (hr0_3 : Kd.C Kd.string w A0_3 l0_3.length l0_3) (hc0_3 : l0_3.length ≤ c0_3) (hr0_4 : Kd.C k26 w A0_4 l0_4.length l0_4) (hc0_4 : l0_4.length ≤ c0_4) (hr1_2 : Kd.C (Kd.int .u8) w A1_2 l1_2.length l1_2) (hc1_2 : l1_2.length ≤ c1_2) (hr1_3 : Kd.C k30 w A1_3 l1_3.length l1_3) (hc1_3 : l1_3.length ≤ c1_3) (hr1_4 : Kd.C k63 w A1_4 l1_4.length l1_4) (hc1_4 : l1_4.length ≤ c1_4) (h : v15DriversIs.f k a0_0 a0_1 a0_2 l0_3 l0_4 a1_0 a1_1 l1_2 l1_3 l1_4 = some r) :
  Calls Try.prog 3 #[.agg #[.int .i64 a0_0, .int .i64 a0_1, .string a0_2, .slice A0_3 l0_3.length c0_3, .slice A0_4 l0_4.length c0_4], .agg #[.int .i64 a1_0, .int .i64 a1_1, .slice A1_2 l1_2.length c1_2, .slice A1_3 l1_3.length c1_3, .slice A1_4 l1_4.length c1_4]] w fun e w' => e = .returned (.bool r) ∧ Below w.heap.size w w' := by
 have HG := mk0 hG; clear hG
 have hu26 := Try.underlying26
 have hu33 := Try.underlying33
 have HR0_3 := mk0 hr0_3; have HC0_3 := mk0 hc0_3; clear hr0_3 hc0_3; have HR0_4 := mk0 hr0_4; have HC0_4 := mk0 hc0_4; clear hr0_4 hc0_4; have HR1_2 := mk0 hr1_2; have HC1_2 := mk0 hc1_2; clear hr1_2 hc1_2; have HR1_3 := mk0 hr1_3; have HC1_3 := mk0 hc1_3; clear hr1_3 hc1_3; have HR1_4 := mk0 hr1_4; have HC1_4 := mk0 hc1_4; clear hr1_4 hc1_4
 have HB := mk0 (Below.refl w.heap.size w)
 have H : ((v15few.f k a0_0 a0_1 a0_2 l0_3 l0_4 a1_0 a1_1 l1_2 l1_3 l1_4 ([] : List (S30))).bind fun t224 => (if t224 = true then ((drivers_Scalar.f k a0_0 a0_1 a0_2 l0_3 l0_4).bind fun t226 => ((r15Scalar.f k a0_0 a0_1 a0_2 l0_3 l0_4).bind fun t227 => (if (t226 == t227) = true then ((drivers_Is.f k a0_0 a0_1 a0_2 l0_3 l0_4 a1_0 a1_1 l1_2 l1_3 l1_4).bind fun t228 => ((r15Is.f k a0_0 a0_1 a0_2 l0_3 l0_4 a1_0 a1_1 l1_2 l1_3 l1_4).bind fun t229 => (if (t228 == t229) = true then ((v15awake.f k).bind fun t230 => (some t230)) else (none)))) else (none)))) else ((v15awake.f k).bind fun t225 => (some t225)))) = some r := h
 clear h
 replace H := bS H; obtain ⟨t224, A3, H⟩ := H
 replace H := iB' H; obtain ⟨rfl, H⟩ | ⟨rfl, H⟩ := H
 ·replace H := bS H; obtain ⟨t225, A24, H⟩ := H; obtain rfl := sI H
  go_enter Try.func3, Try.ntmps3
  go_wp2_with (first | ((with_reducible refine box_event rfl (N := 2) rfl (cs := #[.int .i64 a0_0, .int .i64 a0_1, .string a0_2, .slice A0_3 l0_3.length c0_3, .slice A0_4 l0_4.length c0_4]) (t := 26) ?hr ?_); (case hr => first | (go_simp; done) | (go_simp; rfl)); intro gb222 hg w25 hbox hb; have BK222 := mk0 (hbox); have GE222 := bs (be HB) hg; replace HB := kh HB hb; clear hb hbox hg) | ((with_reducible refine box_event rfl (N := 3) rfl (cs := #[.int .i64 a1_0, .int .i64 a1_1, .slice A1_2 l1_2.length c1_2, .slice A1_3 l1_3.length c1_3, .slice A1_4 l1_4.length c1_4]) (t := 33) ?hr ?_); (case hr => first | (go_simp; done) | (go_simp; rfl)); intro gb223 hg w26 hbox hb; have BK223 := mk0 (hbox); have GE223 := bs (be1 HB GE222) hg; replace HB := kh1 HB GE222 hb; have NB222_223 := nb1 (bu BK222) hg; have NB223_222 := nb2 (bu BK222) hg; replace BK222 := kb BK222 hb; clear hb hbox hg; have hnb27 := NB222_223.out; have hnc27 := NB223_222.out; have z28 := cells5 BK222.out; have z29 := cells5 BK223.out) | ((with_reducible refine gate_callee (f := 15) rfl ?_); refine goesL_ (some 7) rfl rfl Try.func15 (by kernel_rfl) rfl #[.agg #[.int .i64 a0_0, .int .i64 a0_1, .string a0_2, .slice A0_3 l0_3.length c0_3, .slice A0_4 l0_4.length c0_4], .agg #[.int .i64 a1_0, .int .i64 a1_1, .slice A1_2 l1_2.length c1_2, .slice A1_3 l1_3.length c1_3, .slice A1_4 l1_4.length c1_4], .slice none 0 0] rfl (by (try simp only [List.map_toArray, List.map_cons, List.map_nil]); first | done | rfl | (simp only [List.length_drop, List.length_take]; rfl)) ?_; (refine (v15few.calls k a0_0 a0_1 a0_2 _ _ l0_3 _ _ l0_4 a1_0 a1_1 (fun k_ => k_ < w.heap.size) _ _ l1_2 (fun k_ => k_ < w.heap.size) _ _ l1_3 (fun k_ => k_ < w.heap.size) _ _ l1_4 (fun k_ => False) _ _ ([] : List (S30)) false _ ?side1 ?side2 ?side3 ?side4 ?side5 ?side6 ?side7 ?side8 A3.out).mono ?_); (case side1 => exact cu HR0_3 HB); (case side2 => exact HC0_3.out); (case side3 => exact cu HR0_4 HB); (case side4 => exact HC0_4.out); (case side5 => exact Kd.V_mk HC1_2.out (Kd.F_below (Kd.C_F (Kd.heap_int .u8) HR1_2.out) (be2 HB GE222 GE223))); (case side6 => exact Kd.V_mk HC1_3.out (Kd.F_below (Kd.C_F k30_heap HR1_3.out) (be2 HB GE222 GE223))); (case side7 => exact Kd.V_mk HC1_4.out (Kd.F_below (Kd.C_F k63_heap HR1_4.out) (be2 HB GE222 GE223))); (case side8 => exact Kd.V_nil _ _ _ _ _); rintro e w30 ⟨rfl, hb⟩; refine ⟨_, rfl, ?_⟩; replace BK222 := kb BK222 hb; replace BK223 := kb BK223 hb; replace HB := kh2 HB GE222 GE223 hb) | ((with_reducible refine gate_callee (f := 16) rfl ?_); refine goB (some 9) rfl rfl Try.func16 (by kernel_rfl) rfl #[] rfl rfl (v15awake.calls k  t225 _ (glob_below HG.out (be2 HB GE222 GE223)) A24.out) ?_; intro w31 hb; replace BK222 := kb BK222 hb; replace BK223 := kb BK223 hb; replace HB := kh2 HB GE222 GE223 hb))
  go_ret
  exact ⟨rfl, be2 HB GE222 GE223⟩
 replace H := bS H; obtain ⟨t226, A5, H⟩ := H
 replace H := bS H; obtain ⟨t227, A6, H⟩ := H
 by_cases c7 : (t226 == t227) = true
 rotate_left
 ·rw [if_neg c7] at H
  exact absurd H (by simp)
 rw [if_pos c7] at H
 have c7b0 : (t226 == t227) = true := c7
 (try (have c7b1 : decide (t226 = t227) = true := by simpa using c7))
 (try (have c7b2 : (t226 == t227) = true := by simpa using c7))
 clear c7
 replace H := bS H; obtain ⟨t228, A8, H⟩ := H
 replace H := bS H; obtain ⟨t229, A9, H⟩ := H
 by_cases c10 : (t228 == t229) = true
 rotate_left
 ·rw [if_neg c10] at H
  exact absurd H (by simp)
 rw [if_pos c10] at H
 have c10b0 : (t228 == t229) = true := c10
 (try (have c10b1 : decide (t228 = t229) = true := by simpa using c10))
 (try (have c10b2 : (t228 == t229) = true := by simpa using c10))
 clear c10
 replace H := bS H; obtain ⟨t230, A11, H⟩ := H; obtain rfl := sI H
 go_enter Try.func3, Try.ntmps3
 try go_wp2_with (first | ((with_reducible refine box_event rfl (N := 2) rfl (cs := #[.int .i64 a0_0, .int .i64 a0_1, .string a0_2, .slice A0_3 l0_3.length c0_3, .slice A0_4 l0_4.length c0_4]) (t := 26) ?hr ?_); (case hr => first | (go_simp; done) | (go_simp; rfl)); intro gb222 hg w12 hbox hb; have BK222 := mk0 (hbox); have GE222 := bs (be HB) hg; replace HB := kh HB hb; clear hb hbox hg) | ((with_reducible refine box_event rfl (N := 3) rfl (cs := #[.int .i64 a1_0, .int .i64 a1_1, .slice A1_2 l1_2.length c1_2, .slice A1_3 l1_3.length c1_3, .slice A1_4 l1_4.length c1_4]) (t := 33) ?hr ?_); (case hr => first | (go_simp; done) | (go_simp; rfl)); intro gb223 hg w13 hbox hb; have BK223 := mk0 (hbox); have GE223 := bs (be1 HB GE222) hg; replace HB := kh1 HB GE222 hb; have NB222_223 := nb1 (bu BK222) hg; have NB223_222 := nb2 (bu BK222) hg; replace BK222 := kb BK222 hb; clear hb hbox hg; have hnb14 := NB222_223.out; have hnc14 := NB223_222.out; have z15 := cells5 BK222.out; have z16 := cells5 BK223.out) | ((with_reducible refine gate_callee (f := 15) rfl ?_); refine goesL_ (some 7) rfl rfl Try.func15 (by kernel_rfl) rfl #[.agg #[.int .i64 a0_0, .int .i64 a0_1, .string a0_2, .slice A0_3 l0_3.length c0_3, .slice A0_4 l0_4.length c0_4], .agg #[.int .i64 a1_0, .int .i64 a1_1, .slice A1_2 l1_2.length c1_2, .slice A1_3 l1_3.length c1_3, .slice A1_4 l1_4.length c1_4], .slice none 0 0] rfl (by (try simp only [List.map_toArray, List.map_cons, List.map_nil]); first | done | rfl | (simp only [List.length_drop, List.length_take]; rfl)) ?_; (refine (v15few.calls k a0_0 a0_1 a0_2 _ _ l0_3 _ _ l0_4 a1_0 a1_1 (fun k_ => k_ < w.heap.size) _ _ l1_2 (fun k_ => k_ < w.heap.size) _ _ l1_3 (fun k_ => k_ < w.heap.size) _ _ l1_4 (fun k_ => False) _ _ ([] : List (S30)) true _ ?side1 ?side2 ?side3 ?side4 ?side5 ?side6 ?side7 ?side8 A3.out).mono ?_); (case side1 => exact cu HR0_3 HB); (case side2 => exact HC0_3.out); (case side3 => exact cu HR0_4 HB); (case side4 => exact HC0_4.out); (case side5 => exact Kd.V_mk HC1_2.out (Kd.F_below (Kd.C_F (Kd.heap_int .u8) HR1_2.out) (be2 HB GE222 GE223))); (case side6 => exact Kd.V_mk HC1_3.out (Kd.F_below (Kd.C_F k30_heap HR1_3.out) (be2 HB GE222 GE223))); (case side7 => exact Kd.V_mk HC1_4.out (Kd.F_below (Kd.C_F k63_heap HR1_4.out) (be2 HB GE222 GE223))); (case side8 => exact Kd.V_nil _ _ _ _ _); rintro e w17 ⟨rfl, hb⟩; refine ⟨_, rfl, ?_⟩; replace BK222 := kb BK222 hb; replace BK223 := kb BK223 hb; replace HB := kh2 HB GE222 GE223 hb))
 have n0_ := mk0 (blk_drew BK222.out)
 have n1_ := mk0 (blk_drew BK223.out)
 have n2_ := mk0 (below_drew1 HB.out)
 clear BK222; clear BK223; clear HB; have BK222 := n0_; have BK223 := n1_; have HB := n2_; clear n0_ n1_ n2_
 refine start_ (n := 18) (S := fun w' => w'.cell? ⟨gb222, 0, none⟩ = some (.int .i64 a0_0) ∧ w'.cell? ⟨gb222, 1, none⟩ = some (.int .i64 a0_1) ∧ w'.cell? ⟨gb222, 2, none⟩ = some (.string a0_2) ∧ w'.cell? ⟨gb222, 3, none⟩ = some (.slice A0_3 l0_3.length c0_3) ∧ w'.cell? ⟨gb222, 4, none⟩ = some (.slice A0_4 l0_4.length c0_4) ∧ w'.cell? ⟨gb223, 0, none⟩ = some (.int .i64 a1_0) ∧ w'.cell? ⟨gb223, 1, none⟩ = some (.int .i64 a1_1) ∧ w'.cell? ⟨gb223, 2, none⟩ = some (.slice A1_2 l1_2.length c1_2) ∧ w'.cell? ⟨gb223, 3, none⟩ = some (.slice A1_3 l1_3.length c1_3) ∧ w'.cell? ⟨gb223, 4, none⟩ = some (.slice A1_4 l1_4.length c1_4)) (ds := []) #[false, false, false, false, false, false, false, false, false, false, false, false, false, false, false, false, false, false] (by kernel_rfl) rfl rfl ⟨bc BK222 0, bc BK222 1, bc BK222 2, bc BK222 3, bc BK222 4, bc BK223 0, bc BK223 1, bc BK223 2, bc BK223 3, bc BK223 4⟩ (fun hHeld => ?_); refine with_tabW v15DriversIs.tab3 v15DriversIs.bits3 (fun HT_ HW_ => ?_)
 generalize w17.drew = w18 at BK222 BK223 HB hHeld ⊢
 refine take_ (i := 0) (N := some 10) (v := ?_) (a' := ?_) #[true, false, false, false, false, false, false, false, false, false, false, false, false, false, false, false, false, false] rfl rfl (take_ofW HT_.out HW_.out (by kernel_rfl)) (fun _ _ _ h => h) (Or.inl ⟨by rfl, ?_⟩) hHeld ?_ ?_
 rotate_left
 ·rintro w' ⟨s0, s1, s2, s3, s4, s5, s6, s7, s8, s9⟩
  go_simp
  with_reducible rfl
 rotate_left
 ·simp only [ps]
  rfl
 refine take_ (i := 2) (N := some 12) (v := ?_) (a' := ?_) #[true, false, true, false, false, false, false, false, false, false, false, false, false, false, false, false, false, false] rfl rfl (take_ofW HT_.out HW_.out (by kernel_rfl)) (fun _ _ _ h => h) (Or.inl ⟨by rfl, ?_⟩) hHeld ?_ ?_
 rotate_left
 ·rintro w' ⟨s0, s1, s2, s3, s4, s5, s6, s7, s8, s9⟩
  go_simp
  with_reducible rfl
 rotate_left
 ·simp only [ps]
  rfl
 refine one_ (i := 1) (N := some 11) #[true, true, true, false, false, false, false, false, false, false, false, false, false, false, false, false, false, false] rfl rfl (one_of HT_.out (by kernel_rfl)) (by decide) (fun K hK => ?_)
 refine goes_ Try.func17 (by kernel_rfl) rfl #[.agg #[.int .i64 a0_0, .int .i64 a0_1, .string a0_2, .slice A0_3 l0_3.length c0_3, .slice A0_4 l0_4.length c0_4]] (by rfl) rfl rfl (by (try simp only [List.map_toArray, List.map_cons, List.map_nil]); first | done | rfl | (simp only [List.length_drop, List.length_take]; rfl)) ?_
 with_reducible refine (drivers_Scalar.calls k a0_0 a0_1 a0_2 _ _ l0_3 _ _ l0_4 t226 _ ?side5 ?side1 ?side2 ?side3 ?side4 A5.out).mono ?_
 (case side1 => exact cu HR0_3 HB)
 (case side2 => exact HC0_3.out)
 (case side3 => exact cu HR0_4 HB)
 (case side4 => exact HC0_4.out)
 (case side5 => exact glob_below HG.out (be2 HB GE222 GE223))
 rintro e w19 ⟨rfl, hb⟩
 refine ⟨_, rfl, ?_⟩
 have n0_ := kb BK222 hb
 have n1_ := kb BK223 hb
 have n2_ := kh2 HB GE222 GE223 hb
 clear BK222; clear BK223; clear HB; have BK222 := n0_; have BK223 := n1_; have HB := n2_; clear n0_ n1_ n2_
 try clear hb
 refine hK.out _ _ ⟨bc BK222 0, bc BK222 1, bc BK222 2, bc BK222 3, bc BK222 4, bc BK223 0, bc BK223 1, bc BK223 2, bc BK223 3, bc BK223 4⟩ (fun hHeld => ?_)
 clear hK K
 refine norm_ (a' := ?_) ?_ ?_
 rotate_left
 ·show Act.put _ (some 11) _ = _
  simp only [ps]
  rfl
 refine one_ (i := 3) (N := some 13) #[true, true, true, true, false, false, false, false, false, false, false, false, false, false, false, false, false, false] rfl rfl (one_of HT_.out (by kernel_rfl)) (by decide) (fun K hK => ?_)
 refine goes_ Try.func18 (by kernel_rfl) rfl #[.agg #[.int .i64 a0_0, .int .i64 a0_1, .string a0_2, .slice A0_3 l0_3.length c0_3, .slice A0_4 l0_4.length c0_4]] (by rfl) rfl rfl (by (try simp only [List.map_toArray, List.map_cons, List.map_nil]); first | done | rfl | (simp only [List.length_drop, List.length_take]; rfl)) ?_
 with_reducible refine (r15Scalar.calls k a0_0 a0_1 a0_2 _ _ l0_3 _ _ l0_4 t227 _ ?side1 ?side2 ?side3 ?side4 A6.out).mono ?_
 (case side1 => exact cu HR0_3 HB)
 (case side2 => exact HC0_3.out)
 (case side3 => exact cu HR0_4 HB)
 (case side4 => exact HC0_4.out)
 rintro e w20 ⟨rfl, hb⟩
 refine ⟨_, rfl, ?_⟩
 have n0_ := kb BK222 hb
 have n1_ := kb BK223 hb
 have n2_ := kh2 HB GE222 GE223 hb
 clear BK222; clear BK223; clear HB; have BK222 := n0_; have BK223 := n1_; have HB := n2_; clear n0_ n1_ n2_
 try clear hb
 refine hK.out _ _ ⟨bc BK222 0, bc BK222 1, bc BK222 2, bc BK222 3, bc BK222 4, bc BK223 0, bc BK223 1, bc BK223 2, bc BK223 3, bc BK223 4⟩ (fun hHeld => ?_)
 clear hK K
 refine norm_ (a' := ?_) ?_ ?_
 rotate_left
 ·show Act.put _ (some 13) _ = _
  simp only [ps]
  rfl
 refine pure_ (i := 4) (N := some 14) (v := ?_) (a' := ?_) #[true, true, true, true, true, false, false, false, false, false, false, false, false, false, false, false, false, false] rfl rfl (any_of HT_.out (by kernel_rfl)) (fun _ _ _ h => h) (Or.inl ⟨by rfl, ?_⟩) ?_ ?_
 rotate_left
 ·intro w'
  go_simp
  with_reducible rfl
 rotate_left
 ·simp only [ps]
  rfl
 refine pure_ (i := 5) (N := some 15) (v := ?_) (a' := ?_) #[true, true, true, true, true, true, false, false, false, false, false, false, false, false, false, false, false, false] rfl rfl (any_of HT_.out (by kernel_rfl)) (fun _ _ _ h => h) (Or.inl ⟨by rfl, ?_⟩) ?_ ?_
 rotate_left
 ·intro w'
  go_simp
  with_reducible rfl
 rotate_left
 ·simp only [ps]
  rfl
 refine take_ (i := 6) (N := some 16) (v := ?_) (a' := ?_) #[true, true, true, true, true, true, true, false, false, false, false, false, false, false, false, false, false, false] rfl rfl (take_ofW HT_.out HW_.out (by kernel_rfl)) (fun _ _ _ h => h) (Or.inl ⟨by rfl, ?_⟩) hHeld ?_ ?_
 rotate_left
 ·rintro w' ⟨s0, s1, s2, s3, s4, s5, s6, s7, s8, s9⟩
  go_simp
  with_reducible rfl
 rotate_left
 ·simp only [ps]
  rfl
 refine take_ (i := 7) (N := some 17) (v := ?_) (a' := ?_) #[true, true, true, true, true, true, true, true, false, false, false, false, false, false, false, false, false, false] rfl rfl (take_ofW HT_.out HW_.out (by kernel_rfl)) (fun _ _ _ h => h) (Or.inl ⟨by rfl, ?_⟩) hHeld ?_ ?_
 rotate_left
 ·rintro w' ⟨s0, s1, s2, s3, s4, s5, s6, s7, s8, s9⟩
  go_simp
  with_reducible rfl
 rotate_left
 ·simp only [ps]
  rfl
 refine take_ (i := 9) (N := some 19) (v := ?_) (a' := ?_) #[true, true, true, true, true, true, true, true, false, true, false, false, false, false, false, false, false, false] rfl rfl (take_ofW HT_.out HW_.out (by kernel_rfl)) (fun _ _ _ h => h) (Or.inl ⟨by rfl, ?_⟩) hHeld ?_ ?_
 rotate_left
 ·rintro w' ⟨s0, s1, s2, s3, s4, s5, s6, s7, s8, s9⟩
  go_simp
  with_reducible rfl
 rotate_left
 ·simp only [ps]
  rfl
 refine take_ (i := 10) (N := some 20) (v := ?_) (a' := ?_) #[true, true, true, true, true, true, true, true, false, true, true, false, false, false, false, false, false, false] rfl rfl (take_ofW HT_.out HW_.out (by kernel_rfl)) (fun _ _ _ h => h) (Or.inl ⟨by rfl, ?_⟩) hHeld ?_ ?_
 rotate_left
 ·rintro w' ⟨s0, s1, s2, s3, s4, s5, s6, s7, s8, s9⟩
  go_simp
  with_reducible rfl
 rotate_left
 ·simp only [ps]
  rfl
 refine one_ (i := 8) (N := some 18) #[true, true, true, true, true, true, true, true, true, true, true, false, false, false, false, false, false, false] rfl rfl (one_of HT_.out (by kernel_rfl)) (by decide) (fun K hK => ?_)
 refine goes_ Try.func19 (by kernel_rfl) rfl #[.agg #[.int .i64 a0_0, .int .i64 a0_1, .string a0_2, .slice A0_3 l0_3.length c0_3, .slice A0_4 l0_4.length c0_4], .agg #[.int .i64 a1_0, .int .i64 a1_1, .slice A1_2 l1_2.length c1_2, .slice A1_3 l1_3.length c1_3, .slice A1_4 l1_4.length c1_4]] (by rfl) rfl rfl (by (try simp only [List.map_toArray, List.map_cons, List.map_nil]); first | done | rfl | (simp only [List.length_drop, List.length_take]; rfl)) ?_
 with_reducible refine (drivers_Is.calls k a0_0 a0_1 a0_2 _ _ l0_3 _ _ l0_4 a1_0 a1_1 _ _ l1_2 _ _ l1_3 _ _ l1_4 t228 _ ?side11 ?side1 ?side2 ?side3 ?side4 ?side5 ?side6 ?side7 ?side8 ?side9 ?side10 A8.out).mono ?_
 (case side1 => exact cu HR0_3 HB)
 (case side2 => exact HC0_3.out)
 (case side3 => exact cu HR0_4 HB)
 (case side4 => exact HC0_4.out)
 (case side5 => exact cu HR1_2 HB)
 (case side6 => exact HC1_2.out)
 (case side7 => exact cu HR1_3 HB)
 (case side8 => exact HC1_3.out)
 (case side9 => exact cu HR1_4 HB)
 (case side10 => exact HC1_4.out)
 (case side11 => exact glob_below HG.out (be2 HB GE222 GE223))
 rintro e w21 ⟨rfl, hb⟩
 refine ⟨_, rfl, ?_⟩
 have n0_ := kb BK222 hb
 have n1_ := kb BK223 hb
 have n2_ := kh2 HB GE222 GE223 hb
 clear BK222; clear BK223; clear HB; have BK222 := n0_; have BK223 := n1_; have HB := n2_; clear n0_ n1_ n2_
 try clear hb
 refine hK.out _ _ ⟨bc BK222 0, bc BK222 1, bc BK222 2, bc BK222 3, bc BK222 4, bc BK223 0, bc BK223 1, bc BK223 2, bc BK223 3, bc BK223 4⟩ (fun hHeld => ?_)
 clear hK K
 refine norm_ (a' := ?_) ?_ ?_
 rotate_left
 ·show Act.put _ (some 18) _ = _
  simp only [ps]
  rfl
 refine one_ (i := 11) (N := some 21) #[true, true, true, true, true, true, true, true, true, true, true, true, false, false, false, false, false, false] rfl rfl (one_of HT_.out (by kernel_rfl)) (by decide) (fun K hK => ?_)
 refine goes_ Try.func20 (by kernel_rfl) rfl #[.agg #[.int .i64 a0_0, .int .i64 a0_1, .string a0_2, .slice A0_3 l0_3.length c0_3, .slice A0_4 l0_4.length c0_4], .agg #[.int .i64 a1_0, .int .i64 a1_1, .slice A1_2 l1_2.length c1_2, .slice A1_3 l1_3.length c1_3, .slice A1_4 l1_4.length c1_4]] (by rfl) rfl rfl (by (try simp only [List.map_toArray, List.map_cons, List.map_nil]); first | done | rfl | (simp only [List.length_drop, List.length_take]; rfl)) ?_
 with_reducible refine (r15Is.calls k a0_0 a0_1 a0_2 _ _ l0_3 _ _ l0_4 a1_0 a1_1 _ _ l1_2 _ _ l1_3 _ _ l1_4 t229 _ ?side1 ?side2 ?side3 ?side4 ?side5 ?side6 ?side7 ?side8 ?side9 ?side10 A9.out).mono ?_
 (case side1 => exact cu HR0_3 HB)
 (case side2 => exact HC0_3.out)
 (case side3 => exact cu HR0_4 HB)
 (case side4 => exact HC0_4.out)
 (case side5 => exact cu HR1_2 HB)
 (case side6 => exact HC1_2.out)
 (case side7 => exact cu HR1_3 HB)
 (case side8 => exact HC1_3.out)
 (case side9 => exact cu HR1_4 HB)
 (case side10 => exact HC1_4.out)
 rintro e w22 ⟨rfl, hb⟩
 refine ⟨_, rfl, ?_⟩
 have n0_ := kb BK222 hb
 have n1_ := kb BK223 hb
 have n2_ := kh2 HB GE222 GE223 hb
 clear BK222; clear BK223; clear HB; have BK222 := n0_; have BK223 := n1_; have HB := n2_; clear n0_ n1_ n2_
 try clear hb
 refine hK.out _ _ ⟨bc BK222 0, bc BK222 1, bc BK222 2, bc BK222 3, bc BK222 4, bc BK223 0, bc BK223 1, bc BK223 2, bc BK223 3, bc BK223 4⟩ (fun hHeld => ?_)
 clear hK K
 refine norm_ (a' := ?_) ?_ ?_
 rotate_left
 ·show Act.put _ (some 21) _ = _
  simp only [ps]
  rfl
 refine pure_ (i := 12) (N := some 22) (v := ?_) (a' := ?_) #[true, true, true, true, true, true, true, true, true, true, true, true, true, false, false, false, false, false] rfl rfl (any_of HT_.out (by kernel_rfl)) (fun _ _ _ h => h) (Or.inl ⟨by rfl, ?_⟩) ?_ ?_
 rotate_left
 ·intro w'
  go_simp
  with_reducible rfl
 rotate_left
 ·simp only [ps]
  rfl
 refine pure_ (i := 13) (N := some 23) (v := ?_) (a' := ?_) #[true, true, true, true, true, true, true, true, true, true, true, true, true, true, false, false, false, false] rfl rfl (any_of HT_.out (by kernel_rfl)) (fun _ _ _ h => h) (Or.inl ⟨by rfl, ?_⟩) ?_ ?_
 rotate_left
 ·intro w'
  go_simp
  with_reducible rfl
 rotate_left
 ·simp only [ps]
  rfl
 refine pure_ (i := 14) (N := some 24) (v := ?_) (a' := ?_) #[true, true, true, true, true, true, true, true, true, true, true, true, true, true, true, false, false, false] rfl rfl (any_of HT_.out (by kernel_rfl)) (fun _ _ _ h => h) (Or.inl ⟨by rfl, ?_⟩) ?_ ?_
 rotate_left
 ·intro w'
  go_simp
  with_reducible rfl
 rotate_left
 ·simp only [ps]
  rfl
 refine one_ (i := 15) (N := some 25) #[true, true, true, true, true, true, true, true, true, true, true, true, true, true, true, true, false, false] rfl rfl (one_of HT_.out (by kernel_rfl)) (by decide) (fun K hK => ?_)
 refine goes_ Try.func16 (by kernel_rfl) rfl #[] (by rfl) rfl rfl (by (try simp only [List.map_toArray, List.map_cons, List.map_nil]); first | done | rfl | (simp only [List.length_drop, List.length_take]; rfl)) ?_
 with_reducible refine (v15awake.calls k  t230 _ ?side1 A11.out).mono ?_
 (case side1 => exact glob_below HG.out (be2 HB GE222 GE223))
 rintro e w23 ⟨rfl, hb⟩
 refine ⟨_, rfl, ?_⟩
 have n0_ := kb BK222 hb
 have n1_ := kb BK223 hb
 have n2_ := kh2 HB GE222 GE223 hb
 clear BK222; clear BK223; clear HB; have BK222 := n0_; have BK223 := n1_; have HB := n2_; clear n0_ n1_ n2_
 try clear hb
 refine hK.out _ _ ⟨bc BK222 0, bc BK222 1, bc BK222 2, bc BK222 3, bc BK222 4, bc BK223 0, bc BK223 1, bc BK223 2, bc BK223 3, bc BK223 4⟩ (fun hHeld => ?_)
 clear hK K
 refine norm_ (a' := ?_) ?_ ?_
 rotate_left
 ·show Act.put _ (some 25) _ = _
  simp only [ps]
  rfl
 refine pure_ (i := 16) (N := some 26) (v := ?_) (a' := ?_) #[true, true, true, true, true, true, true, true, true, true, true, true, true, true, true, true, true, false] rfl rfl (any_of HT_.out (by kernel_rfl)) (fun _ _ _ h => h) (Or.inl ⟨by rfl, ?_⟩) ?_ ?_
 rotate_left
 ·intro w'
  go_simp
  with_reducible rfl
 rotate_left
 ·simp only [ps]
  rfl
 refine pure_ (i := 17) (N := some 4) (v := ?_) (a' := ?_) #[true, true, true, true, true, true, true, true, true, true, true, true, true, true, true, true, true, true] rfl rfl (any_of HT_.out (by kernel_rfl)) (fun _ _ _ h => h) (Or.inl ⟨by rfl, ?_⟩) ?_ ?_
 rotate_left
 ·intro w'
  go_simp
  with_reducible rfl
 rotate_left
 ·simp only [ps]
  rfl
 refine done_ (done_of HT_.out (by kernel_rfl)) ?_
 try go_wp2
 go_ret
 exact ⟨rfl, be2 HB GE222 GE223⟩
end Go.Proofs.Ytojankgmedccdaa.PIs
