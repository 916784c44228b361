/- Part of the proof of LawDriversOrder: every definition and lemma is one that it names. -/
import Derived.Test.YtojankgmedccdaaQPOrx0
import Derived.Test.YtojankgmedccdaaQOwn4
import Derived.Test.YtojankgmedccdaaQAwB
import Derived.Test.YtojankgmedccdaaQPIsx3
import Derived.Test.YtojankgmedccdaaQPAwx1
import Derived.Test.YtojankgmedccdaaQPAwx7
import Derived.Test.YtojankgmedccdaaQPRsx1
import Derived.Test.YtojankgmedccdaaQPRsx4
namespace Go.Proofs.Ytojankgmedccdaa.POr
open Go.RowKit Own PTy Hand PIs PAw YtojankgmedccdaaW.PrintWords YtojankgmedccdaaW.PrintLast YtojankgmedccdaaW.PrintMore
open Aw (bv VB bitC heap_lt_alloc put4)
attribute [local go_sem] max2_int min2_int max_two min_two max_three min_three max_four min_four
set_option linter.unusedVariables false
set_option linter.unusedSimpArgs false
theorem u8w (a n : Int) : (wrap64 (IntKind.u8.wrap (a.tdiv 8))).tmod n = (Int.tdiv a 8 % 256) % n := by
 have h0 : 0 ≤ Int.tdiv a 8 % 256 := Int.emod_nonneg _ (by decide)
 rw [show IntKind.u8.wrap (a.tdiv 8) = Int.tdiv a 8 % 256 from rfl, show wrap64 (Int.tdiv a 8 % 256) = Int.tdiv a 8 % 256 from by unfold wrap64; omega, Int.tmod_eq_emod_of_nonneg h0]
mutual
def v15DriversOrder.j0 : Nat → List (S30) → Bool → Int → Int → ByteArray → List ByteArray → List (S26) → Int → Int → Option (Bool)
 | 0, _, _, _, _, _, _, _, _, _ => none
 | k + 1, x1, x31, x157000, x157001, x157002, x157003, x157004, x158000, x158001 => if x31 = true then ((v15awake.f k).bind fun t159 => (some t159)) else (if (x1.length : Int) = 0 then (none) else ((some (([] : List (S30)) : List (S30))).bind fun y160 => (if 0 ≤ (Int.tmod (wrap64 (x158000)) (x1.length : Int)) then (if (Int.tmod (wrap64 (x158000)) (x1.length : Int)) ≤ (x1.length : Int) then ((some (x1.drop ((Int.tmod (wrap64 (x158000)) (x1.length : Int)) : Int).toNat : List (S30))).bind fun y163 => (if y160.length + y163.length < 2199023255552 then ((some (y160 ++ y163 : List (S30))).bind fun y168 => ((some (x1.take ((Int.tmod (wrap64 (x158000)) (x1.length : Int)) : Int).toNat : List (S30))).bind fun y171 => (if y168.length + y171.length < 2199023255552 then ((some (y168 ++ y171 : List (S30))).bind fun y176 => (if (y176.length : Int) = 0 then (none) else (if 0 ≤ (((Int.tdiv x158000 8) % 256) % (y176.length : Int)) then (if (((Int.tdiv x158000 8) % 256) % (y176.length : Int)) < (y176.length : Int) then (if 0 ≤ (Int.tmod (wrap64 (x158001)) (y176.length : Int)) then (if (Int.tmod (wrap64 (x158001)) (y176.length : Int)) < (y176.length : Int) then ((PRs.drivers_Resolve.f k x157000 x157001 x157002 x157003 x157004 x1).bind fun bt183 => ((PRs.drivers_Resolve.f k x157000 x157001 x157002 x157003 x157004 ((y176.set ((Int.tmod (wrap64 (x158001)) (y176.length : Int)) : Int).toNat (⟨(rd_T30 y176 (((Int.tdiv x158000 8) % 256) % (y176.length : Int))).f0, (rd_T30 y176 (((Int.tdiv x158000 8) % 256) % (y176.length : Int))).f1, (rd_T30 y176 (((Int.tdiv x158000 8) % 256) % (y176.length : Int))).f2, (rd_T30 y176 (((Int.tdiv x158000 8) % 256) % (y176.length : Int))).f3⟩ : S30)).set ((((Int.tdiv x158000 8) % 256) % (y176.length : Int)) : Int).toNat (⟨(rd_T30 y176 (Int.tmod (wrap64 (x158001)) (y176.length : Int))).f0, (rd_T30 y176 (Int.tmod (wrap64 (x158001)) (y176.length : Int))).f1, (rd_T30 y176 (Int.tmod (wrap64 (x158001)) (y176.length : Int))).f2, (rd_T30 y176 (Int.tmod (wrap64 (x158001)) (y176.length : Int))).f3⟩ : S30))).bind fun bt193 => ((PRs.r04Alike.f k bt183.1 bt183.2.1 bt183.2.2.1 bt183.2.2.2.1 bt193.1 bt193.2.1 bt193.2.2.1 bt193.2.2.2.1).bind fun t203 => (if t203 = true then (if bt183.2.2.2.2 = bt193.2.2.2.2 then (if x157000 = 1 then (v15DriversOrder.j1 k x1 (bt183.2.2.2.2 == 0) x157000 x157001 x157002 x157003 x157004 bt183.1 bt183.2.1 bt183.2.2.1 bt183.2.2.2.1) else (v15DriversOrder.j1 k x1 false x157000 x157001 x157002 x157003 x157004 bt183.1 bt183.2.1 bt183.2.2.1 bt183.2.2.2.1)) else (none)) else (none))))) else (none)) else (none)) else (none)) else (none)))) else (none)))) else (none))) else (none)) else (none))))
def v15DriversOrder.j1 : Nat → List (S30) → Bool → Int → Int → ByteArray → List ByteArray → List (S26) → Int → Int → List Int → List (S30) → Option (Bool)
 | 0, _, _, _, _, _, _, _, _, _, _, _ => none
 | k + 1, x1, x102, x157000, x157001, x157002, x157003, x157004, x193000, x193001, x193002, x193003 => if x102 = true then ((v15bit.f 3).bind fun bt204 => ((some (([(⟨bt204.1, bt204.2.1, bt204.2.2.1, bt204.2.2.2⟩ : S30)] : List (S30)) : List (S30))).bind fun y212 => (if y212.length + x1.length < 2199023255552 then ((some (y212 ++ x1 : List (S30))).bind fun y215 => ((v15bit.f 3).bind fun bt218 => ((some (([(⟨bt218.1, bt218.2.1, bt218.2.2.1, bt218.2.2.2⟩ : S30)] : List (S30)) : List (S30))).bind fun y226 => (if y215.length + y226.length < 2199023255552 then ((PRs.drivers_Resolve.f k x157000 x157001 x157002 x157003 x157004 (y215 ++ y226)).bind fun bt232 => (if bt232.2.2.2.2 = 0 then ((PRs.r04Alike.f k bt232.1 bt232.2.1 bt232.2.2.1 bt232.2.2.2.1 x193000 x193001 x193002 x193003).bind fun t242 => (if t242 = true then ((v15awake.f k).bind fun t243 => (some t243)) else (none))) else (none))) else (none))))) else (none)))) else ((v15awake.f k).bind fun t244 => (some t244))
end
def v15DriversOrder.f (k : Nat) (a0_0 : Int) (a0_1 : Int) (a0_2 : ByteArray) (l0_3 : List ByteArray) (l0_4 : List (S26)) (l1 : List (S30)) (a2_0 : Int) (a2_1 : Int) : Option (Bool) := (v15few.f k a0_0 a0_1 a0_2 l0_3 l0_4 0 0 ([] : List Int) ([] : List (S30)) ([] : List (S63)) l1).bind fun t158 => (if t158 = true then (if (l1.length : Int) = 0 then (v15DriversOrder.j0 k l1 true a0_0 a0_1 a0_2 l0_3 l0_4 a2_0 a2_1) else (v15DriversOrder.j0 k l1 (decide ((l1.length : Int) > 40)) a0_0 a0_1 a0_2 l0_3 l0_4 a2_0 a2_1)) else (v15DriversOrder.j0 k l1 true a0_0 a0_1 a0_2 l0_3 l0_4 a2_0 a2_1))
theorem v15DriversOrder.mono_l : ∀ k, (∀ y0 y1 y2 y3 y4 y5 y6 y7 y8, LeO (v15DriversOrder.j0 k y0 y1 y2 y3 y4 y5 y6 y7 y8) (v15DriversOrder.j0 (k + 1) y0 y1 y2 y3 y4 y5 y6 y7 y8)) ∧ (∀ y0 y1 y2 y3 y4 y5 y6 y7 y8 y9 y10, LeO (v15DriversOrder.j1 k y0 y1 y2 y3 y4 y5 y6 y7 y8 y9 y10) (v15DriversOrder.j1 (k + 1) y0 y1 y2 y3 y4 y5 y6 y7 y8 y9 y10))
 | 0 => ⟨fun _ _ _ _ _ _ _ _ _ r h => by simp [v15DriversOrder.j0] at h, fun _ _ _ _ _ _ _ _ _ _ _ r h => by simp [v15DriversOrder.j1] at h⟩
 | k + 1 => by
  obtain ⟨ih0, ih1⟩ := v15DriversOrder.mono_l k
  refine ⟨?_, ?_⟩ <;> intros <;> (first | unfold v15DriversOrder.j0 | unfold v15DriversOrder.j1) <;> repeat' first | (with_reducible first | apply ih0 | apply ih1 | apply PRs.drivers_Resolve.mono | apply v15awake.mono | apply v15few.mono | apply PRs.r04Alike.mono | apply LeO.refl | apply LeO.none | refine LeO.ite ?_ ?_ | refine LeO.bind ?_ (fun _ => ?_)) | apply ih0 | apply ih1 | apply PRs.drivers_Resolve.mono | apply v15awake.mono | apply v15few.mono | apply PRs.r04Alike.mono | apply LeO.none | refine LeO.ite ?_ ?_ | refine LeO.bind ?_ (fun _ => ?_)
theorem v15DriversOrder.mono : ∀ a0 a1 a2 a3 a4 a5 a6 a7 k, LeO (v15DriversOrder.f k a0 a1 a2 a3 a4 a5 a6 a7) (v15DriversOrder.f (k + 1) a0 a1 a2 a3 a4 a5 a6 a7) := by
 intro a0 a1 a2 a3 a4 a5 a6 a7 k
 obtain ⟨ih0, ih1⟩ := v15DriversOrder.mono_l k
 unfold v15DriversOrder.f
 repeat' first
   | (with_reducible exact ih0 _ _ _ _ _ _ _ _ _)
   | (with_reducible exact ih1 _ _ _ _ _ _ _ _ _ _ _)
   | (with_reducible exact PRs.drivers_Resolve.mono _ _ _ _ _ _ _)
   | (with_reducible exact v15awake.mono _)
   | (with_reducible exact v15few.mono _ _ _ _ _ _ _ _ _ _ _ _)
   | (with_reducible exact PRs.r04Alike.mono _ _ _ _ _ _ _ _ _)
   | (with_reducible exact LeO.refl _)
   | (with_reducible exact LeO.none _)
   | (with_reducible refine LeO.ite ?_ ?_)
   | (with_reducible refine LeO.bind ?_ (fun _ => ?_))
   | exact ih0 _ _ _ _ _ _ _ _ _
   | exact ih1 _ _ _ _ _ _ _ _ _ _ _
   | exact PRs.drivers_Resolve.mono _ _ _ _ _ _ _
   | exact v15awake.mono _
   | exact v15few.mono _ _ _ _ _ _ _ _ _ _ _ _
   | exact PRs.r04Alike.mono _ _ _ _ _ _ _ _ _
   | exact LeO.none _
   | refine LeO.ite ?_ ?_
   | refine LeO.bind ?_ (fun _ => ?_)
def v15DriversOrder.T4 : Bool × List (List Nat × List Nat) := (true, [([], []), ([], []), ([], []), ([1, 2], [1, 2]), ([0, 3], [0, 3]), ([], []), ([], []), ([5, 6], [5, 6]), ([4, 7, 4], [4, 7]), ([8, 8, 0, 1, 2, 3, 4, 5, 6, 7, 8], [8])])
def v15DriversOrder.B4 : List Nat := [0, 0, 0, 6, 15, 0, 0, 96, 255, 511]
theorem v15DriversOrder.tab4 : rtab .any (opsOf Try.f13 4) = v15DriversOrder.T4 := by kernel_rfl
theorem v15DriversOrder.bits4 : waitsOk v15DriversOrder.T4.2 v15DriversOrder.B4 = true := by kernel_rfl
def v15DriversOrder.T5 : Bool × List (List Nat × List Nat) := (true, [([], []), ([0], [0]), ([1], [1]), ([], []), ([3], [3]), ([2, 4], [2, 4]), ([], []), ([6], [6]), ([7], [7]), ([8], [8]), ([], []), ([10], [10]), ([9, 11], [9, 11]), ([5, 0, 1, 2, 3, 4, 5], [5]), ([12, 13, 0, 1, 2, 3, 4, 5, 6, 7, 8, 9, 10, 11, 12, 13], [12])])
def v15DriversOrder.B5 : List Nat := [0, 1, 3, 0, 8, 31, 0, 64, 192, 448, 0, 1024, 4032, 63, 16383]
theorem v15DriversOrder.tab5 : rtab .any (opsOf Try.f13 5) = v15DriversOrder.T5 := by kernel_rfl
theorem v15DriversOrder.bits5 : waitsOk v15DriversOrder.T5.2 v15DriversOrder.B5 = true := by kernel_rfl
def v15DriversOrder.T6 : Bool × List (List Nat × List Nat) := (true, [([], []), ([], []), ([], []), ([], []), ([], []), ([], []), ([4, 5], [4, 5]), ([6], [6]), ([], []), ([], []), ([8, 9], [8, 9]), ([10], [10]), ([0, 1, 0, 1, 4, 5, 6, 7, 11], [0, 1]), ([12, 7, 0, 1, 4, 5, 6, 7, 11], [7, 12]), ([2, 3, 0, 1, 2, 3, 4, 5, 6, 7, 8, 9, 10, 11, 12, 13], [2, 3]), ([14, 11, 13, 0, 1, 2, 3, 4, 5, 6, 7, 8, 9, 10, 11, 12, 13], [11, 14])])
def v15DriversOrder.B6 : List Nat := [0, 0, 0, 0, 0, 0, 48, 112, 0, 0, 768, 1792, 4083, 8179, 16383, 32767]
theorem v15DriversOrder.tab6 : rtab .any (opsOf Try.f13 6) = v15DriversOrder.T6 := by kernel_rfl
theorem v15DriversOrder.bits6 : waitsOk v15DriversOrder.T6.2 v15DriversOrder.B6 = true := by kernel_rfl
def v15DriversOrder.T12 : Bool × List (List Nat × List Nat) := (true, [([], []), ([], []), ([1], [1]), ([], []), ([2, 3, 1], [2, 3]), ([4], []), ([5], [5]), ([4, 6, 5], [4, 6]), ([0, 7, 7], [0, 7]), ([8], [8]), ([9], [9]), ([9], [9]), ([], []), ([12, 10, 8, 0, 1, 2, 3, 4, 5, 6, 7, 8, 9, 10, 12], [10, 12]), ([11, 13, 0, 1, 2, 3, 4, 5, 6, 7, 8, 9, 10, 11, 12, 13], [11])])
def v15DriversOrder.B12 : List Nat := [0, 0, 2, 0, 14, 30, 62, 126, 255, 511, 1023, 1023, 0, 6143, 16383]
theorem v15DriversOrder.tab12 : rtab .any (opsOf Try.f13 12) = v15DriversOrder.T12 := by kernel_rfl
theorem v15DriversOrder.bits12 : waitsOk v15DriversOrder.T12.2 v15DriversOrder.B12 = true := by kernel_rfl
set_option maxHeartbeats 8000000 in
set_option maxRecDepth 100000 in
theorem v15DriversOrder.calls (k : Nat) (a0_0 : Int) (a0_1 : Int) (a0_2 : ByteArray) (A0_3 : Option Addr) (c0_3 : Nat) (l0_3 : List ByteArray) (A0_4 : Option Addr) (c0_4 : Nat) (l0_4 : List (S26)) (P1_ : Nat → Prop) (A1 : Option Addr) (c1 : Nat) (l1 : List (S30)) (a2_0 : Int) (a2_1 : Int) (r : Bool) (w : World) (hG : Glob w) (hr0_3 : Kd.C Kd.string w A0_3 l0_3.length l0_3) (hc0_3 : l0_3.length ≤ c0_3) (hr0_4 : Kd.C k26 w A0_4 l0_4.length l0_4) (hc0_4 : l0_4.length ≤ c0_4) (hs1 : Kd.V k30 30 w w.heap.size (fun k_ => P1_ k_) (.slice A1 l1.length c1) l1) (h : v15DriversOrder.f k a0_0 a0_1 a0_2 l0_3 l0_4 l1 a2_0 a2_1 = some r) :
  Calls Try.prog 13 #[.agg #[.int .i64 a0_0, .int .i64 a0_1, .string a0_2, .slice A0_3 l0_3.length c0_3, .slice A0_4 l0_4.length c0_4], .slice A1 l1.length c1, .agg #[.int .u8 a2_0, .int .u8 a2_1]] w fun e w' => e = .returned (.bool r) ∧ Below w.heap.size w w' := by
 have HG := mk0 hG; clear hG
 have hu26 := Try.underlying26
 have hu71 := Try.underlying71
 have hu33 := Try.underlying33
 have hu30 := Try.underlying30
 have HR0_3 := mk0 hr0_3; have HC0_3 := mk0 hc0_3; clear hr0_3 hc0_3; have HR0_4 := mk0 hr0_4; have HC0_4 := mk0 hc0_4; clear hr0_4 hc0_4
 have HO1 := mk0 (show Kd.V k30 30 w w.heap.size (fun k_ => (P1_ k_ ∨ w.heap.size ≤ k_)) (.slice A1 l1.length c1) l1 from Kd.V_mono hs1 (fun k_ hk => .inl hk))
 have HB := mk0 (Below.refl w.heap.size w)
 have H := h; unfold v15DriversOrder.f at H
 clear h; have HC4 := mk0 H; clear H
 go_enter Try.func13, Try.ntmps13
 go_upto_region 1 with (first | ((with_reducible refine box_event rfl (N := 3) rfl (cs := #[.int .i64 a0_0, .int .i64 a0_1, .string a0_2, .slice A0_3 l0_3.length c0_3, .slice A0_4 l0_4.length c0_4]) (t := 26) ?hr ?_); (case hr => first | (go_simp; done) | (go_simp; rfl)); intro gb156 hg w5 hbox hb; replace HO1 := vB HO1 hg hb; have BK156 := mk0 (hbox); have GE156 := bs (be HB) hg; replace HB := kh HB hb; clear hb hbox hg) | ((with_reducible refine box_event rfl (N := 5) rfl (cs := #[.int .u8 a2_0, .int .u8 a2_1]) (t := 71) ?hr ?_); (case hr => first | (go_simp; done) | (go_simp; rfl)); intro gb157 hg w6 hbox hb; replace HO1 := vB HO1 hg hb; have BK157 := mk0 (hbox); have GE157 := bs (be1 HB GE156) hg; replace HB := kh1 HB GE156 hb; have NB156_157 := nb1 (bu BK156) hg; have NB157_156 := nb2 (bu BK156) hg; replace BK156 := kb BK156 hb; clear hb hbox hg))
 (try simp only [Act.put, List.setIfInBounds_toArray, List.set_cons_zero, List.set_cons_succ])
 go_cut [31] (fun v31 wc => ∃ (kq : Nat) (x31_3 : Bool), v31 = .bool x31_3 ∧ Aside0 (v15DriversOrder.j0 kq l1 x31_3 a0_0 a0_1 a0_2 l0_3 l0_4 a2_0 a2_1 = some r) ∧ Aside0 (kq ≤ k) ∧ Aside0 (Kd.V k30 30 wc w.heap.size (fun k_ => (P1_ k_ ∨ w.heap.size ≤ k_) ∧ k_ ≠ gb156 ∧ k_ ≠ gb157) (.slice A1 l1.length c1) l1) ∧ Aside0 (wc.heap[gb156]? = some (.cells #[.int .i64 a0_0, .int .i64 a0_1, .string a0_2, (.slice A0_3 l0_3.length c0_3), (.slice A0_4 l0_4.length c0_4)] 26 (0, 0))) ∧ Aside0 (wc.heap[gb157]? = some (.cells #[.int .u8 a2_0, .int .u8 a2_1] 71 (0, 0))) ∧ Aside0 (Below w.heap.size w wc))
 case first =>
  have H := HC4.out; clear HC4
  replace H := bS H; obtain ⟨t158, A7, H⟩ := H
  replace H := iB' H; obtain ⟨rfl, H⟩ | ⟨rfl, H⟩ := H
  ·have H' := mk0 H
   clear H; have hnb16 := NB156_157.out; have hnc16 := NB157_156.out
   have zc17 := cells5 BK156.out
   go_wp2_with ((with_reducible refine gate_callee (f := 15) rfl ?_); refine goesL_ (some 20) rfl rfl Try.func15 (by kernel_rfl) rfl #[.agg #[.int .i64 a0_0, .int .i64 a0_1, .string a0_2, .slice A0_3 l0_3.length c0_3, .slice A0_4 l0_4.length c0_4], .agg #[.int .i64 0, .int .i64 0, .slice none 0 0, .slice none 0 0, .slice none 0 0], .slice A1 l1.length c1] rfl (by (try simp only [List.map_toArray, List.map_cons, List.map_nil]); first | done | rfl | (simp only [List.length_drop, List.length_take]; rfl)) ?_; (refine (v15few.calls k a0_0 a0_1 a0_2 _ _ l0_3 _ _ l0_4 0 0 (fun k_ => False) _ _ ([] : List Int) (fun k_ => False) _ _ ([] : List (S30)) (fun k_ => False) _ _ ([] : List (S63)) (fun k_ => (((P1_ k_ ∨ w.heap.size ≤ k_) ∧ k_ ≠ gb156) ∧ k_ ≠ gb157)) _ _ l1 false _ ?side1 ?side2 ?side3 ?side4 ?side5 ?side6 ?side7 ?side8 A7.out).mono ?_); (case side1 => exact cu HR0_3 HB); (case side2 => exact HC0_3.out); (case side3 => exact cu HR0_4 HB); (case side4 => exact HC0_4.out); (case side5 => exact Kd.V_nil _ _ _ _ _); (case side6 => exact Kd.V_nil _ _ _ _ _); (case side7 => exact Kd.V_nil _ _ _ _ _); (case side8 => exact HO1.out); rintro e w18 ⟨rfl, hb⟩; refine ⟨_, rfl, ?_⟩; replace HO1 := vb HO1 hb; replace BK156 := kb BK156 hb; replace BK157 := kb BK157 hb; replace HB := kh2 HB GE156 GE157 hb)
   go_meet
   case rel => exact ⟨_, (true), rfl, H', ⟨by omega⟩, ⟨by exact V_pl (Kd.V_mono HO1.out (fun _ hk => ⟨hk.1.1, ⟨hk.1.2, hk.2⟩⟩))⟩, ⟨bu BK156⟩, ⟨bu BK157⟩, ⟨be2 HB GE156 GE157⟩⟩
  replace H := iE' H; obtain ⟨c9, c9b0, c9b1, H⟩ | ⟨c9b0, c9b1, H⟩ := H
  ·have c9b2 : ¬ (l1 = []) := fun h_ => c9 (by rw [h_]; rfl)
   (first | rw [c9b0] | (simp only [i64_w, i32_w]; rw [c9b0]) | skip)
   have H' := mk0 H
   clear H; have hnb13 := NB156_157.out; have hnc13 := NB157_156.out
   have zc14 := cells5 BK156.out
   go_wp2_with ((with_reducible refine gate_callee (f := 15) rfl ?_); refine goesL_ (some 20) rfl rfl Try.func15 (by kernel_rfl) rfl #[.agg #[.int .i64 a0_0, .int .i64 a0_1, .string a0_2, .slice A0_3 l0_3.length c0_3, .slice A0_4 l0_4.length c0_4], .agg #[.int .i64 0, .int .i64 0, .slice none 0 0, .slice none 0 0, .slice none 0 0], .slice A1 l1.length c1] rfl (by (try simp only [List.map_toArray, List.map_cons, List.map_nil]); first | done | rfl | (simp only [List.length_drop, List.length_take]; rfl)) ?_; (refine (v15few.calls k a0_0 a0_1 a0_2 _ _ l0_3 _ _ l0_4 0 0 (fun k_ => False) _ _ ([] : List Int) (fun k_ => False) _ _ ([] : List (S30)) (fun k_ => False) _ _ ([] : List (S63)) (fun k_ => (((P1_ k_ ∨ w.heap.size ≤ k_) ∧ k_ ≠ gb156) ∧ k_ ≠ gb157)) _ _ l1 true _ ?side1 ?side2 ?side3 ?side4 ?side5 ?side6 ?side7 ?side8 A7.out).mono ?_); (case side1 => exact cu HR0_3 HB); (case side2 => exact HC0_3.out); (case side3 => exact cu HR0_4 HB); (case side4 => exact HC0_4.out); (case side5 => exact Kd.V_nil _ _ _ _ _); (case side6 => exact Kd.V_nil _ _ _ _ _); (case side7 => exact Kd.V_nil _ _ _ _ _); (case side8 => exact HO1.out); rintro e w15 ⟨rfl, hb⟩; refine ⟨_, rfl, ?_⟩; replace HO1 := vb HO1 hb; replace BK156 := kb BK156 hb; replace BK157 := kb BK157 hb; replace HB := kh2 HB GE156 GE157 hb)
   go_meet
   case rel => exact ⟨_, (decide ((l1.length : Int) > 40)), rfl, H', ⟨by omega⟩, ⟨by exact V_pl (Kd.V_mono HO1.out (fun _ hk => ⟨hk.1.1, ⟨hk.1.2, hk.2⟩⟩))⟩, ⟨bu BK156⟩, ⟨bu BK157⟩, ⟨be2 HB GE156 GE157⟩⟩
  (first | rw [c9b0] | (simp only [i64_w, i32_w]; rw [c9b0]) | skip)
  have H' := mk0 H
  clear H; have hnb10 := NB156_157.out; have hnc10 := NB157_156.out
  have zc11 := cells5 BK156.out
  go_wp2_with ((with_reducible refine gate_callee (f := 15) rfl ?_); refine goesL_ (some 20) rfl rfl Try.func15 (by kernel_rfl) rfl #[.agg #[.int .i64 a0_0, .int .i64 a0_1, .string a0_2, .slice A0_3 l0_3.length c0_3, .slice A0_4 l0_4.length c0_4], .agg #[.int .i64 0, .int .i64 0, .slice none 0 0, .slice none 0 0, .slice none 0 0], .slice A1 l1.length c1] rfl (by (try simp only [List.map_toArray, List.map_cons, List.map_nil]); first | done | rfl | (simp only [List.length_drop, List.length_take]; rfl)) ?_; (refine (v15few.calls k a0_0 a0_1 a0_2 _ _ l0_3 _ _ l0_4 0 0 (fun k_ => False) _ _ ([] : List Int) (fun k_ => False) _ _ ([] : List (S30)) (fun k_ => False) _ _ ([] : List (S63)) (fun k_ => (((P1_ k_ ∨ w.heap.size ≤ k_) ∧ k_ ≠ gb156) ∧ k_ ≠ gb157)) _ _ l1 true _ ?side1 ?side2 ?side3 ?side4 ?side5 ?side6 ?side7 ?side8 A7.out).mono ?_); (case side1 => exact cu HR0_3 HB); (case side2 => exact HC0_3.out); (case side3 => exact cu HR0_4 HB); (case side4 => exact HC0_4.out); (case side5 => exact Kd.V_nil _ _ _ _ _); (case side6 => exact Kd.V_nil _ _ _ _ _); (case side7 => exact Kd.V_nil _ _ _ _ _); (case side8 => exact HO1.out); rintro e w12 ⟨rfl, hb⟩; refine ⟨_, rfl, ?_⟩; replace HO1 := vb HO1 hb; replace BK156 := kb BK156 hb; replace BK157 := kb BK157 hb; replace HB := kh2 HB GE156 GE157 hb)
  go_meet
  case rel => exact ⟨_, (true), rfl, H', ⟨by omega⟩, ⟨by exact V_pl (Kd.V_mono HO1.out (fun _ hk => ⟨hk.1.1, ⟨hk.1.2, hk.2⟩⟩))⟩, ⟨bu BK156⟩, ⟨bu BK157⟩, ⟨be2 HB GE156 GE157⟩⟩
 case rest =>
  clear HC4; try clear c1
  obtain ⟨kq, x31_3, rfl, HA, HJ3, HO_1, BK156, BK157, HB⟩ := hcut
  cases kq with
  | zero => exact absurd HA.out (by simp [v15DriversOrder.j0])
  | succ kj3 =>
   have H := HA.out; clear HA
   simp only [v15DriversOrder.j0] at H
   replace H := iB H; obtain ⟨rfl, H⟩ | ⟨rfl, H⟩ := H
   ·replace H := bS H; obtain ⟨t159, A20, H⟩ := H; obtain rfl := sI H
    go_wp2_with ((with_reducible refine gate_callee (f := 16) rfl ?_); refine goB (some 32) rfl rfl Try.func16 (by kernel_rfl) rfl #[] rfl rfl (v15awake.calls kj3  t159 _ (glob_below HG.out (be2 HB GE156 GE157)) A20.out) ?_; intro w21 hb; replace HO_1 := vb HO_1 hb; replace BK156 := kb BK156 hb; replace BK157 := kb BK157 hb; replace HB := kh2 HB GE156 GE157 hb)
    go_ret
    exact ⟨rfl, be2 HB GE156 GE157⟩
   by_cases c22 : (l1.length : Int) = 0
   ·rw [if_pos c22] at H
    exact absurd H (by simp)
   rw [if_neg c22] at H
   have c22b0 : ((l1.length : Int) == 0) = false := beq_eq_false_iff_ne.mpr c22
   have c22b1 : ((l1.length : Int) != 0) = true := bne_iff_ne.mpr c22
   have c22b2 : ¬ (l1 = []) := fun h_ => c22 (by rw [h_]; rfl)
   obtain ⟨y160, hy160⟩ : ∃ y_ : List (S30), y_ = (([] : List (S30))) := ⟨_, rfl⟩
   replace H : (if 0 ≤ (Int.tmod (wrap64 (a2_0)) (l1.length : Int)) then (if (Int.tmod (wrap64 (a2_0)) (l1.length : Int)) ≤ (l1.length : Int) then ((some (l1.drop ((Int.tmod (wrap64 (a2_0)) (l1.length : Int)) : Int).toNat : List (S30))).bind fun y163 => (if y160.length + y163.length < 2199023255552 then ((some (y160 ++ y163 : List (S30))).bind fun y168 => ((some (l1.take ((Int.tmod (wrap64 (a2_0)) (l1.length : Int)) : Int).toNat : List (S30))).bind fun y171 => (if y168.length + y171.length < 2199023255552 then ((some (y168 ++ y171 : List (S30))).bind fun y176 => (if (y176.length : Int) = 0 then (none) else (if 0 ≤ (((Int.tdiv a2_0 8) % 256) % (y176.length : Int)) then (if (((Int.tdiv a2_0 8) % 256) % (y176.length : Int)) < (y176.length : Int) then (if 0 ≤ (Int.tmod (wrap64 (a2_1)) (y176.length : Int)) then (if (Int.tmod (wrap64 (a2_1)) (y176.length : Int)) < (y176.length : Int) then ((PRs.drivers_Resolve.f kj3 a0_0 a0_1 a0_2 l0_3 l0_4 l1).bind fun bt183 => ((PRs.drivers_Resolve.f kj3 a0_0 a0_1 a0_2 l0_3 l0_4 ((y176.set ((Int.tmod (wrap64 (a2_1)) (y176.length : Int)) : Int).toNat (⟨(rd_T30 y176 (((Int.tdiv a2_0 8) % 256) % (y176.length : Int))).f0, (rd_T30 y176 (((Int.tdiv a2_0 8) % 256) % (y176.length : Int))).f1, (rd_T30 y176 (((Int.tdiv a2_0 8) % 256) % (y176.length : Int))).f2, (rd_T30 y176 (((Int.tdiv a2_0 8) % 256) % (y176.length : Int))).f3⟩ : S30)).set ((((Int.tdiv a2_0 8) % 256) % (y176.length : Int)) : Int).toNat (⟨(rd_T30 y176 (Int.tmod (wrap64 (a2_1)) (y176.length : Int))).f0, (rd_T30 y176 (Int.tmod (wrap64 (a2_1)) (y176.length : Int))).f1, (rd_T30 y176 (Int.tmod (wrap64 (a2_1)) (y176.length : Int))).f2, (rd_T30 y176 (Int.tmod (wrap64 (a2_1)) (y176.length : Int))).f3⟩ : S30))).bind fun bt193 => ((PRs.r04Alike.f kj3 bt183.1 bt183.2.1 bt183.2.2.1 bt183.2.2.2.1 bt193.1 bt193.2.1 bt193.2.2.1 bt193.2.2.2.1).bind fun t203 => (if t203 = true then (if bt183.2.2.2.2 = bt193.2.2.2.2 then (if a0_0 = 1 then (v15DriversOrder.j1 kj3 l1 (bt183.2.2.2.2 == 0) a0_0 a0_1 a0_2 l0_3 l0_4 bt183.1 bt183.2.1 bt183.2.2.1 bt183.2.2.2.1) else (v15DriversOrder.j1 kj3 l1 false a0_0 a0_1 a0_2 l0_3 l0_4 bt183.1 bt183.2.1 bt183.2.2.1 bt183.2.2.2.1)) else (none)) else (none))))) else (none)) else (none)) else (none)) else (none)))) else (none)))) else (none))) else (none)) else (none)) = some r := by first | (rw [hy160]; with_reducible exact H) | (have H2_ := (Option.bind_some _ _).symm.trans H; rw [hy160]; with_reducible exact H2_) | (have H2_ := (Option.bind_some _ _).symm.trans H; with_reducible exact H2_) | with_reducible exact H | (rw [hy160]; exact H) | exact H
   have Ny160 := mk0 hy160; clear hy160
   obtain ⟨ji23, hji23⟩ : ∃ j_ : Int, (Int.tmod (wrap64 (a2_0)) (l1.length : Int)) = j_ := ⟨_, rfl⟩
   replace H : (if 0 ≤ (ji23) then (if (ji23) ≤ (l1.length : Int) then ((some (l1.drop ((ji23) : Int).toNat : List (S30))).bind fun y163 => (if y160.length + y163.length < 2199023255552 then ((some (y160 ++ y163 : List (S30))).bind fun y168 => ((some (l1.take ((ji23) : Int).toNat : List (S30))).bind fun y171 => (if y168.length + y171.length < 2199023255552 then ((some (y168 ++ y171 : List (S30))).bind fun y176 => (if (y176.length : Int) = 0 then (none) else (if 0 ≤ (((Int.tdiv a2_0 8) % 256) % (y176.length : Int)) then (if (((Int.tdiv a2_0 8) % 256) % (y176.length : Int)) < (y176.length : Int) then (if 0 ≤ (Int.tmod (wrap64 (a2_1)) (y176.length : Int)) then (if (Int.tmod (wrap64 (a2_1)) (y176.length : Int)) < (y176.length : Int) then ((PRs.drivers_Resolve.f kj3 a0_0 a0_1 a0_2 l0_3 l0_4 l1).bind fun bt183 => ((PRs.drivers_Resolve.f kj3 a0_0 a0_1 a0_2 l0_3 l0_4 ((y176.set ((Int.tmod (wrap64 (a2_1)) (y176.length : Int)) : Int).toNat (⟨(rd_T30 y176 (((Int.tdiv a2_0 8) % 256) % (y176.length : Int))).f0, (rd_T30 y176 (((Int.tdiv a2_0 8) % 256) % (y176.length : Int))).f1, (rd_T30 y176 (((Int.tdiv a2_0 8) % 256) % (y176.length : Int))).f2, (rd_T30 y176 (((Int.tdiv a2_0 8) % 256) % (y176.length : Int))).f3⟩ : S30)).set ((((Int.tdiv a2_0 8) % 256) % (y176.length : Int)) : Int).toNat (⟨(rd_T30 y176 (Int.tmod (wrap64 (a2_1)) (y176.length : Int))).f0, (rd_T30 y176 (Int.tmod (wrap64 (a2_1)) (y176.length : Int))).f1, (rd_T30 y176 (Int.tmod (wrap64 (a2_1)) (y176.length : Int))).f2, (rd_T30 y176 (Int.tmod (wrap64 (a2_1)) (y176.length : Int))).f3⟩ : S30))).bind fun bt193 => ((PRs.r04Alike.f kj3 bt183.1 bt183.2.1 bt183.2.2.1 bt183.2.2.2.1 bt193.1 bt193.2.1 bt193.2.2.1 bt193.2.2.2.1).bind fun t203 => (if t203 = true then (if bt183.2.2.2.2 = bt193.2.2.2.2 then (if a0_0 = 1 then (v15DriversOrder.j1 kj3 l1 (bt183.2.2.2.2 == 0) a0_0 a0_1 a0_2 l0_3 l0_4 bt183.1 bt183.2.1 bt183.2.2.1 bt183.2.2.2.1) else (v15DriversOrder.j1 kj3 l1 false a0_0 a0_1 a0_2 l0_3 l0_4 bt183.1 bt183.2.1 bt183.2.2.1 bt183.2.2.2.1)) else (none)) else (none))))) else (none)) else (none)) else (none)) else (none)))) else (none)))) else (none))) else (none)) else (none)) = some r := by first | (rw [hji23] at H; exact H) | (simp only [hji23] at H ⊢; exact H)
   by_cases c24 : 0 ≤ (ji23)
   rotate_left
   ·rw [if_neg c24] at H
    exact absurd H (by simp)
   rw [if_pos c24] at H; have c24b0 := eq_true c24; have c24b1 : decide (0 ≤ (ji23)) = true := decide_eq_true c24; clear c24
   by_cases c25 : (ji23) ≤ (l1.length : Int)
   rotate_left
   ·rw [if_neg c25] at H
    exact absurd H (by simp)
   rw [if_pos c25] at H; have c25b0 := eq_true c25; have c25b1 : decide ((ji23) ≤ (l1.length : Int)) = true := decide_eq_true c25; clear c25
   obtain ⟨y163, hy163⟩ : ∃ y_ : List (S30), y_ = (l1.drop ((ji23) : Int).toNat) := ⟨_, rfl⟩
   replace H : (if y160.length + y163.length < 2199023255552 then ((some (y160 ++ y163 : List (S30))).bind fun y168 => ((some (l1.take ((ji23) : Int).toNat : List (S30))).bind fun y171 => (if y168.length + y171.length < 2199023255552 then ((some (y168 ++ y171 : List (S30))).bind fun y176 => (if (y176.length : Int) = 0 then (none) else (if 0 ≤ (((Int.tdiv a2_0 8) % 256) % (y176.length : Int)) then (if (((Int.tdiv a2_0 8) % 256) % (y176.length : Int)) < (y176.length : Int) then (if 0 ≤ (Int.tmod (wrap64 (a2_1)) (y176.length : Int)) then (if (Int.tmod (wrap64 (a2_1)) (y176.length : Int)) < (y176.length : Int) then ((PRs.drivers_Resolve.f kj3 a0_0 a0_1 a0_2 l0_3 l0_4 l1).bind fun bt183 => ((PRs.drivers_Resolve.f kj3 a0_0 a0_1 a0_2 l0_3 l0_4 ((y176.set ((Int.tmod (wrap64 (a2_1)) (y176.length : Int)) : Int).toNat (⟨(rd_T30 y176 (((Int.tdiv a2_0 8) % 256) % (y176.length : Int))).f0, (rd_T30 y176 (((Int.tdiv a2_0 8) % 256) % (y176.length : Int))).f1, (rd_T30 y176 (((Int.tdiv a2_0 8) % 256) % (y176.length : Int))).f2, (rd_T30 y176 (((Int.tdiv a2_0 8) % 256) % (y176.length : Int))).f3⟩ : S30)).set ((((Int.tdiv a2_0 8) % 256) % (y176.length : Int)) : Int).toNat (⟨(rd_T30 y176 (Int.tmod (wrap64 (a2_1)) (y176.length : Int))).f0, (rd_T30 y176 (Int.tmod (wrap64 (a2_1)) (y176.length : Int))).f1, (rd_T30 y176 (Int.tmod (wrap64 (a2_1)) (y176.length : Int))).f2, (rd_T30 y176 (Int.tmod (wrap64 (a2_1)) (y176.length : Int))).f3⟩ : S30))).bind fun bt193 => ((PRs.r04Alike.f kj3 bt183.1 bt183.2.1 bt183.2.2.1 bt183.2.2.2.1 bt193.1 bt193.2.1 bt193.2.2.1 bt193.2.2.2.1).bind fun t203 => (if t203 = true then (if bt183.2.2.2.2 = bt193.2.2.2.2 then (if a0_0 = 1 then (v15DriversOrder.j1 kj3 l1 (bt183.2.2.2.2 == 0) a0_0 a0_1 a0_2 l0_3 l0_4 bt183.1 bt183.2.1 bt183.2.2.1 bt183.2.2.2.1) else (v15DriversOrder.j1 kj3 l1 false a0_0 a0_1 a0_2 l0_3 l0_4 bt183.1 bt183.2.1 bt183.2.2.1 bt183.2.2.2.1)) else (none)) else (none))))) else (none)) else (none)) else (none)) else (none)))) else (none)))) else (none)) = some r := by first | (rw [hy163]; with_reducible exact H) | (have H2_ := (Option.bind_some _ _).symm.trans H; rw [hy163]; with_reducible exact H2_) | (have H2_ := (Option.bind_some _ _).symm.trans H; with_reducible exact H2_) | with_reducible exact H | (rw [hy163]; exact H) | exact H
   have Ny163 := mk0 hy163; clear hy163
   by_cases c26 : y160.length + y163.length < 2199023255552
   rotate_left
   ·rw [if_neg c26] at H
    exact absurd H (by simp)
   rw [if_pos c26] at H; have LMc26 := mk0 c26; clear c26
   obtain ⟨y168, hy168⟩ : ∃ y_ : List (S30), y_ = (y160 ++ y163) := ⟨_, rfl⟩
   replace H : ((some (l1.take ((ji23) : Int).toNat : List (S30))).bind fun y171 => (if y168.length + y171.length < 2199023255552 then ((some (y168 ++ y171 : List (S30))).bind fun y176 => (if (y176.length : Int) = 0 then (none) else (if 0 ≤ (((Int.tdiv a2_0 8) % 256) % (y176.length : Int)) then (if (((Int.tdiv a2_0 8) % 256) % (y176.length : Int)) < (y176.length : Int) then (if 0 ≤ (Int.tmod (wrap64 (a2_1)) (y176.length : Int)) then (if (Int.tmod (wrap64 (a2_1)) (y176.length : Int)) < (y176.length : Int) then ((PRs.drivers_Resolve.f kj3 a0_0 a0_1 a0_2 l0_3 l0_4 l1).bind fun bt183 => ((PRs.drivers_Resolve.f kj3 a0_0 a0_1 a0_2 l0_3 l0_4 ((y176.set ((Int.tmod (wrap64 (a2_1)) (y176.length : Int)) : Int).toNat (⟨(rd_T30 y176 (((Int.tdiv a2_0 8) % 256) % (y176.length : Int))).f0, (rd_T30 y176 (((Int.tdiv a2_0 8) % 256) % (y176.length : Int))).f1, (rd_T30 y176 (((Int.tdiv a2_0 8) % 256) % (y176.length : Int))).f2, (rd_T30 y176 (((Int.tdiv a2_0 8) % 256) % (y176.length : Int))).f3⟩ : S30)).set ((((Int.tdiv a2_0 8) % 256) % (y176.length : Int)) : Int).toNat (⟨(rd_T30 y176 (Int.tmod (wrap64 (a2_1)) (y176.length : Int))).f0, (rd_T30 y176 (Int.tmod (wrap64 (a2_1)) (y176.length : Int))).f1, (rd_T30 y176 (Int.tmod (wrap64 (a2_1)) (y176.length : Int))).f2, (rd_T30 y176 (Int.tmod (wrap64 (a2_1)) (y176.length : Int))).f3⟩ : S30))).bind fun bt193 => ((PRs.r04Alike.f kj3 bt183.1 bt183.2.1 bt183.2.2.1 bt183.2.2.2.1 bt193.1 bt193.2.1 bt193.2.2.1 bt193.2.2.2.1).bind fun t203 => (if t203 = true then (if bt183.2.2.2.2 = bt193.2.2.2.2 then (if a0_0 = 1 then (v15DriversOrder.j1 kj3 l1 (bt183.2.2.2.2 == 0) a0_0 a0_1 a0_2 l0_3 l0_4 bt183.1 bt183.2.1 bt183.2.2.1 bt183.2.2.2.1) else (v15DriversOrder.j1 kj3 l1 false a0_0 a0_1 a0_2 l0_3 l0_4 bt183.1 bt183.2.1 bt183.2.2.1 bt183.2.2.2.1)) else (none)) else (none))))) else (none)) else (none)) else (none)) else (none)))) else (none))) = some r := by first | (rw [hy168]; with_reducible exact H) | (have H2_ := (Option.bind_some _ _).symm.trans H; rw [hy168]; with_reducible exact H2_) | (have H2_ := (Option.bind_some _ _).symm.trans H; with_reducible exact H2_) | with_reducible exact H | (rw [hy168]; exact H) | exact H
   have Ny168 := mk0 hy168; clear hy168
   have c27b0 := eq_true (of_decide_eq_true (by assumption) : 0 ≤ (ji23))
   have c28b0 := eq_true (of_decide_eq_true (by assumption) : (ji23) ≤ (l1.length : Int))
   obtain ⟨y171, hy171⟩ : ∃ y_ : List (S30), y_ = (l1.take ((ji23) : Int).toNat) := ⟨_, rfl⟩
   replace H : (if y168.length + y171.length < 2199023255552 then ((some (y168 ++ y171 : List (S30))).bind fun y176 => (if (y176.length : Int) = 0 then (none) else (if 0 ≤ (((Int.tdiv a2_0 8) % 256) % (y176.length : Int)) then (if (((Int.tdiv a2_0 8) % 256) % (y176.length : Int)) < (y176.length : Int) then (if 0 ≤ (Int.tmod (wrap64 (a2_1)) (y176.length : Int)) then (if (Int.tmod (wrap64 (a2_1)) (y176.length : Int)) < (y176.length : Int) then ((PRs.drivers_Resolve.f kj3 a0_0 a0_1 a0_2 l0_3 l0_4 l1).bind fun bt183 => ((PRs.drivers_Resolve.f kj3 a0_0 a0_1 a0_2 l0_3 l0_4 ((y176.set ((Int.tmod (wrap64 (a2_1)) (y176.length : Int)) : Int).toNat (⟨(rd_T30 y176 (((Int.tdiv a2_0 8) % 256) % (y176.length : Int))).f0, (rd_T30 y176 (((Int.tdiv a2_0 8) % 256) % (y176.length : Int))).f1, (rd_T30 y176 (((Int.tdiv a2_0 8) % 256) % (y176.length : Int))).f2, (rd_T30 y176 (((Int.tdiv a2_0 8) % 256) % (y176.length : Int))).f3⟩ : S30)).set ((((Int.tdiv a2_0 8) % 256) % (y176.length : Int)) : Int).toNat (⟨(rd_T30 y176 (Int.tmod (wrap64 (a2_1)) (y176.length : Int))).f0, (rd_T30 y176 (Int.tmod (wrap64 (a2_1)) (y176.length : Int))).f1, (rd_T30 y176 (Int.tmod (wrap64 (a2_1)) (y176.length : Int))).f2, (rd_T30 y176 (Int.tmod (wrap64 (a2_1)) (y176.length : Int))).f3⟩ : S30))).bind fun bt193 => ((PRs.r04Alike.f kj3 bt183.1 bt183.2.1 bt183.2.2.1 bt183.2.2.2.1 bt193.1 bt193.2.1 bt193.2.2.1 bt193.2.2.2.1).bind fun t203 => (if t203 = true then (if bt183.2.2.2.2 = bt193.2.2.2.2 then (if a0_0 = 1 then (v15DriversOrder.j1 kj3 l1 (bt183.2.2.2.2 == 0) a0_0 a0_1 a0_2 l0_3 l0_4 bt183.1 bt183.2.1 bt183.2.2.1 bt183.2.2.2.1) else (v15DriversOrder.j1 kj3 l1 false a0_0 a0_1 a0_2 l0_3 l0_4 bt183.1 bt183.2.1 bt183.2.2.1 bt183.2.2.2.1)) else (none)) else (none))))) else (none)) else (none)) else (none)) else (none)))) else (none)) = some r := by first | (rw [hy171]; with_reducible exact H) | (have H2_ := (Option.bind_some _ _).symm.trans H; rw [hy171]; with_reducible exact H2_) | (have H2_ := (Option.bind_some _ _).symm.trans H; with_reducible exact H2_) | with_reducible exact H | (rw [hy171]; exact H) | exact H
   have Ny171 := mk0 hy171; clear hy171
   by_cases c29 : y168.length + y171.length < 2199023255552
   rotate_left
   ·rw [if_neg c29] at H
    exact absurd H (by simp)
   rw [if_pos c29] at H; have LMc29 := mk0 c29; clear c29
   obtain ⟨y176, hy176⟩ : ∃ y_ : List (S30), y_ = (y168 ++ y171) := ⟨_, rfl⟩
   replace H : (if (y176.length : Int) = 0 then (none) else (if 0 ≤ (((Int.tdiv a2_0 8) % 256) % (y176.length : Int)) then (if (((Int.tdiv a2_0 8) % 256) % (y176.length : Int)) < (y176.length : Int) then (if 0 ≤ (Int.tmod (wrap64 (a2_1)) (y176.length : Int)) then (if (Int.tmod (wrap64 (a2_1)) (y176.length : Int)) < (y176.length : Int) then ((PRs.drivers_Resolve.f kj3 a0_0 a0_1 a0_2 l0_3 l0_4 l1).bind fun bt183 => ((PRs.drivers_Resolve.f kj3 a0_0 a0_1 a0_2 l0_3 l0_4 ((y176.set ((Int.tmod (wrap64 (a2_1)) (y176.length : Int)) : Int).toNat (⟨(rd_T30 y176 (((Int.tdiv a2_0 8) % 256) % (y176.length : Int))).f0, (rd_T30 y176 (((Int.tdiv a2_0 8) % 256) % (y176.length : Int))).f1, (rd_T30 y176 (((Int.tdiv a2_0 8) % 256) % (y176.length : Int))).f2, (rd_T30 y176 (((Int.tdiv a2_0 8) % 256) % (y176.length : Int))).f3⟩ : S30)).set ((((Int.tdiv a2_0 8) % 256) % (y176.length : Int)) : Int).toNat (⟨(rd_T30 y176 (Int.tmod (wrap64 (a2_1)) (y176.length : Int))).f0, (rd_T30 y176 (Int.tmod (wrap64 (a2_1)) (y176.length : Int))).f1, (rd_T30 y176 (Int.tmod (wrap64 (a2_1)) (y176.length : Int))).f2, (rd_T30 y176 (Int.tmod (wrap64 (a2_1)) (y176.length : Int))).f3⟩ : S30))).bind fun bt193 => ((PRs.r04Alike.f kj3 bt183.1 bt183.2.1 bt183.2.2.1 bt183.2.2.2.1 bt193.1 bt193.2.1 bt193.2.2.1 bt193.2.2.2.1).bind fun t203 => (if t203 = true then (if bt183.2.2.2.2 = bt193.2.2.2.2 then (if a0_0 = 1 then (v15DriversOrder.j1 kj3 l1 (bt183.2.2.2.2 == 0) a0_0 a0_1 a0_2 l0_3 l0_4 bt183.1 bt183.2.1 bt183.2.2.1 bt183.2.2.2.1) else (v15DriversOrder.j1 kj3 l1 false a0_0 a0_1 a0_2 l0_3 l0_4 bt183.1 bt183.2.1 bt183.2.2.1 bt183.2.2.2.1)) else (none)) else (none))))) else (none)) else (none)) else (none)) else (none))) = some r := by first | (rw [hy176]; with_reducible exact H) | (have H2_ := (Option.bind_some _ _).symm.trans H; rw [hy176]; with_reducible exact H2_) | (have H2_ := (Option.bind_some _ _).symm.trans H; with_reducible exact H2_) | with_reducible exact H | (rw [hy176]; exact H) | exact H
   have Ny176 := mk0 hy176; clear hy176
   by_cases c30 : (y176.length : Int) = 0
   ·rw [if_pos c30] at H
    exact absurd H (by simp)
   rw [if_neg c30] at H
   have c30b0 : ((y176.length : Int) == 0) = false := beq_eq_false_iff_ne.mpr c30
   have c30b1 : ((y176.length : Int) != 0) = true := bne_iff_ne.mpr c30
   have c30b2 : ¬ (y176 = []) := fun h_ => c30 (by rw [h_]; rfl)
   obtain ⟨ji31, hji31⟩ : ∃ j_ : Int, (((Int.tdiv a2_0 8) % 256) % (y176.length : Int)) = j_ := ⟨_, rfl⟩
   have hji31w : (wrap64 (IntKind.u8.wrap (a2_0.tdiv 8))).tmod (y176.length : Int) = ji31 := (u8w a2_0 _).trans hji31
   replace H : (if 0 ≤ (ji31) then (if (ji31) < (y176.length : Int) then (if 0 ≤ (Int.tmod (wrap64 (a2_1)) (y176.length : Int)) then (if (Int.tmod (wrap64 (a2_1)) (y176.length : Int)) < (y176.length : Int) then ((PRs.drivers_Resolve.f kj3 a0_0 a0_1 a0_2 l0_3 l0_4 l1).bind fun bt183 => ((PRs.drivers_Resolve.f kj3 a0_0 a0_1 a0_2 l0_3 l0_4 ((y176.set ((Int.tmod (wrap64 (a2_1)) (y176.length : Int)) : Int).toNat (⟨(rd_T30 y176 (ji31)).f0, (rd_T30 y176 (ji31)).f1, (rd_T30 y176 (ji31)).f2, (rd_T30 y176 (ji31)).f3⟩ : S30)).set ((ji31) : Int).toNat (⟨(rd_T30 y176 (Int.tmod (wrap64 (a2_1)) (y176.length : Int))).f0, (rd_T30 y176 (Int.tmod (wrap64 (a2_1)) (y176.length : Int))).f1, (rd_T30 y176 (Int.tmod (wrap64 (a2_1)) (y176.length : Int))).f2, (rd_T30 y176 (Int.tmod (wrap64 (a2_1)) (y176.length : Int))).f3⟩ : S30))).bind fun bt193 => ((PRs.r04Alike.f kj3 bt183.1 bt183.2.1 bt183.2.2.1 bt183.2.2.2.1 bt193.1 bt193.2.1 bt193.2.2.1 bt193.2.2.2.1).bind fun t203 => (if t203 = true then (if bt183.2.2.2.2 = bt193.2.2.2.2 then (if a0_0 = 1 then (v15DriversOrder.j1 kj3 l1 (bt183.2.2.2.2 == 0) a0_0 a0_1 a0_2 l0_3 l0_4 bt183.1 bt183.2.1 bt183.2.2.1 bt183.2.2.2.1) else (v15DriversOrder.j1 kj3 l1 false a0_0 a0_1 a0_2 l0_3 l0_4 bt183.1 bt183.2.1 bt183.2.2.1 bt183.2.2.2.1)) else (none)) else (none))))) else (none)) else (none)) else (none)) else (none)) = some r := by first | (rw [hji31] at H; exact H) | (simp only [hji31] at H ⊢; exact H)
   replace H := iN H; obtain ⟨-, c32b0, H⟩ := H
   replace H := iN H; obtain ⟨-, c33b0, H⟩ := H
   obtain ⟨ji34, hji34⟩ : ∃ j_ : Int, (Int.tmod (wrap64 (a2_1)) (y176.length : Int)) = j_ := ⟨_, rfl⟩
   replace H : (if 0 ≤ (ji34) then (if (ji34) < (y176.length : Int) then ((PRs.drivers_Resolve.f kj3 a0_0 a0_1 a0_2 l0_3 l0_4 l1).bind fun bt183 => ((PRs.drivers_Resolve.f kj3 a0_0 a0_1 a0_2 l0_3 l0_4 ((y176.set ((ji34) : Int).toNat (⟨(rd_T30 y176 (ji31)).f0, (rd_T30 y176 (ji31)).f1, (rd_T30 y176 (ji31)).f2, (rd_T30 y176 (ji31)).f3⟩ : S30)).set ((ji31) : Int).toNat (⟨(rd_T30 y176 (ji34)).f0, (rd_T30 y176 (ji34)).f1, (rd_T30 y176 (ji34)).f2, (rd_T30 y176 (ji34)).f3⟩ : S30))).bind fun bt193 => ((PRs.r04Alike.f kj3 bt183.1 bt183.2.1 bt183.2.2.1 bt183.2.2.2.1 bt193.1 bt193.2.1 bt193.2.2.1 bt193.2.2.2.1).bind fun t203 => (if t203 = true then (if bt183.2.2.2.2 = bt193.2.2.2.2 then (if a0_0 = 1 then (v15DriversOrder.j1 kj3 l1 (bt183.2.2.2.2 == 0) a0_0 a0_1 a0_2 l0_3 l0_4 bt183.1 bt183.2.1 bt183.2.2.1 bt183.2.2.2.1) else (v15DriversOrder.j1 kj3 l1 false a0_0 a0_1 a0_2 l0_3 l0_4 bt183.1 bt183.2.1 bt183.2.2.1 bt183.2.2.2.1)) else (none)) else (none))))) else (none)) else (none)) = some r := by first | (rw [hji34] at H; exact H) | (simp only [hji34] at H ⊢; exact H)
   replace H := iN H; obtain ⟨-, c35b0, H⟩ := H
   replace H := iN H; obtain ⟨-, c36b0, H⟩ := H
   obtain ⟨y181, hy181⟩ : ∃ y_ : List (S30), y_ = (y176.set ((ji34) : Int).toNat (⟨(rd_T30 y176 (ji31)).f0, (rd_T30 y176 (ji31)).f1, (rd_T30 y176 (ji31)).f2, (rd_T30 y176 (ji31)).f3⟩ : S30)) := ⟨_, rfl⟩
   replace H : ((PRs.drivers_Resolve.f kj3 a0_0 a0_1 a0_2 l0_3 l0_4 l1).bind fun bt183 => ((PRs.drivers_Resolve.f kj3 a0_0 a0_1 a0_2 l0_3 l0_4 (y181.set ((ji31) : Int).toNat (⟨(rd_T30 y176 (ji34)).f0, (rd_T30 y176 (ji34)).f1, (rd_T30 y176 (ji34)).f2, (rd_T30 y176 (ji34)).f3⟩ : S30))).bind fun bt193 => ((PRs.r04Alike.f kj3 bt183.1 bt183.2.1 bt183.2.2.1 bt183.2.2.2.1 bt193.1 bt193.2.1 bt193.2.2.1 bt193.2.2.2.1).bind fun t203 => (if t203 = true then (if bt183.2.2.2.2 = bt193.2.2.2.2 then (if a0_0 = 1 then (v15DriversOrder.j1 kj3 l1 (bt183.2.2.2.2 == 0) a0_0 a0_1 a0_2 l0_3 l0_4 bt183.1 bt183.2.1 bt183.2.2.1 bt183.2.2.2.1) else (v15DriversOrder.j1 kj3 l1 false a0_0 a0_1 a0_2 l0_3 l0_4 bt183.1 bt183.2.1 bt183.2.2.1 bt183.2.2.2.1)) else (none)) else (none))))) = some r := by first | (rw [hy181]; with_reducible exact H) | (have H2_ := (Option.bind_some _ _).symm.trans H; rw [hy181]; with_reducible exact H2_) | (have H2_ := (Option.bind_some _ _).symm.trans H; with_reducible exact H2_) | with_reducible exact H | (rw [hy181]; exact H) | exact H
   have Ny181 := mk0 hy181; clear hy181
   obtain ⟨y182, hy182⟩ : ∃ y_ : List (S30), y_ = (y181.set ((ji31) : Int).toNat (⟨(rd_T30 y176 (ji34)).f0, (rd_T30 y176 (ji34)).f1, (rd_T30 y176 (ji34)).f2, (rd_T30 y176 (ji34)).f3⟩ : S30)) := ⟨_, rfl⟩
   replace H : ((PRs.drivers_Resolve.f kj3 a0_0 a0_1 a0_2 l0_3 l0_4 l1).bind fun bt183 => ((PRs.drivers_Resolve.f kj3 a0_0 a0_1 a0_2 l0_3 l0_4 y182).bind fun bt193 => ((PRs.r04Alike.f kj3 bt183.1 bt183.2.1 bt183.2.2.1 bt183.2.2.2.1 bt193.1 bt193.2.1 bt193.2.2.1 bt193.2.2.2.1).bind fun t203 => (if t203 = true then (if bt183.2.2.2.2 = bt193.2.2.2.2 then (if a0_0 = 1 then (v15DriversOrder.j1 kj3 l1 (bt183.2.2.2.2 == 0) a0_0 a0_1 a0_2 l0_3 l0_4 bt183.1 bt183.2.1 bt183.2.2.1 bt183.2.2.2.1) else (v15DriversOrder.j1 kj3 l1 false a0_0 a0_1 a0_2 l0_3 l0_4 bt183.1 bt183.2.1 bt183.2.2.1 bt183.2.2.2.1)) else (none)) else (none))))) = some r := by first | (rw [hy182]; with_reducible exact H) | (have H2_ := (Option.bind_some _ _).symm.trans H; rw [hy182]; with_reducible exact H2_) | (have H2_ := (Option.bind_some _ _).symm.trans H; with_reducible exact H2_) | with_reducible exact H | (rw [hy182]; exact H) | exact H
   have Ny182 := mk0 hy182; clear hy182
   replace H := Option.bind_eq_some_iff.mp H
   obtain ⟨⟨t183, t184, t185, t188, t191⟩, A390, H⟩ := H
   replace H : ((PRs.drivers_Resolve.f kj3 a0_0 a0_1 a0_2 l0_3 l0_4 y182).bind fun bt193 => ((PRs.r04Alike.f kj3 t183 t184 t185 t188 bt193.1 bt193.2.1 bt193.2.2.1 bt193.2.2.2.1).bind fun t203 => (if t203 = true then (if t191 = bt193.2.2.2.2 then (if a0_0 = 1 then (v15DriversOrder.j1 kj3 l1 (t191 == 0) a0_0 a0_1 a0_2 l0_3 l0_4 t183 t184 t185 t188) else (v15DriversOrder.j1 kj3 l1 false a0_0 a0_1 a0_2 l0_3 l0_4 t183 t184 t185 t188)) else (none)) else (none)))) = some r := H
   have A39 := mk0 A390; clear A390
   replace H := Option.bind_eq_some_iff.mp H
   obtain ⟨⟨t193, t194, t195, t198, t201⟩, A400, H⟩ := H
   replace H : ((PRs.r04Alike.f kj3 t183 t184 t185 t188 t193 t194 t195 t198).bind fun t203 => (if t203 = true then (if t191 = t201 then (if a0_0 = 1 then (v15DriversOrder.j1 kj3 l1 (t191 == 0) a0_0 a0_1 a0_2 l0_3 l0_4 t183 t184 t185 t188) else (v15DriversOrder.j1 kj3 l1 false a0_0 a0_1 a0_2 l0_3 l0_4 t183 t184 t185 t188)) else (none)) else (none))) = some r := H
   have A40 := mk0 A400; clear A400
   replace H := bS H; obtain ⟨t203, A41, H⟩ := H
   replace H := iB' H; obtain ⟨rfl, H⟩ | ⟨rfl, H⟩ := H
   ·exact absurd H (by simp)
   by_cases c43 : t191 = t201
   rotate_left
   ·rw [if_neg c43] at H
    exact absurd H (by simp)
   rw [if_pos c43] at H
   have c43b0 : (t191 == t201) = true := beq_iff_eq.mpr c43
   have c43b1 : (t191 != t201) = false := bne_eq_false_iff_eq.mpr c43
   clear c43; have HC44 := mk0 H; clear H; have hnb45 := NB157_156.out; have hnc45 := NB156_157.out
   have zc46 := cells2 BK157.out
   try go_wp2
   have n0_ := mk0 (Kd.V_drew HO_1.out)
   have n1_ := mk0 (blk_drew BK156.out)
   have n2_ := mk0 (blk_drew BK157.out)
   have n3_ := mk0 (below_drew1 HB.out)
   clear HO_1; clear BK156; clear BK157; clear HB; have HO_1 := n0_; have BK156 := n1_; have BK157 := n2_; have HB := n3_; clear n0_ n1_ n2_ n3_
   have q48 : ((ji23) : Int) ≤ ((l1.length : Int) : Int) := od
   obtain ⟨i048, hi048, _, hsz48, _⟩ := info_parts info30
   have hroom48 : l1.length ≤ c1 := (Kd.V_reads' HO_1.out).2.1
   have hC48 : Kd.F k30 _ _ A1 l1.length l1 := (Kd.V_at (base := w.heap.size) HO_1.out).2.2
   have q048 : (0 : Int) ≤ ((ji23) : Int) := od
   have hcut48 := cut_from (P := Try.prog) 28 30 .i64 Try.underlying28 hi048 4 hsz48 A1 l1.length c1 (ji23) q048 q48
   have hr48 := Kd.F_cut (m := ((ji23) : Int).toNat) (c := c1) hC48 (by omega) hroom48
   obtain ⟨A48, hA48⟩ : ∃ A_, A_ = (if c1 = ((ji23) : Int).toNat then A1 else (A1 : Option Addr).map (·.add (((ji23) : Int).toNat * 4))) := ⟨_, rfl⟩
   obtain ⟨c48, hc48⟩ : ∃ c_, c_ = c1 - ((ji23) : Int).toNat := ⟨_, rfl⟩
   have hy48 : y163.length = l1.length - ((ji23) : Int).toNat := (by rw [Ny163.out, List.length_drop] <;> omega)
   rw [show (l1).drop ((ji23) : Int).toNat = y163 from Ny163.out.symm] at hr48
   replace hr48 : Kd.F k30 _ _ A48 y163.length y163 := (by rw [hA48]; exact hr48)
   rw [← hy48, ← hA48, ← hc48] at hcut48
   have HO167 := mk0 (show Kd.V k30 30 _ w.heap.size _ (.slice A48 y163.length c48) y163 from Kd.V_mk (by rw [hy48, hc48]; exact Nat.sub_le_sub_right hroom48 _) hr48)
   have HC167 := mk0 (show y163.length ≤ c48 from by rw [hy48, hc48]; exact Nat.sub_le_sub_right hroom48 _)
   clear hr48 hC48 hroom48 hi048 hsz48 hc48; have KY48 := mk0 hy48; have KA48 := mk0 hA48; clear hy48 hA48; replace q48 := eq_true q48
   have q49 : ((ji23) : Int) ≤ ((l1.length : Int) : Int) := od
   obtain ⟨i049, hi049, _, hsz49, _⟩ := info_parts info30
   have hroom49 : l1.length ≤ c1 := (Kd.V_reads' HO_1.out).2.1
   have hC49 : Kd.F k30 _ _ A1 l1.length l1 := (Kd.V_at (base := w.heap.size) HO_1.out).2.2
   have hcut49 := cut_to (P := Try.prog) 28 30 .i64 Try.underlying28 hi049 A1 l1.length c1 (ji23) (of_decide_eq_true (by assumption)) q49 hroom49
   have hr49 := Kd.F_take (m := ((ji23) : Int).toNat) hC49 (by omega)
   have hy49 : y171.length = ((ji23) : Int).toNat := (by rw [Ny171.out, List.length_take]; omega)
   rw [← Ny171.out] at hr49
   rw [← hy49] at hcut49
   have HO175 := mk0 (show Kd.V k30 30 _ w.heap.size _ (.slice A1 y171.length c1) y171 from Kd.V_mk (by omega) hr49)
   have HC175 := mk0 (show y171.length ≤ c1 from by omega)
   clear hr49 hC49 hroom49 hi049 hsz49; have KY49 := mk0 hy49; clear hy49; replace q49 := eq_true q49
   refine start_ (n := 10) (S := fun w' => True) (ds := []) #[false, false, false, false, false, false, false, false, false, false] (by kernel_rfl) rfl rfl trivial (fun hHeld => ?_); refine with_tabW v15DriversOrder.tab4 v15DriversOrder.bits4 (fun HT_ HW_ => ?_)
   generalize wc.drew = w47 at HO_1 BK156 BK157 HB HO167 HO175 hHeld ⊢
   refine pu_ (v := ?_) (a' := ?_) 1 40 #[false, true, false, false, false, false, false, false, false, false] HT_ ?_ ?_ ?_
   rotate_left
   ·intro w'
    go_simp
    with_reducible rfl
   rotate_left
   ·simp only [ps]
    rfl
   refine pu_ (v := ?_) (a' := ?_) 2 41 #[false, true, true, false, false, false, false, false, false, false] HT_ ?_ ?_ ?_
   rotate_left
   ·intro w'
    go_simp
    with_reducible rfl
   rotate_left
   ·simp only [ps]
    rfl
   refine pu_ (v := ?_) (a' := ?_) 3 42 #[false, true, true, true, false, false, false, false, false, false] HT_ ?_ ?_ ?_
   rotate_left
   ·intro w'
    go_simp
    with_reducible rfl
   rotate_left
   ·simp only [ps]
    rfl
   refine pu_ (v := ?_) (a' := ?_) 5 44 #[false, true, true, true, false, true, false, false, false, false] HT_ ?_ ?_ ?_
   rotate_left
   ·intro w'
    go_simp
    with_reducible rfl
   rotate_left
   ·simp only [ps]
    rfl
   refine pu_ (v := ?_) (a' := ?_) 6 45 #[false, true, true, true, false, true, true, false, false, false] HT_ ?_ ?_ ?_
   rotate_left
   ·intro w'
    go_simp
    with_reducible rfl
   rotate_left
   ·simp only [ps]
    rfl
   refine pu_ (v := ?_) (a' := ?_) 7 46 #[false, true, true, true, false, true, true, true, false, false] HT_ ?_ ?_ ?_
   rotate_left
   ·intro w'
    go_simp
    with_reducible rfl
   rotate_left
   ·simp only [ps]
    rfl
   refine one_ (i := 0) (N := some 39) #[true, true, true, true, false, true, true, true, false, false] rfl rfl (one_of HT_.out (by kernel_rfl)) (by decide) (fun K hK => ?_)
   refine Kd.N_lit_step k30 _ 30 ?hg (N' := 39) ?hd (xs := ([] : List (S30))) (inner := []) (ok := (fun k_ => (P1_ k_ ∨ w.heap.size ≤ k_) ∧ k_ ≠ gb156 ∧ k_ ≠ gb157)) (okp := (fun k_ => (P1_ k_ ∨ w.heap.size ≤ k_) ∧ k_ ≠ gb156 ∧ k_ ≠ gb157)) ?hr ?hp (fun _ hk => hk) ((show ∀ k_, w47.heap.size ≤ k_ → (fun k_ => (P1_ k_ ∨ w.heap.size ≤ k_) ∧ k_ ≠ gb156 ∧ k_ ≠ gb157) k_ from fun k_ hk => ⟨(.inr (Nat.le_trans (below_size (be2 HB GE156 GE157)) hk)), Kd.freshB (g := gb156) (o := .cells #[.int .i64 a0_0, .int .i64 a0_1, .string a0_2, .slice A0_3 l0_3.length c0_3, .slice A0_4 l0_4.length c0_4] 26 (0, 0)) (blk_up BK156.out) k_ hk, Kd.freshB (g := gb157) (o := .cells #[.int .u8 a2_0, .int .u8 a2_1] 71 (0, 0)) (blk_up BK157.out) k_ hk⟩) _ (Nat.le_refl _)) (Below.refl _ _) (Nat.le_refl _) (by simp) ?_; (case hd => rfl); (case hg => rfl); (case hr => first | (go_simp; done) | (go_simp; rfl)); (case hp => exact (Reps.none _ _))
   intro v161 w50 ho51 hb hg_ hnew_
   clear hg_ hnew_
   (first | rw [← Ny160.out] at ho51 | (simp only [Int.reduceToNat] at ho51; rw [← Ny160.out] at ho51))
   have n0_ := mk0 (Kd.V_elder' (V_up HO_1.out) (Kd.N_base ho51) hb)
   have n1_ := mk0 (Kd.V_elder' (V_up HO167.out) (Kd.N_base ho51) hb)
   have n2_ := mk0 (Kd.V_elder' (V_up HO175.out) (Kd.N_base ho51) hb)
   have n3_ := mk0 (Kd.N_lower ho51 (below_size (be2 HB GE156 GE157)))
   have n4_ := kb BK156 hb
   have n5_ := kb BK157 hb
   have n6_ := kh2 HB GE156 GE157 hb
   clear HO_1; clear HO167; clear HO175; clear BK156; clear BK157; clear HB; have HO_1 := n0_; have HO167 := n1_; have HO175 := n2_; have HO162 := n3_; have BK156 := n4_; have BK157 := n5_; have HB := n6_; clear n0_ n1_ n2_ n3_ n4_ n5_ n6_; clear hb ho51
   refine hK.out _ _ trivial (fun hHeld => ?_)
   clear hK K
   refine norm_ (a' := ?_) ?_ ?_
   rotate_left
   ·show Act.put _ (some 39) _ = _
    simp only [ps]
    rfl
   refine one_ (i := 4) (N := some 43) (tf 8 2) rfl rfl (one_of HT_.out (by kernel_rfl)) (by decide) (fun K hK => ?_)
   refine Kd.N_append_rows_step k30 (w0 := w) w.heap.size (by rfl) (.tmp 39) (.tmp 42) 28 30 (.agg #[(.int .i64 0), (.int .i64 0), (.slice none 0 0), (.slice none 0 0)]) 64 rfl Try.underlying28 info30 rfl (by decide) (by omega) v161 y160 y163 _ _ _ (fun k_ => (P1_ k_ ∨ w.heap.size ≤ k_) ∧ k_ ≠ gb156 ∧ k_ ≠ gb157) (fun k_ => ((fun k_ => (P1_ k_ ∨ w.heap.size ≤ k_) ∧ k_ ≠ gb156 ∧ k_ ≠ gb157)) k_ ∧ some k_ ≠ (v161 : Value).ownBlock) rfl rfl ?aO ?aR (fun _ hk => hk) ?aF ?aB ?aS ?aL ?_
   (case aR => exact (by skip; exact Kd.V_F (Kd.V_mono (ok' := (fun k_ => ((fun k_ => (P1_ k_ ∨ w.heap.size ≤ k_) ∧ k_ ≠ gb156 ∧ k_ ≠ gb157)) k_ ∧ some k_ ≠ (v161 : Value).ownBlock)) (HO167.out) (fun k_ hk => ⟨⟨hk.1.1, ⟨hk.1.2.1, hk.1.2.2⟩⟩, hk.2⟩))))
   (case aB => exact (be2 HB GE156 GE157))
   (case aF => exact (fun k_ hk => ⟨(.inr (Nat.le_trans (below_size (be2 HB GE156 GE157)) hk)), Kd.freshB (g := gb156) (o := .cells #[.int .i64 a0_0, .int .i64 a0_1, .string a0_2, .slice A0_3 l0_3.length c0_3, .slice A0_4 l0_4.length c0_4] 26 (0, 0)) (blk_up BK156.out) k_ hk, Kd.freshB (g := gb157) (o := .cells #[.int .u8 a2_0, .int .u8 a2_1] 71 (0, 0)) (blk_up BK157.out) k_ hk⟩))
   (case aO => exact (N_up HO162.out))
   (case aS => exact (below_size (be2 HB GE156 GE157)))
   (case aL => have := LMc26.out; omega)
   intro v169 w52 ho hb hg hat
   rw [← Ny168.out] at ho
   have n0_ := mk0 (Kd.V_afterv (ok := (fun k_ => (P1_ k_ ∨ w.heap.size ≤ k_) ∧ k_ ≠ gb156 ∧ k_ ≠ gb157)) (V_up HO_1.out) hg hat)
   have n1_ := mk0 (blk_grown (g := gb156) (o := .cells #[.int .i64 a0_0, .int .i64 a0_1, .string a0_2, .slice A0_3 l0_3.length c0_3, .slice A0_4 l0_4.length c0_4] 26 (0, 0)) (blk_up BK156.out) hg (Kd.N_ne HO162.out BK156.out (by decide)))
   have n2_ := mk0 (blk_grown (g := gb157) (o := .cells #[.int .u8 a2_0, .int .u8 a2_1] 71 (0, 0)) (blk_up BK157.out) hg (Kd.N_ne HO162.out BK157.out (by decide)))
   have n3_ := mk0 (Kd.V_afterv (ok := (fun k_ => (P1_ k_ ∨ w.heap.size ≤ k_) ∧ k_ ≠ gb156 ∧ k_ ≠ gb157)) (V_up HO167.out) hg hat)
   have n4_ := mk0 (Kd.V_afterv (ok := (fun k_ => (P1_ k_ ∨ w.heap.size ≤ k_) ∧ k_ ≠ gb156 ∧ k_ ≠ gb157)) (V_up HO175.out) hg hat)
   have n5_ := mk0 (hb)
   have n6_ := mk0 (ho)
   clear HO_1; clear BK156; clear BK157; clear HO167; clear HO175; clear HB; clear HO162; have HO_1 := n0_; have BK156 := n1_; have BK157 := n2_; have HO167 := n3_; have HO175 := n4_; have HB := n5_; have HO170 := n6_; clear n0_ n1_ n2_ n3_ n4_ n5_ n6_; clear ho hb hg hat
   refine hK.out _ _ trivial (fun hHeld => ?_)
   clear hK K
   refine norm_ (a' := ?_) ?_ ?_
   rotate_left
   ·show Act.put _ (some 43) _ = _
    simp only [ps]
    rfl
   refine one_ (i := 8) (N := some 47) (tf 9 1) rfl rfl (one_of HT_.out (by kernel_rfl)) (by decide) (fun K hK => ?_)
   refine Kd.N_append_rows_step k30 (w0 := w) w.heap.size (by rfl) (.tmp 43) (.tmp 46) 28 30 (.agg #[(.int .i64 0), (.int .i64 0), (.slice none 0 0), (.slice none 0 0)]) 64 rfl Try.underlying28 info30 rfl (by decide) (by omega) v169 y168 y171 _ _ _ (fun k_ => (P1_ k_ ∨ w.heap.size ≤ k_) ∧ k_ ≠ gb156 ∧ k_ ≠ gb157) (fun k_ => ((fun k_ => (P1_ k_ ∨ w.heap.size ≤ k_) ∧ k_ ≠ gb156 ∧ k_ ≠ gb157)) k_ ∧ some k_ ≠ (v169 : Value).ownBlock) rfl rfl ?aO ?aR (fun _ hk => hk) ?aF ?aB ?aS ?aL ?_
   (case aR => exact (by skip; exact Kd.V_F (Kd.V_mono (ok' := (fun k_ => ((fun k_ => (P1_ k_ ∨ w.heap.size ≤ k_) ∧ k_ ≠ gb156 ∧ k_ ≠ gb157)) k_ ∧ some k_ ≠ (v169 : Value).ownBlock)) (HO175.out) (fun k_ hk => ⟨⟨hk.1.1, ⟨hk.1.2.1, hk.1.2.2⟩⟩, hk.2⟩))))
   (case aB => exact (be2 HB GE156 GE157))
   (case aF => exact (fun k_ hk => ⟨(.inr (Nat.le_trans (below_size (be2 HB GE156 GE157)) hk)), Kd.freshB (g := gb156) (o := .cells #[.int .i64 a0_0, .int .i64 a0_1, .string a0_2, .slice A0_3 l0_3.length c0_3, .slice A0_4 l0_4.length c0_4] 26 (0, 0)) (blk_up BK156.out) k_ hk, Kd.freshB (g := gb157) (o := .cells #[.int .u8 a2_0, .int .u8 a2_1] 71 (0, 0)) (blk_up BK157.out) k_ hk⟩))
   (case aO => exact (N_up HO170.out))
   (case aS => exact (below_size (be2 HB GE156 GE157)))
   (case aL => have := LMc29.out; omega)
   intro v177 w53 ho hb hg hat
   rw [← Ny176.out] at ho
   have n0_ := mk0 (Kd.V_afterv (ok := (fun k_ => (P1_ k_ ∨ w.heap.size ≤ k_) ∧ k_ ≠ gb156 ∧ k_ ≠ gb157)) (V_up HO_1.out) hg hat)
   have n1_ := mk0 (blk_grown (g := gb156) (o := .cells #[.int .i64 a0_0, .int .i64 a0_1, .string a0_2, .slice A0_3 l0_3.length c0_3, .slice A0_4 l0_4.length c0_4] 26 (0, 0)) (blk_up BK156.out) hg (Kd.N_ne HO170.out BK156.out (by decide)))
   have n2_ := mk0 (blk_grown (g := gb157) (o := .cells #[.int .u8 a2_0, .int .u8 a2_1] 71 (0, 0)) (blk_up BK157.out) hg (Kd.N_ne HO170.out BK157.out (by decide)))
   have n3_ := mk0 (Kd.V_afterv (ok := (fun k_ => (P1_ k_ ∨ w.heap.size ≤ k_) ∧ k_ ≠ gb156 ∧ k_ ≠ gb157)) (V_up HO167.out) hg hat)
   have n4_ := mk0 (Kd.V_afterv (ok := (fun k_ => (P1_ k_ ∨ w.heap.size ≤ k_) ∧ k_ ≠ gb156 ∧ k_ ≠ gb157)) (V_up HO175.out) hg hat)
   have n5_ := mk0 (hb)
   have n6_ := mk0 (ho)
   clear HO_1; clear BK156; clear BK157; clear HO167; clear HO175; clear HB; clear HO170; have HO_1 := n0_; have BK156 := n1_; have BK157 := n2_; have HO167 := n3_; have HO175 := n4_; have HB := n5_; have HO178 := n6_; clear n0_ n1_ n2_ n3_ n4_ n5_ n6_; clear ho hb hg hat
   refine hK.out _ _ trivial (fun hHeld => ?_)
   clear hK K
   refine norm_ (a' := ?_) ?_ ?_
   rotate_left
   ·show Act.put _ (some 47) _ = _
    simp only [ps]
    rfl
   refine pu_ (v := ?_) (a' := ?_) 9 8 #[true, true, true, true, true, true, true, true, true, true] HT_ ?_ ?_ ?_
   rotate_left
   ·intro w'
    go_simp
    with_reducible rfl
   rotate_left
   ·simp only [ps]
    rfl
   refine done_ (done_of HT_.out (by kernel_rfl)) ?_
   try go_wp2
   have n0_ := mk0 (Kd.V_drew HO_1.out)
   have n1_ := mk0 (Kd.V_drew HO167.out)
   have n2_ := mk0 (Kd.V_drew HO175.out)
   have n3_ := mk0 (Kd.N_drew HO178.out)
   have n4_ := mk0 (blk_drew BK156.out)
   have n5_ := mk0 (blk_drew BK157.out)
   have n6_ := mk0 (below_drew1 HB.out)
   clear HO_1; clear HO167; clear HO175; clear HO178; clear BK156; clear BK157; clear HB; have HO_1 := n0_; have HO167 := n1_; have HO175 := n2_; have HO178 := n3_; have BK156 := n4_; have BK157 := n5_; have HB := n6_; clear n0_ n1_ n2_ n3_ n4_ n5_ n6_
   obtain ⟨Ao55, co55, eo55⟩ := Kd.N_slice HO178.out
   (first | subst eo55 | (injection eo55 with f1_ f2_ f3_; have f4_ := f1_.symm; have f5_ := f3_.symm; clear f1_ f2_ f3_; subst f4_; subst f5_))
   refine start_ (n := 15) (S := fun w' => w'.cell? ⟨gb157, 0, none⟩ = some (.int .u8 a2_0) ∧ w'.cell? ⟨gb157, 1, none⟩ = some (.int .u8 a2_1)) (ds := []) #[false, false, false, false, false, false, false, false, false, false, false, false, false, false, false] (by kernel_rfl) rfl rfl ⟨bc BK157 0, bc BK157 1⟩ (fun hHeld => ?_); refine with_tabW v15DriversOrder.tab5 v15DriversOrder.bits5 (fun HT_ HW_ => ?_)
   generalize w53.drew = w54 at HO_1 HO167 HO175 HO178 BK156 BK157 HB hHeld ⊢
   refine pu_ (v := ?_) (a' := ?_) 0 48 #[true, false, false, false, false, false, false, false, false, false, false, false, false, false, false] HT_ ?_ ?_ ?_
   rotate_left
   ·intro w'
    go_simp
    with_reducible rfl
   rotate_left
   ·simp only [ps]
    rfl
   refine pu_ (v := ?_) (a' := ?_) 3 51 #[true, false, false, true, false, false, false, false, false, false, false, false, false, false, false] HT_ ?_ ?_ ?_
   rotate_left
   ·intro w'
    go_simp
    with_reducible rfl
   rotate_left
   ·simp only [ps]
    rfl
   refine pu_ (v := ?_) (a' := ?_) 4 52 #[true, false, false, true, true, false, false, false, false, false, false, false, false, false, false] HT_ ?_ ?_ ?_
   rotate_left
   ·intro w'
    go_simp
    with_reducible rfl
   rotate_left
   ·simp only [ps]
    rfl
   refine pu_ (v := ?_) (a' := ?_) 6 54 #[true, false, false, true, true, false, true, false, false, false, false, false, false, false, false] HT_ ?_ ?_ ?_
   rotate_left
   ·intro w'
    go_simp
    with_reducible rfl
   rotate_left
   ·simp only [ps]
    rfl
   refine pu_ (v := ?_) (a' := ?_) 10 58 #[true, false, false, true, true, false, true, false, false, false, true, false, false, false, false] HT_ ?_ ?_ ?_
   rotate_left
   ·intro w'
    go_simp
    with_reducible rfl
   rotate_left
   ·simp only [ps]
    rfl
   refine pu_ (v := ?_) (a' := ?_) 11 59 #[true, false, false, true, true, false, true, false, false, false, true, true, false, false, false] HT_ ?_ ?_ ?_
   rotate_left
   ·intro w'
    go_simp
    with_reducible rfl
   rotate_left
   ·simp only [ps]
    rfl
   refine take_ (i := 1) (N := some 49) (v := ?_) (a' := ?_) #[true, true, false, true, true, false, true, false, false, false, true, true, false, false, false] rfl rfl (take_ofW HT_.out HW_.out (by kernel_rfl)) (fun _ _ _ h => h) (Or.inl ⟨by rfl, ?_⟩) hHeld ?_ ?_
   rotate_left
   ·rintro w' ⟨s0, s1⟩
    go_simp
    with_reducible rfl
   rotate_left
   ·simp only [ps]
    rfl
   refine pu_ (v := ?_) (a' := ?_) 2 50 #[true, true, true, true, true, false, true, false, false, false, true, true, false, false, false] HT_ ?_ ?_ ?_
   rotate_left
   ·intro w'
    go_simp
    with_reducible rfl
   rotate_left
   ·simp only [ps]
    rfl
   refine pu_ (v := ?_) (a' := ?_) 5 53 #[true, true, true, true, true, true, true, false, false, false, true, true, false, false, false] HT_ ?_ ?_ ?_
   rotate_left
   ·intro w'
    go_simp
    with_reducible rfl
   rotate_left
   ·simp only [ps]
    rfl
   refine pu_ (v := ?_) (a' := ?_) 13 9 #[true, true, true, true, true, true, true, false, false, false, true, true, false, true, false] HT_ ?_ ?_ ?_
   rotate_left
   ·intro w'
    go_simp
    with_reducible rfl
   rotate_left
   ·simp only [ps]
    rfl
   refine take_ (i := 7) (N := some 55) (v := ?_) (a' := ?_) #[true, true, true, true, true, true, true, true, false, false, true, true, false, true, false] rfl rfl (take_ofW HT_.out HW_.out (by kernel_rfl)) (fun _ _ _ h => h) (Or.inl ⟨by rfl, ?_⟩) hHeld ?_ ?_
   rotate_left
   ·rintro w' ⟨s0, s1⟩
    go_simp
    with_reducible rfl
   rotate_left
   ·simp only [ps]
    rfl
   refine pu_ (v := ?_) (a' := ?_) 8 56 #[true, true, true, true, true, true, true, true, true, false, true, true, false, true, false] HT_ ?_ ?_ ?_
   rotate_left
   ·intro w'
    go_simp
    with_reducible rfl
   rotate_left
   ·simp only [ps]
    rfl
   refine pu_ (v := ?_) (a' := ?_) 9 57 #[true, true, true, true, true, true, true, true, true, true, true, true, false, true, false] HT_ ?_ ?_ ?_
   rotate_left
   ·intro w'
    go_simp
    with_reducible rfl
   rotate_left
   ·simp only [ps]
    rfl
   refine pu_ (v := ?_) (a' := ?_) 12 60 #[true, true, true, true, true, true, true, true, true, true, true, true, true, true, false] HT_ ?_ ?_ ?_
   rotate_left
   ·intro w'
    go_simp
    with_reducible rfl
   rotate_left
   ·simp only [ps]
    rfl
   refine pu_ (v := ?_) (a' := ?_) 14 10 #[true, true, true, true, true, true, true, true, true, true, true, true, true, true, true] HT_ ?_ ?_ ?_
   rotate_left
   ·intro w'
    go_simp
    with_reducible rfl
   rotate_left
   ·simp only [ps]
    rfl
   refine done_ (done_of HT_.out (by kernel_rfl)) ?_
   try go_wp2
   have n0_ := mk0 (Kd.V_drew HO_1.out)
   have n1_ := mk0 (Kd.V_drew HO167.out)
   have n2_ := mk0 (Kd.V_drew HO175.out)
   have n3_ := mk0 (Kd.N_drew HO178.out)
   have n4_ := mk0 (blk_drew BK156.out)
   have n5_ := mk0 (blk_drew BK157.out)
   have n6_ := mk0 (below_drew1 HB.out)
   clear HO_1; clear HO167; clear HO175; clear HO178; clear BK156; clear BK157; clear HB; have HO_1 := n0_; have HO167 := n1_; have HO175 := n2_; have HO178 := n3_; have BK156 := n4_; have BK157 := n5_; have HB := n6_; clear n0_ n1_ n2_ n3_ n4_ n5_ n6_
   have p179 : 0 ≤ ((ji31) : Int) := od
   have q179 : (ji31) < (y176.length : Int) := od
   obtain ⟨ad179, A179_2, c179_2, A179_3, c179_3, e179, hx179_0, hx179_1, hx179_2, hx179_3, hl179_2, hi179_2, hl179_3, hi179_3⟩ := at_T30 (Kd.N_reads' HO178.out).2.2 (ji31) p179 q179
   cases e179
   obtain ⟨ce179, hce179, hMe179, hcc179⟩ := Kd.N_get HO178.out z30 (ji31) p179 (by first | exact q179 | exact of_decide_eq_true (by assumption) | (have e_ := (Kd.N_reads' HO178.out).1; omega))
   obtain ⟨ua179_2, uc179_2, ua179_3, uc179_3, rfl, ul179_2, ge179_2, ul179_3, ge179_3⟩ := k30_openF hMe179
   have hv179_2 := hcc179 2 _ rfl
   rw [add_field _ _ 2 (by omega)] at hv179_2
   replace hv179_2 := Option.some.inj (hv179_2.symm.trans hx179_2)
   injection hv179_2 with hva_ hvn_ hvc_
   rw [hva_] at ge179_2
   rw [hvc_] at ul179_2
   have HL179_2 := mk0 (show Kd.V (Kd.int .u8) 73 _ w.heap.size _ _ ((rd_T30 y176 (ji31)).f2) from Kd.V_mk ul179_2 ge179_2)
   clear hva_ hvn_ hvc_ ge179_2 ul179_2
   have hv179_3 := hcc179 3 _ rfl
   rw [add_field _ _ 3 (by omega)] at hv179_3
   replace hv179_3 := Option.some.inj (hv179_3.symm.trans hx179_3)
   injection hv179_3 with hva_ hvn_ hvc_
   rw [hva_] at ge179_3
   rw [hvc_] at ul179_3
   have HL179_3 := mk0 (show Kd.V k30 30 _ w.heap.size _ _ ((rd_T30 y176 (ji31)).f3) from Kd.V_mk ul179_3 ge179_3)
   clear hva_ hvn_ hvc_ ge179_3 ul179_3; clear hcc179 hce179; have HR179_2 := mk0 hi179_2; have HC179_2 := mk0 hl179_2; clear hi179_2 hl179_2; have HR179_3 := mk0 hi179_3; have HC179_3 := mk0 hl179_3; clear hi179_3 hl179_3; replace p179 := eq_true p179; replace q179 := eq_true q179
   have p180 : 0 ≤ ((ji34) : Int) := od
   have q180 : (ji34) < (y176.length : Int) := od
   obtain ⟨ad180, A180_2, c180_2, A180_3, c180_3, e180, hx180_0, hx180_1, hx180_2, hx180_3, hl180_2, hi180_2, hl180_3, hi180_3⟩ := at_T30 (Kd.N_reads' HO178.out).2.2 (ji34) p180 q180
   obtain rfl : ad179 = ad180 := (by injection e180)
   obtain ⟨ce180, hce180, hMe180, hcc180⟩ := Kd.N_get HO178.out z30 (ji34) p180 (by first | exact q180 | exact of_decide_eq_true (by assumption) | (have e_ := (Kd.N_reads' HO178.out).1; omega))
   obtain ⟨ua180_2, uc180_2, ua180_3, uc180_3, rfl, ul180_2, ge180_2, ul180_3, ge180_3⟩ := k30_openF hMe180
   have hv180_2 := hcc180 2 _ rfl
   rw [add_field _ _ 2 (by omega)] at hv180_2
   replace hv180_2 := Option.some.inj (hv180_2.symm.trans hx180_2)
   injection hv180_2 with hva_ hvn_ hvc_
   rw [hva_] at ge180_2
   rw [hvc_] at ul180_2
   have HL180_2 := mk0 (show Kd.V (Kd.int .u8) 73 _ w.heap.size _ _ ((rd_T30 y176 (ji34)).f2) from Kd.V_mk ul180_2 ge180_2)
   clear hva_ hvn_ hvc_ ge180_2 ul180_2
   have hv180_3 := hcc180 3 _ rfl
   rw [add_field _ _ 3 (by omega)] at hv180_3
   replace hv180_3 := Option.some.inj (hv180_3.symm.trans hx180_3)
   injection hv180_3 with hva_ hvn_ hvc_
   rw [hva_] at ge180_3
   rw [hvc_] at ul180_3
   have HL180_3 := mk0 (show Kd.V k30 30 _ w.heap.size _ _ ((rd_T30 y176 (ji34)).f3) from Kd.V_mk ul180_3 ge180_3)
   clear hva_ hvn_ hvc_ ge180_3 ul180_3; clear hcc180 hce180; have HR180_2 := mk0 hi180_2; have HC180_2 := mk0 hl180_2; clear hi180_2 hl180_2; have HR180_3 := mk0 hi180_3; have HC180_3 := mk0 hl180_3; clear hi180_3 hl180_3; replace p180 := eq_true p180; replace q180 := eq_true q180
   have p37 : 0 ≤ ((ji34) : Int) := od
   have q37 : ((ji34) : Int) < ((y176.length : Int) : Int) := od
   obtain ⟨go37, co37, eo37, gb37, gl37, cl37, HG37⟩ := Kd.N_form HO178.out (by omega)
   (first | cases eo37 | (injection eo37 with ea_ en_ ec_; (first | subst ea_ | (injection ea_ with ea_; subst ea_)); subst ec_; clear en_))
   have GB37 := mk0 gb37; have GG37 := mk0 HG37; clear gb37 gl37 HG37
   (first | simp only [add_plain] at hx179_0 | skip)
   (first | simp only [add_plain] at hx179_1 | skip)
   (first | simp only [add_plain] at hx179_2 | skip)
   (first | simp only [add_plain] at hx179_3 | skip)
   (first | simp only [add_plain] at hx180_0 | skip)
   (first | simp only [add_plain] at hx180_1 | skip)
   (first | simp only [add_plain] at hx180_2 | skip)
   (first | simp only [add_plain] at hx180_3 | skip)
   obtain ⟨ce37, hcl37, hM37, hcc37, hfr37⟩ := Kd.N_elem HO178.out z30 ((ji34) : Int) p37 q37
   obtain ⟨ua37_2, uc37_2, ua37_3, uc37_3, rfl, ul37_2, ge37_2, ul37_3, ge37_3⟩ := k30_openF hM37
   have hx37_0 : World.cell? _ ⟨go37, ((ji34) : Int).toNat * 4, none⟩ = some (.int .i64 ((rd_T30 y176 (ji34)).f0)) := hcc37 0 _ rfl
   have hx37_1 : World.cell? _ ⟨go37, ((ji34) : Int).toNat * 4 + 1, none⟩ = some (.int .i64 ((rd_T30 y176 (ji34)).f1)) := hcc37 1 _ rfl
   have hx37_2 : World.cell? _ ⟨go37, ((ji34) : Int).toNat * 4 + 2, none⟩ = some (.slice ua37_2 ((rd_T30 y176 (ji34)).f2).length uc37_2) := hcc37 2 _ rfl
   have hx37_3 : World.cell? _ ⟨go37, ((ji34) : Int).toNat * 4 + 3, none⟩ = some (.slice ua37_3 ((rd_T30 y176 (ji34)).f3).length uc37_3) := hcc37 3 _ rfl
   have hf37_0 : World.frozen? _ ⟨go37, ((ji34) : Int).toNat * 4, none⟩ = false := hfr37 0
   have hf37_1 : World.frozen? _ ⟨go37, ((ji34) : Int).toNat * 4 + 1, none⟩ = false := hfr37 1
   have hf37_2 : World.frozen? _ ⟨go37, ((ji34) : Int).toNat * 4 + 2, none⟩ = false := hfr37 2
   have hf37_3 : World.frozen? _ ⟨go37, ((ji34) : Int).toNat * 4 + 3, none⟩ = false := hfr37 3
   clear hcl37 hcc37 hfr37 hM37; replace p37 := eq_true p37; replace q37 := eq_true q37
   have HX57 := mk0 (show Kd.N k30 30 _ w.heap.size (fun k_ => (P1_ k_ ∨ w.heap.size ≤ k_) ∧ k_ ≠ gb156 ∧ k_ ≠ gb157) (.slice (some ⟨go37, 0, none⟩) y176.length co55) y176 from (Kd.N_mono (HO178.out) (fun k_ hk => ⟨hk.1, ⟨hk.2.1, hk.2.2⟩⟩)))
   obtain ⟨ce57, hcl57, hM57, hcc57, hfr57⟩ := Kd.N_elem HX57.out z30 ((ji34) : Int) (of_decide_eq_true (by assumption)) (by have h_ : ((ji34) : Int) < ((y176.length : Int) : Int) := of_decide_eq_true (by assumption); first | exact h_ | (have e_ := (Kd.N_reads' HO178.out).1; omega) | simpa using h_)
   obtain ⟨ua57_2, uc57_2, ua57_3, uc57_3, rfl, ul57_2, ge57_2, ul57_3, ge57_3⟩ := k30_openF hM57
   have HP57 := (Kd.N_seg HX57.out ((ji34) : Int) (of_decide_eq_true (by assumption)) (by have h_ : ((ji34) : Int) < ((y176.length : Int) : Int) := of_decide_eq_true (by assumption); first | exact h_ | (have e_ := (Kd.N_reads' HO178.out).1; omega) | simpa using h_) (seg := [.int .i64 ((rd_T30 y176 (ji31)).f0), .int .i64 ((rd_T30 y176 (ji31)).f1), .slice A179_2 ((rd_T30 y176 (ji31)).f2).length c179_2, .slice A179_3 ((rd_T30 y176 (ji31)).f3).length c179_3]) (j := 0) hcl57 hcc57 (show 4 ≤ 4 from by decide) (x' := (⟨(rd_T30 y176 (ji31)).f0, (rd_T30 y176 (ji31)).f1, (rd_T30 y176 (ji31)).f2, (rd_T30 y176 (ji31)).f3⟩ : S30)) (k30_mkF _ _ (⟨(rd_T30 y176 (ji31)).f0, (rd_T30 y176 (ji31)).f1, (rd_T30 y176 (ji31)).f2, (rd_T30 y176 (ji31)).f3⟩ : S30) (Kd.V_reads' (Kd.V_mono (ok' := (fun k_ => ((fun k_ => (P1_ k_ ∨ w.heap.size ≤ k_) ∧ k_ ≠ gb156 ∧ k_ ≠ gb157)) k_ ∧ k_ ≠ go37)) (HL179_2.out) (fun k_ hk => ⟨⟨hk.1.1, ⟨hk.1.2.1, hk.1.2.2⟩⟩, fun e_ => (hk.2) (by rw [e_]; rfl)⟩))).2.1 (Kd.V_F (Kd.V_mono (ok' := (fun k_ => ((fun k_ => (P1_ k_ ∨ w.heap.size ≤ k_) ∧ k_ ≠ gb156 ∧ k_ ≠ gb157)) k_ ∧ k_ ≠ go37)) (HL179_2.out) (fun k_ hk => ⟨⟨hk.1.1, ⟨hk.1.2.1, hk.1.2.2⟩⟩, fun e_ => (hk.2) (by rw [e_]; rfl)⟩))) (Kd.V_reads' (Kd.V_mono (ok' := (fun k_ => ((fun k_ => (P1_ k_ ∨ w.heap.size ≤ k_) ∧ k_ ≠ gb156 ∧ k_ ≠ gb157)) k_ ∧ k_ ≠ go37)) (HL179_3.out) (fun k_ hk => ⟨⟨hk.1.1, ⟨hk.1.2.1, hk.1.2.2⟩⟩, fun e_ => (hk.2) (by rw [e_]; rfl)⟩))).2.1 (Kd.V_F (Kd.V_mono (ok' := (fun k_ => ((fun k_ => (P1_ k_ ∨ w.heap.size ≤ k_) ∧ k_ ≠ gb156 ∧ k_ ≠ gb157)) k_ ∧ k_ ≠ go37)) (HL179_3.out) (fun k_ hk => ⟨⟨hk.1.1, ⟨hk.1.2.1, hk.1.2.2⟩⟩, fun e_ => (hk.2) (by rw [e_]; rfl)⟩)))) (fun _ hk => hk)).1
   rw [← Ny181.out] at HP57
   have HQ57 := mk0 HP57; clear hcl57 hcc57 hfr57 hM57 HP57
   have p38 : 0 ≤ ((ji31) : Int) := od
   have q38 : ((ji31) : Int) < ((y176.length : Int) : Int) := od
   obtain ⟨ce38, hcl38, hM38, hcc38, hfr38⟩ := Kd.N_elem HQ57.out z30 ((ji31) : Int) p38 q38
   obtain ⟨ua38_2, uc38_2, ua38_3, uc38_3, rfl, ul38_2, ge38_2, ul38_3, ge38_3⟩ := k30_openF hM38
   have hx38_0 : World.cell? _ ⟨go37, ((ji31) : Int).toNat * 4, none⟩ = some (.int .i64 ((rd_T30 y181 (ji31)).f0)) := hcc38 0 _ rfl
   have hx38_1 : World.cell? _ ⟨go37, ((ji31) : Int).toNat * 4 + 1, none⟩ = some (.int .i64 ((rd_T30 y181 (ji31)).f1)) := hcc38 1 _ rfl
   have hx38_2 : World.cell? _ ⟨go37, ((ji31) : Int).toNat * 4 + 2, none⟩ = some (.slice ua38_2 ((rd_T30 y181 (ji31)).f2).length uc38_2) := hcc38 2 _ rfl
   have hx38_3 : World.cell? _ ⟨go37, ((ji31) : Int).toNat * 4 + 3, none⟩ = some (.slice ua38_3 ((rd_T30 y181 (ji31)).f3).length uc38_3) := hcc38 3 _ rfl
   have hf38_0 : World.frozen? _ ⟨go37, ((ji31) : Int).toNat * 4, none⟩ = false := hfr38 0
   have hf38_1 : World.frozen? _ ⟨go37, ((ji31) : Int).toNat * 4 + 1, none⟩ = false := hfr38 1
   have hf38_2 : World.frozen? _ ⟨go37, ((ji31) : Int).toNat * 4 + 2, none⟩ = false := hfr38 2
   have hf38_3 : World.frozen? _ ⟨go37, ((ji31) : Int).toNat * 4 + 3, none⟩ = false := hfr38 3
   clear hcl38 hcc38 hfr38 hM38; replace p38 := eq_true p38; replace q38 := eq_true q38
   have HX58 := mk0 (show Kd.N k30 30 _ w.heap.size (fun k_ => (P1_ k_ ∨ w.heap.size ≤ k_) ∧ k_ ≠ gb156 ∧ k_ ≠ gb157) (.slice (some ⟨go37, 0, none⟩) y176.length co55) y181 from (Kd.N_mono (HQ57.out) (fun k_ hk => ⟨hk.1, ⟨hk.2.1, hk.2.2⟩⟩)))
   obtain ⟨ce58, hcl58, hM58, hcc58, hfr58⟩ := Kd.N_elem HX58.out z30 ((ji31) : Int) (of_decide_eq_true (by assumption)) (by have h_ : ((ji31) : Int) < ((y176.length : Int) : Int) := of_decide_eq_true (by assumption); first | exact h_ | (have e_ := (Kd.N_reads' HO178.out).1; omega) | simpa using h_)
   obtain ⟨ua58_2, uc58_2, ua58_3, uc58_3, rfl, ul58_2, ge58_2, ul58_3, ge58_3⟩ := k30_openF hM58
   have HP58 := (Kd.N_seg HX58.out ((ji31) : Int) (of_decide_eq_true (by assumption)) (by have h_ : ((ji31) : Int) < ((y176.length : Int) : Int) := of_decide_eq_true (by assumption); first | exact h_ | (have e_ := (Kd.N_reads' HO178.out).1; omega) | simpa using h_) (seg := [.int .i64 ((rd_T30 y176 (ji34)).f0), .int .i64 ((rd_T30 y176 (ji34)).f1), .slice A180_2 ((rd_T30 y176 (ji34)).f2).length c180_2, .slice A180_3 ((rd_T30 y176 (ji34)).f3).length c180_3]) (j := 0) hcl58 hcc58 (show 4 ≤ 4 from by decide) (x' := (⟨(rd_T30 y176 (ji34)).f0, (rd_T30 y176 (ji34)).f1, (rd_T30 y176 (ji34)).f2, (rd_T30 y176 (ji34)).f3⟩ : S30)) (k30_mkF _ _ (⟨(rd_T30 y176 (ji34)).f0, (rd_T30 y176 (ji34)).f1, (rd_T30 y176 (ji34)).f2, (rd_T30 y176 (ji34)).f3⟩ : S30) (Kd.V_reads' (Kd.V_mono (ok' := (fun k_ => ((fun k_ => (P1_ k_ ∨ w.heap.size ≤ k_) ∧ k_ ≠ gb156 ∧ k_ ≠ gb157)) k_ ∧ k_ ≠ go37)) (HL180_2.out) (fun k_ hk => ⟨⟨hk.1.1, ⟨hk.1.2.1, hk.1.2.2⟩⟩, fun e_ => (hk.2) (by rw [e_]; rfl)⟩))).2.1 (Kd.V_F (vJ (q := go37) (Kd.V_mono (ok' := (fun k_ => ((fun k_ => (P1_ k_ ∨ w.heap.size ≤ k_) ∧ k_ ≠ gb156 ∧ k_ ≠ gb157)) k_ ∧ k_ ≠ go37)) (HL180_2.out) (fun k_ hk => ⟨⟨hk.1.1, ⟨hk.1.2.1, hk.1.2.2⟩⟩, fun e_ => (hk.2) (by rw [e_]; rfl)⟩)) (fun _ hk => hk.2))) (Kd.V_reads' (Kd.V_mono (ok' := (fun k_ => ((fun k_ => (P1_ k_ ∨ w.heap.size ≤ k_) ∧ k_ ≠ gb156 ∧ k_ ≠ gb157)) k_ ∧ k_ ≠ go37)) (HL180_3.out) (fun k_ hk => ⟨⟨hk.1.1, ⟨hk.1.2.1, hk.1.2.2⟩⟩, fun e_ => (hk.2) (by rw [e_]; rfl)⟩))).2.1 (Kd.V_F (vJ (q := go37) (Kd.V_mono (ok' := (fun k_ => ((fun k_ => (P1_ k_ ∨ w.heap.size ≤ k_) ∧ k_ ≠ gb156 ∧ k_ ≠ gb157)) k_ ∧ k_ ≠ go37)) (HL180_3.out) (fun k_ hk => ⟨⟨hk.1.1, ⟨hk.1.2.1, hk.1.2.2⟩⟩, fun e_ => (hk.2) (by rw [e_]; rfl)⟩)) (fun _ hk => hk.2)))) (fun _ hk => hk)).1
   rw [← Ny182.out] at HP58
   have HQ58 := mk0 HP58; clear hcl58 hcc58 hfr58 hM58 HP58
   refine start_ (n := 16) (S := fun w' => w'.cell? ⟨go37, ((ji31)).toNat * 4, none⟩ = some (.int .i64 ((rd_T30 y176 (ji31)).f0)) ∧ w'.cell? ⟨go37, ((ji31)).toNat * 4 + 1, none⟩ = some (.int .i64 ((rd_T30 y176 (ji31)).f1)) ∧ w'.cell? ⟨go37, ((ji31)).toNat * 4 + 2, none⟩ = some (.slice A179_2 ((rd_T30 y176 (ji31)).f2).length c179_2) ∧ w'.cell? ⟨go37, ((ji31)).toNat * 4 + 3, none⟩ = some (.slice A179_3 ((rd_T30 y176 (ji31)).f3).length c179_3) ∧ w'.cell? ⟨go37, ((ji34)).toNat * 4, none⟩ = some (.int .i64 ((rd_T30 y176 (ji34)).f0)) ∧ w'.cell? ⟨go37, ((ji34)).toNat * 4 + 1, none⟩ = some (.int .i64 ((rd_T30 y176 (ji34)).f1)) ∧ w'.cell? ⟨go37, ((ji34)).toNat * 4 + 2, none⟩ = some (.slice A180_2 ((rd_T30 y176 (ji34)).f2).length c180_2) ∧ w'.cell? ⟨go37, ((ji34)).toNat * 4 + 3, none⟩ = some (.slice A180_3 ((rd_T30 y176 (ji34)).f3).length c180_3)) (ds := [13, 15]) #[false, false, false, false, false, false, false, false, false, false, false, false, false, false, false, false] (by kernel_rfl) rfl rfl ⟨hx179_0, hx179_1, hx179_2, hx179_3, hx180_0, hx180_1, hx180_2, hx180_3⟩ (fun hHeld => ?_); refine with_tabW v15DriversOrder.tab6 v15DriversOrder.bits6 (fun HT_ HW_ => ?_)
   generalize w54.drew = w56 at HO_1 HO167 HO175 HO178 BK156 BK157 HB GG37 HL179_2 HL179_3 HL180_2 HL180_3 HQ57 HQ58 HR179_2 HR179_3 HR180_2 HR180_3 hf37_0 hf37_1 hf37_2 hf37_3 hf38_0 hf38_1 hf38_2 hf38_3 hx179_0 hx179_1 hx179_2 hx179_3 hx180_0 hx180_1 hx180_2 hx180_3 hx37_0 hx37_1 hx37_2 hx37_3 hx38_0 hx38_1 hx38_2 hx38_3 hHeld ⊢
   obtain ⟨ce39, hcl39, hM39, hcc39, hfr39⟩ := Kd.N_elem HO178.out z30 ((ji31) : Int) (of_decide_eq_true (by assumption)) (of_decide_eq_true (by assumption))
   have hf39_0 : World.frozen? _ ⟨go37, ((ji31) : Int).toNat * 4, none⟩ = false := hfr39 0
   obtain ⟨u39_0, hu39_0⟩ := cell?_setCell_some (p := ⟨go37, ((ji34) : Int).toNat * 4, none⟩) (x := .int .i64 ((rd_T30 y176 (ji31)).f0)) hx179_0
   have hf39_1 : World.frozen? _ ⟨go37, ((ji31) : Int).toNat * 4 + 1, none⟩ = false := hfr39 1
   obtain ⟨u39_1, hu39_1⟩ := cell?_setCell_some (p := ⟨go37, ((ji34) : Int).toNat * 4 + 1, none⟩) (x := .int .i64 ((rd_T30 y176 (ji31)).f1)) (cell?_setCell_some (p := ⟨go37, ((ji34) : Int).toNat * 4, none⟩) (x := .int .i64 ((rd_T30 y176 (ji31)).f0)) hx179_1).choose_spec
   have hf39_2 : World.frozen? _ ⟨go37, ((ji31) : Int).toNat * 4 + 2, none⟩ = false := hfr39 2
   obtain ⟨u39_2, hu39_2⟩ := cell?_setCell_some (p := ⟨go37, ((ji34) : Int).toNat * 4 + 2, none⟩) (x := .slice A179_2 ((rd_T30 y176 (ji31)).f2).length c179_2) (cell?_setCell_some (p := ⟨go37, ((ji34) : Int).toNat * 4 + 1, none⟩) (x := .int .i64 ((rd_T30 y176 (ji31)).f1)) (cell?_setCell_some (p := ⟨go37, ((ji34) : Int).toNat * 4, none⟩) (x := .int .i64 ((rd_T30 y176 (ji31)).f0)) hx179_2).choose_spec).choose_spec
   have hf39_3 : World.frozen? _ ⟨go37, ((ji31) : Int).toNat * 4 + 3, none⟩ = false := hfr39 3
   obtain ⟨u39_3, hu39_3⟩ := cell?_setCell_some (p := ⟨go37, ((ji34) : Int).toNat * 4 + 3, none⟩) (x := .slice A179_3 ((rd_T30 y176 (ji31)).f3).length c179_3) (cell?_setCell_some (p := ⟨go37, ((ji34) : Int).toNat * 4 + 2, none⟩) (x := .slice A179_2 ((rd_T30 y176 (ji31)).f2).length c179_2) (cell?_setCell_some (p := ⟨go37, ((ji34) : Int).toNat * 4 + 1, none⟩) (x := .int .i64 ((rd_T30 y176 (ji31)).f1)) (cell?_setCell_some (p := ⟨go37, ((ji34) : Int).toNat * 4, none⟩) (x := .int .i64 ((rd_T30 y176 (ji31)).f0)) hx179_3).choose_spec).choose_spec).choose_spec
   clear hcl39 hcc39 hfr39 hM39
   refine pu_ (v := ?_) (a' := ?_) 0 61 #[true, false, false, false, false, false, false, false, false, false, false, false, false, false, false, false] HT_ ?_ ?_ ?_
   rotate_left
   ·intro w'
    go_simp
    with_reducible rfl
   rotate_left
   ·simp only [ps]
    rfl
   refine pu_ (v := ?_) (a' := ?_) 1 62 #[true, true, false, false, false, false, false, false, false, false, false, false, false, false, false, false] HT_ ?_ ?_ ?_
   rotate_left
   ·intro w'
    go_simp
    with_reducible rfl
   rotate_left
   ·simp only [ps]
    rfl
   refine pu_ (v := ?_) (a' := ?_) 2 63 #[true, true, true, false, false, false, false, false, false, false, false, false, false, false, false, false] HT_ ?_ ?_ ?_
   rotate_left
   ·intro w'
    go_simp
    with_reducible rfl
   rotate_left
   ·simp only [ps]
    rfl
   refine pu_ (v := ?_) (a' := ?_) 3 64 #[true, true, true, true, false, false, false, false, false, false, false, false, false, false, false, false] HT_ ?_ ?_ ?_
   rotate_left
   ·intro w'
    go_simp
    with_reducible rfl
   rotate_left
   ·simp only [ps]
    rfl
   refine pu_ (v := ?_) (a' := ?_) 4 65 #[true, true, true, true, true, false, false, false, false, false, false, false, false, false, false, false] HT_ ?_ ?_ ?_
   rotate_left
   ·intro w'
    go_simp
    with_reducible rfl
   rotate_left
   ·simp only [ps]
    rfl
   refine pu_ (v := ?_) (a' := ?_) 5 66 #[true, true, true, true, true, true, false, false, false, false, false, false, false, false, false, false] HT_ ?_ ?_ ?_
   rotate_left
   ·intro w'
    go_simp
    with_reducible rfl
   rotate_left
   ·simp only [ps]
    rfl
   refine pu_ (v := ?_) (a' := ?_) 6 67 #[true, true, true, true, true, true, true, false, false, false, false, false, false, false, false, false] HT_ ?_ ?_ ?_
   rotate_left
   ·intro w'
    go_simp
    with_reducible rfl
   rotate_left
   ·simp only [ps]
    rfl
   refine pu_ (v := ?_) (a' := ?_) 8 69 #[true, true, true, true, true, true, true, false, true, false, false, false, false, false, false, false] HT_ ?_ ?_ ?_
   rotate_left
   ·intro w'
    go_simp
    with_reducible rfl
   rotate_left
   ·simp only [ps]
    rfl
   refine pu_ (v := ?_) (a' := ?_) 9 70 #[true, true, true, true, true, true, true, false, true, true, false, false, false, false, false, false] HT_ ?_ ?_ ?_
   rotate_left
   ·intro w'
    go_simp
    with_reducible rfl
   rotate_left
   ·simp only [ps]
    rfl
   refine pu_ (v := ?_) (a' := ?_) 10 71 #[true, true, true, true, true, true, true, false, true, true, true, false, false, false, false, false] HT_ ?_ ?_ ?_
   rotate_left
   ·intro w'
    go_simp
    with_reducible rfl
   rotate_left
   ·simp only [ps]
    rfl
   refine take_ (i := 7) (N := some 68) (v := ?_) (a' := ?_) (tf 11 5) rfl rfl (take_ofW HT_.out HW_.out (by kernel_rfl)) (fun _ _ _ h => h) (Or.inl ⟨by rfl, ?_⟩) hHeld ?_ ?_
   rotate_left
   ·rintro w' ⟨s0, s1, s2, s3, s4, s5, s6, s7⟩
    go_simp
    with_reducible rfl
   rotate_left
   ·simp only [ps]
    rfl
   refine take_ (i := 11) (N := some 72) (v := ?_) (a' := ?_) (tf 12 4) rfl rfl (take_ofW HT_.out HW_.out (by kernel_rfl)) (fun _ _ _ h => h) (Or.inl ⟨by rfl, ?_⟩) hHeld ?_ ?_
   rotate_left
   ·rintro w' ⟨s0, s1, s2, s3, s4, s5, s6, s7⟩
    go_simp
    with_reducible rfl
   rotate_left
   ·simp only [ps]
    rfl
   refine pu_ (v := ?_) (a' := ?_) 12 73 #[true, true, true, true, true, true, true, true, true, true, true, true, true, false, false, false] HT_ ?_ ?_ ?_
   rotate_left
   ·intro w'
    go_simp
    with_reducible rfl
   rotate_left
   ·simp only [ps]
    rfl
   refine last_ (i := 13) (N := none) (tf 14 2) rfl rfl (one_of HT_.out (by kernel_rfl)) (by decide) (fun K hK => ?_)
   refine skip_ (w1 := ?_) (by rfl) rfl ?_ ?_
   rotate_left
   ·go_simp
    rfl
   refine hK.out _ _ ?_
   clear hK K
   refine pu_ (v := ?_) (a' := ?_) 14 74 #[true, true, true, true, true, true, true, true, true, true, true, true, true, true, true, false] HT_ ?_ ?_ ?_
   rotate_left
   ·intro w'
    go_simp
    with_reducible rfl
   rotate_left
   ·simp only [ps]
    rfl
   refine last_ (i := 15) (N := none) (tf 16 0) rfl rfl (one_of HT_.out (by kernel_rfl)) (by decide) (fun K hK => ?_)
   refine skip_ (w1 := ?_) (by rfl) rfl ?_ ?_
   rotate_left
   ·go_simp
    rfl
   refine hK.out _ _ ?_
   clear hK K
   refine done_ (done_of HT_.out (by kernel_rfl)) ?_
   have n0_ : Aside0 (Kd.V k30 30 ((((((((w56.setCell ⟨go37, ((ji34) : Int).toNat * 4, none⟩ (.int .i64 ((rd_T30 y176 (ji31)).f0))).setCell ⟨go37, ((ji34) : Int).toNat * 4 + 1, none⟩ (.int .i64 ((rd_T30 y176 (ji31)).f1))).setCell ⟨go37, ((ji34) : Int).toNat * 4 + 2, none⟩ (.slice A179_2 ((rd_T30 y176 (ji31)).f2).length c179_2)).setCell ⟨go37, ((ji34) : Int).toNat * 4 + 3, none⟩ (.slice A179_3 ((rd_T30 y176 (ji31)).f3).length c179_3)).setCell ⟨go37, ((ji31) : Int).toNat * 4, none⟩ (.int .i64 ((rd_T30 y176 (ji34)).f0))).setCell ⟨go37, ((ji31) : Int).toNat * 4 + 1, none⟩ (.int .i64 ((rd_T30 y176 (ji34)).f1))).setCell ⟨go37, ((ji31) : Int).toNat * 4 + 2, none⟩ (.slice A180_2 ((rd_T30 y176 (ji34)).f2).length c180_2)).setCell ⟨go37, ((ji31) : Int).toNat * 4 + 3, none⟩ (.slice A180_3 ((rd_T30 y176 (ji34)).f3).length c180_3)) w.heap.size (fun k_ => (P1_ k_ ∨ w.heap.size ≤ k_) ∧ some k_ ≠ (.slice (some ⟨go37, 0, none⟩) y176.length co55 : Value).ownBlock ∧ k_ ≠ gb156 ∧ k_ ≠ gb157) (.slice A1 l1.length c1) l1) := ⟨by exact V_pl (Kd.V_mono (Kd.V_far (p := ⟨go37, ((ji31) : Int).toNat * 4 + 3, none⟩) (Kd.V_far (p := ⟨go37, ((ji31) : Int).toNat * 4 + 2, none⟩) (Kd.V_far (p := ⟨go37, ((ji31) : Int).toNat * 4 + 1, none⟩) (Kd.V_far (p := ⟨go37, ((ji31) : Int).toNat * 4, none⟩) (Kd.V_far (p := ⟨go37, ((ji34) : Int).toNat * 4 + 3, none⟩) (Kd.V_far (p := ⟨go37, ((ji34) : Int).toNat * 4 + 2, none⟩) (Kd.V_far (p := ⟨go37, ((ji34) : Int).toNat * 4 + 1, none⟩) (Kd.V_far (p := ⟨go37, ((ji34) : Int).toNat * 4, none⟩) (Kd.V_mono HO_1.out (fun k_ hk => (⟨hk, fun e_ => hk.2 (by rw [e_]; rfl)⟩ : _ ∧ k_ ≠ go37))) (fun _ hk => hk.2) (.int .i64 ((rd_T30 y176 (ji31)).f0))) (fun _ hk => hk.2) (.int .i64 ((rd_T30 y176 (ji31)).f1))) (fun _ hk => hk.2) (.slice A179_2 ((rd_T30 y176 (ji31)).f2).length c179_2)) (fun _ hk => hk.2) (.slice A179_3 ((rd_T30 y176 (ji31)).f3).length c179_3)) (fun _ hk => hk.2) (.int .i64 ((rd_T30 y176 (ji34)).f0))) (fun _ hk => hk.2) (.int .i64 ((rd_T30 y176 (ji34)).f1))) (fun _ hk => hk.2) (.slice A180_2 ((rd_T30 y176 (ji34)).f2).length c180_2)) (fun _ hk => hk.2) (.slice A180_3 ((rd_T30 y176 (ji34)).f3).length c180_3)) (fun _ hk => ⟨hk.1.1.1, ⟨hk.1.2, ⟨hk.1.1.2.1, hk.1.1.2.2⟩⟩⟩))⟩
   have n1_ : Aside0 (Kd.V k30 30 ((((((((w56.setCell ⟨go37, ((ji34) : Int).toNat * 4, none⟩ (.int .i64 ((rd_T30 y176 (ji31)).f0))).setCell ⟨go37, ((ji34) : Int).toNat * 4 + 1, none⟩ (.int .i64 ((rd_T30 y176 (ji31)).f1))).setCell ⟨go37, ((ji34) : Int).toNat * 4 + 2, none⟩ (.slice A179_2 ((rd_T30 y176 (ji31)).f2).length c179_2)).setCell ⟨go37, ((ji34) : Int).toNat * 4 + 3, none⟩ (.slice A179_3 ((rd_T30 y176 (ji31)).f3).length c179_3)).setCell ⟨go37, ((ji31) : Int).toNat * 4, none⟩ (.int .i64 ((rd_T30 y176 (ji34)).f0))).setCell ⟨go37, ((ji31) : Int).toNat * 4 + 1, none⟩ (.int .i64 ((rd_T30 y176 (ji34)).f1))).setCell ⟨go37, ((ji31) : Int).toNat * 4 + 2, none⟩ (.slice A180_2 ((rd_T30 y176 (ji34)).f2).length c180_2)).setCell ⟨go37, ((ji31) : Int).toNat * 4 + 3, none⟩ (.slice A180_3 ((rd_T30 y176 (ji34)).f3).length c180_3)) w.heap.size (fun k_ => (P1_ k_ ∨ w.heap.size ≤ k_) ∧ some k_ ≠ (.slice (some ⟨go37, 0, none⟩) y176.length co55 : Value).ownBlock ∧ k_ ≠ gb156 ∧ k_ ≠ gb157) (.slice A48 y163.length c48) y163) := ⟨by exact V_pl (Kd.V_mono (Kd.V_far (p := ⟨go37, ((ji31) : Int).toNat * 4 + 3, none⟩) (Kd.V_far (p := ⟨go37, ((ji31) : Int).toNat * 4 + 2, none⟩) (Kd.V_far (p := ⟨go37, ((ji31) : Int).toNat * 4 + 1, none⟩) (Kd.V_far (p := ⟨go37, ((ji31) : Int).toNat * 4, none⟩) (Kd.V_far (p := ⟨go37, ((ji34) : Int).toNat * 4 + 3, none⟩) (Kd.V_far (p := ⟨go37, ((ji34) : Int).toNat * 4 + 2, none⟩) (Kd.V_far (p := ⟨go37, ((ji34) : Int).toNat * 4 + 1, none⟩) (Kd.V_far (p := ⟨go37, ((ji34) : Int).toNat * 4, none⟩) (Kd.V_mono HO167.out (fun k_ hk => (⟨hk, fun e_ => hk.2 (by rw [e_]; rfl)⟩ : _ ∧ k_ ≠ go37))) (fun _ hk => hk.2) (.int .i64 ((rd_T30 y176 (ji31)).f0))) (fun _ hk => hk.2) (.int .i64 ((rd_T30 y176 (ji31)).f1))) (fun _ hk => hk.2) (.slice A179_2 ((rd_T30 y176 (ji31)).f2).length c179_2)) (fun _ hk => hk.2) (.slice A179_3 ((rd_T30 y176 (ji31)).f3).length c179_3)) (fun _ hk => hk.2) (.int .i64 ((rd_T30 y176 (ji34)).f0))) (fun _ hk => hk.2) (.int .i64 ((rd_T30 y176 (ji34)).f1))) (fun _ hk => hk.2) (.slice A180_2 ((rd_T30 y176 (ji34)).f2).length c180_2)) (fun _ hk => hk.2) (.slice A180_3 ((rd_T30 y176 (ji34)).f3).length c180_3)) (fun _ hk => ⟨hk.1.1.1, ⟨hk.1.2, ⟨hk.1.1.2.1, hk.1.1.2.2⟩⟩⟩))⟩
   have n2_ : Aside0 (Kd.V k30 30 ((((((((w56.setCell ⟨go37, ((ji34) : Int).toNat * 4, none⟩ (.int .i64 ((rd_T30 y176 (ji31)).f0))).setCell ⟨go37, ((ji34) : Int).toNat * 4 + 1, none⟩ (.int .i64 ((rd_T30 y176 (ji31)).f1))).setCell ⟨go37, ((ji34) : Int).toNat * 4 + 2, none⟩ (.slice A179_2 ((rd_T30 y176 (ji31)).f2).length c179_2)).setCell ⟨go37, ((ji34) : Int).toNat * 4 + 3, none⟩ (.slice A179_3 ((rd_T30 y176 (ji31)).f3).length c179_3)).setCell ⟨go37, ((ji31) : Int).toNat * 4, none⟩ (.int .i64 ((rd_T30 y176 (ji34)).f0))).setCell ⟨go37, ((ji31) : Int).toNat * 4 + 1, none⟩ (.int .i64 ((rd_T30 y176 (ji34)).f1))).setCell ⟨go37, ((ji31) : Int).toNat * 4 + 2, none⟩ (.slice A180_2 ((rd_T30 y176 (ji34)).f2).length c180_2)).setCell ⟨go37, ((ji31) : Int).toNat * 4 + 3, none⟩ (.slice A180_3 ((rd_T30 y176 (ji34)).f3).length c180_3)) w.heap.size (fun k_ => (P1_ k_ ∨ w.heap.size ≤ k_) ∧ some k_ ≠ (.slice (some ⟨go37, 0, none⟩) y176.length co55 : Value).ownBlock ∧ k_ ≠ gb156 ∧ k_ ≠ gb157) (.slice A1 y171.length c1) y171) := ⟨by exact V_pl (Kd.V_mono (Kd.V_far (p := ⟨go37, ((ji31) : Int).toNat * 4 + 3, none⟩) (Kd.V_far (p := ⟨go37, ((ji31) : Int).toNat * 4 + 2, none⟩) (Kd.V_far (p := ⟨go37, ((ji31) : Int).toNat * 4 + 1, none⟩) (Kd.V_far (p := ⟨go37, ((ji31) : Int).toNat * 4, none⟩) (Kd.V_far (p := ⟨go37, ((ji34) : Int).toNat * 4 + 3, none⟩) (Kd.V_far (p := ⟨go37, ((ji34) : Int).toNat * 4 + 2, none⟩) (Kd.V_far (p := ⟨go37, ((ji34) : Int).toNat * 4 + 1, none⟩) (Kd.V_far (p := ⟨go37, ((ji34) : Int).toNat * 4, none⟩) (Kd.V_mono HO175.out (fun k_ hk => (⟨hk, fun e_ => hk.2 (by rw [e_]; rfl)⟩ : _ ∧ k_ ≠ go37))) (fun _ hk => hk.2) (.int .i64 ((rd_T30 y176 (ji31)).f0))) (fun _ hk => hk.2) (.int .i64 ((rd_T30 y176 (ji31)).f1))) (fun _ hk => hk.2) (.slice A179_2 ((rd_T30 y176 (ji31)).f2).length c179_2)) (fun _ hk => hk.2) (.slice A179_3 ((rd_T30 y176 (ji31)).f3).length c179_3)) (fun _ hk => hk.2) (.int .i64 ((rd_T30 y176 (ji34)).f0))) (fun _ hk => hk.2) (.int .i64 ((rd_T30 y176 (ji34)).f1))) (fun _ hk => hk.2) (.slice A180_2 ((rd_T30 y176 (ji34)).f2).length c180_2)) (fun _ hk => hk.2) (.slice A180_3 ((rd_T30 y176 (ji34)).f3).length c180_3)) (fun _ hk => ⟨hk.1.1.1, ⟨hk.1.2, ⟨hk.1.1.2.1, hk.1.1.2.2⟩⟩⟩))⟩
   have n3_ : Aside0 (Kd.N k30 30 ((((((((w56.setCell ⟨go37, ((ji34) : Int).toNat * 4, none⟩ (.int .i64 ((rd_T30 y176 (ji31)).f0))).setCell ⟨go37, ((ji34) : Int).toNat * 4 + 1, none⟩ (.int .i64 ((rd_T30 y176 (ji31)).f1))).setCell ⟨go37, ((ji34) : Int).toNat * 4 + 2, none⟩ (.slice A179_2 ((rd_T30 y176 (ji31)).f2).length c179_2)).setCell ⟨go37, ((ji34) : Int).toNat * 4 + 3, none⟩ (.slice A179_3 ((rd_T30 y176 (ji31)).f3).length c179_3)).setCell ⟨go37, ((ji31) : Int).toNat * 4, none⟩ (.int .i64 ((rd_T30 y176 (ji34)).f0))).setCell ⟨go37, ((ji31) : Int).toNat * 4 + 1, none⟩ (.int .i64 ((rd_T30 y176 (ji34)).f1))).setCell ⟨go37, ((ji31) : Int).toNat * 4 + 2, none⟩ (.slice A180_2 ((rd_T30 y176 (ji34)).f2).length c180_2)).setCell ⟨go37, ((ji31) : Int).toNat * 4 + 3, none⟩ (.slice A180_3 ((rd_T30 y176 (ji34)).f3).length c180_3)) w.heap.size (fun k_ => (P1_ k_ ∨ w.heap.size ≤ k_) ∧ k_ ≠ gb156 ∧ k_ ≠ gb157) (.slice (some ⟨go37, 0, none⟩) y176.length co55) y182) := ⟨HQ58.out⟩
   have n4_ : Aside0 (Kd.V (Kd.int .u8) 73 ((((((((w56.setCell ⟨go37, ((ji34) : Int).toNat * 4, none⟩ (.int .i64 ((rd_T30 y176 (ji31)).f0))).setCell ⟨go37, ((ji34) : Int).toNat * 4 + 1, none⟩ (.int .i64 ((rd_T30 y176 (ji31)).f1))).setCell ⟨go37, ((ji34) : Int).toNat * 4 + 2, none⟩ (.slice A179_2 ((rd_T30 y176 (ji31)).f2).length c179_2)).setCell ⟨go37, ((ji34) : Int).toNat * 4 + 3, none⟩ (.slice A179_3 ((rd_T30 y176 (ji31)).f3).length c179_3)).setCell ⟨go37, ((ji31) : Int).toNat * 4, none⟩ (.int .i64 ((rd_T30 y176 (ji34)).f0))).setCell ⟨go37, ((ji31) : Int).toNat * 4 + 1, none⟩ (.int .i64 ((rd_T30 y176 (ji34)).f1))).setCell ⟨go37, ((ji31) : Int).toNat * 4 + 2, none⟩ (.slice A180_2 ((rd_T30 y176 (ji34)).f2).length c180_2)).setCell ⟨go37, ((ji31) : Int).toNat * 4 + 3, none⟩ (.slice A180_3 ((rd_T30 y176 (ji34)).f3).length c180_3)) w.heap.size (fun k_ => (P1_ k_ ∨ w.heap.size ≤ k_) ∧ some k_ ≠ (.slice (some ⟨go37, 0, none⟩) y176.length co55 : Value).ownBlock ∧ k_ ≠ gb156 ∧ k_ ≠ gb157) (.slice A179_2 ((rd_T30 y176 (ji31)).f2).length c179_2) ((rd_T30 y176 (ji31)).f2)) := ⟨by exact V_pl (Kd.V_mono (Kd.V_far (p := ⟨go37, ((ji31) : Int).toNat * 4 + 3, none⟩) (Kd.V_far (p := ⟨go37, ((ji31) : Int).toNat * 4 + 2, none⟩) (Kd.V_far (p := ⟨go37, ((ji31) : Int).toNat * 4 + 1, none⟩) (Kd.V_far (p := ⟨go37, ((ji31) : Int).toNat * 4, none⟩) (Kd.V_far (p := ⟨go37, ((ji34) : Int).toNat * 4 + 3, none⟩) (Kd.V_far (p := ⟨go37, ((ji34) : Int).toNat * 4 + 2, none⟩) (Kd.V_far (p := ⟨go37, ((ji34) : Int).toNat * 4 + 1, none⟩) (Kd.V_far (p := ⟨go37, ((ji34) : Int).toNat * 4, none⟩) (Kd.V_mono HL179_2.out (fun k_ hk => (⟨hk, fun e_ => hk.2 (by rw [e_]; rfl)⟩ : _ ∧ k_ ≠ go37))) (fun _ hk => hk.2) (.int .i64 ((rd_T30 y176 (ji31)).f0))) (fun _ hk => hk.2) (.int .i64 ((rd_T30 y176 (ji31)).f1))) (fun _ hk => hk.2) (.slice A179_2 ((rd_T30 y176 (ji31)).f2).length c179_2)) (fun _ hk => hk.2) (.slice A179_3 ((rd_T30 y176 (ji31)).f3).length c179_3)) (fun _ hk => hk.2) (.int .i64 ((rd_T30 y176 (ji34)).f0))) (fun _ hk => hk.2) (.int .i64 ((rd_T30 y176 (ji34)).f1))) (fun _ hk => hk.2) (.slice A180_2 ((rd_T30 y176 (ji34)).f2).length c180_2)) (fun _ hk => hk.2) (.slice A180_3 ((rd_T30 y176 (ji34)).f3).length c180_3)) (fun _ hk => ⟨hk.1.1.1, ⟨hk.1.2, ⟨hk.1.1.2.1, hk.1.1.2.2⟩⟩⟩))⟩
   have n5_ : Aside0 (Kd.V k30 30 ((((((((w56.setCell ⟨go37, ((ji34) : Int).toNat * 4, none⟩ (.int .i64 ((rd_T30 y176 (ji31)).f0))).setCell ⟨go37, ((ji34) : Int).toNat * 4 + 1, none⟩ (.int .i64 ((rd_T30 y176 (ji31)).f1))).setCell ⟨go37, ((ji34) : Int).toNat * 4 + 2, none⟩ (.slice A179_2 ((rd_T30 y176 (ji31)).f2).length c179_2)).setCell ⟨go37, ((ji34) : Int).toNat * 4 + 3, none⟩ (.slice A179_3 ((rd_T30 y176 (ji31)).f3).length c179_3)).setCell ⟨go37, ((ji31) : Int).toNat * 4, none⟩ (.int .i64 ((rd_T30 y176 (ji34)).f0))).setCell ⟨go37, ((ji31) : Int).toNat * 4 + 1, none⟩ (.int .i64 ((rd_T30 y176 (ji34)).f1))).setCell ⟨go37, ((ji31) : Int).toNat * 4 + 2, none⟩ (.slice A180_2 ((rd_T30 y176 (ji34)).f2).length c180_2)).setCell ⟨go37, ((ji31) : Int).toNat * 4 + 3, none⟩ (.slice A180_3 ((rd_T30 y176 (ji34)).f3).length c180_3)) w.heap.size (fun k_ => (P1_ k_ ∨ w.heap.size ≤ k_) ∧ some k_ ≠ (.slice (some ⟨go37, 0, none⟩) y176.length co55 : Value).ownBlock ∧ k_ ≠ gb156 ∧ k_ ≠ gb157) (.slice A179_3 ((rd_T30 y176 (ji31)).f3).length c179_3) ((rd_T30 y176 (ji31)).f3)) := ⟨by exact V_pl (Kd.V_mono (Kd.V_far (p := ⟨go37, ((ji31) : Int).toNat * 4 + 3, none⟩) (Kd.V_far (p := ⟨go37, ((ji31) : Int).toNat * 4 + 2, none⟩) (Kd.V_far (p := ⟨go37, ((ji31) : Int).toNat * 4 + 1, none⟩) (Kd.V_far (p := ⟨go37, ((ji31) : Int).toNat * 4, none⟩) (Kd.V_far (p := ⟨go37, ((ji34) : Int).toNat * 4 + 3, none⟩) (Kd.V_far (p := ⟨go37, ((ji34) : Int).toNat * 4 + 2, none⟩) (Kd.V_far (p := ⟨go37, ((ji34) : Int).toNat * 4 + 1, none⟩) (Kd.V_far (p := ⟨go37, ((ji34) : Int).toNat * 4, none⟩) (Kd.V_mono HL179_3.out (fun k_ hk => (⟨hk, fun e_ => hk.2 (by rw [e_]; rfl)⟩ : _ ∧ k_ ≠ go37))) (fun _ hk => hk.2) (.int .i64 ((rd_T30 y176 (ji31)).f0))) (fun _ hk => hk.2) (.int .i64 ((rd_T30 y176 (ji31)).f1))) (fun _ hk => hk.2) (.slice A179_2 ((rd_T30 y176 (ji31)).f2).length c179_2)) (fun _ hk => hk.2) (.slice A179_3 ((rd_T30 y176 (ji31)).f3).length c179_3)) (fun _ hk => hk.2) (.int .i64 ((rd_T30 y176 (ji34)).f0))) (fun _ hk => hk.2) (.int .i64 ((rd_T30 y176 (ji34)).f1))) (fun _ hk => hk.2) (.slice A180_2 ((rd_T30 y176 (ji34)).f2).length c180_2)) (fun _ hk => hk.2) (.slice A180_3 ((rd_T30 y176 (ji34)).f3).length c180_3)) (fun _ hk => ⟨hk.1.1.1, ⟨hk.1.2, ⟨hk.1.1.2.1, hk.1.1.2.2⟩⟩⟩))⟩
   have n6_ : Aside0 (Kd.V (Kd.int .u8) 73 ((((((((w56.setCell ⟨go37, ((ji34) : Int).toNat * 4, none⟩ (.int .i64 ((rd_T30 y176 (ji31)).f0))).setCell ⟨go37, ((ji34) : Int).toNat * 4 + 1, none⟩ (.int .i64 ((rd_T30 y176 (ji31)).f1))).setCell ⟨go37, ((ji34) : Int).toNat * 4 + 2, none⟩ (.slice A179_2 ((rd_T30 y176 (ji31)).f2).length c179_2)).setCell ⟨go37, ((ji34) : Int).toNat * 4 + 3, none⟩ (.slice A179_3 ((rd_T30 y176 (ji31)).f3).length c179_3)).setCell ⟨go37, ((ji31) : Int).toNat * 4, none⟩ (.int .i64 ((rd_T30 y176 (ji34)).f0))).setCell ⟨go37, ((ji31) : Int).toNat * 4 + 1, none⟩ (.int .i64 ((rd_T30 y176 (ji34)).f1))).setCell ⟨go37, ((ji31) : Int).toNat * 4 + 2, none⟩ (.slice A180_2 ((rd_T30 y176 (ji34)).f2).length c180_2)).setCell ⟨go37, ((ji31) : Int).toNat * 4 + 3, none⟩ (.slice A180_3 ((rd_T30 y176 (ji34)).f3).length c180_3)) w.heap.size (fun k_ => (P1_ k_ ∨ w.heap.size ≤ k_) ∧ some k_ ≠ (.slice (some ⟨go37, 0, none⟩) y176.length co55 : Value).ownBlock ∧ k_ ≠ gb156 ∧ k_ ≠ gb157) (.slice A180_2 ((rd_T30 y176 (ji34)).f2).length c180_2) ((rd_T30 y176 (ji34)).f2)) := ⟨by exact V_pl (Kd.V_mono (Kd.V_far (p := ⟨go37, ((ji31) : Int).toNat * 4 + 3, none⟩) (Kd.V_far (p := ⟨go37, ((ji31) : Int).toNat * 4 + 2, none⟩) (Kd.V_far (p := ⟨go37, ((ji31) : Int).toNat * 4 + 1, none⟩) (Kd.V_far (p := ⟨go37, ((ji31) : Int).toNat * 4, none⟩) (Kd.V_far (p := ⟨go37, ((ji34) : Int).toNat * 4 + 3, none⟩) (Kd.V_far (p := ⟨go37, ((ji34) : Int).toNat * 4 + 2, none⟩) (Kd.V_far (p := ⟨go37, ((ji34) : Int).toNat * 4 + 1, none⟩) (Kd.V_far (p := ⟨go37, ((ji34) : Int).toNat * 4, none⟩) (Kd.V_mono HL180_2.out (fun k_ hk => (⟨hk, fun e_ => hk.2 (by rw [e_]; rfl)⟩ : _ ∧ k_ ≠ go37))) (fun _ hk => hk.2) (.int .i64 ((rd_T30 y176 (ji31)).f0))) (fun _ hk => hk.2) (.int .i64 ((rd_T30 y176 (ji31)).f1))) (fun _ hk => hk.2) (.slice A179_2 ((rd_T30 y176 (ji31)).f2).length c179_2)) (fun _ hk => hk.2) (.slice A179_3 ((rd_T30 y176 (ji31)).f3).length c179_3)) (fun _ hk => hk.2) (.int .i64 ((rd_T30 y176 (ji34)).f0))) (fun _ hk => hk.2) (.int .i64 ((rd_T30 y176 (ji34)).f1))) (fun _ hk => hk.2) (.slice A180_2 ((rd_T30 y176 (ji34)).f2).length c180_2)) (fun _ hk => hk.2) (.slice A180_3 ((rd_T30 y176 (ji34)).f3).length c180_3)) (fun _ hk => ⟨hk.1.1.1, ⟨hk.1.2, ⟨hk.1.1.2.1, hk.1.1.2.2⟩⟩⟩))⟩
   have n7_ : Aside0 (Kd.V k30 30 ((((((((w56.setCell ⟨go37, ((ji34) : Int).toNat * 4, none⟩ (.int .i64 ((rd_T30 y176 (ji31)).f0))).setCell ⟨go37, ((ji34) : Int).toNat * 4 + 1, none⟩ (.int .i64 ((rd_T30 y176 (ji31)).f1))).setCell ⟨go37, ((ji34) : Int).toNat * 4 + 2, none⟩ (.slice A179_2 ((rd_T30 y176 (ji31)).f2).length c179_2)).setCell ⟨go37, ((ji34) : Int).toNat * 4 + 3, none⟩ (.slice A179_3 ((rd_T30 y176 (ji31)).f3).length c179_3)).setCell ⟨go37, ((ji31) : Int).toNat * 4, none⟩ (.int .i64 ((rd_T30 y176 (ji34)).f0))).setCell ⟨go37, ((ji31) : Int).toNat * 4 + 1, none⟩ (.int .i64 ((rd_T30 y176 (ji34)).f1))).setCell ⟨go37, ((ji31) : Int).toNat * 4 + 2, none⟩ (.slice A180_2 ((rd_T30 y176 (ji34)).f2).length c180_2)).setCell ⟨go37, ((ji31) : Int).toNat * 4 + 3, none⟩ (.slice A180_3 ((rd_T30 y176 (ji34)).f3).length c180_3)) w.heap.size (fun k_ => (P1_ k_ ∨ w.heap.size ≤ k_) ∧ some k_ ≠ (.slice (some ⟨go37, 0, none⟩) y176.length co55 : Value).ownBlock ∧ k_ ≠ gb156 ∧ k_ ≠ gb157) (.slice A180_3 ((rd_T30 y176 (ji34)).f3).length c180_3) ((rd_T30 y176 (ji34)).f3)) := ⟨by exact V_pl (Kd.V_mono (Kd.V_far (p := ⟨go37, ((ji31) : Int).toNat * 4 + 3, none⟩) (Kd.V_far (p := ⟨go37, ((ji31) : Int).toNat * 4 + 2, none⟩) (Kd.V_far (p := ⟨go37, ((ji31) : Int).toNat * 4 + 1, none⟩) (Kd.V_far (p := ⟨go37, ((ji31) : Int).toNat * 4, none⟩) (Kd.V_far (p := ⟨go37, ((ji34) : Int).toNat * 4 + 3, none⟩) (Kd.V_far (p := ⟨go37, ((ji34) : Int).toNat * 4 + 2, none⟩) (Kd.V_far (p := ⟨go37, ((ji34) : Int).toNat * 4 + 1, none⟩) (Kd.V_far (p := ⟨go37, ((ji34) : Int).toNat * 4, none⟩) (Kd.V_mono HL180_3.out (fun k_ hk => (⟨hk, fun e_ => hk.2 (by rw [e_]; rfl)⟩ : _ ∧ k_ ≠ go37))) (fun _ hk => hk.2) (.int .i64 ((rd_T30 y176 (ji31)).f0))) (fun _ hk => hk.2) (.int .i64 ((rd_T30 y176 (ji31)).f1))) (fun _ hk => hk.2) (.slice A179_2 ((rd_T30 y176 (ji31)).f2).length c179_2)) (fun _ hk => hk.2) (.slice A179_3 ((rd_T30 y176 (ji31)).f3).length c179_3)) (fun _ hk => hk.2) (.int .i64 ((rd_T30 y176 (ji34)).f0))) (fun _ hk => hk.2) (.int .i64 ((rd_T30 y176 (ji34)).f1))) (fun _ hk => hk.2) (.slice A180_2 ((rd_T30 y176 (ji34)).f2).length c180_2)) (fun _ hk => hk.2) (.slice A180_3 ((rd_T30 y176 (ji34)).f3).length c180_3)) (fun _ hk => ⟨hk.1.1.1, ⟨hk.1.2, ⟨hk.1.1.2.1, hk.1.1.2.2⟩⟩⟩))⟩
   have n8_ : Aside0 (((((((((w56.setCell ⟨go37, ((ji34) : Int).toNat * 4, none⟩ (.int .i64 ((rd_T30 y176 (ji31)).f0))).setCell ⟨go37, ((ji34) : Int).toNat * 4 + 1, none⟩ (.int .i64 ((rd_T30 y176 (ji31)).f1))).setCell ⟨go37, ((ji34) : Int).toNat * 4 + 2, none⟩ (.slice A179_2 ((rd_T30 y176 (ji31)).f2).length c179_2)).setCell ⟨go37, ((ji34) : Int).toNat * 4 + 3, none⟩ (.slice A179_3 ((rd_T30 y176 (ji31)).f3).length c179_3)).setCell ⟨go37, ((ji31) : Int).toNat * 4, none⟩ (.int .i64 ((rd_T30 y176 (ji34)).f0))).setCell ⟨go37, ((ji31) : Int).toNat * 4 + 1, none⟩ (.int .i64 ((rd_T30 y176 (ji34)).f1))).setCell ⟨go37, ((ji31) : Int).toNat * 4 + 2, none⟩ (.slice A180_2 ((rd_T30 y176 (ji34)).f2).length c180_2)).setCell ⟨go37, ((ji31) : Int).toNat * 4 + 3, none⟩ (.slice A180_3 ((rd_T30 y176 (ji34)).f3).length c180_3)).heap[gb156]? = some (.cells #[.int .i64 a0_0, .int .i64 a0_1, .string a0_2, .slice A0_3 l0_3.length c0_3, .slice A0_4 l0_4.length c0_4] 26 (0, 0))) := ⟨by refine blk_pl ?_; refine blk_far ?_ (by have h_ := Kd.N_away HO178.out (fun _ hk => hk.2.1); intro e_; exact h_ (by rw [e_]; rfl)) _; refine blk_pl ?_; refine blk_far ?_ (by have h_ := Kd.N_away HO178.out (fun _ hk => hk.2.1); intro e_; exact h_ (by rw [e_]; rfl)) _; refine blk_pl ?_; refine blk_far ?_ (by have h_ := Kd.N_away HO178.out (fun _ hk => hk.2.1); intro e_; exact h_ (by rw [e_]; rfl)) _; refine blk_pl ?_; refine blk_far ?_ (by have h_ := Kd.N_away HO178.out (fun _ hk => hk.2.1); intro e_; exact h_ (by rw [e_]; rfl)) _; refine blk_pl ?_; refine blk_far ?_ (by have h_ := Kd.N_away HO178.out (fun _ hk => hk.2.1); intro e_; exact h_ (by rw [e_]; rfl)) _; refine blk_pl ?_; refine blk_far ?_ (by have h_ := Kd.N_away HO178.out (fun _ hk => hk.2.1); intro e_; exact h_ (by rw [e_]; rfl)) _; refine blk_pl ?_; refine blk_far ?_ (by have h_ := Kd.N_away HO178.out (fun _ hk => hk.2.1); intro e_; exact h_ (by rw [e_]; rfl)) _; refine blk_pl ?_; refine blk_far ?_ (by have h_ := Kd.N_away HO178.out (fun _ hk => hk.2.1); intro e_; exact h_ (by rw [e_]; rfl)) _; refine blk_pl ?_; exact BK156.out⟩
   have n9_ : Aside0 (((((((((w56.setCell ⟨go37, ((ji34) : Int).toNat * 4, none⟩ (.int .i64 ((rd_T30 y176 (ji31)).f0))).setCell ⟨go37, ((ji34) : Int).toNat * 4 + 1, none⟩ (.int .i64 ((rd_T30 y176 (ji31)).f1))).setCell ⟨go37, ((ji34) : Int).toNat * 4 + 2, none⟩ (.slice A179_2 ((rd_T30 y176 (ji31)).f2).length c179_2)).setCell ⟨go37, ((ji34) : Int).toNat * 4 + 3, none⟩ (.slice A179_3 ((rd_T30 y176 (ji31)).f3).length c179_3)).setCell ⟨go37, ((ji31) : Int).toNat * 4, none⟩ (.int .i64 ((rd_T30 y176 (ji34)).f0))).setCell ⟨go37, ((ji31) : Int).toNat * 4 + 1, none⟩ (.int .i64 ((rd_T30 y176 (ji34)).f1))).setCell ⟨go37, ((ji31) : Int).toNat * 4 + 2, none⟩ (.slice A180_2 ((rd_T30 y176 (ji34)).f2).length c180_2)).setCell ⟨go37, ((ji31) : Int).toNat * 4 + 3, none⟩ (.slice A180_3 ((rd_T30 y176 (ji34)).f3).length c180_3)).heap[gb157]? = some (.cells #[.int .u8 a2_0, .int .u8 a2_1] 71 (0, 0))) := ⟨by refine blk_pl ?_; refine blk_far ?_ (by have h_ := Kd.N_away HO178.out (fun _ hk => hk.2.2); intro e_; exact h_ (by rw [e_]; rfl)) _; refine blk_pl ?_; refine blk_far ?_ (by have h_ := Kd.N_away HO178.out (fun _ hk => hk.2.2); intro e_; exact h_ (by rw [e_]; rfl)) _; refine blk_pl ?_; refine blk_far ?_ (by have h_ := Kd.N_away HO178.out (fun _ hk => hk.2.2); intro e_; exact h_ (by rw [e_]; rfl)) _; refine blk_pl ?_; refine blk_far ?_ (by have h_ := Kd.N_away HO178.out (fun _ hk => hk.2.2); intro e_; exact h_ (by rw [e_]; rfl)) _; refine blk_pl ?_; refine blk_far ?_ (by have h_ := Kd.N_away HO178.out (fun _ hk => hk.2.2); intro e_; exact h_ (by rw [e_]; rfl)) _; refine blk_pl ?_; refine blk_far ?_ (by have h_ := Kd.N_away HO178.out (fun _ hk => hk.2.2); intro e_; exact h_ (by rw [e_]; rfl)) _; refine blk_pl ?_; refine blk_far ?_ (by have h_ := Kd.N_away HO178.out (fun _ hk => hk.2.2); intro e_; exact h_ (by rw [e_]; rfl)) _; refine blk_pl ?_; refine blk_far ?_ (by have h_ := Kd.N_away HO178.out (fun _ hk => hk.2.2); intro e_; exact h_ (by rw [e_]; rfl)) _; refine blk_pl ?_; exact BK157.out⟩
   have n10_ : Aside0 (Below w.heap.size w ((((((((w56.setCell ⟨go37, ((ji34) : Int).toNat * 4, none⟩ (.int .i64 ((rd_T30 y176 (ji31)).f0))).setCell ⟨go37, ((ji34) : Int).toNat * 4 + 1, none⟩ (.int .i64 ((rd_T30 y176 (ji31)).f1))).setCell ⟨go37, ((ji34) : Int).toNat * 4 + 2, none⟩ (.slice A179_2 ((rd_T30 y176 (ji31)).f2).length c179_2)).setCell ⟨go37, ((ji34) : Int).toNat * 4 + 3, none⟩ (.slice A179_3 ((rd_T30 y176 (ji31)).f3).length c179_3)).setCell ⟨go37, ((ji31) : Int).toNat * 4, none⟩ (.int .i64 ((rd_T30 y176 (ji34)).f0))).setCell ⟨go37, ((ji31) : Int).toNat * 4 + 1, none⟩ (.int .i64 ((rd_T30 y176 (ji34)).f1))).setCell ⟨go37, ((ji31) : Int).toNat * 4 + 2, none⟩ (.slice A180_2 ((rd_T30 y176 (ji34)).f2).length c180_2)).setCell ⟨go37, ((ji31) : Int).toNat * 4 + 3, none⟩ (.slice A180_3 ((rd_T30 y176 (ji34)).f3).length c180_3))) := ⟨by repeat (first | (with_reducible first | exact HB.out | apply below_alloc | apply pw_below_drewN | apply below_drew1 | refine below_set ?_ GB37.out | refine below_set ?_ GB37.out | refine below_set ?_ GB37.out | refine below_set ?_ GB37.out | refine below_set ?_ GB37.out | refine below_set ?_ GB37.out | refine below_set ?_ GB37.out | refine below_set ?_ GB37.out | refine below_set ?_ GE156.out | refine below_set ?_ GE157.out) | exact HB.out)⟩
   try clear HO_1
   try clear HO167
   try clear HO175
   try clear HO178
   try clear HL179_2
   try clear HL179_3
   try clear HL180_2
   try clear HL180_3
   try clear BK156
   try clear BK157
   try clear HB
   generalize ((((((((w56.setCell ⟨go37, ((ji34) : Int).toNat * 4, none⟩ (.int .i64 ((rd_T30 y176 (ji31)).f0))).setCell ⟨go37, ((ji34) : Int).toNat * 4 + 1, none⟩ (.int .i64 ((rd_T30 y176 (ji31)).f1))).setCell ⟨go37, ((ji34) : Int).toNat * 4 + 2, none⟩ (.slice A179_2 ((rd_T30 y176 (ji31)).f2).length c179_2)).setCell ⟨go37, ((ji34) : Int).toNat * 4 + 3, none⟩ (.slice A179_3 ((rd_T30 y176 (ji31)).f3).length c179_3)).setCell ⟨go37, ((ji31) : Int).toNat * 4, none⟩ (.int .i64 ((rd_T30 y176 (ji34)).f0))).setCell ⟨go37, ((ji31) : Int).toNat * 4 + 1, none⟩ (.int .i64 ((rd_T30 y176 (ji34)).f1))).setCell ⟨go37, ((ji31) : Int).toNat * 4 + 2, none⟩ (.slice A180_2 ((rd_T30 y176 (ji34)).f2).length c180_2)).setCell ⟨go37, ((ji31) : Int).toNat * 4 + 3, none⟩ (.slice A180_3 ((rd_T30 y176 (ji34)).f3).length c180_3)) = w59 at n0_ n1_ n2_ n3_ n4_ n5_ n6_ n7_ n8_ n9_ n10_ ⊢
   have HO_1 := n0_; have HO167 := n1_; have HO175 := n2_; have HO178 := n3_; have HL179_2 := n4_; have HL179_3 := n5_; have HL180_2 := n6_; have HL180_3 := n7_; have BK156 := n8_; have BK157 := n9_; have HB := n10_; clear n0_ n1_ n2_ n3_ n4_ n5_ n6_ n7_ n8_ n9_ n10_
   have zc60 := cells5 BK156.out
   go_upto_region 11 with (first | ((with_reducible refine gate_callee (f := 30) rfl ?_); refine goesL_ (some 78) rfl rfl Try.func30 (by kernel_rfl) rfl #[.agg #[.int .i64 a0_0, .int .i64 a0_1, .string a0_2, .slice A0_3 l0_3.length c0_3, .slice A0_4 l0_4.length c0_4], .slice A1 l1.length c1] rfl (by (try simp only [List.map_toArray, List.map_cons, List.map_nil]); first | done | rfl | (simp only [List.length_drop, List.length_take]; rfl)) ?_; (with_reducible refine (PRs.drivers_Resolve.calls kj3 a0_0 a0_1 a0_2 _ _ l0_3 _ _ l0_4 (fun k_ => ((P1_ k_ ∨ w.heap.size ≤ k_) ∧ (some k_ ≠ (.slice (some ⟨go37, 0, none⟩) y176.length co55 : Value).ownBlock ∧ (k_ ≠ gb156 ∧ k_ ≠ gb157)))) _ _ l1 t183 t184 t185 t188 t191 _ ?side6 ?side1 ?side2 ?side3 ?side4 ?side5 A39.out).mono ?_); (case side1 => exact cu HR0_3 HB); (case side2 => exact HC0_3.out); (case side3 => exact cu HR0_4 HB); (case side4 => exact HC0_4.out); (case side5 => exact HO_1.out); (case side6 => exact glob_below HG.out (be2 HB GE156 GE157)); rintro e w61 ⟨v186, v189, rfl, ho0, ho1, hb⟩; refine ⟨_, rfl, ?_⟩; replace HO_1 := mk0 (Kd.V_elder' (V_up HO_1.out) (Kd.R_base ho0) hb); replace HO167 := mk0 (Kd.V_elder' (V_up HO167.out) (Kd.R_base ho0) hb); replace HO175 := mk0 (Kd.V_elder' (V_up HO175.out) (Kd.R_base ho0) hb); replace HL179_2 := mk0 (Kd.V_elder' (V_up HL179_2.out) (Kd.R_base ho0) hb); replace HL179_3 := mk0 (Kd.V_elder' (V_up HL179_3.out) (Kd.R_base ho0) hb); replace HL180_2 := mk0 (Kd.V_elder' (V_up HL180_2.out) (Kd.R_base ho0) hb); replace HL180_3 := mk0 (Kd.V_elder' (V_up HL180_3.out) (Kd.R_base ho0) hb); have HO187 := mk0 (Kd.R_lower (Kd.R_newM (M := fun k_ => (w.heap.size ≤ k_)) (Kd.R_mono (ok' := fun k_ => True) ho0 (fun _ hk_ => trivial)) (below_size (be2 HB GE156 GE157)) (fun k_ h_ => h_)) (below_size (be2 HB GE156 GE157))); have HO190 := mk0 (Kd.V_lower (Kd.V_mono (ok' := fun k_ => (P1_ k_ ∨ w.heap.size ≤ k_) ∧ some k_ ≠ (v186 : Value).ownBlock ∧ some k_ ≠ (.slice (some ⟨go37, 0, none⟩) y176.length co55 : Value).ownBlock ∧ k_ ≠ gb156 ∧ k_ ≠ gb157) ho1 (fun k_ hk_ => ⟨Or.elim hk_.1 (fun hs_ => hs_.1) (fun hn_ => (.inr (Nat.le_trans (below_size (be2 HB GE156 GE157)) hn_))), hk_.2, Or.elim hk_.1 (fun hs_ => hs_.2.1) (fun hn_ => (Kd.fresh' (Kd.N_lt (N_up HO178.out)) k_ hn_)), Or.elim hk_.1 (fun hs_ => hs_.2.2.1) (fun hn_ => (Kd.freshB (g := gb156) (o := .cells #[.int .i64 a0_0, .int .i64 a0_1, .string a0_2, .slice A0_3 l0_3.length c0_3, .slice A0_4 l0_4.length c0_4] 26 (0, 0)) (blk_up BK156.out) k_ hn_)), Or.elim hk_.1 (fun hs_ => hs_.2.2.2) (fun hn_ => (Kd.freshB (g := gb157) (o := .cells #[.int .u8 a2_0, .int .u8 a2_1] 71 (0, 0)) (blk_up BK157.out) k_ hn_))⟩)) (below_size (be2 HB GE156 GE157))); replace HO178 := mk0 (Kd.N_elder' (N_up HO178.out) (Kd.R_base ho0) hb); replace BK156 := kb BK156 hb; replace BK157 := kb BK157 hb; replace HB := kh2 HB GE156 GE157 hb; (try clear ho0); (try clear ho1)) | ((with_reducible refine box_event rfl (N := 11) rfl (cs := #[.int .i64 0, .int .i64 0, .slice none 0 0, .slice none 0 0]) (t := 30) ?hr ?_); (case hr => first | (go_simp; done) | (go_simp; rfl)); intro gb192 hg w62 hbox hb; replace HO_1 := vB HO_1 hg hb; replace HO167 := vB HO167 hg hb; replace HO175 := vB HO175 hg hb; replace HO178 := nB HO178 hg hb; replace HL179_2 := vB HL179_2 hg hb; replace HL179_3 := vB HL179_3 hg hb; replace HL180_2 := vB HL180_2 hg hb; replace HL180_3 := vB HL180_3 hg hb; replace HO187 := rb HO187 hb; replace HO190 := vB HO190 hg hb; have BK192 := mk0 (hbox); have GE192 := bs (be2 HB GE156 GE157) hg; replace HB := kh2 HB GE156 GE157 hb; have NB156_192 := nb1 (bu BK156) hg; have NB192_156 := nb2 (bu BK156) hg; replace BK156 := kb BK156 hb; have NB157_192 := nb1 (bu BK157) hg; have NB192_157 := nb2 (bu BK157) hg; replace BK157 := kb BK157 hb; clear hb hbox hg; have hnb63 := NB192_156.out; have hnc63 := NB156_192.out; have hnb64 := NB192_157.out; have hnc64 := NB157_192.out; have zc65 := cells4 BK192.out; obtain ⟨Ao66, co66, eo66⟩ := Kd.R_slice HO187.out; subst eo66; obtain ⟨Ao67, co67, eo67⟩ := Kd.V_slice HO190.out; subst eo67) | ((with_reducible refine gate_store (t := 30) (p := 11) rfl ?_); refine store_event (t := 30) (p := 11) (v := ?vo_w68) (w1 := ((((w62.setCell ⟨gb192, 0, none⟩ (.int .i64 t183)).setCell ⟨gb192, 1, none⟩ (.int .i64 t184)).setCell ⟨gb192, 2, none⟩ (.slice Ao66 t185.length co66)).setCell ⟨gb192, 3, none⟩ (.slice Ao67 t188.length co67))) ?hg ?ho ?hn ?hr ?_; (case ho => rfl); (case hg => rfl); (case hn => rfl); (case hr => first | (go_simp; done) | (go_simp; rfl)); intro w68 hw; have n0_ : Aside0 (Kd.V k30 30 w68 w.heap.size (fun k_ => (P1_ k_ ∨ w.heap.size ≤ k_) ∧ some k_ ≠ (.slice (some ⟨go37, 0, none⟩) y176.length co55 : Value).ownBlock ∧ some k_ ≠ (.slice Ao66 t185.length co66 : Value).ownBlock ∧ k_ ≠ gb156 ∧ k_ ≠ gb157 ∧ k_ ≠ gb192) (.slice A1 l1.length c1) l1) := ⟨(by rw [hw]; exact (by exact V_pl (Kd.V_mono (vI (q := gb192) (Kd.V_mono HO_1.out (fun k_ hk => (⟨hk, hk.2⟩ : _ ∧ k_ ≠ gb192))) (fun _ hk => hk.2)) (fun _ hk => ⟨hk.1.1.1.1, ⟨hk.1.1.1.2.1, ⟨hk.1.1.2, ⟨hk.1.1.1.2.2.1, ⟨hk.1.1.1.2.2.2, hk.1.2⟩⟩⟩⟩⟩))))⟩; have n1_ : Aside0 (Kd.V k30 30 w68 w.heap.size (fun k_ => (P1_ k_ ∨ w.heap.size ≤ k_) ∧ some k_ ≠ (.slice (some ⟨go37, 0, none⟩) y176.length co55 : Value).ownBlock ∧ some k_ ≠ (.slice Ao66 t185.length co66 : Value).ownBlock ∧ k_ ≠ gb156 ∧ k_ ≠ gb157 ∧ k_ ≠ gb192) (.slice A48 y163.length c48) y163) := ⟨(by rw [hw]; exact (by exact V_pl (Kd.V_mono (vI (q := gb192) (Kd.V_mono HO167.out (fun k_ hk => (⟨hk, hk.2⟩ : _ ∧ k_ ≠ gb192))) (fun _ hk => hk.2)) (fun _ hk => ⟨hk.1.1.1.1, ⟨hk.1.1.1.2.1, ⟨hk.1.1.2, ⟨hk.1.1.1.2.2.1, ⟨hk.1.1.1.2.2.2, hk.1.2⟩⟩⟩⟩⟩))))⟩; have n2_ : Aside0 (Kd.V k30 30 w68 w.heap.size (fun k_ => (P1_ k_ ∨ w.heap.size ≤ k_) ∧ some k_ ≠ (.slice (some ⟨go37, 0, none⟩) y176.length co55 : Value).ownBlock ∧ some k_ ≠ (.slice Ao66 t185.length co66 : Value).ownBlock ∧ k_ ≠ gb156 ∧ k_ ≠ gb157 ∧ k_ ≠ gb192) (.slice A1 y171.length c1) y171) := ⟨(by rw [hw]; exact (by exact V_pl (Kd.V_mono (vI (q := gb192) (Kd.V_mono HO175.out (fun k_ hk => (⟨hk, hk.2⟩ : _ ∧ k_ ≠ gb192))) (fun _ hk => hk.2)) (fun _ hk => ⟨hk.1.1.1.1, ⟨hk.1.1.1.2.1, ⟨hk.1.1.2, ⟨hk.1.1.1.2.2.1, ⟨hk.1.1.1.2.2.2, hk.1.2⟩⟩⟩⟩⟩))))⟩; have n3_ : Aside0 (Kd.N k30 30 w68 w.heap.size (fun k_ => (P1_ k_ ∨ w.heap.size ≤ k_) ∧ some k_ ≠ (.slice Ao66 t185.length co66 : Value).ownBlock ∧ k_ ≠ gb156 ∧ k_ ≠ gb157 ∧ k_ ≠ gb192) (.slice (some ⟨go37, 0, none⟩) y176.length co55) y182) := ⟨(by rw [hw]; exact (by exact N_pl (Kd.N_mono (nI (q := gb192) (Kd.N_mono HO178.out (fun k_ hk => (⟨hk, hk.2⟩ : _ ∧ k_ ≠ gb192))) (fun _ hk => hk.2)) (fun _ hk => ⟨hk.1.1.1.1, ⟨hk.1.1.2, ⟨hk.1.1.1.2.1, ⟨hk.1.1.1.2.2, hk.1.2⟩⟩⟩⟩))))⟩; have n4_ : Aside0 (Kd.V (Kd.int .u8) 73 w68 w.heap.size (fun k_ => (P1_ k_ ∨ w.heap.size ≤ k_) ∧ some k_ ≠ (.slice (some ⟨go37, 0, none⟩) y176.length co55 : Value).ownBlock ∧ some k_ ≠ (.slice Ao66 t185.length co66 : Value).ownBlock ∧ k_ ≠ gb156 ∧ k_ ≠ gb157 ∧ k_ ≠ gb192) (.slice A179_2 ((rd_T30 y176 (ji31)).f2).length c179_2) ((rd_T30 y176 (ji31)).f2)) := ⟨(by rw [hw]; exact (by exact V_pl (Kd.V_mono (vI (q := gb192) (Kd.V_mono HL179_2.out (fun k_ hk => (⟨hk, hk.2⟩ : _ ∧ k_ ≠ gb192))) (fun _ hk => hk.2)) (fun _ hk => ⟨hk.1.1.1.1, ⟨hk.1.1.1.2.1, ⟨hk.1.1.2, ⟨hk.1.1.1.2.2.1, ⟨hk.1.1.1.2.2.2, hk.1.2⟩⟩⟩⟩⟩))))⟩; have n5_ : Aside0 (Kd.V k30 30 w68 w.heap.size (fun k_ => (P1_ k_ ∨ w.heap.size ≤ k_) ∧ some k_ ≠ (.slice (some ⟨go37, 0, none⟩) y176.length co55 : Value).ownBlock ∧ some k_ ≠ (.slice Ao66 t185.length co66 : Value).ownBlock ∧ k_ ≠ gb156 ∧ k_ ≠ gb157 ∧ k_ ≠ gb192) (.slice A179_3 ((rd_T30 y176 (ji31)).f3).length c179_3) ((rd_T30 y176 (ji31)).f3)) := ⟨(by rw [hw]; exact (by exact V_pl (Kd.V_mono (vI (q := gb192) (Kd.V_mono HL179_3.out (fun k_ hk => (⟨hk, hk.2⟩ : _ ∧ k_ ≠ gb192))) (fun _ hk => hk.2)) (fun _ hk => ⟨hk.1.1.1.1, ⟨hk.1.1.1.2.1, ⟨hk.1.1.2, ⟨hk.1.1.1.2.2.1, ⟨hk.1.1.1.2.2.2, hk.1.2⟩⟩⟩⟩⟩))))⟩; have n6_ : Aside0 (Kd.V (Kd.int .u8) 73 w68 w.heap.size (fun k_ => (P1_ k_ ∨ w.heap.size ≤ k_) ∧ some k_ ≠ (.slice (some ⟨go37, 0, none⟩) y176.length co55 : Value).ownBlock ∧ some k_ ≠ (.slice Ao66 t185.length co66 : Value).ownBlock ∧ k_ ≠ gb156 ∧ k_ ≠ gb157 ∧ k_ ≠ gb192) (.slice A180_2 ((rd_T30 y176 (ji34)).f2).length c180_2) ((rd_T30 y176 (ji34)).f2)) := ⟨(by rw [hw]; exact (by exact V_pl (Kd.V_mono (vI (q := gb192) (Kd.V_mono HL180_2.out (fun k_ hk => (⟨hk, hk.2⟩ : _ ∧ k_ ≠ gb192))) (fun _ hk => hk.2)) (fun _ hk => ⟨hk.1.1.1.1, ⟨hk.1.1.1.2.1, ⟨hk.1.1.2, ⟨hk.1.1.1.2.2.1, ⟨hk.1.1.1.2.2.2, hk.1.2⟩⟩⟩⟩⟩))))⟩; have n7_ : Aside0 (Kd.V k30 30 w68 w.heap.size (fun k_ => (P1_ k_ ∨ w.heap.size ≤ k_) ∧ some k_ ≠ (.slice (some ⟨go37, 0, none⟩) y176.length co55 : Value).ownBlock ∧ some k_ ≠ (.slice Ao66 t185.length co66 : Value).ownBlock ∧ k_ ≠ gb156 ∧ k_ ≠ gb157 ∧ k_ ≠ gb192) (.slice A180_3 ((rd_T30 y176 (ji34)).f3).length c180_3) ((rd_T30 y176 (ji34)).f3)) := ⟨(by rw [hw]; exact (by exact V_pl (Kd.V_mono (vI (q := gb192) (Kd.V_mono HL180_3.out (fun k_ hk => (⟨hk, hk.2⟩ : _ ∧ k_ ≠ gb192))) (fun _ hk => hk.2)) (fun _ hk => ⟨hk.1.1.1.1, ⟨hk.1.1.1.2.1, ⟨hk.1.1.2, ⟨hk.1.1.1.2.2.1, ⟨hk.1.1.1.2.2.2, hk.1.2⟩⟩⟩⟩⟩))))⟩; have n8_ : Aside0 (Kd.R (Kd.int .u8) 73 w68 w.heap.size (fun k_ => (w.heap.size ≤ k_)) (.slice Ao66 t185.length co66) t185) := ⟨(by rw [hw]; exact (by exact R_pl (Kd.R_mono (rI (q := gb192) (Kd.R_types HO187.out BK192.out (by decide)) (fun _ hk => hk.2)) (fun _ hk => hk.1.1))))⟩; have n9_ : Aside0 (Kd.V k30 30 w68 w.heap.size (fun k_ => (P1_ k_ ∨ w.heap.size ≤ k_) ∧ some k_ ≠ (.slice (some ⟨go37, 0, none⟩) y176.length co55 : Value).ownBlock ∧ some k_ ≠ (.slice Ao66 t185.length co66 : Value).ownBlock ∧ k_ ≠ gb156 ∧ k_ ≠ gb157 ∧ k_ ≠ gb192) (.slice Ao67 t188.length co67) t188) := ⟨(by rw [hw]; exact (by exact V_pl (Kd.V_mono (vI (q := gb192) (Kd.V_mono HO190.out (fun k_ hk => (⟨hk, hk.2⟩ : _ ∧ k_ ≠ gb192))) (fun _ hk => hk.2)) (fun _ hk => ⟨hk.1.1.1, ⟨hk.1.1.2.2.1, ⟨hk.1.1.2.1, ⟨hk.1.1.2.2.2.1, ⟨hk.1.1.2.2.2.2, hk.1.2⟩⟩⟩⟩⟩))))⟩; have n10_ : Aside0 (w68.heap[gb156]? = some (.cells #[.int .i64 a0_0, .int .i64 a0_1, .string a0_2, .slice A0_3 l0_3.length c0_3, .slice A0_4 l0_4.length c0_4] 26 (0, 0))) := ⟨(by rw [hw]; exact (bF NB156_192 BK156))⟩; have n11_ : Aside0 (w68.heap[gb157]? = some (.cells #[.int .u8 a2_0, .int .u8 a2_1] 71 (0, 0))) := ⟨(by rw [hw]; exact (bF NB157_192 BK157))⟩; have n12_ : Aside0 (w68.heap[gb192]? = some (.cells #[.int .i64 t183, .int .i64 t184, .slice Ao66 t185.length co66, .slice Ao67 t188.length co67] 30 (0, 0))) := ⟨(by rw [hw]; exact (pB BK192))⟩; have n13_ : Aside0 (Below w.heap.size w w68) := ⟨(by rw [hw]; exact (be3 HB GE156 GE157 GE192))⟩; clear hw; clear HO_1; clear HO167; clear HO175; clear HO178; clear HL179_2; clear HL179_3; clear HL180_2; clear HL180_3; clear HO187; clear HO190; clear BK156; clear BK157; clear BK192; clear HB; have HO_1 := n0_; have HO167 := n1_; have HO175 := n2_; have HO178 := n3_; have HL179_2 := n4_; have HL179_3 := n5_; have HL180_2 := n6_; have HL180_3 := n7_; have HO187 := n8_; have HO190 := n9_; have BK156 := n10_; have BK157 := n11_; have BK192 := n12_; have HB := n13_; clear n0_ n1_ n2_ n3_ n4_ n5_ n6_ n7_ n8_ n9_ n10_ n11_ n12_ n13_; have zc69 := cells5 BK156.out) | ((with_reducible refine gate_callee (f := 30) rfl ?_); refine goesL_ (some 84) rfl rfl Try.func30 (by kernel_rfl) rfl #[.agg #[.int .i64 a0_0, .int .i64 a0_1, .string a0_2, .slice A0_3 l0_3.length c0_3, .slice A0_4 l0_4.length c0_4], .slice (some ⟨go37, 0, none⟩) y182.length co55] rfl (by (try simp only [List.map_toArray, List.map_cons, List.map_nil]); first | done | (rw [show y182.length = y176.length from (Kd.N_reads' HO178.out).1.symm] <;> rfl) | rfl | (simp only [List.length_drop, List.length_take]; rfl)) ?_; (with_reducible refine (PRs.drivers_Resolve.calls kj3 a0_0 a0_1 a0_2 _ _ l0_3 _ _ l0_4 (fun k_ => ((P1_ k_ ∨ w.heap.size ≤ k_) ∧ (some k_ ≠ (.slice Ao66 t185.length co66 : Value).ownBlock ∧ (k_ ≠ gb156 ∧ (k_ ≠ gb157 ∧ k_ ≠ gb192))))) _ _ y182 t193 t194 t195 t198 t201 _ ?side6 ?side1 ?side2 ?side3 ?side4 ?side5 A40.out).mono ?_); (case side1 => exact cu HR0_3 HB); (case side2 => exact HC0_3.out); (case side3 => exact cu HR0_4 HB); (case side4 => exact HC0_4.out); (case side5 => rw [show y182.length = y176.length from (Kd.N_reads' HO178.out).1.symm]; exact Kd.N_V (HO178.out)); (case side6 => exact glob_below HG.out (be3 HB GE156 GE157 GE192)); rintro e w70 ⟨v196, v199, rfl, ho0, ho1, hb⟩; refine ⟨_, rfl, ?_⟩; replace HO_1 := mk0 (Kd.V_elder' (V_up HO_1.out) (Kd.R_base ho0) hb); replace HO167 := mk0 (Kd.V_elder' (V_up HO167.out) (Kd.R_base ho0) hb); replace HO175 := mk0 (Kd.V_elder' (V_up HO175.out) (Kd.R_base ho0) hb); replace HO178 := mk0 (Kd.N_elder' (N_up HO178.out) (Kd.R_base ho0) hb); replace HL179_2 := mk0 (Kd.V_elder' (V_up HL179_2.out) (Kd.R_base ho0) hb); replace HL179_3 := mk0 (Kd.V_elder' (V_up HL179_3.out) (Kd.R_base ho0) hb); replace HL180_2 := mk0 (Kd.V_elder' (V_up HL180_2.out) (Kd.R_base ho0) hb); replace HL180_3 := mk0 (Kd.V_elder' (V_up HL180_3.out) (Kd.R_base ho0) hb); replace HO190 := mk0 (Kd.V_elder' (V_up HO190.out) (Kd.R_base ho0) hb); have HO197 := mk0 (Kd.R_lower (Kd.R_new' (Kd.R_newM (M := fun k_ => (w.heap.size ≤ k_)) (Kd.R_mono (ok' := fun k_ => True) ho0 (fun _ hk_ => trivial)) (below_size (be3 HB GE156 GE157 GE192)) (fun k_ h_ => h_)) (Kd.R_lt (R_up HO187.out))) (below_size (be3 HB GE156 GE157 GE192))); have HO200 := mk0 (Kd.V_lower (Kd.V_mono (ok' := fun k_ => (P1_ k_ ∨ w.heap.size ≤ k_) ∧ some k_ ≠ (v196 : Value).ownBlock ∧ some k_ ≠ (.slice Ao66 t185.length co66 : Value).ownBlock ∧ k_ ≠ gb156 ∧ k_ ≠ gb157 ∧ k_ ≠ gb192) ho1 (fun k_ hk_ => ⟨Or.elim hk_.1 (fun hs_ => hs_.1) (fun hn_ => (.inr (Nat.le_trans (below_size (be3 HB GE156 GE157 GE192)) hn_))), hk_.2, Or.elim hk_.1 (fun hs_ => hs_.2.1) (fun hn_ => (Kd.fresh' (Kd.R_lt (R_up HO187.out)) k_ hn_)), Or.elim hk_.1 (fun hs_ => hs_.2.2.1) (fun hn_ => (Kd.freshB (g := gb156) (o := .cells #[.int .i64 a0_0, .int .i64 a0_1, .string a0_2, .slice A0_3 l0_3.length c0_3, .slice A0_4 l0_4.length c0_4] 26 (0, 0)) (blk_up BK156.out) k_ hn_)), Or.elim hk_.1 (fun hs_ => hs_.2.2.2.1) (fun hn_ => (Kd.freshB (g := gb157) (o := .cells #[.int .u8 a2_0, .int .u8 a2_1] 71 (0, 0)) (blk_up BK157.out) k_ hn_)), Or.elim hk_.1 (fun hs_ => hs_.2.2.2.2) (fun hn_ => (Kd.freshB (g := gb192) (o := .cells #[.int .i64 t183, .int .i64 t184, .slice Ao66 t185.length co66, .slice Ao67 t188.length co67] 30 (0, 0)) (blk_up BK192.out) k_ hn_))⟩)) (below_size (be3 HB GE156 GE157 GE192))); replace HO187 := mk0 (Kd.R_elder' (R_up HO187.out) (Kd.R_base ho0) hb); replace BK156 := kb BK156 hb; replace BK157 := kb BK157 hb; replace BK192 := kb BK192 hb; replace HB := kh3 HB GE156 GE157 GE192 hb; (try clear ho0); (try clear ho1)) | ((with_reducible refine box_event rfl (N := 13) rfl (cs := #[.int .i64 0, .int .i64 0, .slice none 0 0, .slice none 0 0]) (t := 30) ?hr ?_); (case hr => first | (go_simp; done) | (go_simp; rfl)); intro gb202 hg w71 hbox hb; replace HO_1 := vB HO_1 hg hb; replace HO167 := vB HO167 hg hb; replace HO175 := vB HO175 hg hb; replace HO178 := nB HO178 hg hb; replace HL179_2 := vB HL179_2 hg hb; replace HL179_3 := vB HL179_3 hg hb; replace HL180_2 := vB HL180_2 hg hb; replace HL180_3 := vB HL180_3 hg hb; replace HO187 := rb HO187 hb; replace HO190 := vB HO190 hg hb; replace HO197 := rb HO197 hb; replace HO200 := vB HO200 hg hb; have BK202 := mk0 (hbox); have GE202 := bs (be3 HB GE156 GE157 GE192) hg; replace HB := kh3 HB GE156 GE157 GE192 hb; have NB156_202 := nb1 (bu BK156) hg; have NB202_156 := nb2 (bu BK156) hg; replace BK156 := kb BK156 hb; have NB157_202 := nb1 (bu BK157) hg; have NB202_157 := nb2 (bu BK157) hg; replace BK157 := kb BK157 hb; have NB192_202 := nb1 (bu BK192) hg; have NB202_192 := nb2 (bu BK192) hg; replace BK192 := kb BK192 hb; clear hb hbox hg; have hnb72 := NB202_156.out; have hnc72 := NB156_202.out; have hnb73 := NB202_157.out; have hnc73 := NB157_202.out; have hnb74 := NB202_192.out; have hnc74 := NB192_202.out; have zc75 := cells4 BK202.out; obtain ⟨Ao76, co76, eo76⟩ := Kd.R_slice HO197.out; subst eo76; obtain ⟨Ao77, co77, eo77⟩ := Kd.V_slice HO200.out; subst eo77; have zc78 := cells4 BK192.out) | ((with_reducible refine gate_callee (f := 32) rfl ?_); refine goesL_ (some 89) rfl rfl Try.func32 (by kernel_rfl) rfl #[.agg #[.int .i64 t183, .int .i64 t184, .slice Ao66 t185.length co66, .slice Ao67 t188.length co67], .agg #[.int .i64 t193, .int .i64 t194, .slice Ao76 t195.length co76, .slice Ao77 t198.length co77]] rfl (by (try simp only [List.map_toArray, List.map_cons, List.map_nil]); first | done | rfl | (simp only [List.length_drop, List.length_take]; rfl)) ?_; (with_reducible refine (PRs.r04Alike.calls kj3 t183 t184 _ _ t185 _ _ t188 t193 t194 _ _ t195 _ _ t198 true _ ?side1 ?side2 ?side3 ?side4 ?side5 ?side6 ?side7 ?side8 A41.out).mono ?_); (case side1 => refine (Kd.R_reads' (e := 73) (base := w.heap.size) (ok := fun k_ => ((w.heap.size ≤ k_) ∧ some k_ ≠ (.slice Ao76 t195.length co76 : Value).ownBlock)) (n := t185.length) (c := co66) ?_).2.2; exact (by exact R_pl ((Kd.R_mono (rI (q := gb202) (Kd.R_types HO187.out BK202.out (by decide)) (fun _ hk => hk.2)) (fun _ h_ => h_.1))))); (case side2 => exact (Kd.R_reads' HO187.out).2.1); (case side3 => refine (Kd.V_reads' (e := 30) (base := w.heap.size) (ok := fun k_ => ((((P1_ k_ ∨ w.heap.size ≤ k_) ∧ (some k_ ≠ (.slice (some ⟨go37, 0, none⟩) y176.length co55 : Value).ownBlock ∧ (some k_ ≠ (.slice Ao66 t185.length co66 : Value).ownBlock ∧ (k_ ≠ gb156 ∧ (k_ ≠ gb157 ∧ k_ ≠ gb192))))) ∧ some k_ ≠ (.slice Ao76 t195.length co76 : Value).ownBlock) ∧ k_ ≠ gb202)) (n := t188.length) (c := co67) ?_).2.2; exact (by exact V_pl ((vF (q := gb202) HO190 (fun _ hk => hk.2))))); (case side4 => exact (Kd.V_reads' HO190.out).2.1); (case side5 => refine (Kd.R_reads' (e := 73) (base := w.heap.size) (ok := fun k_ => (((w.heap.size ≤ k_) ∧ True) ∧ some k_ ≠ (.slice Ao66 t185.length co66 : Value).ownBlock)) (n := t195.length) (c := co76) ?_).2.2; exact (by exact R_pl ((Kd.R_mono (rI (q := gb202) (Kd.R_types HO197.out BK202.out (by decide)) (fun _ hk => hk.2)) (fun _ h_ => h_.1))))); (case side6 => exact (Kd.R_reads' HO197.out).2.1); (case side7 => refine (Kd.V_reads' (e := 30) (base := w.heap.size) (ok := fun k_ => (((P1_ k_ ∨ w.heap.size ≤ k_) ∧ (some k_ ≠ (.slice Ao76 t195.length co76 : Value).ownBlock ∧ (some k_ ≠ (.slice Ao66 t185.length co66 : Value).ownBlock ∧ (k_ ≠ gb156 ∧ (k_ ≠ gb157 ∧ k_ ≠ gb192))))) ∧ k_ ≠ gb202)) (n := t198.length) (c := co77) ?_).2.2; exact (by exact V_pl ((vF (q := gb202) HO200 (fun _ hk => hk.2))))); (case side8 => exact (Kd.V_reads' HO200.out).2.1); rintro e w79 ⟨rfl, hb⟩; refine ⟨_, rfl, ?_⟩; replace HO_1 := mk0 (Kd.V_below (by exact V_pl ((vF (q := gb202) HO_1 (fun _ hk => hk.2)))) hb); replace HO167 := mk0 (Kd.V_below (by exact V_pl ((vF (q := gb202) HO167 (fun _ hk => hk.2)))) hb); replace HO175 := mk0 (Kd.V_below (by exact V_pl ((vF (q := gb202) HO175 (fun _ hk => hk.2)))) hb); replace HO178 := mk0 (Kd.N_below (by exact N_pl ((nF (q := gb202) HO178 (fun _ hk => hk.2)))) hb); replace HL179_2 := mk0 (Kd.V_below (by exact V_pl ((vF (q := gb202) HL179_2 (fun _ hk => hk.2)))) hb); replace HL179_3 := mk0 (Kd.V_below (by exact V_pl ((vF (q := gb202) HL179_3 (fun _ hk => hk.2)))) hb); replace HL180_2 := mk0 (Kd.V_below (by exact V_pl ((vF (q := gb202) HL180_2 (fun _ hk => hk.2)))) hb); replace HL180_3 := mk0 (Kd.V_below (by exact V_pl ((vF (q := gb202) HL180_3 (fun _ hk => hk.2)))) hb); replace HO187 := mk0 (Kd.R_below (by exact R_pl ((Kd.R_mono (rI (q := gb202) (Kd.R_types HO187.out BK202.out (by decide)) (fun _ hk => hk.2)) (fun _ h_ => h_.1)))) hb); replace HO190 := mk0 (Kd.V_below (by exact V_pl ((vF (q := gb202) HO190 (fun _ hk => hk.2)))) hb); replace HO197 := mk0 (Kd.R_below (by exact R_pl ((Kd.R_mono (rI (q := gb202) (Kd.R_types HO197.out BK202.out (by decide)) (fun _ hk => hk.2)) (fun _ h_ => h_.1)))) hb); replace HO200 := mk0 (Kd.V_below (by exact V_pl ((vF (q := gb202) HO200 (fun _ hk => hk.2)))) hb); replace BK156 := kF NB156_202 BK156 hb; replace BK157 := kF NB157_202 BK157 hb; replace BK192 := kF NB192_202 BK192 hb; replace BK202 := mk0 (blk_below (g := gb202) (o := .cells #[.int .i64 t193, .int .i64 t194, .slice Ao76 t195.length co76, .slice Ao77 t198.length co77] 30 (0, 0)) (pB BK202) hb); replace HB := kh4 HB GE156 GE157 GE192 GE202 hb))
   (try simp only [Act.put, List.setIfInBounds_toArray, List.set_cons_zero, List.set_cons_succ])
   go_cut [102] (fun v102 wc => ∃ (kq : Nat) (x102_43 : Bool), v102 = .bool x102_43 ∧ Aside0 (v15DriversOrder.j1 kq l1 x102_43 a0_0 a0_1 a0_2 l0_3 l0_4 t183 t184 t185 t188 = some r) ∧ Aside0 (kq ≤ kj3) ∧ Aside0 (Kd.V k30 30 wc w.heap.size (fun k_ => (P1_ k_ ∨ w.heap.size ≤ k_) ∧ some k_ ≠ ((.slice Ao66 t185.length co66) : Value).ownBlock ∧ some k_ ≠ ((.slice Ao76 t195.length co76) : Value).ownBlock ∧ k_ ≠ gb156 ∧ k_ ≠ gb157 ∧ k_ ≠ gb192 ∧ k_ ≠ gb202) (.slice A1 l1.length c1) l1) ∧ Aside0 (Kd.R (Kd.int .u8) 73 wc w.heap.size (fun k_ => (w.heap.size ≤ k_) ∧ some k_ ≠ ((.slice Ao76 t195.length co76) : Value).ownBlock) (.slice Ao66 t185.length co66) t185) ∧ Aside0 (Kd.V k30 30 wc w.heap.size (fun k_ => (P1_ k_ ∨ w.heap.size ≤ k_) ∧ some k_ ≠ ((.slice Ao66 t185.length co66) : Value).ownBlock ∧ some k_ ≠ ((.slice Ao76 t195.length co76) : Value).ownBlock ∧ k_ ≠ gb156 ∧ k_ ≠ gb157 ∧ k_ ≠ gb192 ∧ k_ ≠ gb202) (.slice Ao67 t188.length co67) t188) ∧ Aside0 (Kd.R (Kd.int .u8) 73 wc w.heap.size (fun k_ => (w.heap.size ≤ k_) ∧ some k_ ≠ ((.slice Ao66 t185.length co66) : Value).ownBlock) (.slice Ao76 t195.length co76) t195) ∧ Aside0 (Kd.V k30 30 wc w.heap.size (fun k_ => (P1_ k_ ∨ w.heap.size ≤ k_) ∧ some k_ ≠ ((.slice Ao66 t185.length co66) : Value).ownBlock ∧ some k_ ≠ ((.slice Ao76 t195.length co76) : Value).ownBlock ∧ k_ ≠ gb156 ∧ k_ ≠ gb157 ∧ k_ ≠ gb192 ∧ k_ ≠ gb202) (.slice Ao77 t198.length co77) t198) ∧ Aside0 (wc.heap[gb156]? = some (.cells #[.int .i64 a0_0, .int .i64 a0_1, .string a0_2, (.slice A0_3 l0_3.length c0_3), (.slice A0_4 l0_4.length c0_4)] 26 (0, 0))) ∧ Aside0 (wc.heap[gb157]? = some (.cells #[.int .u8 a2_0, .int .u8 a2_1] 71 (0, 0))) ∧ Aside0 (wc.heap[gb192]? = some (.cells #[.int .i64 t183, .int .i64 t184, (.slice Ao66 t185.length co66), (.slice Ao67 t188.length co67)] 30 (0, 0))) ∧ Aside0 (wc.heap[gb202]? = some (.cells #[.int .i64 t193, .int .i64 t194, (.slice Ao76 t195.length co76), (.slice Ao77 t198.length co77)] 30 (0, 0))) ∧ Aside0 (Below w.heap.size w wc))
   case first =>
    have H := HC44.out; clear HC44
    replace H := iE' H; obtain ⟨c80, c80b0, c80b1, H⟩ | ⟨c80b0, c80b1, H⟩ := H
    ·(first | rw [c80b0] | (simp only [i64_w, i32_w]; rw [c80b0]) | skip)
     have H' := mk0 H
     clear H; have hnb85 := NB156_157.out; have hnc85 := NB157_156.out; have hnb86 := NB156_192.out; have hnc86 := NB192_156.out; have hnb87 := NB156_202.out; have hnc87 := NB202_156.out
     have zc88 := cells5 BK156.out
     go_wp2
     go_meet
     case rel => exact ⟨_, (false), rfl, H', ⟨by have := HJ3.out; omega⟩, ⟨by exact V_pl (Kd.V_mono HO_1.out (fun _ hk => ⟨hk.1.1.1, ⟨hk.1.1.2.2.1, ⟨hk.1.2, ⟨hk.1.1.2.2.2.1, ⟨hk.1.1.2.2.2.2.1, ⟨hk.1.1.2.2.2.2.2, hk.2⟩⟩⟩⟩⟩⟩))⟩, ⟨R_up HO187.out⟩, ⟨by exact V_pl (Kd.V_mono HO190.out (fun _ hk => ⟨hk.1.1.1, ⟨hk.1.1.2.2.1, ⟨hk.1.2, ⟨hk.1.1.2.2.2.1, ⟨hk.1.1.2.2.2.2.1, ⟨hk.1.1.2.2.2.2.2, hk.2⟩⟩⟩⟩⟩⟩))⟩, ⟨by exact R_pl (Kd.R_mono HO197.out (fun _ hk => ⟨hk.1.1, hk.2⟩))⟩, ⟨by exact V_pl (Kd.V_mono HO200.out (fun _ hk => ⟨hk.1.1, ⟨hk.1.2.2.1, ⟨hk.1.2.1, ⟨hk.1.2.2.2.1, ⟨hk.1.2.2.2.2.1, ⟨hk.1.2.2.2.2.2, hk.2⟩⟩⟩⟩⟩⟩))⟩, ⟨bu BK156⟩, ⟨bu BK157⟩, ⟨bu BK192⟩, ⟨bu BK202⟩, ⟨be4 HB GE156 GE157 GE192 GE202⟩⟩
    (first | rw [c80b0] | (simp only [i64_w, i32_w]; rw [c80b0]) | skip)
    have H' := mk0 H
    clear H; have hnb81 := NB156_157.out; have hnc81 := NB157_156.out; have hnb82 := NB156_192.out; have hnc82 := NB192_156.out; have hnb83 := NB156_202.out; have hnc83 := NB202_156.out
    have zc84 := cells5 BK156.out
    go_wp2
    go_meet
    case rel => exact ⟨_, ((t191 == 0)), rfl, H', ⟨by have := HJ3.out; omega⟩, ⟨by exact V_pl (Kd.V_mono HO_1.out (fun _ hk => ⟨hk.1.1.1, ⟨hk.1.1.2.2.1, ⟨hk.1.2, ⟨hk.1.1.2.2.2.1, ⟨hk.1.1.2.2.2.2.1, ⟨hk.1.1.2.2.2.2.2, hk.2⟩⟩⟩⟩⟩⟩))⟩, ⟨R_up HO187.out⟩, ⟨by exact V_pl (Kd.V_mono HO190.out (fun _ hk => ⟨hk.1.1.1, ⟨hk.1.1.2.2.1, ⟨hk.1.2, ⟨hk.1.1.2.2.2.1, ⟨hk.1.1.2.2.2.2.1, ⟨hk.1.1.2.2.2.2.2, hk.2⟩⟩⟩⟩⟩⟩))⟩, ⟨by exact R_pl (Kd.R_mono HO197.out (fun _ hk => ⟨hk.1.1, hk.2⟩))⟩, ⟨by exact V_pl (Kd.V_mono HO200.out (fun _ hk => ⟨hk.1.1, ⟨hk.1.2.2.1, ⟨hk.1.2.1, ⟨hk.1.2.2.2.1, ⟨hk.1.2.2.2.2.1, ⟨hk.1.2.2.2.2.2, hk.2⟩⟩⟩⟩⟩⟩))⟩, ⟨bu BK156⟩, ⟨bu BK157⟩, ⟨bu BK192⟩, ⟨bu BK202⟩, ⟨be4 HB GE156 GE157 GE192 GE202⟩⟩
   case rest =>
    clear HC44; try clear c1; try clear c29; try clear c30; try clear p37; try clear q37; try clear p38; try clear q38; try clear c48; try clear hx179_0; try clear hx179_1; try clear hx179_2; try clear hx179_3; try clear hx180_0; try clear hx180_1; try clear hx180_2; try clear hx180_3; try clear hx37_0; try clear hx37_1; try clear hx37_2; try clear hx37_3; try clear hx38_0; try clear hx38_1; try clear hx38_2; try clear hx38_3; try clear p179; try clear p180; try clear p37; try clear p38; try clear q179; try clear q180; try clear q37; try clear q38
    obtain ⟨kq, x102_43, rfl, HA, HJ43, HO_1, HO_193002, HO_193003, HO_203002, HO_203003, BK156, BK157, BK192, BK202, HB⟩ := hcut
    cases kq with
    | zero => exact absurd HA.out (by simp [v15DriversOrder.j1])
    | succ kj43 =>
     have H := HA.out; clear HA
     simp only [v15DriversOrder.j1] at H
     replace H := iB' H; obtain ⟨rfl, H⟩ | ⟨rfl, H⟩ := H
     ·replace H := bS H; obtain ⟨t244, A134, H⟩ := H; obtain rfl := sI H
      go_wp2_with ((with_reducible refine gate_callee (f := 16) rfl ?_); refine goB (some 125) rfl rfl Try.func16 (by kernel_rfl) rfl #[] rfl rfl (v15awake.calls kj43  t244 _ (glob_below HG.out (be4 HB GE156 GE157 GE192 GE202)) A134.out) ?_; intro w135 hb; replace HO_1 := vb HO_1 hb; replace HO_193002 := rb HO_193002 hb; replace HO_193003 := vb HO_193003 hb; replace HO_203002 := rb HO_203002 hb; replace HO_203003 := vb HO_203003 hb; replace BK156 := kb BK156 hb; replace BK157 := kb BK157 hb; replace BK192 := kb BK192 hb; replace BK202 := kb BK202 hb; replace HB := kh4 HB GE156 GE157 GE192 GE202 hb)
      go_ret
      exact ⟨by first | rfl | (simp [errW_none, errW_some] <;> rfl) | (simp only [← hji23, ← hji31, ← hji34]; first | rfl | (simp [errW_none, errW_some] <;> rfl)) | (simp [*, errW_none, errW_some] <;> rfl), be4 HB GE156 GE157 GE192 GE202⟩
     replace H := Option.bind_eq_some_iff.mp H
     obtain ⟨⟨t204, t205, t206, t209⟩, A900, H⟩ := H
     replace H : ((some (([(⟨t204, t205, t206, t209⟩ : S30)] : List (S30)) : List (S30))).bind fun y212 => (if y212.length + l1.length < 2199023255552 then ((some (y212 ++ l1 : List (S30))).bind fun y215 => ((v15bit.f 3).bind fun bt218 => ((some (([(⟨bt218.1, bt218.2.1, bt218.2.2.1, bt218.2.2.2⟩ : S30)] : List (S30)) : List (S30))).bind fun y226 => (if y215.length + y226.length < 2199023255552 then ((PRs.drivers_Resolve.f kj43 a0_0 a0_1 a0_2 l0_3 l0_4 (y215 ++ y226)).bind fun bt232 => (if bt232.2.2.2.2 = 0 then ((PRs.r04Alike.f kj43 bt232.1 bt232.2.1 bt232.2.2.1 bt232.2.2.2.1 t183 t184 t185 t188).bind fun t242 => (if t242 = true then ((v15awake.f kj43).bind fun t243 => (some t243)) else (none))) else (none))) else (none))))) else (none))) = some r := H
     have A90 := mk0 A900; clear A900
     obtain ⟨y212, hy212⟩ : ∃ y_ : List (S30), y_ = (([(⟨t204, t205, t206, t209⟩ : S30)] : List (S30))) := ⟨_, rfl⟩
     replace H : (if y212.length + l1.length < 2199023255552 then ((some (y212 ++ l1 : List (S30))).bind fun y215 => ((v15bit.f 3).bind fun bt218 => ((some (([(⟨bt218.1, bt218.2.1, bt218.2.2.1, bt218.2.2.2⟩ : S30)] : List (S30)) : List (S30))).bind fun y226 => (if y215.length + y226.length < 2199023255552 then ((PRs.drivers_Resolve.f kj43 a0_0 a0_1 a0_2 l0_3 l0_4 (y215 ++ y226)).bind fun bt232 => (if bt232.2.2.2.2 = 0 then ((PRs.r04Alike.f kj43 bt232.1 bt232.2.1 bt232.2.2.1 bt232.2.2.2.1 t183 t184 t185 t188).bind fun t242 => (if t242 = true then ((v15awake.f kj43).bind fun t243 => (some t243)) else (none))) else (none))) else (none))))) else (none)) = some r := by first | (rw [hy212]; with_reducible exact H) | (have H2_ := (Option.bind_some _ _).symm.trans H; rw [hy212]; with_reducible exact H2_) | (have H2_ := (Option.bind_some _ _).symm.trans H; with_reducible exact H2_) | with_reducible exact H | (rw [hy212]; exact H) | exact H
     have Ny212 := mk0 hy212; clear hy212
     by_cases c91 : y212.length + l1.length < 2199023255552
     rotate_left
     ·rw [if_neg c91] at H
      exact absurd H (by simp)
     rw [if_pos c91] at H; have LMc91 := mk0 c91; clear c91
     obtain ⟨y215, hy215⟩ : ∃ y_ : List (S30), y_ = (y212 ++ l1) := ⟨_, rfl⟩
     replace H : ((v15bit.f 3).bind fun bt218 => ((some (([(⟨bt218.1, bt218.2.1, bt218.2.2.1, bt218.2.2.2⟩ : S30)] : List (S30)) : List (S30))).bind fun y226 => (if y215.length + y226.length < 2199023255552 then ((PRs.drivers_Resolve.f kj43 a0_0 a0_1 a0_2 l0_3 l0_4 (y215 ++ y226)).bind fun bt232 => (if bt232.2.2.2.2 = 0 then ((PRs.r04Alike.f kj43 bt232.1 bt232.2.1 bt232.2.2.1 bt232.2.2.2.1 t183 t184 t185 t188).bind fun t242 => (if t242 = true then ((v15awake.f kj43).bind fun t243 => (some t243)) else (none))) else (none))) else (none)))) = some r := by first | (rw [hy215]; with_reducible exact H) | (have H2_ := (Option.bind_some _ _).symm.trans H; rw [hy215]; with_reducible exact H2_) | (have H2_ := (Option.bind_some _ _).symm.trans H; with_reducible exact H2_) | with_reducible exact H | (rw [hy215]; exact H) | exact H
     have Ny215 := mk0 hy215; clear hy215
     replace H := Option.bind_eq_some_iff.mp H
     obtain ⟨⟨t218, t219, t220, t223⟩, A920, H⟩ := H
     replace H : ((some (([(⟨t218, t219, t220, t223⟩ : S30)] : List (S30)) : List (S30))).bind fun y226 => (if y215.length + y226.length < 2199023255552 then ((PRs.drivers_Resolve.f kj43 a0_0 a0_1 a0_2 l0_3 l0_4 (y215 ++ y226)).bind fun bt232 => (if bt232.2.2.2.2 = 0 then ((PRs.r04Alike.f kj43 bt232.1 bt232.2.1 bt232.2.2.1 bt232.2.2.2.1 t183 t184 t185 t188).bind fun t242 => (if t242 = true then ((v15awake.f kj43).bind fun t243 => (some t243)) else (none))) else (none))) else (none))) = some r := H
     have A92 := mk0 A920; clear A920
     obtain ⟨y226, hy226⟩ : ∃ y_ : List (S30), y_ = (([(⟨t218, t219, t220, t223⟩ : S30)] : List (S30))) := ⟨_, rfl⟩
     replace H : (if y215.length + y226.length < 2199023255552 then ((PRs.drivers_Resolve.f kj43 a0_0 a0_1 a0_2 l0_3 l0_4 (y215 ++ y226)).bind fun bt232 => (if bt232.2.2.2.2 = 0 then ((PRs.r04Alike.f kj43 bt232.1 bt232.2.1 bt232.2.2.1 bt232.2.2.2.1 t183 t184 t185 t188).bind fun t242 => (if t242 = true then ((v15awake.f kj43).bind fun t243 => (some t243)) else (none))) else (none))) else (none)) = some r := by first | (rw [hy226]; with_reducible exact H) | (have H2_ := (Option.bind_some _ _).symm.trans H; rw [hy226]; with_reducible exact H2_) | (have H2_ := (Option.bind_some _ _).symm.trans H; with_reducible exact H2_) | with_reducible exact H | (rw [hy226]; exact H) | exact H
     have Ny226 := mk0 hy226; clear hy226
     by_cases c93 : y215.length + y226.length < 2199023255552
     rotate_left
     ·rw [if_neg c93] at H
      exact absurd H (by simp)
     rw [if_pos c93] at H; have LMc93 := mk0 c93; clear c93
     obtain ⟨y229, hy229⟩ : ∃ y_ : List (S30), y_ = (y215 ++ y226) := ⟨_, rfl⟩
     replace H : ((PRs.drivers_Resolve.f kj43 a0_0 a0_1 a0_2 l0_3 l0_4 y229).bind fun bt232 => (if bt232.2.2.2.2 = 0 then ((PRs.r04Alike.f kj43 bt232.1 bt232.2.1 bt232.2.2.1 bt232.2.2.2.1 t183 t184 t185 t188).bind fun t242 => (if t242 = true then ((v15awake.f kj43).bind fun t243 => (some t243)) else (none))) else (none))) = some r := by first | (rw [hy229]; with_reducible exact H) | (have H2_ := (Option.bind_some _ _).symm.trans H; rw [hy229]; with_reducible exact H2_) | (have H2_ := (Option.bind_some _ _).symm.trans H; with_reducible exact H2_) | with_reducible exact H | (rw [hy229]; exact H) | exact H
     have Ny229 := mk0 hy229; clear hy229
     replace H := Option.bind_eq_some_iff.mp H
     obtain ⟨⟨t232, t233, t234, t237, t240⟩, A940, H⟩ := H
     replace H : (if t240 = 0 then ((PRs.r04Alike.f kj43 t232 t233 t234 t237 t183 t184 t185 t188).bind fun t242 => (if t242 = true then ((v15awake.f kj43).bind fun t243 => (some t243)) else (none))) else (none)) = some r := H
     have A94 := mk0 A940; clear A940
     by_cases c95 : t240 = 0
     rotate_left
     ·rw [if_neg c95] at H
      exact absurd H (by simp)
     rw [if_pos c95] at H
     have c95b0 : (t240 == 0) = true := beq_iff_eq.mpr c95
     have c95b1 : (t240 != 0) = false := bne_eq_false_iff_eq.mpr c95
     clear c95
     replace H := bS H; obtain ⟨t242, A96, H⟩ := H
     replace H := iB' H; obtain ⟨rfl, H⟩ | ⟨rfl, H⟩ := H
     ·exact absurd H (by simp)
     replace H := bS H; obtain ⟨t243, A98, H⟩ := H; obtain rfl := sI H
     try go_wp2
     have n0_ := mk0 (Kd.V_drew HO_1.out)
     have n1_ := mk0 (Kd.R_drew HO_193002.out)
     have n2_ := mk0 (Kd.V_drew HO_193003.out)
     have n3_ := mk0 (Kd.R_drew HO_203002.out)
     have n4_ := mk0 (Kd.V_drew HO_203003.out)
     have n5_ := mk0 (blk_drew BK156.out)
     have n6_ := mk0 (blk_drew BK157.out)
     have n7_ := mk0 (blk_drew BK192.out)
     have n8_ := mk0 (blk_drew BK202.out)
     have n9_ := mk0 (below_drew1 HB.out)
     clear HO_1; clear HO_193002; clear HO_193003; clear HO_203002; clear HO_203003; clear BK156; clear BK157; clear BK192; clear BK202; clear HB; have HO_1 := n0_; have HO_193002 := n1_; have HO_193003 := n2_; have HO_203002 := n3_; have HO_203003 := n4_; have BK156 := n5_; have BK157 := n6_; have BK192 := n7_; have BK202 := n8_; have HB := n9_; clear n0_ n1_ n2_ n3_ n4_ n5_ n6_ n7_ n8_ n9_
     have h96 : some ((1 : Int), (0 : Int), [(3 : Int)], ([] : List S30)) = some (t204, t205, t206, t209) := A90.out; cases h96
     have h98 : some ((1 : Int), (0 : Int), [(3 : Int)], ([] : List S30)) = some (t218, t219, t220, t223) := A92.out; cases h98
     obtain rfl : y212 = [bv 3] := Ny212.out
     obtain rfl : y215 = [bv 3] ++ l1 := Ny215.out
     obtain rfl : y226 = [bv 3] := Ny226.out
     obtain rfl : y229 = ([bv 3] ++ l1) ++ [bv 3] := Ny229.out
     have hlim := LMc93
     refine start_ (n := 15) (S := fun w' => True) (ds := []) #[false, false, false, false, false, false, false, false, false, false, false, false, false, false, false] (by kernel_rfl) rfl rfl trivial (fun hHeld => ?_); refine with_tabW v15DriversOrder.tab12 v15DriversOrder.bits12 (fun HT_ HW_ => ?_)
     clear hHeld
     generalize wc.drew = wA at HO_1 HO_193002 HO_193003 HO_203002 HO_203003 BK156 BK157 BK192 BK202 HB ⊢
     have hL := mk0 (Kd.F_mono (Kd.F_bound (Kd.V_F HO_1.out)) (ok' := fun k => k < wA.heap.size) (fun k hk => hk.2)); have hT := BK156; have hV := BK192; have hG := mk0 (glob_below HG.out HB.out)
     have hP := mk0 (Kd.R_reads' HO_193002.out).2.2; have hPl := mk0 (Kd.R_reads' HO_193002.out).2.1; have hQ := mk0 (Kd.V_reads' HO_193003.out).2.2; have hQl := mk0 (Kd.V_reads' HO_193003.out).2.1
     have hr3 := mk0 (Kd.C_below HR0_3.out HB.out); have hr4 := mk0 (Kd.C_below HR0_4.out HB.out); have hB0 := HB
     clear HO_1 HO_193002 HO_193003 HO_203002 HO_203003 BK156 BK157 BK192 BK202 HB
     refine inv_at [0, 1, 2, 3, 4, 5, 6, 7, 8, 9, 10, 11, 12, 13, 14] (fun a0_ b a w' => ∃ (v_ : Value) (a_ : Value) (b_ : Value) (u_ : Value) (d_ : Value) (e_ : Value) (p_ : Value) (gx : Nat) (o3_ : Option Nat) (m8_ : Value) (m9_ : Value) (m10_ : Value) (m12_ : Value), a = putSel a0_ b [(0, 104, .agg #[.int .i64 a0_0, .int .i64 a0_1, .string a0_2, .slice A0_3 l0_3.length c0_3, .slice A0_4 l0_4.length c0_4]), (1, 105, v_), (2, 106, a_), (3, 107, .slice A1 l1.length c1), (4, 108, b_), (5, 109, u_), (6, 110, d_), (7, 111, e_), (8, 112, m8_), (9, 103, m9_), (10, 113, m10_), (11, 114, .int .i64 t240), (12, 15, m12_), (14, 16, .int .i64 t240)] ∧ (Below wA.heap.size wA w') ∧ (b 13 = false → ∀ g, o3_ = some g → wA.heap.size ≤ g ∧ g < w'.heap.size) ∧ (b 12 = true → b 13 = false → o3_ = some gx ∧ w'.heap[gx]? = some (.cells #[.int .i64 0, .int .i64 0, .slice none 0 0, .slice none 0 0] 30 (0, 0)) ∧ wA.heap.size ≤ gx) ∧ (b 1 = true → b 2 = false → b 13 = false → VB w' (fun k => some k ≠ o3_) 3 v_) ∧ (b 2 = true → b 4 = false → b 13 = false → Kd.N k30 30 w' wA.heap.size (fun k => some k ≠ o3_) a_ [bv 3]) ∧ (b 4 = true → b 7 = false → b 13 = false → Kd.N k30 30 w' wA.heap.size (fun k => some k ≠ o3_) b_ ([bv 3] ++ l1)) ∧ (b 5 = true → b 6 = false → b 13 = false → VB w' (fun k => some k ≠ o3_ ∧ some k ≠ (b_ : Value).ownBlock) 3 u_) ∧ (b 6 = true → b 7 = false → b 13 = false → Kd.N k30 30 w' wA.heap.size (fun k => some k ≠ o3_ ∧ some k ≠ (b_ : Value).ownBlock) d_ [bv 3]) ∧ (b 7 = true → b 8 = false → b 13 = false → Kd.N k30 30 w' wA.heap.size (fun k => some k ≠ o3_) e_ (([bv 3] ++ l1) ++ [bv 3])) ∧ (b 8 = true → b 13 = false → ∃ (A : Option Addr) (c : Nat) (B : Option Addr) (d : Nat), p_ = .agg #[.int .i64 t232, .int .i64 t233, .slice A t234.length c, .slice B t237.length d] ∧ t234.length ≤ c ∧ t237.length ≤ d ∧ Kd.F (Kd.int .u8) w' (fun k => some k ≠ o3_) A t234.length t234 ∧ Kd.F k30 w' (fun k => some k ≠ o3_) B t237.length t237) ∧ (b 13 = true → ∃ (A : Option Addr) (c : Nat) (B : Option Addr) (d : Nat), w'.heap[gx]? = some (.cells #[.int .i64 t232, .int .i64 t233, .slice A t234.length c, .slice B t237.length d] 30 (0, 0)) ∧ t234.length ≤ c ∧ t237.length ≤ d ∧ Kd.C (Kd.int .u8) w' A t234.length t234 ∧ Kd.C k30 w' B t237.length t237) ∧ (b 8 = true → (m8_ : Value) = .tuple #[p_, .int .i64 t240]) ∧ (b 9 = true → (m9_ : Value) = .tuple #[p_, .int .i64 t240]) ∧ (b 10 = true → (m10_ : Value) = p_) ∧ (b 12 = true → (m12_ : Value) = .pointer (some ⟨gx, 0, none⟩))) HT_.out HW_.out (by kernel_rfl) (by kernel_rfl) ?_ ?_ ?_
     ·exact ⟨.bool false, .bool false, .bool false, .bool false, .bool false, .bool false, .bool false, 0, none, .bool false, .bool false, .bool false, .bool false, by simp only [putSel, Bool.false_eq_true, if_false], (Below.refl _ _), fun _ => (fun g e => by cases e), fun h_ => absurd h_ (by decide), fun h_ => absurd h_ (by decide), fun h_ => absurd h_ (by decide), fun h_ => absurd h_ (by decide), fun h_ => absurd h_ (by decide), fun h_ => absurd h_ (by decide), fun h_ => absurd h_ (by decide), fun h_ => absurd h_ (by decide), fun h_ => absurd h_ (by decide), fun h_ => absurd h_ (by decide), fun h_ => absurd h_ (by decide), fun h_ => absurd h_ (by decide), fun h_ => absurd h_ (by decide)⟩
     ·skip
      refine steps_cons ?_ ?_
      ·rintro b a w' ⟨v_, a_, b_, u_, d_, e_, p_, gx, o3_, m8_, m9_, m10_, m12_, ha, Q_FB, Q_FO, Q_FG, Q_FV, Q_FA, Q_F4, Q_FU, Q_F6, Q_F7, Q_FP, Q_FD, Q_X8_, Q_X9_, Q_X10_, Q_X12_⟩ hb_ hon hoff
       refine ⟨_, rfl, fun K hK => ?_⟩
       have e3 : a.tmps[3]? = some (.pointer (some ⟨gb156, 0, none⟩)) := by rw [ha]; exact (putSel_off rfl).trans rfl
       replace ha := mk0 ha
       have FB := mk0 Q_FB
       have FO := mk0 (Q_FO (hoff 13 (by kernel_rfl)))
       have z_ := cells5 (blk_below hT.out FB.out)
       refine value_ (w1 := w') (v := .agg #[.int .i64 a0_0, .int .i64 a0_1, .string a0_2, .slice A0_3 l0_3.length c0_3, .slice A0_4 l0_4.length c0_4]) (by rfl) rfl ?_ ?_
       ·go_simp
        (try simp only [i64_w])
        try rfl
       refine hK.out _ _ ⟨v_, a_, b_, u_, d_, e_, p_, gx, o3_, m8_, m9_, m10_, m12_, (by rw [ha.out]; exact putSel_upk 0 hb_ rfl rfl rfl), Q_FB, Q_FO, Q_FG, Q_FV, Q_FA, Q_F4, Q_FU, Q_F6, Q_F7, fun h0_ _ => absurd ((hoff 8 (by kernel_rfl)).symm.trans h0_) (by decide), fun h0_ => absurd ((hoff 13 (by kernel_rfl)).symm.trans h0_) (by decide), fun h0_ => absurd ((hoff 8 (by kernel_rfl)).symm.trans h0_) (by decide), fun h0_ => absurd ((hoff 9 (by kernel_rfl)).symm.trans h0_) (by decide), fun h0_ => absurd ((hoff 10 (by kernel_rfl)).symm.trans h0_) (by decide), Q_X12_⟩
      refine steps_cons ?_ ?_
      ·rintro b a w' ⟨v_, a_, b_, u_, d_, e_, p_, gx, o3_, m8_, m9_, m10_, m12_, ha, Q_FB, Q_FO, Q_FG, Q_FV, Q_FA, Q_F4, Q_FU, Q_F6, Q_F7, Q_FP, Q_FD, Q_X8_, Q_X9_, Q_X10_, Q_X12_⟩ hb_ hon hoff
       refine ⟨_, rfl, fun K hK => ?_⟩
       replace ha := mk0 ha
       have FB := mk0 Q_FB
       have FO := mk0 (Q_FO (hoff 13 (by kernel_rfl)))
       refine goes_ Try.func40 (by kernel_rfl) rfl #[.int .u8 3] (by rfl) rfl rfl (by first | (simp only [List.map_toArray, List.map_cons, List.map_nil, Act.eval, Array.getD_eq_getD_getElem?, Option.getD_some]; done) | (simp only [List.map_toArray, List.map_cons, List.map_nil, Act.eval, Array.getD_eq_getD_getElem?, Option.getD_some]; rfl)) ?_
       refine (bitC (S := (fun k => some k ≠ o3_)) 3 (fun k hk e => absurd (FO.out k e.symm).2 (Nat.not_lt.mpr hk))).mono ?_
       rintro e2_ w2 ⟨v, rfl, hv, hb⟩
       refine ⟨_, rfl, ?_⟩
       refine hK.out _ _ ⟨v, a_, b_, u_, d_, e_, p_, gx, o3_, m8_, m9_, m10_, m12_, (by rw [ha.out]; exact putSel_upk 1 hb_ rfl rfl rfl), (below_step FB.out hb), fun _ => (fun g e => ⟨(FO.out g e).1, Nat.lt_of_lt_of_le (FO.out g e).2 (below_size hb)⟩), fun h0_ h1_ => ⟨(Q_FG h0_ h1_).1, blk_below (Q_FG h0_ h1_).2.1 hb, (Q_FG h0_ h1_).2.2⟩, fun _ _ _ => hv, fun h0_ _ _ => absurd ((hoff 2 (by kernel_rfl)).symm.trans h0_) (by decide), fun h0_ _ _ => absurd ((hoff 4 (by kernel_rfl)).symm.trans h0_) (by decide), fun h0_ _ _ => absurd ((hoff 5 (by kernel_rfl)).symm.trans h0_) (by decide), fun h0_ _ _ => absurd ((hoff 6 (by kernel_rfl)).symm.trans h0_) (by decide), fun h0_ _ _ => absurd ((hoff 7 (by kernel_rfl)).symm.trans h0_) (by decide), fun h0_ _ => absurd ((hoff 8 (by kernel_rfl)).symm.trans h0_) (by decide), fun h0_ => absurd ((hoff 13 (by kernel_rfl)).symm.trans h0_) (by decide), fun h0_ => absurd ((hoff 8 (by kernel_rfl)).symm.trans h0_) (by decide), fun h0_ => absurd ((hoff 9 (by kernel_rfl)).symm.trans h0_) (by decide), fun h0_ => absurd ((hoff 10 (by kernel_rfl)).symm.trans h0_) (by decide), Q_X12_⟩
      refine steps_cons ?_ ?_
      ·rintro b a w' ⟨v_, a_, b_, u_, d_, e_, p_, gx, o3_, m8_, m9_, m10_, m12_, ha, Q_FB, Q_FO, Q_FG, Q_FV, Q_FA, Q_F4, Q_FU, Q_F6, Q_F7, Q_FP, Q_FD, Q_X8_, Q_X9_, Q_X10_, Q_X12_⟩ hb_ hon hoff
       refine ⟨_, rfl, fun K hK => ?_⟩
       have e105 : a.tmps[105]? = some (v_) := by rw [ha]; exact putSel_on (e := (1, 105, v_)) 1 rfl rfl (hon 1 (by kernel_rfl)) rfl
       replace ha := mk0 ha
       have FB := mk0 Q_FB
       have FO := mk0 (Q_FO (hoff 13 (by kernel_rfl)))
       have FV := mk0 (Q_FV (hon 1 (by kernel_rfl)) hb_ (hoff 13 (by kernel_rfl)))
       obtain ⟨A2, c2, B2, d2, rfl, l2, h2, h3⟩ := FV.out
       refine Kd.N_lit_step k30 (w0 := wA) wA.heap.size 30 ?hg (N' := 106) ?hd (xs := [bv 3]) (inner := [.int .i64 1, .int .i64 0, .slice A2 1 c2, .slice B2 0 d2]) (ok := (fun k => some k ≠ o3_)) (okp := (fun k => some k ≠ o3_)) ?hr ?hp (fun _ hk => hk) (fun e => absurd (FO.out _ e.symm).2 (Nat.lt_irrefl _)) FB.out (below_size FB.out) (by decide) ?_; (case hd => rfl); (case hg => rfl); (case hr => first | (go_simp; done) | (go_simp; rfl)); (case hp => exact (Reps.c4 (show Kd.FK k30 _ _ (bv 3) [.int .i64 1, .int .i64 0, .slice A2 1 c2, .slice B2 0 d2] from (k30_mkF _ _ (bv 3) l2 h2 (Nat.zero_le _) h3)) (Reps.none _ _)))
       intro v1 w1 hN hb hg hat
       refine hK.out _ _ ⟨.agg #[.int .i64 1, .int .i64 0, .slice A2 1 c2, .slice B2 0 d2], v1, b_, u_, d_, e_, p_, gx, o3_, m8_, m9_, m10_, m12_, (by rw [ha.out]; exact putSel_upk 2 hb_ rfl rfl rfl), hb, fun _ => (fun g e => ⟨(FO.out g e).1, Nat.lt_of_lt_of_le (FO.out g e).2 hg.size⟩), fun h0_ h1_ => ⟨(Q_FG h0_ h1_).1, blk_grown (Q_FG h0_ h1_).2.1 hg (fun e => by cases e), (Q_FG h0_ h1_).2.2⟩, fun _ h1_ _ => absurd ((up_self b 2).symm.trans h1_) (by decide), fun _ _ _ => hN, fun h0_ _ _ => absurd ((hoff 4 (by kernel_rfl)).symm.trans h0_) (by decide), fun h0_ _ _ => absurd ((hoff 5 (by kernel_rfl)).symm.trans h0_) (by decide), fun h0_ _ _ => absurd ((hoff 6 (by kernel_rfl)).symm.trans h0_) (by decide), fun h0_ _ _ => absurd ((hoff 7 (by kernel_rfl)).symm.trans h0_) (by decide), fun h0_ _ => absurd ((hoff 8 (by kernel_rfl)).symm.trans h0_) (by decide), fun h0_ => absurd ((hoff 13 (by kernel_rfl)).symm.trans h0_) (by decide), fun h0_ => absurd ((hoff 8 (by kernel_rfl)).symm.trans h0_) (by decide), fun h0_ => absurd ((hoff 9 (by kernel_rfl)).symm.trans h0_) (by decide), fun h0_ => absurd ((hoff 10 (by kernel_rfl)).symm.trans h0_) (by decide), Q_X12_⟩
      refine steps_cons ?_ ?_
      ·rintro b a w' ⟨v_, a_, b_, u_, d_, e_, p_, gx, o3_, m8_, m9_, m10_, m12_, ha, Q_FB, Q_FO, Q_FG, Q_FV, Q_FA, Q_F4, Q_FU, Q_F6, Q_F7, Q_FP, Q_FD, Q_X8_, Q_X9_, Q_X10_, Q_X12_⟩ hb_ hon hoff
       refine ⟨_, rfl, fun K hK => ?_⟩
       have e1 : a.tmps[1]? = some (.slice A1 l1.length c1) := by rw [ha]; exact (putSel_off rfl).trans rfl
       replace ha := mk0 ha
       have FB := mk0 Q_FB
       have FO := mk0 (Q_FO (hoff 13 (by kernel_rfl)))
       refine value_ (w1 := w') (v := .slice A1 l1.length c1) (by rfl) rfl ?_ ?_
       ·go_simp
        (try simp only [i64_w])
        try rfl
       refine hK.out _ _ ⟨v_, a_, b_, u_, d_, e_, p_, gx, o3_, m8_, m9_, m10_, m12_, (by rw [ha.out]; exact putSel_upk 3 hb_ rfl rfl rfl), Q_FB, Q_FO, Q_FG, Q_FV, Q_FA, fun h0_ _ _ => absurd ((hoff 4 (by kernel_rfl)).symm.trans h0_) (by decide), fun h0_ _ _ => absurd ((hoff 5 (by kernel_rfl)).symm.trans h0_) (by decide), fun h0_ _ _ => absurd ((hoff 6 (by kernel_rfl)).symm.trans h0_) (by decide), fun h0_ _ _ => absurd ((hoff 7 (by kernel_rfl)).symm.trans h0_) (by decide), fun h0_ _ => absurd ((hoff 8 (by kernel_rfl)).symm.trans h0_) (by decide), fun h0_ => absurd ((hoff 13 (by kernel_rfl)).symm.trans h0_) (by decide), fun h0_ => absurd ((hoff 8 (by kernel_rfl)).symm.trans h0_) (by decide), fun h0_ => absurd ((hoff 9 (by kernel_rfl)).symm.trans h0_) (by decide), fun h0_ => absurd ((hoff 10 (by kernel_rfl)).symm.trans h0_) (by decide), Q_X12_⟩
      refine steps_cons ?_ ?_
      ·rintro b a w' ⟨v_, a_, b_, u_, d_, e_, p_, gx, o3_, m8_, m9_, m10_, m12_, ha, Q_FB, Q_FO, Q_FG, Q_FV, Q_FA, Q_F4, Q_FU, Q_F6, Q_F7, Q_FP, Q_FD, Q_X8_, Q_X9_, Q_X10_, Q_X12_⟩ hb_ hon hoff
       refine ⟨_, rfl, fun K hK => ?_⟩
       have e106 : a.tmps[106]? = some (a_) := by rw [ha]; exact putSel_on (e := (2, 106, a_)) 2 rfl rfl (hon 2 (by kernel_rfl)) rfl
       have e107 : a.tmps[107]? = some (.slice A1 l1.length c1) := by rw [ha]; exact putSel_on (e := (3, 107, .slice A1 l1.length c1)) 3 rfl rfl (hon 3 (by kernel_rfl)) rfl
       replace ha := mk0 ha
       have FB := mk0 Q_FB
       have FO := mk0 (Q_FO (hoff 13 (by kernel_rfl)))
       have FA := mk0 (Q_FA (hon 2 (by kernel_rfl)) hb_ (hoff 13 (by kernel_rfl)))
       refine Kd.N_append_rows_step k30 (w0 := wA) wA.heap.size (by rfl) (.tmp 106) (.tmp 107) 28 30 (.agg #[(.int .i64 0), (.int .i64 0), (.slice none 0 0), (.slice none 0 0)]) 64 rfl Try.underlying28 info30 rfl (by decide) (by omega) a_ [bv 3] l1 _ _ _ (fun k => some k ≠ o3_) (fun k => k < wA.heap.size) (by first | (simp only [List.map_toArray, List.map_cons, List.map_nil, Act.eval, Array.getD_eq_getD_getElem?, Option.getD_some, e106, e107]; done) | (simp only [List.map_toArray, List.map_cons, List.map_nil, Act.eval, Array.getD_eq_getD_getElem?, Option.getD_some, e106, e107]; rfl)) (by first | (simp only [List.map_toArray, List.map_cons, List.map_nil, Act.eval, Array.getD_eq_getD_getElem?, Option.getD_some, e106, e107]; done) | (simp only [List.map_toArray, List.map_cons, List.map_nil, Act.eval, Array.getD_eq_getD_getElem?, Option.getD_some, e106, e107]; rfl)) ?aO ?aR ?aP ?aF ?aB ?aS ?aL ?_
       (case aO => exact FA.out)
       (case aR => exact Kd.F_below hL.out FB.out)
       (case aP => exact fun k hk => ⟨fun e => absurd (FO.out k e.symm).1 (Nat.not_le.mpr hk), fun e => absurd (Kd.N_base FA.out k e.symm) (Nat.not_le.mpr hk)⟩)
       (case aF => exact (fun k hk e => absurd (FO.out k e.symm).2 (Nat.not_lt.mpr hk)))
       (case aB => exact FB.out)
       (case aS => exact below_size FB.out)
       (case aL => have := hlim.out; simp only [List.length_cons, List.length_nil, List.length_append] at this ⊢; omega)
       intro v1 w1 hN hb hg hat
       refine hK.out _ _ ⟨v_, a_, v1, u_, d_, e_, p_, gx, o3_, m8_, m9_, m10_, m12_, (by rw [ha.out]; exact putSel_upk 4 hb_ rfl rfl rfl), hb, fun _ => (fun g e => ⟨(FO.out g e).1, Nat.lt_of_lt_of_le (FO.out g e).2 hg.size⟩), fun h0_ h1_ => ⟨(Q_FG h0_ h1_).1, blk_grown (Q_FG h0_ h1_).2.1 hg (fun e => FA.out.1 gx e.symm (Q_FG h0_ h1_).1.symm), (Q_FG h0_ h1_).2.2⟩, fun _ h1_ _ => absurd ((hon 2 (by kernel_rfl)).symm.trans h1_) (by decide), fun _ h1_ _ => absurd ((up_self b 4).symm.trans h1_) (by decide), fun _ _ _ => hN, fun h0_ _ _ => absurd ((hoff 5 (by kernel_rfl)).symm.trans h0_) (by decide), fun h0_ _ _ => absurd ((hoff 6 (by kernel_rfl)).symm.trans h0_) (by decide), fun h0_ _ _ => absurd ((hoff 7 (by kernel_rfl)).symm.trans h0_) (by decide), fun h0_ _ => absurd ((hoff 8 (by kernel_rfl)).symm.trans h0_) (by decide), fun h0_ => absurd ((hoff 13 (by kernel_rfl)).symm.trans h0_) (by decide), fun h0_ => absurd ((hoff 8 (by kernel_rfl)).symm.trans h0_) (by decide), fun h0_ => absurd ((hoff 9 (by kernel_rfl)).symm.trans h0_) (by decide), fun h0_ => absurd ((hoff 10 (by kernel_rfl)).symm.trans h0_) (by decide), Q_X12_⟩
      refine steps_cons ?_ ?_
      ·rintro b a w' ⟨v_, a_, b_, u_, d_, e_, p_, gx, o3_, m8_, m9_, m10_, m12_, ha, Q_FB, Q_FO, Q_FG, Q_FV, Q_FA, Q_F4, Q_FU, Q_F6, Q_F7, Q_FP, Q_FD, Q_X8_, Q_X9_, Q_X10_, Q_X12_⟩ hb_ hon hoff
       refine ⟨_, rfl, fun K hK => ?_⟩
       replace ha := mk0 ha
       have FB := mk0 Q_FB
       have FO := mk0 (Q_FO (hoff 13 (by kernel_rfl)))
       have F4 := mk0 (Q_F4 (hon 4 (by kernel_rfl)) (hoff 7 (by kernel_rfl)) (hoff 13 (by kernel_rfl)))
       refine goes_ Try.func40 (by kernel_rfl) rfl #[.int .u8 3] (by rfl) rfl rfl (by first | (simp only [List.map_toArray, List.map_cons, List.map_nil, Act.eval, Array.getD_eq_getD_getElem?, Option.getD_some]; done) | (simp only [List.map_toArray, List.map_cons, List.map_nil, Act.eval, Array.getD_eq_getD_getElem?, Option.getD_some]; rfl)) ?_
       refine (bitC (S := (fun k => some k ≠ o3_ ∧ some k ≠ (b_ : Value).ownBlock)) 3 (fun k hk => ⟨fun e => absurd (FO.out k e.symm).2 (Nat.not_lt.mpr hk), fun e => absurd (Kd.N_lt F4.out k e.symm) (Nat.not_lt.mpr hk)⟩)).mono ?_
       rintro e2_ w2 ⟨v, rfl, hv, hb⟩
       refine ⟨_, rfl, ?_⟩
       refine hK.out _ _ ⟨v_, a_, b_, v, d_, e_, p_, gx, o3_, m8_, m9_, m10_, m12_, (by rw [ha.out]; exact putSel_upk 5 hb_ rfl rfl rfl), (below_step FB.out hb), fun _ => (fun g e => ⟨(FO.out g e).1, Nat.lt_of_lt_of_le (FO.out g e).2 (below_size hb)⟩), fun h0_ h1_ => ⟨(Q_FG h0_ h1_).1, blk_below (Q_FG h0_ h1_).2.1 hb, (Q_FG h0_ h1_).2.2⟩, fun _ h1_ _ => absurd ((hon 2 (by kernel_rfl)).symm.trans h1_) (by decide), fun _ h1_ _ => absurd ((hon 4 (by kernel_rfl)).symm.trans h1_) (by decide), fun _ _ _ => Kd.N_below F4.out hb, fun _ _ _ => hv, fun h0_ _ _ => absurd ((hoff 6 (by kernel_rfl)).symm.trans h0_) (by decide), fun h0_ _ _ => absurd ((hoff 7 (by kernel_rfl)).symm.trans h0_) (by decide), fun h0_ _ => absurd ((hoff 8 (by kernel_rfl)).symm.trans h0_) (by decide), fun h0_ => absurd ((hoff 13 (by kernel_rfl)).symm.trans h0_) (by decide), fun h0_ => absurd ((hoff 8 (by kernel_rfl)).symm.trans h0_) (by decide), fun h0_ => absurd ((hoff 9 (by kernel_rfl)).symm.trans h0_) (by decide), fun h0_ => absurd ((hoff 10 (by kernel_rfl)).symm.trans h0_) (by decide), Q_X12_⟩
      refine steps_cons ?_ ?_
      ·rintro b a w' ⟨v_, a_, b_, u_, d_, e_, p_, gx, o3_, m8_, m9_, m10_, m12_, ha, Q_FB, Q_FO, Q_FG, Q_FV, Q_FA, Q_F4, Q_FU, Q_F6, Q_F7, Q_FP, Q_FD, Q_X8_, Q_X9_, Q_X10_, Q_X12_⟩ hb_ hon hoff
       refine ⟨_, rfl, fun K hK => ?_⟩
       have e109 : a.tmps[109]? = some (u_) := by rw [ha]; exact putSel_on (e := (5, 109, u_)) 5 rfl rfl (hon 5 (by kernel_rfl)) rfl
       replace ha := mk0 ha
       have FB := mk0 Q_FB
       have FO := mk0 (Q_FO (hoff 13 (by kernel_rfl)))
       have F4 := mk0 (Q_F4 (hon 4 (by kernel_rfl)) (hoff 7 (by kernel_rfl)) (hoff 13 (by kernel_rfl)))
       have FU := mk0 (Q_FU (hon 5 (by kernel_rfl)) hb_ (hoff 13 (by kernel_rfl)))
       obtain ⟨A2, c2, B2, d2, rfl, l2, h2, h3⟩ := FU.out
       refine Kd.N_lit_step k30 (w0 := wA) wA.heap.size 30 ?hg (N' := 110) ?hd (xs := [bv 3]) (inner := [.int .i64 1, .int .i64 0, .slice A2 1 c2, .slice B2 0 d2]) (ok := (fun k => some k ≠ o3_ ∧ some k ≠ (b_ : Value).ownBlock)) (okp := (fun k => some k ≠ o3_ ∧ some k ≠ (b_ : Value).ownBlock)) ?hr ?hp (fun _ hk => hk) ⟨fun e => absurd (FO.out _ e.symm).2 (Nat.lt_irrefl _), fun e => absurd (Kd.N_lt F4.out _ e.symm) (Nat.lt_irrefl _)⟩ FB.out (below_size FB.out) (by decide) ?_; (case hd => rfl); (case hg => rfl); (case hr => first | (go_simp; done) | (go_simp; rfl)); (case hp => exact (Reps.c4 (show Kd.FK k30 _ _ (bv 3) [.int .i64 1, .int .i64 0, .slice A2 1 c2, .slice B2 0 d2] from (k30_mkF _ _ (bv 3) l2 h2 (Nat.zero_le _) h3)) (Reps.none _ _)))
       intro v1 w1 hN hb hg hat
       refine hK.out _ _ ⟨v_, a_, b_, .agg #[.int .i64 1, .int .i64 0, .slice A2 1 c2, .slice B2 0 d2], v1, e_, p_, gx, o3_, m8_, m9_, m10_, m12_, (by rw [ha.out]; exact putSel_upk 6 hb_ rfl rfl rfl), hb, fun _ => (fun g e => ⟨(FO.out g e).1, Nat.lt_of_lt_of_le (FO.out g e).2 hg.size⟩), fun h0_ h1_ => ⟨(Q_FG h0_ h1_).1, blk_grown (Q_FG h0_ h1_).2.1 hg (fun e => by cases e), (Q_FG h0_ h1_).2.2⟩, fun _ h1_ _ => absurd ((hon 2 (by kernel_rfl)).symm.trans h1_) (by decide), fun _ h1_ _ => absurd ((hon 4 (by kernel_rfl)).symm.trans h1_) (by decide), fun _ _ _ => Kd.N_grown F4.out hg (fun k _ e => by cases e), fun _ h1_ _ => absurd ((up_self b 6).symm.trans h1_) (by decide), fun _ _ _ => hN, fun h0_ _ _ => absurd ((hoff 7 (by kernel_rfl)).symm.trans h0_) (by decide), fun h0_ _ => absurd ((hoff 8 (by kernel_rfl)).symm.trans h0_) (by decide), fun h0_ => absurd ((hoff 13 (by kernel_rfl)).symm.trans h0_) (by decide), fun h0_ => absurd ((hoff 8 (by kernel_rfl)).symm.trans h0_) (by decide), fun h0_ => absurd ((hoff 9 (by kernel_rfl)).symm.trans h0_) (by decide), fun h0_ => absurd ((hoff 10 (by kernel_rfl)).symm.trans h0_) (by decide), Q_X12_⟩
      refine steps_cons ?_ ?_
      ·rintro b a w' ⟨v_, a_, b_, u_, d_, e_, p_, gx, o3_, m8_, m9_, m10_, m12_, ha, Q_FB, Q_FO, Q_FG, Q_FV, Q_FA, Q_F4, Q_FU, Q_F6, Q_F7, Q_FP, Q_FD, Q_X8_, Q_X9_, Q_X10_, Q_X12_⟩ hb_ hon hoff
       refine ⟨_, rfl, fun K hK => ?_⟩
       have e108 : a.tmps[108]? = some (b_) := by rw [ha]; exact putSel_on (e := (4, 108, b_)) 4 rfl rfl (hon 4 (by kernel_rfl)) rfl
       have e110 : a.tmps[110]? = some (d_) := by rw [ha]; exact putSel_on (e := (6, 110, d_)) 6 rfl rfl (hon 6 (by kernel_rfl)) rfl
       replace ha := mk0 ha
       have FB := mk0 Q_FB
       have FO := mk0 (Q_FO (hoff 13 (by kernel_rfl)))
       have F4 := mk0 (Q_F4 (hon 4 (by kernel_rfl)) hb_ (hoff 13 (by kernel_rfl)))
       have F6 := mk0 (Q_F6 (hon 6 (by kernel_rfl)) hb_ (hoff 13 (by kernel_rfl)))
       obtain ⟨A6, c6, rfl⟩ := Kd.N_slice F6.out
       refine Kd.N_append_rows_step k30 (w0 := wA) wA.heap.size (by rfl) (.tmp 108) (.tmp 110) 28 30 (.agg #[(.int .i64 0), (.int .i64 0), (.slice none 0 0), (.slice none 0 0)]) 64 rfl Try.underlying28 info30 rfl (by decide) (by omega) b_ ([bv 3] ++ l1) [bv 3] _ _ _ (fun k => some k ≠ o3_) (fun k => some k ≠ o3_ ∧ some k ≠ (b_ : Value).ownBlock) (by first | (simp only [List.map_toArray, List.map_cons, List.map_nil, Act.eval, Array.getD_eq_getD_getElem?, Option.getD_some, e108, e110]; done) | (simp only [List.map_toArray, List.map_cons, List.map_nil, Act.eval, Array.getD_eq_getD_getElem?, Option.getD_some, e108, e110]; rfl)) (by first | (simp only [List.map_toArray, List.map_cons, List.map_nil, Act.eval, Array.getD_eq_getD_getElem?, Option.getD_some, e108, e110]; done) | (simp only [List.map_toArray, List.map_cons, List.map_nil, Act.eval, Array.getD_eq_getD_getElem?, Option.getD_some, e108, e110]; rfl)) ?aO ?aR ?aP ?aF ?aB ?aS ?aL ?_
       (case aO => exact F4.out)
       (case aR => exact Kd.N_F F6.out)
       (case aP => exact fun k hk => hk)
       (case aF => exact (fun k hk e => absurd (FO.out k e.symm).2 (Nat.not_lt.mpr hk)))
       (case aB => exact FB.out)
       (case aS => exact below_size FB.out)
       (case aL => have := hlim.out; simp only [List.length_cons, List.length_nil, List.length_append] at this ⊢; omega)
       intro v1 w1 hN hb hg hat
       refine hK.out _ _ ⟨v_, a_, b_, u_, .slice A6 [bv 3].length c6, v1, p_, gx, o3_, m8_, m9_, m10_, m12_, (by rw [ha.out]; exact putSel_upk 7 hb_ rfl rfl rfl), hb, fun _ => (fun g e => ⟨(FO.out g e).1, Nat.lt_of_lt_of_le (FO.out g e).2 hg.size⟩), fun h0_ h1_ => ⟨(Q_FG h0_ h1_).1, blk_grown (Q_FG h0_ h1_).2.1 hg (fun e => F4.out.1 gx e.symm (Q_FG h0_ h1_).1.symm), (Q_FG h0_ h1_).2.2⟩, fun _ h1_ _ => absurd ((hon 2 (by kernel_rfl)).symm.trans h1_) (by decide), fun _ h1_ _ => absurd ((hon 4 (by kernel_rfl)).symm.trans h1_) (by decide), fun _ h1_ _ => absurd ((up_self b 7).symm.trans h1_) (by decide), fun _ h1_ _ => absurd ((hon 6 (by kernel_rfl)).symm.trans h1_) (by decide), fun _ h1_ _ => absurd ((up_self b 7).symm.trans h1_) (by decide), fun _ _ _ => hN, fun h0_ _ => absurd ((hoff 8 (by kernel_rfl)).symm.trans h0_) (by decide), fun h0_ => absurd ((hoff 13 (by kernel_rfl)).symm.trans h0_) (by decide), fun h0_ => absurd ((hoff 8 (by kernel_rfl)).symm.trans h0_) (by decide), fun h0_ => absurd ((hoff 9 (by kernel_rfl)).symm.trans h0_) (by decide), fun h0_ => absurd ((hoff 10 (by kernel_rfl)).symm.trans h0_) (by decide), Q_X12_⟩
      refine steps_cons ?_ ?_
      ·rintro b a w' ⟨v_, a_, b_, u_, d_, e_, p_, gx, o3_, m8_, m9_, m10_, m12_, ha, Q_FB, Q_FO, Q_FG, Q_FV, Q_FA, Q_F4, Q_FU, Q_F6, Q_F7, Q_FP, Q_FD, Q_X8_, Q_X9_, Q_X10_, Q_X12_⟩ hb_ hon hoff
       refine ⟨_, rfl, fun K hK => ?_⟩
       have e104 : a.tmps[104]? = some (.agg #[.int .i64 a0_0, .int .i64 a0_1, .string a0_2, .slice A0_3 l0_3.length c0_3, .slice A0_4 l0_4.length c0_4]) := by rw [ha]; exact putSel_on (e := (0, 104, .agg #[.int .i64 a0_0, .int .i64 a0_1, .string a0_2, .slice A0_3 l0_3.length c0_3, .slice A0_4 l0_4.length c0_4])) 0 rfl rfl (hon 0 (by kernel_rfl)) rfl
       have e111 : a.tmps[111]? = some (e_) := by rw [ha]; exact putSel_on (e := (7, 111, e_)) 7 rfl rfl (hon 7 (by kernel_rfl)) rfl
       replace ha := mk0 ha
       have FB := mk0 Q_FB
       have FO := mk0 (Q_FO (hoff 13 (by kernel_rfl)))
       have F7 := mk0 (Q_F7 (hon 7 (by kernel_rfl)) hb_ (hoff 13 (by kernel_rfl)))
       obtain ⟨A7, c7, rfl⟩ := Kd.N_slice F7.out
       refine goes_ Try.func30 (by kernel_rfl) rfl #[.agg #[.int .i64 a0_0, .int .i64 a0_1, .string a0_2, .slice A0_3 l0_3.length c0_3, .slice A0_4 l0_4.length c0_4], .slice A7 (([bv 3] ++ l1) ++ [bv 3]).length c7] (by rfl) rfl rfl (by first | (simp only [List.map_toArray, List.map_cons, List.map_nil, Act.eval, Array.getD_eq_getD_getElem?, Option.getD_some, e104, e111]; done) | (simp only [List.map_toArray, List.map_cons, List.map_nil, Act.eval, Array.getD_eq_getD_getElem?, Option.getD_some, e104, e111]; rfl)) ?_
       refine (PRs.drivers_Resolve.calls kj43 a0_0 a0_1 a0_2 A0_3 c0_3 l0_3 A0_4 c0_4 l0_4 (fun k => some k ≠ o3_) A7 c7 (([bv 3] ++ l1) ++ [bv 3]) t232 t233 t234 t237 t240 _ (glob_below hG.out FB.out) (Kd.C_below hr3.out FB.out) HC0_3.out (Kd.C_below hr4.out FB.out) HC0_4.out (Kd.V_mk (Kd.N_reads' F7.out).2.1 (Kd.N_F F7.out)) A94.out).mono ?_
       rintro e2_ w2 ⟨v2, v3, rfl, k2, k3, hb⟩
       obtain ⟨A2, c2, rfl⟩ := Kd.R_slice k2
       obtain ⟨B2, d2, rfl⟩ := Kd.V_slice k3
       refine ⟨_, rfl, ?_⟩
       refine hK.out _ _ ⟨v_, a_, b_, u_, d_, .slice A7 (([bv 3] ++ l1) ++ [bv 3]).length c7, .agg #[.int .i64 t232, .int .i64 t233, .slice A2 t234.length c2, .slice B2 t237.length d2], gx, o3_, (.tuple #[.agg #[.int .i64 t232, .int .i64 t233, .slice A2 t234.length c2, .slice B2 t237.length d2], .int .i64 t240]), m9_, m10_, m12_, (by rw [ha.out]; exact putSel_upk 8 hb_ rfl rfl rfl), (below_step FB.out hb), fun _ => (fun g e => ⟨(FO.out g e).1, Nat.lt_of_lt_of_le (FO.out g e).2 (below_size hb)⟩), fun h0_ h1_ => ⟨(Q_FG h0_ h1_).1, blk_below (Q_FG h0_ h1_).2.1 hb, (Q_FG h0_ h1_).2.2⟩, fun _ h1_ _ => absurd ((hon 2 (by kernel_rfl)).symm.trans h1_) (by decide), fun _ h1_ _ => absurd ((hon 4 (by kernel_rfl)).symm.trans h1_) (by decide), fun _ h1_ _ => absurd ((hon 7 (by kernel_rfl)).symm.trans h1_) (by decide), fun _ h1_ _ => absurd ((hon 6 (by kernel_rfl)).symm.trans h1_) (by decide), fun _ h1_ _ => absurd ((hon 7 (by kernel_rfl)).symm.trans h1_) (by decide), fun _ h1_ _ => absurd ((up_self b 8).symm.trans h1_) (by decide), fun _ _ => ⟨A2, c2, B2, d2, rfl, (Kd.R_reads' k2).2.1, (Kd.V_reads' k3).2.1, Kd.F_mono (Kd.R_F k2) (fun k hk e => absurd (FO.out k e.symm).2 (Nat.not_lt.mpr hk)), Kd.F_mono (Kd.V_F k3) (fun k hk => hk.1.elim id (fun h e => absurd (FO.out k e.symm).2 (Nat.not_lt.mpr h)))⟩, fun h0_ => absurd ((hoff 13 (by kernel_rfl)).symm.trans h0_) (by decide), fun _ => rfl, fun h0_ => absurd ((hoff 9 (by kernel_rfl)).symm.trans h0_) (by decide), fun h0_ => absurd ((hoff 10 (by kernel_rfl)).symm.trans h0_) (by decide), Q_X12_⟩
      refine steps_cons ?_ ?_
      ·rintro b a w' ⟨v_, a_, b_, u_, d_, e_, p_, gx, o3_, m8_, m9_, m10_, m12_, ha, Q_FB, Q_FO, Q_FG, Q_FV, Q_FA, Q_F4, Q_FU, Q_F6, Q_F7, Q_FP, Q_FD, Q_X8_, Q_X9_, Q_X10_, Q_X12_⟩ hb_ hon hoff
       refine ⟨_, rfl, fun K hK => ?_⟩
       have e112 : a.tmps[112]? = some (m8_) := by rw [ha]; exact putSel_on (e := (8, 112, m8_)) 8 rfl rfl (hon 8 (by kernel_rfl)) rfl
       rw [Q_X8_ (hon 8 (by kernel_rfl))] at e112
       replace ha := mk0 ha
       have FB := mk0 Q_FB
       have FO := mk0 (Q_FO (hoff 13 (by kernel_rfl)))
       have FP := mk0 (Q_FP (hon 8 (by kernel_rfl)) (hoff 13 (by kernel_rfl)))
       refine value_ (w1 := w') (v := .tuple #[p_, .int .i64 t240]) (by rfl) rfl ?_ ?_
       ·go_simp
        (try simp only [i64_w])
        try rfl
       refine hK.out _ _ ⟨v_, a_, b_, u_, d_, e_, p_, gx, o3_, m8_, (.tuple #[p_, .int .i64 t240]), m10_, m12_, (by rw [ha.out]; exact putSel_upk 9 hb_ rfl rfl rfl), Q_FB, Q_FO, Q_FG, fun _ h1_ _ => absurd ((hon 2 (by kernel_rfl)).symm.trans h1_) (by decide), fun _ h1_ _ => absurd ((hon 4 (by kernel_rfl)).symm.trans h1_) (by decide), fun _ h1_ _ => absurd ((hon 7 (by kernel_rfl)).symm.trans h1_) (by decide), fun _ h1_ _ => absurd ((hon 6 (by kernel_rfl)).symm.trans h1_) (by decide), fun _ h1_ _ => absurd ((hon 7 (by kernel_rfl)).symm.trans h1_) (by decide), fun _ h1_ _ => absurd ((hon 8 (by kernel_rfl)).symm.trans h1_) (by decide), Q_FP, fun h0_ => absurd ((hoff 13 (by kernel_rfl)).symm.trans h0_) (by decide), Q_X8_, fun _ => rfl, fun h0_ => absurd ((hoff 10 (by kernel_rfl)).symm.trans h0_) (by decide), Q_X12_⟩
      refine steps_cons ?_ ?_
      ·rintro b a w' ⟨v_, a_, b_, u_, d_, e_, p_, gx, o3_, m8_, m9_, m10_, m12_, ha, Q_FB, Q_FO, Q_FG, Q_FV, Q_FA, Q_F4, Q_FU, Q_F6, Q_F7, Q_FP, Q_FD, Q_X8_, Q_X9_, Q_X10_, Q_X12_⟩ hb_ hon hoff
       refine ⟨_, rfl, fun K hK => ?_⟩
       have e103 : a.tmps[103]? = some (m9_) := by rw [ha]; exact putSel_on (e := (9, 103, m9_)) 9 rfl rfl (hon 9 (by kernel_rfl)) rfl
       rw [Q_X9_ (hon 9 (by kernel_rfl))] at e103
       replace ha := mk0 ha
       have FB := mk0 Q_FB
       have FO := mk0 (Q_FO (hoff 13 (by kernel_rfl)))
       have FP := mk0 (Q_FP (hon 8 (by kernel_rfl)) (hoff 13 (by kernel_rfl)))
       refine value_ (w1 := w') (v := p_) (by rfl) rfl ?_ ?_
       ·go_simp
        (try simp only [i64_w])
        try rfl
       refine hK.out _ _ ⟨v_, a_, b_, u_, d_, e_, p_, gx, o3_, m8_, m9_, (p_), m12_, (by rw [ha.out]; exact putSel_upk 10 hb_ rfl rfl rfl), Q_FB, Q_FO, Q_FG, fun _ h1_ _ => absurd ((hon 2 (by kernel_rfl)).symm.trans h1_) (by decide), fun _ h1_ _ => absurd ((hon 4 (by kernel_rfl)).symm.trans h1_) (by decide), fun _ h1_ _ => absurd ((hon 7 (by kernel_rfl)).symm.trans h1_) (by decide), fun _ h1_ _ => absurd ((hon 6 (by kernel_rfl)).symm.trans h1_) (by decide), fun _ h1_ _ => absurd ((hon 7 (by kernel_rfl)).symm.trans h1_) (by decide), fun _ h1_ _ => absurd ((hon 8 (by kernel_rfl)).symm.trans h1_) (by decide), Q_FP, fun h0_ => absurd ((hoff 13 (by kernel_rfl)).symm.trans h0_) (by decide), Q_X8_, Q_X9_, fun _ => rfl, Q_X12_⟩
      refine steps_cons ?_ ?_
      ·rintro b a w' ⟨v_, a_, b_, u_, d_, e_, p_, gx, o3_, m8_, m9_, m10_, m12_, ha, Q_FB, Q_FO, Q_FG, Q_FV, Q_FA, Q_F4, Q_FU, Q_F6, Q_F7, Q_FP, Q_FD, Q_X8_, Q_X9_, Q_X10_, Q_X12_⟩ hb_ hon hoff
       refine ⟨_, rfl, fun K hK => ?_⟩
       have e103 : a.tmps[103]? = some (m9_) := by rw [ha]; exact putSel_on (e := (9, 103, m9_)) 9 rfl rfl (hon 9 (by kernel_rfl)) rfl
       rw [Q_X9_ (hon 9 (by kernel_rfl))] at e103
       replace ha := mk0 ha
       have FB := mk0 Q_FB
       refine value_ (w1 := w') (v := .int .i64 t240) (by rfl) rfl ?_ ?_
       ·go_simp
        (try simp only [i64_w])
        try rfl
       refine hK.out _ _ ⟨v_, a_, b_, u_, d_, e_, p_, gx, o3_, m8_, m9_, m10_, m12_, (by rw [ha.out]; exact putSel_upk 11 hb_ rfl rfl rfl), Q_FB, Q_FO, Q_FG, fun _ h1_ _ => absurd ((hon 2 (by kernel_rfl)).symm.trans h1_) (by decide), fun _ h1_ _ => absurd ((hon 4 (by kernel_rfl)).symm.trans h1_) (by decide), fun _ h1_ _ => absurd ((hon 7 (by kernel_rfl)).symm.trans h1_) (by decide), fun _ h1_ _ => absurd ((hon 6 (by kernel_rfl)).symm.trans h1_) (by decide), fun _ h1_ _ => absurd ((hon 7 (by kernel_rfl)).symm.trans h1_) (by decide), fun _ h1_ _ => absurd ((hon 8 (by kernel_rfl)).symm.trans h1_) (by decide), Q_FP, Q_FD, Q_X8_, Q_X9_, Q_X10_, Q_X12_⟩
      refine steps_cons ?_ ?_
      ·rintro b a w' ⟨v_, a_, b_, u_, d_, e_, p_, gx, o3_, m8_, m9_, m10_, m12_, ha, Q_FB, Q_FO, Q_FG, Q_FV, Q_FA, Q_F4, Q_FU, Q_F6, Q_F7, Q_FP, Q_FD, Q_X8_, Q_X9_, Q_X10_, Q_X12_⟩ hb_ hon hoff
       refine ⟨_, rfl, fun K hK => ?_⟩
       replace ha := mk0 ha
       have FB := mk0 Q_FB
       have FO := mk0 (Q_FO (hoff 13 (by kernel_rfl)))
       refine value_ (w1 := ?_) (v := ?_) (by rfl) rfl ?_ ?_
       rotate_left 2
       ·go_simp
        constructor
        ·rfl
        ·rfl
       refine hK.out _ _ ⟨v_, a_, b_, u_, d_, e_, p_, w'.heap.size, (some w'.heap.size), m8_, m9_, m10_, (.pointer (some ⟨w'.heap.size, 0, none⟩)), (by rw [ha.out]; exact putSel_upk 12 hb_ rfl rfl rfl), (below_alloc FB.out _), fun _ => (fun g e => by cases e; exact ⟨FB.out.size, heap_lt_alloc _ _⟩), fun _ _ => ⟨rfl, blk_new _ _, FB.out.size⟩, fun h0_ h1_ h2_ => ((Q_FV h0_ h1_ h2_).mono (fun k hk _ e => Nat.ne_of_lt hk (Option.some.inj e))).up (below_alloc (Below.refl _ _) _), fun h0_ h1_ h2_ => Kd.N_alloc (Kd.N_mono (Kd.N_bound (Q_FA h0_ h1_ h2_)) (fun k hk e => Nat.ne_of_lt hk.2 (Option.some.inj e))) _, fun h0_ h1_ h2_ => Kd.N_alloc (Kd.N_mono (Kd.N_bound (Q_F4 h0_ h1_ h2_)) (fun k hk e => Nat.ne_of_lt hk.2 (Option.some.inj e))) _, fun h0_ h1_ h2_ => ((Q_FU h0_ h1_ h2_).mono (fun k hk h => ⟨fun e => Nat.ne_of_lt hk (Option.some.inj e), h.2⟩)).up (below_alloc (Below.refl _ _) _), fun h0_ h1_ h2_ => Kd.N_alloc (Kd.N_mono (Kd.N_bound (Q_F6 h0_ h1_ h2_)) (fun k hk => ⟨fun e => Nat.ne_of_lt hk.2 (Option.some.inj e), hk.1.2⟩)) _, fun h0_ h1_ h2_ => Kd.N_alloc (Kd.N_mono (Kd.N_bound (Q_F7 h0_ h1_ h2_)) (fun k hk e => Nat.ne_of_lt hk.2 (Option.some.inj e))) _, fun h0_ h1_ => ((Q_FP h0_ h1_).elim fun A9 h => h.elim fun c9 h => h.elim fun B9 h => h.elim fun d9 h => ⟨A9, c9, B9, d9, h.1, h.2.1, h.2.2.1, Kd.F_alloc (Kd.F_mono (Kd.F_bound h.2.2.2.1) (fun k hk e => Nat.ne_of_lt hk.2 (Option.some.inj e))) _, Kd.F_alloc (Kd.F_mono (Kd.F_bound h.2.2.2.2) (fun k hk e => Nat.ne_of_lt hk.2 (Option.some.inj e))) _⟩), fun h0_ => absurd ((hoff 13 (by kernel_rfl)).symm.trans h0_) (by decide), Q_X8_, Q_X9_, Q_X10_, fun _ => rfl⟩
      refine steps_cons ?_ ?_
      ·rintro b a w' ⟨v_, a_, b_, u_, d_, e_, p_, gx, o3_, m8_, m9_, m10_, m12_, ha, Q_FB, Q_FO, Q_FG, Q_FV, Q_FA, Q_F4, Q_FU, Q_F6, Q_F7, Q_FP, Q_FD, Q_X8_, Q_X9_, Q_X10_, Q_X12_⟩ hb_ hon hoff
       refine ⟨_, rfl, fun K hK => ?_⟩
       have e15 : a.tmps[15]? = some (m12_) := by rw [ha]; exact putSel_on (e := (12, 15, m12_)) 12 rfl rfl (hon 12 (by kernel_rfl)) rfl
       rw [Q_X12_ (hon 12 (by kernel_rfl))] at e15
       have e113 : a.tmps[113]? = some (m10_) := by rw [ha]; exact putSel_on (e := (10, 113, m10_)) 10 rfl rfl (hon 10 (by kernel_rfl)) rfl
       rw [Q_X10_ (hon 10 (by kernel_rfl))] at e113
       replace ha := mk0 ha
       have FB := mk0 Q_FB
       have FO := mk0 (Q_FO hb_)
       have FG := mk0 (Q_FG (hon 12 (by kernel_rfl)) hb_)
       have FP := mk0 (Q_FP (hon 8 (by kernel_rfl)) hb_)
       obtain ⟨A2, c2, B2, d2, rfl, q1, q2, q3, q4⟩ := FP.out
       have z_ := cells4 FG.out.2.1
       refine skip_ (w1 := ?_) (by rfl) rfl ?_ ?_
       rotate_left
       ·go_simp
        rfl
       refine hK.out _ _ ⟨v_, a_, b_, u_, d_, e_, .agg #[.int .i64 t232, .int .i64 t233, .slice A2 t234.length c2, .slice B2 t237.length d2], gx, o3_, m8_, m9_, m10_, m12_, (by rw [ha.out]; exact putSel_none (v := undef) rfl), (be1 FB ⟨FG.out.2.2⟩), fun h0_ => absurd ((up_self b 13).symm.trans h0_) (by decide), fun _ h1_ => absurd ((up_self b 13).symm.trans h1_) (by decide), fun _ _ h2_ => absurd ((up_self b 13).symm.trans h2_) (by decide), fun _ _ h2_ => absurd ((up_self b 13).symm.trans h2_) (by decide), fun _ _ h2_ => absurd ((up_self b 13).symm.trans h2_) (by decide), fun _ _ h2_ => absurd ((up_self b 13).symm.trans h2_) (by decide), fun _ _ h2_ => absurd ((up_self b 13).symm.trans h2_) (by decide), fun _ _ h2_ => absurd ((up_self b 13).symm.trans h2_) (by decide), fun _ h1_ => absurd ((up_self b 13).symm.trans h1_) (by decide), fun _ => ⟨A2, c2, B2, d2, put4 FG.out.2.1 _ _ _ _, q1, q2, Kd.F_now (Kd.F_far (Kd.F_far (Kd.F_far (Kd.F_far (Kd.F_mono (ok' := fun k => k ≠ gx) q3 (fun k hk e => hk ((congrArg some e).trans FG.out.1.symm))) (fun _ hk => hk) _) (fun _ hk => hk) _) (fun _ hk => hk) _) (fun _ hk => hk) _), Kd.F_now (Kd.F_far (Kd.F_far (Kd.F_far (Kd.F_far (Kd.F_mono (ok' := fun k => k ≠ gx) q4 (fun k hk e => hk ((congrArg some e).trans FG.out.1.symm))) (fun _ hk => hk) _) (fun _ hk => hk) _) (fun _ hk => hk) _) (fun _ hk => hk) _)⟩, Q_X8_, Q_X9_, Q_X10_, Q_X12_⟩
      refine steps_cons ?_ ?_
      ·rintro b a w' ⟨v_, a_, b_, u_, d_, e_, p_, gx, o3_, m8_, m9_, m10_, m12_, ha, Q_FB, Q_FO, Q_FG, Q_FV, Q_FA, Q_F4, Q_FU, Q_F6, Q_F7, Q_FP, Q_FD, Q_X8_, Q_X9_, Q_X10_, Q_X12_⟩ hb_ hon hoff
       refine ⟨_, rfl, fun K hK => ?_⟩
       have e114 : a.tmps[114]? = some (.int .i64 t240) := by rw [ha]; exact putSel_on (e := (11, 114, .int .i64 t240)) 11 rfl rfl (hon 11 (by kernel_rfl)) rfl
       replace ha := mk0 ha
       have FB := mk0 Q_FB
       have FD := mk0 (Q_FD (hon 13 (by kernel_rfl)))
       refine value_ (w1 := w') (v := .int .i64 t240) (by rfl) rfl ?_ ?_
       ·go_simp
        (try simp only [i64_w])
        try rfl
       refine hK.out _ _ ⟨v_, a_, b_, u_, d_, e_, p_, gx, o3_, m8_, m9_, m10_, m12_, (by rw [ha.out]; exact putSel_upk 13 hb_ rfl rfl rfl), Q_FB, fun h0_ => absurd ((hon 13 (by kernel_rfl)).symm.trans h0_) (by decide), fun _ h1_ => absurd ((hon 13 (by kernel_rfl)).symm.trans h1_) (by decide), fun _ h1_ _ => absurd ((hon 2 (by kernel_rfl)).symm.trans h1_) (by decide), fun _ h1_ _ => absurd ((hon 4 (by kernel_rfl)).symm.trans h1_) (by decide), fun _ h1_ _ => absurd ((hon 7 (by kernel_rfl)).symm.trans h1_) (by decide), fun _ h1_ _ => absurd ((hon 6 (by kernel_rfl)).symm.trans h1_) (by decide), fun _ h1_ _ => absurd ((hon 7 (by kernel_rfl)).symm.trans h1_) (by decide), fun _ h1_ _ => absurd ((hon 8 (by kernel_rfl)).symm.trans h1_) (by decide), fun _ h1_ => absurd ((hon 13 (by kernel_rfl)).symm.trans h1_) (by decide), Q_FD, Q_X8_, Q_X9_, Q_X10_, Q_X12_⟩
      exact steps_nil
     rintro b a w' hall ⟨v_, a_, b_, u_, d_, e_, p_, gx, o3_, m8_, m9_, m10_, m12_, ha, Q_FB, Q_FO, Q_FG, Q_FV, Q_FA, Q_F4, Q_FU, Q_F6, Q_F7, Q_FP, Q_FD, Q_X8_, Q_X9_, Q_X10_, Q_X12_⟩
     have hb0_ := hall 0 (by kernel_rfl)
     have hb1_ := hall 1 (by kernel_rfl)
     have hb2_ := hall 2 (by kernel_rfl)
     have hb3_ := hall 3 (by kernel_rfl)
     have hb4_ := hall 4 (by kernel_rfl)
     have hb5_ := hall 5 (by kernel_rfl)
     have hb6_ := hall 6 (by kernel_rfl)
     have hb7_ := hall 7 (by kernel_rfl)
     have hb8_ := hall 8 (by kernel_rfl)
     have hb9_ := hall 9 (by kernel_rfl)
     have hb10_ := hall 10 (by kernel_rfl)
     have hb11_ := hall 11 (by kernel_rfl)
     have hb12_ := hall 12 (by kernel_rfl)
     have hb13_ := hall 13 (by kernel_rfl)
     have hb14_ := hall 14 (by kernel_rfl)
     subst ha
     obtain rfl := Q_X8_ hb8_
     obtain rfl := Q_X9_ hb9_
     obtain rfl := Q_X10_ hb10_
     obtain rfl := Q_X12_ hb12_
     simp only [putSel, hb0_, hb1_, hb2_, hb3_, hb4_, hb5_, hb6_, hb7_, hb8_, hb9_, hb10_, hb11_, hb12_, hb13_, hb14_, if_true, Act.put, List.setIfInBounds_toArray, List.set_cons_zero, List.set_cons_succ]
     have FB := mk0 Q_FB
     clear Q_FB
     clear Q_FO
     clear Q_FG
     clear Q_FV
     clear Q_FA
     clear Q_F4
     clear Q_FU
     clear Q_F6
     clear Q_F7
     clear Q_FP
     have FD := mk0 (Q_FD hb13_)
     clear Q_FD
     clear hall hb0_ hb1_ hb2_ hb3_ hb4_ hb5_ hb6_ hb7_ hb8_ hb9_ hb10_ hb11_ hb12_ hb13_ hb14_
     obtain ⟨A9, c9, B9, d9, q1, q2, q3, q4, q5⟩ := FD.out
     have hd := FB.out
     have zx := cells4 q1; have zv := cells4 (blk_below hV.out hd)
     go_wp2_with (first | (go_at_call 32; refine (PRs.r04Alike.calls kj43 t232 t233 A9 c9 t234 B9 d9 t237 t183 t184 Ao66 co66 t185 Ao67 co67 t188 true _ q4 q2 q5 q3 (Kd.C_below hP.out hd) hPl.out (Kd.C_below hQ.out hd) hQl.out A96.out).mono ?_; rintro e8_ w8 ⟨rfl, hb⟩; clear zx zv) | (go_at_call 16; refine (v15awake.calls kj43 t243 _ (glob_below hG.out (below_step hd hb)) A98.out).mono ?_; rintro e9_ w9 ⟨rfl, hb9⟩))
     go_ret
     exact ⟨rfl, below_step hB0.out (below_step (below_step hd hb) hb9)⟩
end Go.Proofs.Ytojankgmedccdaa.POr
