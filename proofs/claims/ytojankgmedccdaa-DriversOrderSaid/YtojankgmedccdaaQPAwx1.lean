/- Part of the proof of LawDriversOrder: every definition and lemma is one that it names. -/
import Derived.Test.YtojankgmedccdaaQPAwx0
namespace Go.Proofs.Ytojankgmedccdaa.PAw
open Go.RowKit Own PTy Hand PIs YtojankgmedccdaaW.PrintWords YtojankgmedccdaaW.PrintLast YtojankgmedccdaaW.PrintMore
attribute [local go_sem] max2_int min2_int max_two min_two max_three min_three max_four min_four
set_option linter.unusedVariables false
set_option linter.unusedSimpArgs false
def drivers_Next.f (k : Nat) (a0_0 : Int) (a0_1 : Int) (a0_2 : ByteArray) (l0_3 : List ByteArray) (l0_4 : List (S26)) (a1_0 : Int) (a1_1 : Int) (l1_2 : List Int) (l1_3 : List (S30)) (l1_4 : List (S63)) : Option (Int × Int) := (drivers_Is.f k a0_0 a0_1 a0_2 l0_3 l0_4 a1_0 a1_1 l1_2 l1_3 l1_4).bind fun t103 => (if t103 = true then (if (l1_4.length : Int) = 0 then (none) else (if 0 < (l1_4.length : Int) then (some ((rd_T63 l1_4 0).f0, 0)) else (none))) else (none))
theorem drivers_Next.mono : ∀ a0 a1 a2 a3 a4 a5 a6 a7 a8 a9 k, LeO (drivers_Next.f k a0 a1 a2 a3 a4 a5 a6 a7 a8 a9) (drivers_Next.f (k + 1) a0 a1 a2 a3 a4 a5 a6 a7 a8 a9) := by
 intro a0 a1 a2 a3 a4 a5 a6 a7 a8 a9 k
 unfold drivers_Next.f
 repeat' first
   | (with_reducible exact drivers_Is.mono _ _ _ _ _ _ _ _ _ _ _)
   | (with_reducible exact LeO.refl _)
   | (with_reducible exact LeO.none _)
   | (with_reducible refine LeO.ite ?_ ?_)
   | (with_reducible refine LeO.bind ?_ (fun _ => ?_))
   | exact drivers_Is.mono _ _ _ _ _ _ _ _ _ _ _
   | exact LeO.none _
   | refine LeO.ite ?_ ?_
   | refine LeO.bind ?_ (fun _ => ?_)
set_option maxHeartbeats 8000000 in
set_option maxRecDepth 100000 in
theorem drivers_Next.calls (k : Nat) (a0_0 : Int) (a0_1 : Int) (a0_2 : ByteArray) (A0_3 : Option Addr) (c0_3 : Nat) (l0_3 : List ByteArray) (A0_4 : Option Addr) (c0_4 : Nat) (l0_4 : List (S26)) (a1_0 : Int) (a1_1 : Int) (A1_2 : Option Addr) (c1_2 : Nat) (l1_2 : List Int) (A1_3 : Option Addr) (c1_3 : Nat) (l1_3 : List (S30)) (A1_4 : Option Addr) (c1_4 : Nat) (l1_4 : List (S63)) (r1 : Int) (r2 : Int) (w : World) (hG : Glob w) (hr0_3 : Kd.C Kd.string w A0_3 l0_3.length l0_3) (hc0_3 : l0_3.length ≤ c0_3) (hr0_4 : Kd.C k26 w A0_4 l0_4.length l0_4) (hc0_4 : l0_4.length ≤ c0_4) (hr1_2 : Kd.C (Kd.int .u8) w A1_2 l1_2.length l1_2) (hc1_2 : l1_2.length ≤ c1_2) (hr1_3 : Kd.C k30 w A1_3 l1_3.length l1_3) (hc1_3 : l1_3.length ≤ c1_3) (hr1_4 : Kd.C k63 w A1_4 l1_4.length l1_4) (hc1_4 : l1_4.length ≤ c1_4) (h : drivers_Next.f k a0_0 a0_1 a0_2 l0_3 l0_4 a1_0 a1_1 l1_2 l1_3 l1_4 = some (r1, r2)) :
  Calls Try.prog 25 #[.agg #[.int .i64 a0_0, .int .i64 a0_1, .string a0_2, .slice A0_3 l0_3.length c0_3, .slice A0_4 l0_4.length c0_4], .agg #[.int .i64 a1_0, .int .i64 a1_1, .slice A1_2 l1_2.length c1_2, .slice A1_3 l1_3.length c1_3, .slice A1_4 l1_4.length c1_4]] w fun e w' => e = .returned (.tuple #[.int .i64 r1, .int .i64 r2]) ∧ Below w.heap.size w w' := by
 have HG := mk0 hG; clear hG
 have hu26 := Try.underlying26
 have hu33 := Try.underlying33
 have HR0_3 := mk0 hr0_3; have HC0_3 := mk0 hc0_3; clear hr0_3 hc0_3; have HR0_4 := mk0 hr0_4; have HC0_4 := mk0 hc0_4; clear hr0_4 hc0_4; have HR1_2 := mk0 hr1_2; have HC1_2 := mk0 hc1_2; clear hr1_2 hc1_2; have HR1_3 := mk0 hr1_3; have HC1_3 := mk0 hc1_3; clear hr1_3 hc1_3; have HR1_4 := mk0 hr1_4; have HC1_4 := mk0 hc1_4; clear hr1_4 hc1_4
 have HB := mk0 (Below.refl w.heap.size w)
 have H := h; unfold drivers_Next.f at H
 clear h
 replace H := bS H; obtain ⟨t103, A3, H⟩ := H
 replace H := iB' H; obtain ⟨rfl, H⟩ | ⟨rfl, H⟩ := H
 ·exact absurd H (by simp)
 by_cases c5 : (l1_4.length : Int) = 0
 ·rw [if_pos c5] at H
  exact absurd H (by simp)
 rw [if_neg c5] at H
 have c5b0 : ((l1_4.length : Int) == 0) = false := beq_eq_false_iff_ne.mpr c5
 have c5b1 : ((l1_4.length : Int) != 0) = true := bne_iff_ne.mpr c5
 have c5b2 : ¬ (l1_4 = []) := fun h_ => c5 (by rw [h_]; rfl)
 replace H := iN H; obtain ⟨c6, c6b0, H⟩ := H
 have c6b1 : decide (0 < l1_4.length) = true := decide_eq_true (by omega)
 clear c6
 simp only [Option.some.injEq, Prod.mk.injEq] at H
 obtain ⟨rfl, rfl⟩ := H
 go_enter Try.func25, Try.ntmps25
 go_wp2_with (first | ((with_reducible refine box_event rfl (N := 2) rfl (cs := #[.int .i64 a0_0, .int .i64 a0_1, .string a0_2, .slice A0_3 l0_3.length c0_3, .slice A0_4 l0_4.length c0_4]) (t := 26) ?hr ?_); (case hr => first | (go_simp; done) | (go_simp; rfl)); intro gb101 hg w7 hbox hb; have BK101 := mk0 (hbox); have GE101 := bs (be HB) hg; replace HB := kh HB hb; clear hb hbox hg) | ((with_reducible refine box_event rfl (N := 3) rfl (cs := #[.int .i64 a1_0, .int .i64 a1_1, .slice A1_2 l1_2.length c1_2, .slice A1_3 l1_3.length c1_3, .slice A1_4 l1_4.length c1_4]) (t := 33) ?hr ?_); (case hr => first | (go_simp; done) | (go_simp; rfl)); intro gb102 hg w8 hbox hb; have BK102 := mk0 (hbox); have GE102 := bs (be1 HB GE101) hg; replace HB := kh1 HB GE101 hb; have NB101_102 := nb1 (bu BK101) hg; have NB102_101 := nb2 (bu BK101) hg; replace BK101 := kb BK101 hb; clear hb hbox hg; have hnb9 := NB101_102.out; have hnc9 := NB102_101.out; have z10 := cells5 BK101.out; have z11 := cells5 BK102.out) | ((with_reducible refine gate_callee (f := 19) rfl ?_); refine goB (some 8) rfl rfl Try.func19 (by kernel_rfl) rfl #[.agg #[.int .i64 a0_0, .int .i64 a0_1, .string a0_2, .slice A0_3 l0_3.length c0_3, .slice A0_4 l0_4.length c0_4], .agg #[.int .i64 a1_0, .int .i64 a1_1, .slice A1_2 l1_2.length c1_2, .slice A1_3 l1_3.length c1_3, .slice A1_4 l1_4.length c1_4]] rfl rfl (drivers_Is.calls k a0_0 a0_1 a0_2 _ _ l0_3 _ _ l0_4 a1_0 a1_1 _ _ l1_2 _ _ l1_3 _ _ l1_4 true _ (glob_below HG.out (be2 HB GE101 GE102)) (cu HR0_3 HB) HC0_3.out (cu HR0_4 HB) HC0_4.out (cu HR1_2 HB) HC1_2.out (cu HR1_3 HB) HC1_3.out (cu HR1_4 HB) HC1_4.out A3.out) ?_; intro w12 hb; replace BK101 := kb BK101 hb; replace BK102 := kb BK102 hb; replace HB := kh2 HB GE101 GE102 hb; have z13 := cells5 BK102.out; have p104 : 0 ≤ (0 : Int) := (by omega); have q104 : 0 < (l1_4.length : Int) := of_decide_eq_true (by assumption); obtain ⟨ad104, A104_3, c104_3, A104_4, c104_4, e104, hx104_0, hx104_1, hx104_2, hx104_3, hx104_4, hl104_3, hi104_3, hl104_4, hi104_4⟩ := at_T63 HR1_4.out 0 p104 q104; cases e104; have qi104 : (0 < l1_4.length) = True := eq_true (by omega); (try rw [show ((0 : Int)).toNat = 0 from rfl] at hx104_0); (try rw [show 0 * 5 = 0 from rfl] at hx104_0); (try rw [Addr.add_zero'] at hx104_0); (try rw [show ((0 : Int)).toNat = 0 from rfl] at hx104_1); (try rw [show 0 * 5 = 0 from rfl] at hx104_1); (try rw [Addr.add_zero'] at hx104_1); (try rw [show ((0 : Int)).toNat = 0 from rfl] at hx104_2); (try rw [show 0 * 5 = 0 from rfl] at hx104_2); (try rw [Addr.add_zero'] at hx104_2); (try rw [show ((0 : Int)).toNat = 0 from rfl] at hx104_3); (try rw [show 0 * 5 = 0 from rfl] at hx104_3); (try rw [Addr.add_zero'] at hx104_3); (try rw [show ((0 : Int)).toNat = 0 from rfl] at hx104_4); (try rw [show 0 * 5 = 0 from rfl] at hx104_4); (try rw [Addr.add_zero'] at hx104_4); replace hx104_0 := keepc HB.out hx104_0; replace hx104_1 := keepc HB.out hx104_1; replace hx104_2 := keepc HB.out hx104_2; replace hx104_3 := keepc HB.out hx104_3; replace hx104_4 := keepc HB.out hx104_4; have HR104_3 := mk0 hi104_3; have HC104_3 := mk0 hl104_3; clear hi104_3 hl104_3; have HR104_4 := mk0 hi104_4; have HC104_4 := mk0 hl104_4; clear hi104_4 hl104_4; replace p104 := eq_true p104; replace q104 := eq_true q104))
 go_ret2
 exact ⟨rfl, be2 HB GE101 GE102⟩
def drivers_behind.f (a0_0 : Int) (a0_1 : Int) (l0_2 : List Int) (l0_3 : List (S30)) (l0_4 : List (S63)) (a1 : Int) : Option (Bool) := if (l0_4.length : Int) > 0 then (if 0 < (l0_4.length : Int) then (some (decide (((rd_T63 l0_4 0).f0) < a1))) else (none)) else (some false)
set_option maxHeartbeats 8000000 in
set_option maxRecDepth 100000 in
theorem drivers_behind.calls (a0_0 : Int) (a0_1 : Int) (A0_2 : Option Addr) (c0_2 : Nat) (l0_2 : List Int) (A0_3 : Option Addr) (c0_3 : Nat) (l0_3 : List (S30)) (A0_4 : Option Addr) (c0_4 : Nat) (l0_4 : List (S63)) (a1 : Int) (r : Bool) (w : World) (hr0_2 : Kd.C (Kd.int .u8) w A0_2 l0_2.length l0_2) (hc0_2 : l0_2.length ≤ c0_2) (hr0_3 : Kd.C k30 w A0_3 l0_3.length l0_3) (hc0_3 : l0_3.length ≤ c0_3) (hr0_4 : Kd.C k63 w A0_4 l0_4.length l0_4) (hc0_4 : l0_4.length ≤ c0_4) (h : drivers_behind.f a0_0 a0_1 l0_2 l0_3 l0_4 a1 = some r) :
  Calls Try.prog 50 #[.agg #[.int .i64 a0_0, .int .i64 a0_1, .slice A0_2 l0_2.length c0_2, .slice A0_3 l0_3.length c0_3, .slice A0_4 l0_4.length c0_4], .int .i64 a1] w fun e w' => e = .returned (.bool r) ∧ Below w.heap.size w w' := by
 have hu33 := Try.underlying33
 have HR0_2 := mk0 hr0_2; have HC0_2 := mk0 hc0_2; clear hr0_2 hc0_2; have HR0_3 := mk0 hr0_3; have HC0_3 := mk0 hc0_3; clear hr0_3 hc0_3; have HR0_4 := mk0 hr0_4; have HC0_4 := mk0 hc0_4; clear hr0_4 hc0_4
 have HB := mk0 (Below.refl w.heap.size w)
 have H := h; unfold drivers_behind.f at H
 clear h
 by_cases c3 : (l0_4.length : Int) > 0
 rotate_left
 ·rw [if_neg c3] at H
  have c3b0 : decide (0 < (l0_4.length : Int)) = false := decide_eq_false c3
  have c3b1 : decide (0 < l0_4.length) = false := decide_eq_false (by omega)
  clear c3; obtain rfl := sI H
  go_enter Try.func50, Try.ntmps50
  go_wp2_with ((with_reducible refine box_event rfl (N := 2) rfl (cs := #[.int .i64 a0_0, .int .i64 a0_1, .slice A0_2 l0_2.length c0_2, .slice A0_3 l0_3.length c0_3, .slice A0_4 l0_4.length c0_4]) (t := 33) ?hr ?_); (case hr => first | (go_simp; done) | (go_simp; rfl)); intro gb105 hg w7 hbox hb; have BK105 := mk0 (hbox); have GE105 := bs (be HB) hg; replace HB := kh HB hb; clear hb hbox hg; have z8 := cells5 BK105.out)
  go_ret
  exact ⟨rfl, be1 HB GE105⟩
 rw [if_pos c3] at H; have c3b0 : decide (0 < (l0_4.length : Int)) = true := decide_eq_true c3
 have c3b1 : decide (0 < l0_4.length) = true := decide_eq_true (by omega)
 clear c3
 replace H := iN H; obtain ⟨c4, c4b0, H⟩ := H
 have c4b1 : decide (0 < l0_4.length) = true := decide_eq_true (by omega)
 clear c4
 obtain rfl := sI H
 go_enter Try.func50, Try.ntmps50
 go_wp2_with ((with_reducible refine box_event rfl (N := 2) rfl (cs := #[.int .i64 a0_0, .int .i64 a0_1, .slice A0_2 l0_2.length c0_2, .slice A0_3 l0_3.length c0_3, .slice A0_4 l0_4.length c0_4]) (t := 33) ?hr ?_); (case hr => first | (go_simp; done) | (go_simp; rfl)); intro gb105 hg w5 hbox hb; have BK105 := mk0 (hbox); have GE105 := bs (be HB) hg; replace HB := kh HB hb; clear hb hbox hg; have z6 := cells5 BK105.out; have p106 : 0 ≤ (0 : Int) := (by omega); have q106 : 0 < (l0_4.length : Int) := of_decide_eq_true (by assumption); obtain ⟨ad106, A106_3, c106_3, A106_4, c106_4, e106, hx106_0, hx106_1, hx106_2, hx106_3, hx106_4, hl106_3, hi106_3, hl106_4, hi106_4⟩ := at_T63 HR0_4.out 0 p106 q106; cases e106; have qi106 : (0 < l0_4.length) = True := eq_true (by omega); (try rw [show ((0 : Int)).toNat = 0 from rfl] at hx106_0); (try rw [show 0 * 5 = 0 from rfl] at hx106_0); (try rw [Addr.add_zero'] at hx106_0); (try rw [show ((0 : Int)).toNat = 0 from rfl] at hx106_1); (try rw [show 0 * 5 = 0 from rfl] at hx106_1); (try rw [Addr.add_zero'] at hx106_1); (try rw [show ((0 : Int)).toNat = 0 from rfl] at hx106_2); (try rw [show 0 * 5 = 0 from rfl] at hx106_2); (try rw [Addr.add_zero'] at hx106_2); (try rw [show ((0 : Int)).toNat = 0 from rfl] at hx106_3); (try rw [show 0 * 5 = 0 from rfl] at hx106_3); (try rw [Addr.add_zero'] at hx106_3); (try rw [show ((0 : Int)).toNat = 0 from rfl] at hx106_4); (try rw [show 0 * 5 = 0 from rfl] at hx106_4); (try rw [Addr.add_zero'] at hx106_4); replace hx106_0 := keepc HB.out hx106_0; replace hx106_1 := keepc HB.out hx106_1; replace hx106_2 := keepc HB.out hx106_2; replace hx106_3 := keepc HB.out hx106_3; replace hx106_4 := keepc HB.out hx106_4; have HR106_3 := mk0 hi106_3; have HC106_3 := mk0 hl106_3; clear hi106_3 hl106_3; have HR106_4 := mk0 hi106_4; have HC106_4 := mk0 hl106_4; clear hi106_4 hl106_4; replace p106 := eq_true p106; replace q106 := eq_true q106)
 go_ret
 exact ⟨rfl, be1 HB GE105⟩
def drivers_copied.f (a0_0 : Int) (a0_1 : Int) (l0_2 : List Int) (l0_3 : List (S30)) : Option (Int × Int × List Int × (List (S30))) := (api_Bit_68.f l0_2).bind fun t109 => (some (a0_0, a0_1, t109, l0_3))
set_option maxHeartbeats 8000000 in
set_option maxRecDepth 100000 in
theorem drivers_copied.calls (a0_0 : Int) (a0_1 : Int) (A0_2 : Option Addr) (c0_2 : Nat) (l0_2 : List Int) (P0_3_ : Nat → Prop) (A0_3 : Option Addr) (c0_3 : Nat) (l0_3 : List (S30)) (r1 : Int) (r2 : Int) (r3 : List Int) (r4 : List (S30)) (w : World) (hr0_2 : Kd.C (Kd.int .u8) w A0_2 l0_2.length l0_2) (hc0_2 : l0_2.length ≤ c0_2) (hs0_3 : Kd.V k30 30 w w.heap.size (fun k_ => P0_3_ k_) (.slice A0_3 l0_3.length c0_3) l0_3) (h : drivers_copied.f a0_0 a0_1 l0_2 l0_3 = some (r1, r2, r3, r4)) :
  Calls Try.prog 51 #[.agg #[.int .i64 a0_0, .int .i64 a0_1, .slice A0_2 l0_2.length c0_2, .slice A0_3 l0_3.length c0_3]] w fun e w' => ∃ v2_ v3_ : Value, e = .returned (.agg #[.int .i64 r1, .int .i64 r2, v2_, v3_]) ∧ Kd.R (Kd.int .u8) 73 w' w.heap.size (fun k_ => (w.heap.size ≤ k_)) v2_ r3 ∧ Kd.V k30 30 w' w.heap.size (fun k_ => (P0_3_ k_ ∨ w.heap.size ≤ k_) ∧ some k_ ≠ (v2_ : Value).ownBlock) v3_ r4 ∧ Below w.heap.size w w' := by
 have hu30 := Try.underlying30
 have HR0_2 := mk0 hr0_2; have HC0_2 := mk0 hc0_2; clear hr0_2 hc0_2
 have HO0_3 := mk0 (show Kd.V k30 30 w w.heap.size (fun k_ => (P0_3_ k_ ∨ w.heap.size ≤ k_)) (.slice A0_3 l0_3.length c0_3) l0_3 from Kd.V_mono hs0_3 (fun k_ hk => .inl hk))
 have HB := mk0 (Below.refl w.heap.size w)
 have H := h; unfold drivers_copied.f at H
 clear h
 replace H := bS H; obtain ⟨t109, A2, H⟩ := H
 simp only [Option.some.injEq, Prod.mk.injEq] at H
 obtain ⟨rfl, rfl, rfl, rfl⟩ := H
 go_enter Try.func51, Try.ntmps51
 go_wp2_with (first | ((with_reducible refine box_event rfl (N := 1) rfl (cs := #[.int .i64 a0_0, .int .i64 a0_1, .slice A0_2 l0_2.length c0_2, .slice A0_3 l0_3.length c0_3]) (t := 30) ?hr ?_); (case hr => first | (go_simp; done) | (go_simp; rfl)); intro gb107 hg w3 hbox hb; replace HO0_3 := vB HO0_3 hg hb; have BK107 := mk0 (hbox); have GE107 := bs (be HB) hg; replace HB := kh HB hb; clear hb hbox hg) | ((with_reducible refine box_event rfl (N := 2) rfl (cs := #[.int .i64 0, .int .i64 0, .slice none 0 0, .slice none 0 0]) (t := 30) ?hr ?_); (case hr => first | (go_simp; done) | (go_simp; rfl)); intro gb108 hg w4 hbox hb; replace HO0_3 := vB HO0_3 hg hb; have BK108 := mk0 (hbox); have GE108 := bs (be1 HB GE107) hg; replace HB := kh1 HB GE107 hb; have NB107_108 := nb1 (bu BK107) hg; have NB108_107 := nb2 (bu BK107) hg; replace BK107 := kb BK107 hb; clear hb hbox hg; have hnb5 := NB107_108.out; have hnc5 := NB108_107.out; have z6 := cells4 BK107.out) | ((with_reducible refine gate_callee (f := 68) rfl ?_); refine goesL_ (some 5) rfl rfl Try.func68 (by kernel_rfl) rfl #[.slice A0_2 l0_2.length c0_2] rfl (by (try simp only [List.map_toArray, List.map_cons, List.map_nil]); first | done | rfl | (simp only [List.length_drop, List.length_take]; rfl)) ?_; (with_reducible refine (api_Bit_68.calls _ _ l0_2 t109 _ ?side1 ?side2 A2.out).mono ?_); (case side1 => exact cu HR0_2 HB); (case side2 => exact HC0_2.out); rintro e w7 ⟨v110, rfl, ho0, hb⟩; refine ⟨_, rfl, ?_⟩; replace HO0_3 := mk0 (Kd.V_elder' (V_up HO0_3.out) (Kd.R_base ho0) hb); have HO111 := mk0 (Kd.R_lower (Kd.R_newM (M := fun k_ => (w.heap.size ≤ k_)) ho0 (below_size (be2 HB GE107 GE108)) (fun k_ h_ => h_)) (below_size (be2 HB GE107 GE108))); replace BK107 := kb BK107 hb; replace BK108 := kb BK108 hb; replace HB := kh2 HB GE107 GE108 hb; (try clear ho0); obtain ⟨Ao8, co8, eo8⟩ := Kd.R_slice HO111.out; subst eo8; have z9 := cells4 BK107.out; have z10 := cells4 BK108.out))
 refine bodyPost_ret (results_cell_row rfl _ _ gb108 30 #[.int .i64 a0_0, .int .i64 a0_1, .slice Ao8 t109.length co8, .slice A0_3 l0_3.length c0_3] (0, 0) _ rfl (by refine blk_pl ?_; refine blk_put (cs := #[.int .i64 a0_0, .int .i64 a0_1, .slice Ao8 t109.length co8, .slice none 0 0]) ?_ 3 _ rfl; refine blk_pl ?_; refine blk_put (cs := #[.int .i64 a0_0, .int .i64 a0_1, .slice none 0 0, .slice none 0 0]) ?_ 2 _ rfl; refine blk_pl ?_; refine blk_put (cs := #[.int .i64 a0_0, .int .i64 0, .slice none 0 0, .slice none 0 0]) ?_ 1 _ rfl; refine blk_pl ?_; refine blk_put (cs := #[.int .i64 0, .int .i64 0, .slice none 0 0, .slice none 0 0]) ?_ 0 _ rfl; refine blk_pl ?_; refine blk_far ?_ NB108_107.out _; refine blk_pl ?_; exact BK108.out) Try.underlying30 rfl (by kernel_rfl)) rfl ?_
 exact ⟨_, _, rfl, by exact R_pl (Kd.R_mono (rI (q := gb108) (Kd.R_far (p := ⟨gb107, 2, none⟩) (Kd.R_types (Kd.R_types HO111.out BK107.out (by decide)) BK108.out (by decide)) (fun _ hk => hk.1.2) (.slice Ao8 t109.length co8)) (fun _ hk => hk.2)) (fun _ hk => hk.1.1.1)), by exact V_pl (Kd.V_mono (vI (q := gb108) (Kd.V_far (p := ⟨gb107, 2, none⟩) (Kd.V_mono (Kd.V_mono HO0_3.out (fun k_ hk => (⟨hk, hk.1.1.2⟩ : _ ∧ k_ ≠ gb107))) (fun k_ hk => (⟨hk, hk.1.1.2⟩ : _ ∧ k_ ≠ gb108))) (fun _ hk => hk.1.2) (.slice Ao8 t109.length co8)) (fun _ hk => hk.2)) (fun _ hk => ⟨hk.1.1.1.1.1, hk.1.1.2⟩)), be2 HB GE107 GE108⟩
def drivers_all.l0 : Nat → List (S63) → List (S63) → Int → Int → Option ((List (S63)))
 | 0, _, _, _, _ => none
 | k + 1, x3, x9, x10, x11 => if x11 < x10 then (if 0 ≤ x11 then (if x11 < (x9.length : Int) then ((drivers_copied.f ((rd_T63 x9 x11).f1.f0) ((rd_T63 x9 x11).f1.f1) ((rd_T63 x9 x11).f1.f2) ((rd_T63 x9 x11).f1.f3)).bind fun bt117 => (if x3.length < 1954687338268 then (drivers_all.l0 k (x3 ++ [(⟨(rd_T63 x9 x11).f0, (⟨bt117.1, bt117.2.1, bt117.2.2.1, bt117.2.2.2⟩ : S30)⟩ : S63)]) x9 x10 (wrap64 (x11 + 1))) else (none))) else (none)) else (none)) else (some x3)
def drivers_all.f (k : Nat) (l0 : List (S63)) : Option ((List (S63))) := if 0 ≤ (l0.length : Int) then (if ((l0.length : Int) : Int).toNat ≤ 3909374676536 then (drivers_all.l0 k (([] : List (S63))) l0 (l0.length : Int) 0) else (none)) else (none)
theorem drivers_all.mono_l : ∀ k, (∀ y0 y1 y2 y3, LeO (drivers_all.l0 k y0 y1 y2 y3) (drivers_all.l0 (k + 1) y0 y1 y2 y3))
 | 0 => fun _ _ _ _ r h => by simp [drivers_all.l0] at h
 | k + 1 => by
  have ih0 := drivers_all.mono_l k
  ·intro y0 y1 y2 y3
   unfold drivers_all.l0
   repeat' first
   | (with_reducible exact ih0 _ _ _ _)
   | (with_reducible exact LeO.refl _)
   | (with_reducible exact LeO.none _)
   | (with_reducible refine LeO.ite ?_ ?_)
   | (with_reducible refine LeO.bind ?_ (fun _ => ?_))
   | exact ih0 _ _ _ _
   | exact LeO.none _
   | refine LeO.ite ?_ ?_
   | refine LeO.bind ?_ (fun _ => ?_)
theorem drivers_all.mono : ∀ a0 k, LeO (drivers_all.f k a0) (drivers_all.f (k + 1) a0) := by
 intro a0 k
 have ih0 := drivers_all.mono_l k
 unfold drivers_all.f
 repeat' first
   | (with_reducible exact ih0 _ _ _ _)
   | (with_reducible exact LeO.refl _)
   | (with_reducible exact LeO.none _)
   | (with_reducible refine LeO.ite ?_ ?_)
   | (with_reducible refine LeO.bind ?_ (fun _ => ?_))
   | exact ih0 _ _ _ _
   | exact LeO.none _
   | refine LeO.ite ?_ ?_
   | refine LeO.bind ?_ (fun _ => ?_)
def drivers_all.T5 : Bool × List (List Nat × List Nat) := (true, [([], []), ([], []), ([1], [1]), ([], []), ([3], [3]), ([4], [4]), ([2, 5], [2, 5]), ([6], [6]), ([0, 7, 5], [0, 7]), ([8, 8, 0, 1, 2, 3, 4, 5, 6, 7, 8], [0, 8])])
def drivers_all.B5 : List Nat := [0, 0, 2, 0, 8, 24, 62, 126, 255, 511]
theorem drivers_all.tab5 : rtab .any (opsOf Try.f52 5) = drivers_all.T5 := by kernel_rfl
theorem drivers_all.bits5 : waitsOk drivers_all.T5.2 drivers_all.B5 = true := by kernel_rfl
set_option maxHeartbeats 8000000 in
set_option maxRecDepth 100000 in
theorem drivers_all.calls (k : Nat) (P0_ : Nat → Prop) (A0 : Option Addr) (c0 : Nat) (l0 : List (S63)) (r : List (S63)) (w : World) (hs0 : Kd.V k63 63 w w.heap.size (fun k_ => P0_ k_) (.slice A0 l0.length c0) l0) (h : drivers_all.f k l0 = some r) :
  Calls Try.prog 52 #[.slice A0 l0.length c0] w fun e w' => ∃ v0_ : Value, e = .returned (v0_) ∧ Kd.N k63 63 w' w.heap.size (fun k_ => (P0_ k_ ∨ w.heap.size ≤ k_)) v0_ r ∧ Below w.heap.size w w' := by
 have hu63 := Try.underlying63
 have hu30 := Try.underlying30
 have HO0 := mk0 (show Kd.V k63 63 w w.heap.size (fun k_ => (P0_ k_ ∨ w.heap.size ≤ k_)) (.slice A0 l0.length c0) l0 from Kd.V_mono hs0 (fun k_ hk => .inl hk))
 have HB := mk0 (Below.refl w.heap.size w)
 have H := h; unfold drivers_all.f at H
 clear h
 by_cases c2 : 0 ≤ (l0.length : Int)
 rotate_left
 ·rw [if_neg c2] at H
  exact absurd H (by simp)
 rw [if_pos c2] at H; have c2b0 := eq_true c2; have c2b1 : decide (0 ≤ (l0.length : Int)) = true := decide_eq_true c2; clear c2
 by_cases c3 : ((l0.length : Int) : Int).toNat ≤ 3909374676536
 rotate_left
 ·rw [if_neg c3] at H
  exact absurd H (by simp)
 rw [if_pos c3] at H; have c3b0 := eq_true c3; have c3b1 : decide (((l0.length : Int) : Int).toNat ≤ 3909374676536) = true := decide_eq_true c3; clear c3
 obtain ⟨y112, hy112⟩ : ∃ y_ : List (S63), y_ = (([] : List (S63))) := ⟨_, rfl⟩
 replace H : (drivers_all.l0 k y112 l0 (l0.length : Int) 0) = some r := by first | (rw [hy112]; with_reducible exact H) | (have H2_ := (Option.bind_some _ _).symm.trans H; rw [hy112]; with_reducible exact H2_) | (have H2_ := (Option.bind_some _ _).symm.trans H; with_reducible exact H2_) | with_reducible exact H | (rw [hy112]; exact H) | exact H
 have Ny112 := mk0 hy112; clear hy112
 have H' := mk0 H
 clear H
 go_enter Try.func52, Try.ntmps52
 go_wp2_with ((with_reducible refine gate_dst (N := 8) rfl ?_); refine Kd.N_make0 k63 _ 63 rfl (N' := 8) rfl 31 _ _ rfl (l0.length : Int) rfl rfl Try.underlying31 (.agg #[(.int .i64 0), (.int .i64 0), (.int .i64 0), (.slice none 0 0), (.slice none 0 0)]) 72 info63 rfl (by decide) (by omega) z63 (ok := fun k_ => w.heap.size ≤ k_) (okp := fun _ => False) (k63_mkF _ _ z63 (Nat.le_refl _) (Kd.F_nil _ _ _) (Nat.le_refl _) (Kd.F_nil _ _ _)) (fun _ hk => hk.elim) (Nat.le_refl _) (of_decide_eq_true (by assumption)) (Nat.le_trans (Nat.mul_le_mul_right _ (of_decide_eq_true (by assumption) : (l0.length : Int).toNat ≤ 3909374676536)) (by omega)) (Below.refl _ _) (Nat.le_refl _) ?_; intro v113 w4 ho5 hb hg_ hnew_; clear hg_ hnew_; (first | rw [← Ny112.out] at ho5 | (simp only [Int.reduceToNat] at ho5; rw [← Ny112.out] at ho5)); replace HO0 := mk0 (Kd.V_elder' (V_up HO0.out) (Kd.N_base ho5) hb); have HO114 := mk0 (Kd.N_lower (Kd.N_mono (ok' := fun k_ => (P0_ k_ ∨ w.heap.size ≤ k_)) ho5 (fun k_ hk_ => (.inr (Nat.le_trans (below_size (be HB)) hk_)))) (below_size (be HB))); replace HB := kh HB hb; clear hb ho5)
 go_loopg [3, 11] k (fun kq v3 v11 w' => ∃ (x3_1 : List (S63)) (x11_1 : Int), v11 = .int .i64 x11_1 ∧ Aside0 (drivers_all.l0 kq x3_1 l0 (l0.length : Int) x11_1 = some r) ∧ Aside0 (kq ≤ k) ∧ Aside0 (Kd.N k63 63 w' w.heap.size (fun k_ => (P0_ k_ ∨ w.heap.size ≤ k_)) v3 x3_1) ∧ Aside0 (Kd.V k63 63 w' w.heap.size (fun k_ => (P0_ k_ ∨ w.heap.size ≤ k_) ∧ some k_ ≠ (v3 : Value).ownBlock) (.slice A0 l0.length c0) l0) ∧ Aside0 (Below w.heap.size w w'))
 case atStart => exact ⟨(y112), (0), rfl, H', ⟨Nat.le_refl _⟩, ⟨N_up HO114.out⟩, ⟨V_up HO0.out⟩, ⟨be HB⟩⟩
 case round =>
  clear H'
  try clear c2; try clear c2b0; try clear c2b1; try clear c3; try clear c3b0; try clear c3b1
  obtain ⟨x3_1, x11_1, rfl, HA, HK1, HO_3, HO_9, HB⟩ := hrel
  cases gk with
  | zero => exact absurd HA.out (by simp [drivers_all.l0])
  | succ k1 =>
   have H := HA.out; clear HA
   simp only [drivers_all.l0] at H
   replace H := iD' H; obtain ⟨-, c6b0, H⟩ | ⟨-, c6b0, H⟩ := H
   ·obtain rfl := sI H
    go_wp2
    go_ret
    exact ⟨_, rfl, N_up HO_3.out, be HB⟩
   replace H := iN H; obtain ⟨-, c7b0, H⟩ := H
   replace H := iN H; obtain ⟨-, c8b0, H⟩ := H
   replace H := Option.bind_eq_some_iff.mp H
   obtain ⟨⟨t117, t118, t119, t122⟩, A90, H⟩ := H
   replace H : (if x3_1.length < 1954687338268 then (drivers_all.l0 k1 (x3_1 ++ [(⟨(rd_T63 l0 x11_1).f0, (⟨t117, t118, t119, t122⟩ : S30)⟩ : S63)]) l0 (l0.length : Int) (wrap64 (x11_1 + 1))) else (none)) = some r := H
   have A9 := mk0 A90; clear A90
   by_cases c10 : x3_1.length < 1954687338268
   rotate_left
   ·rw [if_neg c10] at H
    exact absurd H (by simp)
   rw [if_pos c10] at H; have LMc10 := mk0 c10; clear c10
   obtain ⟨y125, hy125⟩ : ∃ y_ : List (S63), y_ = (x3_1 ++ [(⟨(rd_T63 l0 x11_1).f0, (⟨t117, t118, t119, t122⟩ : S30)⟩ : S63)]) := ⟨_, rfl⟩
   replace H : (drivers_all.l0 k1 y125 l0 (l0.length : Int) (wrap64 (x11_1 + 1))) = some r := by first | (rw [hy125]; with_reducible exact H) | (have H2_ := (Option.bind_some _ _).symm.trans H; rw [hy125]; with_reducible exact H2_) | (have H2_ := (Option.bind_some _ _).symm.trans H; with_reducible exact H2_) | with_reducible exact H | (rw [hy125]; exact H) | exact H
   have Ny125 := mk0 hy125; clear hy125
   have H' := mk0 H
   clear H
   have p115 : 0 ≤ (x11_1 : Int) := od
   have q115 : x11_1 < (l0.length : Int) := od
   obtain ⟨ad115, A115_3, c115_3, A115_4, c115_4, e115, hx115_0, hx115_1, hx115_2, hx115_3, hx115_4, hl115_3, hi115_3, hl115_4, hi115_4⟩ := at_T63 (Kd.V_reads' HO_9.out).2.2 x11_1 p115 q115
   cases e115
   obtain ⟨ce115, hce115, hMe115, hcc115⟩ := Kd.V_get HO_9.out z63 x11_1 p115 (by first | exact q115 | exact of_decide_eq_true (by assumption) | (have e_ := (Kd.V_reads' HO_9.out).1; omega))
   obtain ⟨ua115_3, uc115_3, ua115_4, uc115_4, rfl, ul115_3, ge115_3, ul115_4, ge115_4⟩ := k63_openF hMe115
   have hv115_3 := hcc115 3 _ rfl
   rw [add_field _ _ 3 (by omega)] at hv115_3
   replace hv115_3 := Option.some.inj (hv115_3.symm.trans hx115_3)
   injection hv115_3 with hva_ hvn_ hvc_
   rw [hva_] at ge115_3
   rw [hvc_] at ul115_3
   have HL115_3 := mk0 (show Kd.V (Kd.int .u8) 73 _ w.heap.size _ _ ((rd_T63 l0 x11_1).f1.f2) from Kd.V_mk ul115_3 ge115_3)
   clear hva_ hvn_ hvc_ ge115_3 ul115_3
   have hv115_4 := hcc115 4 _ rfl
   rw [add_field _ _ 4 (by omega)] at hv115_4
   replace hv115_4 := Option.some.inj (hv115_4.symm.trans hx115_4)
   injection hv115_4 with hva_ hvn_ hvc_
   rw [hva_] at ge115_4
   rw [hvc_] at ul115_4
   have HL115_4 := mk0 (show Kd.V k30 30 _ w.heap.size _ _ ((rd_T63 l0 x11_1).f1.f3) from Kd.V_mk ul115_4 ge115_4)
   clear hva_ hvn_ hvc_ ge115_4 ul115_4; clear hcc115 hce115; have HR115_3 := mk0 hi115_3; have HC115_3 := mk0 hl115_3; clear hi115_3 hl115_3; have HR115_4 := mk0 hi115_4; have HC115_4 := mk0 hl115_4; clear hi115_4 hl115_4; replace p115 := eq_true p115; replace q115 := eq_true q115
   try go_wp2_with ((with_reducible refine box_event rfl (N := 5) rfl (cs := #[.int .i64 0, .int .i64 0, .int .i64 0, .slice none 0 0, .slice none 0 0]) (t := 63) ?hr ?_); (case hr => first | (go_simp; done) | (go_simp; rfl)); intro gb116 hg w11 hbox hb; replace HO_3 := nB HO_3 hg hb; replace HO_9 := vB HO_9 hg hb; replace HL115_3 := vB HL115_3 hg hb; replace HL115_4 := vB HL115_4 hg hb; replace HR115_3 := cb HR115_3 hb; replace HR115_4 := cb HR115_4 hb; have BK116 := mk0 (hbox); have GE116 := bs (be HB) hg; replace HB := kh HB hb; clear hb hbox hg; have z12 := cells5 BK116.out)
   have n0_ : Aside0 (Kd.N k63 63 (((((w11.setCell ⟨gb116, 0, none⟩ (.int .i64 ((rd_T63 l0 x11_1).f0))).setCell ⟨gb116, 1, none⟩ (.int .i64 ((rd_T63 l0 x11_1).f1.f0))).setCell ⟨gb116, 2, none⟩ (.int .i64 ((rd_T63 l0 x11_1).f1.f1))).setCell ⟨gb116, 3, none⟩ (.slice A115_3 ((rd_T63 l0 x11_1).f1.f2).length c115_3)).setCell ⟨gb116, 4, none⟩ (.slice A115_4 ((rd_T63 l0 x11_1).f1.f3).length c115_4)) w.heap.size (fun k_ => (P0_ k_ ∨ w.heap.size ≤ k_) ∧ k_ ≠ gb116) u3 x3_1) := ⟨by exact N_pl (Kd.N_mono (nI (q := gb116) (Kd.N_mono HO_3.out (fun k_ hk => (⟨hk, hk.2⟩ : _ ∧ k_ ≠ gb116))) (fun _ hk => hk.2)) (fun _ hk => ⟨hk.1.1, hk.1.2⟩))⟩
   have n1_ : Aside0 (Kd.V k63 63 (((((w11.setCell ⟨gb116, 0, none⟩ (.int .i64 ((rd_T63 l0 x11_1).f0))).setCell ⟨gb116, 1, none⟩ (.int .i64 ((rd_T63 l0 x11_1).f1.f0))).setCell ⟨gb116, 2, none⟩ (.int .i64 ((rd_T63 l0 x11_1).f1.f1))).setCell ⟨gb116, 3, none⟩ (.slice A115_3 ((rd_T63 l0 x11_1).f1.f2).length c115_3)).setCell ⟨gb116, 4, none⟩ (.slice A115_4 ((rd_T63 l0 x11_1).f1.f3).length c115_4)) w.heap.size (fun k_ => (P0_ k_ ∨ w.heap.size ≤ k_) ∧ some k_ ≠ (u3 : Value).ownBlock ∧ k_ ≠ gb116) (.slice (some ad115) l0.length c0) l0) := ⟨by exact V_pl (Kd.V_mono (vI (q := gb116) (Kd.V_mono HO_9.out (fun k_ hk => (⟨hk, hk.2⟩ : _ ∧ k_ ≠ gb116))) (fun _ hk => hk.2)) (fun _ hk => ⟨hk.1.1.1, ⟨hk.1.1.2, hk.1.2⟩⟩))⟩
   have n2_ : Aside0 (Kd.V (Kd.int .u8) 73 (((((w11.setCell ⟨gb116, 0, none⟩ (.int .i64 ((rd_T63 l0 x11_1).f0))).setCell ⟨gb116, 1, none⟩ (.int .i64 ((rd_T63 l0 x11_1).f1.f0))).setCell ⟨gb116, 2, none⟩ (.int .i64 ((rd_T63 l0 x11_1).f1.f1))).setCell ⟨gb116, 3, none⟩ (.slice A115_3 ((rd_T63 l0 x11_1).f1.f2).length c115_3)).setCell ⟨gb116, 4, none⟩ (.slice A115_4 ((rd_T63 l0 x11_1).f1.f3).length c115_4)) w.heap.size (fun k_ => (P0_ k_ ∨ w.heap.size ≤ k_) ∧ some k_ ≠ (u3 : Value).ownBlock ∧ k_ ≠ gb116) (.slice A115_3 ((rd_T63 l0 x11_1).f1.f2).length c115_3) ((rd_T63 l0 x11_1).f1.f2)) := ⟨by exact V_pl (Kd.V_mono (vI (q := gb116) (Kd.V_mono HL115_3.out (fun k_ hk => (⟨hk, hk.2⟩ : _ ∧ k_ ≠ gb116))) (fun _ hk => hk.2)) (fun _ hk => ⟨hk.1.1.1, ⟨hk.1.1.2, hk.1.2⟩⟩))⟩
   have n3_ : Aside0 (Kd.V k30 30 (((((w11.setCell ⟨gb116, 0, none⟩ (.int .i64 ((rd_T63 l0 x11_1).f0))).setCell ⟨gb116, 1, none⟩ (.int .i64 ((rd_T63 l0 x11_1).f1.f0))).setCell ⟨gb116, 2, none⟩ (.int .i64 ((rd_T63 l0 x11_1).f1.f1))).setCell ⟨gb116, 3, none⟩ (.slice A115_3 ((rd_T63 l0 x11_1).f1.f2).length c115_3)).setCell ⟨gb116, 4, none⟩ (.slice A115_4 ((rd_T63 l0 x11_1).f1.f3).length c115_4)) w.heap.size (fun k_ => (P0_ k_ ∨ w.heap.size ≤ k_) ∧ some k_ ≠ (u3 : Value).ownBlock ∧ k_ ≠ gb116) (.slice A115_4 ((rd_T63 l0 x11_1).f1.f3).length c115_4) ((rd_T63 l0 x11_1).f1.f3)) := ⟨by exact V_pl (Kd.V_mono (vI (q := gb116) (Kd.V_mono HL115_4.out (fun k_ hk => (⟨hk, hk.2⟩ : _ ∧ k_ ≠ gb116))) (fun _ hk => hk.2)) (fun _ hk => ⟨hk.1.1.1, ⟨hk.1.1.2, hk.1.2⟩⟩))⟩
   have n4_ : Aside0 ((((((w11.setCell ⟨gb116, 0, none⟩ (.int .i64 ((rd_T63 l0 x11_1).f0))).setCell ⟨gb116, 1, none⟩ (.int .i64 ((rd_T63 l0 x11_1).f1.f0))).setCell ⟨gb116, 2, none⟩ (.int .i64 ((rd_T63 l0 x11_1).f1.f1))).setCell ⟨gb116, 3, none⟩ (.slice A115_3 ((rd_T63 l0 x11_1).f1.f2).length c115_3)).setCell ⟨gb116, 4, none⟩ (.slice A115_4 ((rd_T63 l0 x11_1).f1.f3).length c115_4)).heap[gb116]? = some (.cells #[.int .i64 ((rd_T63 l0 x11_1).f0), .int .i64 ((rd_T63 l0 x11_1).f1.f0), .int .i64 ((rd_T63 l0 x11_1).f1.f1), .slice A115_3 ((rd_T63 l0 x11_1).f1.f2).length c115_3, .slice A115_4 ((rd_T63 l0 x11_1).f1.f3).length c115_4] 63 (0, 0))) := ⟨pB BK116⟩
   have n5_ : Aside0 (Below w.heap.size w (((((w11.setCell ⟨gb116, 0, none⟩ (.int .i64 ((rd_T63 l0 x11_1).f0))).setCell ⟨gb116, 1, none⟩ (.int .i64 ((rd_T63 l0 x11_1).f1.f0))).setCell ⟨gb116, 2, none⟩ (.int .i64 ((rd_T63 l0 x11_1).f1.f1))).setCell ⟨gb116, 3, none⟩ (.slice A115_3 ((rd_T63 l0 x11_1).f1.f2).length c115_3)).setCell ⟨gb116, 4, none⟩ (.slice A115_4 ((rd_T63 l0 x11_1).f1.f3).length c115_4))) := ⟨be1 HB GE116⟩
   try clear HO_3
   try clear HO_9
   try clear HL115_3
   try clear HL115_4
   try clear BK116
   try clear HB
   generalize (((((w11.setCell ⟨gb116, 0, none⟩ (.int .i64 ((rd_T63 l0 x11_1).f0))).setCell ⟨gb116, 1, none⟩ (.int .i64 ((rd_T63 l0 x11_1).f1.f0))).setCell ⟨gb116, 2, none⟩ (.int .i64 ((rd_T63 l0 x11_1).f1.f1))).setCell ⟨gb116, 3, none⟩ (.slice A115_3 ((rd_T63 l0 x11_1).f1.f2).length c115_3)).setCell ⟨gb116, 4, none⟩ (.slice A115_4 ((rd_T63 l0 x11_1).f1.f3).length c115_4)) = w13 at n0_ n1_ n2_ n3_ n4_ n5_ ⊢
   have HO_3 := n0_; have HO_9 := n1_; have HL115_3 := n2_; have HL115_4 := n3_; have BK116 := n4_; have HB := n5_; clear n0_ n1_ n2_ n3_ n4_ n5_
   have n0_ := mk0 (Kd.N_drew HO_3.out)
   have n1_ := mk0 (Kd.V_drew HO_9.out)
   have n2_ := mk0 (Kd.V_drew HL115_3.out)
   have n3_ := mk0 (Kd.V_drew HL115_4.out)
   have n4_ := mk0 (blk_drew BK116.out)
   have n5_ := mk0 (below_drew1 HB.out)
   clear HO_3; clear HO_9; clear HL115_3; clear HL115_4; clear BK116; clear HB; have HO_3 := n0_; have HO_9 := n1_; have HL115_3 := n2_; have HL115_4 := n3_; have BK116 := n4_; have HB := n5_; clear n0_ n1_ n2_ n3_ n4_ n5_
   refine start_ (n := 10) (S := fun w' => w'.cell? ⟨gb116, 0, none⟩ = some (.int .i64 ((rd_T63 l0 x11_1).f0)) ∧ w'.cell? ⟨gb116, 1, none⟩ = some (.int .i64 ((rd_T63 l0 x11_1).f1.f0)) ∧ w'.cell? ⟨gb116, 2, none⟩ = some (.int .i64 ((rd_T63 l0 x11_1).f1.f1)) ∧ w'.cell? ⟨gb116, 3, none⟩ = some (.slice A115_3 ((rd_T63 l0 x11_1).f1.f2).length c115_3) ∧ w'.cell? ⟨gb116, 4, none⟩ = some (.slice A115_4 ((rd_T63 l0 x11_1).f1.f3).length c115_4)) (ds := []) #[false, false, false, false, false, false, false, false, false, false] (by kernel_rfl) rfl rfl ⟨bc BK116 0, bc BK116 1, bc BK116 2, bc BK116 3, bc BK116 4⟩ (fun hHeld => ?_); refine with_tabW drivers_all.tab5 drivers_all.bits5 (fun HT_ HW_ => ?_)
   generalize w13.drew = w14 at HO_3 HO_9 HL115_3 HL115_4 BK116 HB hHeld ⊢
   refine pu_ (v := ?_) (a' := ?_) 0 15 #[true, false, false, false, false, false, false, false, false, false] HT_ ?_ ?_ ?_
   rotate_left
   ·intro w'
    go_simp
    with_reducible rfl
   rotate_left
   ·simp only [ps]
    rfl
   refine pu_ (v := ?_) (a' := ?_) 1 16 #[true, true, false, false, false, false, false, false, false, false] HT_ ?_ ?_ ?_
   rotate_left
   ·intro w'
    go_simp
    with_reducible rfl
   rotate_left
   ·simp only [ps]
    rfl
   refine pu_ (v := ?_) (a' := ?_) 3 18 #[true, true, false, true, false, false, false, false, false, false] HT_ ?_ ?_ ?_
   rotate_left
   ·intro w'
    go_simp
    with_reducible rfl
   rotate_left
   ·simp only [ps]
    rfl
   refine take_ (i := 2) (N := some 17) (v := ?_) (a' := ?_) (tf 4 6) rfl rfl (take_ofW HT_.out HW_.out (by kernel_rfl)) (fun _ _ _ h => h) (Or.inl ⟨by rfl, ?_⟩) hHeld ?_ ?_
   rotate_left
   ·rintro w' ⟨s0, s1, s2, s3, s4⟩
    go_simp
    with_reducible rfl
   rotate_left
   ·simp only [ps]
    rfl
   refine take_ (i := 4) (N := some 19) (v := ?_) (a' := ?_) (tf 5 5) rfl rfl (take_ofW HT_.out HW_.out (by kernel_rfl)) (fun _ _ _ h => h) (Or.inl ⟨by rfl, ?_⟩) hHeld ?_ ?_
   rotate_left
   ·rintro w' ⟨s0, s1, s2, s3, s4⟩
    go_simp
    with_reducible rfl
   rotate_left
   ·simp only [ps]
    rfl
   refine one_ (i := 5) (N := some 20) (tf 6 4) rfl rfl (one_of HT_.out (by kernel_rfl)) (by decide) (fun K hK => ?_)
   refine goes_ Try.func51 (by kernel_rfl) rfl #[.agg #[.int .i64 ((rd_T63 l0 x11_1).f1.f0), .int .i64 ((rd_T63 l0 x11_1).f1.f1), .slice A115_3 ((rd_T63 l0 x11_1).f1.f2).length c115_3, .slice A115_4 ((rd_T63 l0 x11_1).f1.f3).length c115_4]] (by rfl) rfl rfl (by (try simp only [List.map_toArray, List.map_cons, List.map_nil]); first | done | rfl | (simp only [List.length_drop, List.length_take]; rfl)) ?_
   with_reducible refine (drivers_copied.calls ((rd_T63 l0 x11_1).f1.f0) ((rd_T63 l0 x11_1).f1.f1) _ _ ((rd_T63 l0 x11_1).f1.f2) (fun k_ => ((P0_ k_ ∨ w.heap.size ≤ k_) ∧ (some k_ ≠ (u3 : Value).ownBlock ∧ k_ ≠ gb116))) _ _ ((rd_T63 l0 x11_1).f1.f3) t117 t118 t119 t122 _ ?side1 ?side2 ?side3 A9.out).mono ?_
   (case side1 => repeat (first | exact ((Kd.V_reads' (V_up HL115_3.out)).2.2) | (with_reducible refine Kd.C_alloc ?_ _) | (with_reducible refine Kd.C_drewN ?_ _) | (with_reducible refine Kd.C_drew ?_)))
   (case side2 => exact HC115_3.out)
   (case side3 => exact HL115_4.out)
   rintro e w15 ⟨v120, v123, rfl, ho0, ho1, hb⟩
   refine ⟨_, rfl, ?_⟩
   have n0_ := mk0 (Kd.N_elder' (N_up HO_3.out) (Kd.R_base ho0) hb)
   have n1_ := mk0 (Kd.V_elder' (V_up HO_9.out) (Kd.R_base ho0) hb)
   have n2_ := mk0 (Kd.V_elder' (V_up HL115_3.out) (Kd.R_base ho0) hb)
   have n3_ := mk0 (Kd.V_elder' (V_up HL115_4.out) (Kd.R_base ho0) hb)
   have n4_ := mk0 (Kd.R_lower (Kd.R_newM (M := fun k_ => (w.heap.size ≤ k_)) (Kd.R_mono (ok' := fun k_ => True) ho0 (fun _ hk_ => trivial)) (below_size (be1 HB GE116)) (fun k_ h_ => h_)) (below_size (be1 HB GE116)))
   have n5_ := mk0 (Kd.V_lower (Kd.V_mono (ok' := fun k_ => (P0_ k_ ∨ w.heap.size ≤ k_) ∧ some k_ ≠ (v120 : Value).ownBlock ∧ some k_ ≠ (u3 : Value).ownBlock ∧ k_ ≠ gb116) ho1 (fun k_ hk_ => ⟨Or.elim hk_.1 (fun hs_ => hs_.1) (fun hn_ => (.inr (Nat.le_trans (below_size (be1 HB GE116)) hn_))), hk_.2, Or.elim hk_.1 (fun hs_ => hs_.2.1) (fun hn_ => (Kd.fresh' (Kd.N_lt (N_up HO_3.out)) k_ hn_)), Or.elim hk_.1 (fun hs_ => hs_.2.2) (fun hn_ => (Kd.freshB (g := gb116) (o := .cells #[.int .i64 ((rd_T63 l0 x11_1).f0), .int .i64 ((rd_T63 l0 x11_1).f1.f0), .int .i64 ((rd_T63 l0 x11_1).f1.f1), .slice A115_3 ((rd_T63 l0 x11_1).f1.f2).length c115_3, .slice A115_4 ((rd_T63 l0 x11_1).f1.f3).length c115_4] 63 (0, 0)) (blk_up BK116.out) k_ hn_))⟩)) (below_size (be1 HB GE116)))
   have n6_ := kb BK116 hb
   have n7_ := kh1 HB GE116 hb
   clear HO_3; clear HO_9; clear HL115_3; clear HL115_4; clear BK116; clear HB; have HO_3 := n0_; have HO_9 := n1_; have HL115_3 := n2_; have HL115_4 := n3_; have HO121 := n4_; have HO124 := n5_; have BK116 := n6_; have HB := n7_; clear n0_ n1_ n2_ n3_ n4_ n5_ n6_ n7_
   try clear hb
   try clear hk
   try clear ho0
   try clear ho1
   obtain ⟨Ao16, co16, eo16⟩ := Kd.V_slice HO124.out
   (first | subst eo16 | (injection eo16 with f1_ f2_ f3_; have f4_ := f1_.symm; have f5_ := f3_.symm; clear f1_ f2_ f3_; subst f4_; subst f5_))
   obtain ⟨Ao17, co17, eo17⟩ := Kd.R_slice HO121.out
   (first | subst eo17 | (injection eo17 with f1_ f2_ f3_; have f4_ := f1_.symm; have f5_ := f3_.symm; clear f1_ f2_ f3_; subst f4_; subst f5_))
   refine hK.out _ _ ⟨bc BK116 0, bc BK116 1, bc BK116 2, bc BK116 3, bc BK116 4⟩ (fun hHeld => ?_)
   clear hK K
   refine norm_ (a' := ?_) ?_ ?_
   rotate_left
   ·show Act.put _ (some 20) _ = _
    simp only [ps]
    rfl
   refine pu_ (v := ?_) (a' := ?_) 6 21 #[true, true, true, true, true, true, true, false, false, false] HT_ ?_ ?_ ?_
   rotate_left
   ·intro w'
    go_simp
    with_reducible rfl
   rotate_left
   ·simp only [ps]
    rfl
   refine one_ (i := 7) (N := some 22) (tf 8 2) rfl rfl (one_of HT_.out (by kernel_rfl)) (by decide) (fun K hK => ?_)
   refine value_ (w1 := ?_) (v := ?_) (by rfl) rfl ?_ ?_
   rotate_left 2
   ·go_simp
    constructor
    ·rfl
    ·rfl
   refine hK.out _ _ ⟨(blk_cell (blk_alloc BK116.out _) 0).trans rfl, (blk_cell (blk_alloc BK116.out _) 1).trans rfl, (blk_cell (blk_alloc BK116.out _) 2).trans rfl, (blk_cell (blk_alloc BK116.out _) 3).trans rfl, (blk_cell (blk_alloc BK116.out _) 4).trans rfl⟩ (fun hHeld => ?_)
   clear hK K
   refine norm_ (a' := ?_) ?_ ?_
   rotate_left
   ·show Act.put _ (some 22) _ = _
    simp only [ps]
    rfl
   refine one_ (i := 8) (N := some 23) (tf 9 1) rfl rfl (one_of HT_.out (by kernel_rfl)) (by decide) (fun K hK => ?_)
   refine Kd.N_append_step k63 (w0 := w) w.heap.size (by rfl) (.tmp 15) (.tmp 22) 31 63 (.agg #[(.int .i64 0), (.int .i64 0), (.int .i64 0), (.slice none 0 0), (.slice none 0 0)]) 72 rfl Try.underlying31 info63 rfl (by decide) (by omega) u3 x3_1 (⟨(rd_T63 l0 x11_1).f0, (⟨t117, t118, t119, t122⟩ : S30)⟩ : S63) [.int .i64 ((rd_T63 l0 x11_1).f0), .int .i64 t117, .int .i64 t118, .slice Ao17 t119.length co17, .slice Ao16 t122.length co16] (fun k_ => (P0_ k_ ∨ w.heap.size ≤ k_) ∧ k_ ≠ gb116) (fun k_ => ((fun k_ => (P0_ k_ ∨ w.heap.size ≤ k_) ∧ k_ ≠ gb116)) k_ ∧ some k_ ≠ (u3 : Value).ownBlock) rfl rfl ?aP (fun _ hk => hk) ?aF ?aO ?aB ?aS ?aL ?_
   (case aP => exact (k63_mkF _ _ (⟨(rd_T63 l0 x11_1).f0, (⟨t117, t118, t119, t122⟩ : S30)⟩ : S63) (Kd.R_reads' (Kd.R_mono (ok' := (fun k_ => ((fun k_ => (P0_ k_ ∨ w.heap.size ≤ k_) ∧ k_ ≠ gb116)) k_ ∧ some k_ ≠ (u3 : Value).ownBlock)) (Kd.R_types (Kd.R_apart' (HO121.out) (Kd.N_typed HO_3.out) (by decide)) BK116.out (by decide)) (fun k_ hk => ⟨⟨(.inr (hk.1.1.1)), hk.2⟩, hk.1.2⟩))).2.1 (Kd.R_F (Kd.R_mono (ok' := (fun k_ => ((fun k_ => (P0_ k_ ∨ w.heap.size ≤ k_) ∧ k_ ≠ gb116)) k_ ∧ some k_ ≠ (u3 : Value).ownBlock)) (Kd.R_types (Kd.R_apart' (HO121.out) (Kd.N_typed HO_3.out) (by decide)) BK116.out (by decide)) (fun k_ hk => ⟨⟨(.inr (hk.1.1.1)), hk.2⟩, hk.1.2⟩))) (Kd.V_reads' (Kd.V_mono (ok' := (fun k_ => ((fun k_ => (P0_ k_ ∨ w.heap.size ≤ k_) ∧ k_ ≠ gb116)) k_ ∧ some k_ ≠ (u3 : Value).ownBlock)) (HO124.out) (fun k_ hk => ⟨⟨hk.1, hk.2.2.2⟩, hk.2.2.1⟩))).2.1 (Kd.V_F (Kd.V_mono (ok' := (fun k_ => ((fun k_ => (P0_ k_ ∨ w.heap.size ≤ k_) ∧ k_ ≠ gb116)) k_ ∧ some k_ ≠ (u3 : Value).ownBlock)) (HO124.out) (fun k_ hk => ⟨⟨hk.1, hk.2.2.2⟩, hk.2.2.1⟩)))))
   (case aB => exact (be1 HB GE116))
   (case aF => exact (fun k_ hk => ⟨(.inr (Nat.le_trans (below_size (be1 HB GE116)) hk)), Kd.freshB (g := gb116) (o := .cells #[.int .i64 ((rd_T63 l0 x11_1).f0), .int .i64 ((rd_T63 l0 x11_1).f1.f0), .int .i64 ((rd_T63 l0 x11_1).f1.f1), .slice A115_3 ((rd_T63 l0 x11_1).f1.f2).length c115_3, .slice A115_4 ((rd_T63 l0 x11_1).f1.f3).length c115_4] 63 (0, 0)) (blk_up BK116.out) k_ hk⟩))
   (case aO => exact (by exact N_pl (Kd.N_mono HO_3.out (fun _ hk => ⟨hk.1.1, hk.1.2⟩))))
   (case aS => exact (below_size (be1 HB GE116)))
   (case aL => have := LMc10.out; omega)
   intro v126 w18 ho hb hg hat
   rw [← Ny125.out] at ho
   have n0_ := mk0 (Kd.V_afterv (ok := (fun k_ => (P0_ k_ ∨ w.heap.size ≤ k_) ∧ some k_ ≠ (.slice Ao17 t119.length co17 : Value).ownBlock ∧ k_ ≠ gb116)) (by exact V_pl (Kd.V_mono HO_9.out (fun _ hk => ⟨⟨hk.1.1, ⟨hk.2, hk.1.2.2⟩⟩, hk.1.2.1⟩))) hg hat)
   have n1_ := mk0 (Kd.V_afterv (ok := (fun k_ => (P0_ k_ ∨ w.heap.size ≤ k_) ∧ some k_ ≠ (.slice Ao17 t119.length co17 : Value).ownBlock ∧ k_ ≠ gb116)) (by exact V_pl (Kd.V_mono HL115_3.out (fun _ hk => ⟨⟨hk.1.1, ⟨hk.2, hk.1.2.2⟩⟩, hk.1.2.1⟩))) hg hat)
   have n2_ := mk0 (Kd.V_afterv (ok := (fun k_ => (P0_ k_ ∨ w.heap.size ≤ k_) ∧ some k_ ≠ (.slice Ao17 t119.length co17 : Value).ownBlock ∧ k_ ≠ gb116)) (by exact V_pl (Kd.V_mono HL115_4.out (fun _ hk => ⟨⟨hk.1.1, ⟨hk.2, hk.1.2.2⟩⟩, hk.1.2.1⟩))) hg hat)
   have n3_ := mk0 (blk_grown (g := gb116) (o := .cells #[.int .i64 ((rd_T63 l0 x11_1).f0), .int .i64 ((rd_T63 l0 x11_1).f1.f0), .int .i64 ((rd_T63 l0 x11_1).f1.f1), .slice A115_3 ((rd_T63 l0 x11_1).f1.f2).length c115_3, .slice A115_4 ((rd_T63 l0 x11_1).f1.f3).length c115_4] 63 (0, 0)) (blk_up BK116.out) hg (Kd.N_away HO_3.out (fun _ hk => hk.1.2)))
   have n4_ := mk0 (Kd.V_afterv (ok := (fun k_ => (P0_ k_ ∨ w.heap.size ≤ k_) ∧ some k_ ≠ (.slice Ao17 t119.length co17 : Value).ownBlock ∧ k_ ≠ gb116)) (by exact V_pl (Kd.V_mono HO124.out (fun _ hk => ⟨⟨hk.1, ⟨hk.2.1, hk.2.2.2⟩⟩, hk.2.2.1⟩))) hg hat)
   have n5_ := mk0 (hb)
   have n6_ := mk0 (ho)
   clear HO_9; clear HL115_3; clear HL115_4; clear BK116; clear HO124; clear HB; clear HO_3; clear HO121; have HO_9 := n0_; have HL115_3 := n1_; have HL115_4 := n2_; have BK116 := n3_; have HO124 := n4_; have HB := n5_; have HO127 := n6_; clear n0_ n1_ n2_ n3_ n4_ n5_ n6_; clear ho hb hg hat
   refine hK.out _ _ ⟨bc BK116 0, bc BK116 1, bc BK116 2, bc BK116 3, bc BK116 4⟩ (fun hHeld => ?_)
   clear hK K
   refine norm_ (a' := ?_) ?_ ?_
   rotate_left
   ·show Act.put _ (some 23) _ = _
    simp only [ps]
    rfl
   refine pu_ (v := ?_) (a' := ?_) 9 3 #[true, true, true, true, true, true, true, true, true, true] HT_ ?_ ?_ ?_
   rotate_left
   ·intro w'
    go_simp
    with_reducible rfl
   rotate_left
   ·simp only [ps]
    rfl
   refine done_ (done_of HT_.out (by kernel_rfl)) ?_
   try go_wp2
   go_roundg k1
   case measure => have := HK1.out; omega
   case rel => exact ⟨(y125), (wrap64 (x11_1 + 1)), rfl, H', ⟨by have := HK1.out; omega⟩, ⟨by exact N_pl (Kd.N_mono HO127.out (fun _ hk => hk.1))⟩, ⟨by exact V_pl (Kd.V_mono HO_9.out (fun _ hk => ⟨hk.1.1, hk.2⟩))⟩, ⟨be1 HB GE116⟩⟩
end Go.Proofs.Ytojankgmedccdaa.PAw
