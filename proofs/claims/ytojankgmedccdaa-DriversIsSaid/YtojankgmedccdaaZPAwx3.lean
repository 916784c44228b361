/- Part of the proof of LawDriversIs: every definition and lemma is one that it names. -/
import Derived.Test.YtojankgmedccdaaZPAwx0
import Derived.Test.YtojankgmedccdaaZPAwx2
namespace Go.Proofs.Ytojankgmedccdaa.PAw
open Go.RowKit Go.Proofs.Ytojankgmedccdaa.Own Go.Proofs.Ytojankgmedccdaa.PTy Go.Proofs.Ytojankgmedccdaa.Hand Go.Proofs.Ytojankgmedccdaa.PIs Go.Proofs.YtojankgmedccdaaW.PrintWords Go.Proofs.YtojankgmedccdaaW.PrintLast Go.Proofs.YtojankgmedccdaaW.PrintMore
attribute [local go_sem] max2_int min2_int max_two min_two max_three min_three max_four min_four
set_option linter.unusedVariables false
set_option linter.unusedSimpArgs false
def drivers_Resolve.l0 : Nat → List (S30) → List Int → List (S30) → Int → Int → Int → Int → ByteArray → List ByteArray → List (S26) → Option (Int × Int × List Int × (List (S30)) × Int)
 | 0, _, _, _, _, _, _, _, _, _, _ => none
 | k + 1, x1, x6, x23, x24, x25, x155000, x155001, x155002, x155003, x155004 => if x25 < x24 then (if 0 ≤ x25 then (if x25 < (x23.length : Int) then ((types_Has.f k x155000 x155001 x155002 x155003 x155004 ((rd_T30 x23 x25).f0) ((rd_T30 x23 x25).f1) ((rd_T30 x23 x25).f2) ((rd_T30 x23 x25).f3)).bind fun t162 => (if t162 = true then (if x6.length + ((rd_T30 x23 x25).f2).length < 140737488355328 then (drivers_Resolve.l0 k x1 (x6 ++ ((rd_T30 x23 x25).f2)) x23 x24 (wrap64 (x25 + 1)) x155000 x155001 x155002 x155003 x155004) else (none)) else (none))) else (none)) else (none)) else (if (x1.length : Int) = 1 then (none) else (if x155000 = 1 then ((logic_Resolve.f k x6).bind fun bt166 => (some (1, 0, (([bt166.1] : List Int)), ([] : List (S30)), bt166.2))) else (none)))
def drivers_Resolve.f (k : Nat) (a0_0 : Int) (a0_1 : Int) (a0_2 : ByteArray) (l0_3 : List ByteArray) (l0_4 : List (S26)) (l1 : List (S30)) : Option (Int × Int × List Int × (List (S30)) × Int) := (drivers_Scalar.f k a0_0 a0_1 a0_2 l0_3 l0_4).bind fun t156 => (if t156 = true then (if (l1.length : Int) = 0 then (none) else (if 0 ≤ (l1.length : Int) then (if ((l1.length : Int) : Int).toNat ≤ 281474976710656 then (drivers_Resolve.l0 k l1 (([] : List Int)) l1 (l1.length : Int) 0 a0_0 a0_1 a0_2 l0_3 l0_4) else (none)) else (none))) else (none))
theorem drivers_Resolve.mono_l : ∀ k, (∀ y0 y1 y2 y3 y4 y5 y6 y7 y8 y9, LeO (drivers_Resolve.l0 k y0 y1 y2 y3 y4 y5 y6 y7 y8 y9) (drivers_Resolve.l0 (k + 1) y0 y1 y2 y3 y4 y5 y6 y7 y8 y9))
 | 0 => fun _ _ _ _ _ _ _ _ _ _ r h => by simp [drivers_Resolve.l0] at h
 | k + 1 => by
  have ih0 := drivers_Resolve.mono_l k
  ·intro y0 y1 y2 y3 y4 y5 y6 y7 y8 y9
   unfold drivers_Resolve.l0
   repeat' first
   | (with_reducible exact ih0 _ _ _ _ _ _ _ _ _ _)
   | (with_reducible exact drivers_Scalar.mono _ _ _ _ _ _)
   | (with_reducible exact logic_Resolve.mono _ _)
   | (with_reducible exact types_Has.mono _ _ _ _ _ _ _ _ _ _)
   | (with_reducible exact LeO.refl _)
   | (with_reducible exact LeO.none _)
   | (with_reducible refine LeO.ite ?_ ?_)
   | (with_reducible refine LeO.bind ?_ (fun _ => ?_))
   | exact ih0 _ _ _ _ _ _ _ _ _ _
   | exact drivers_Scalar.mono _ _ _ _ _ _
   | exact logic_Resolve.mono _ _
   | exact types_Has.mono _ _ _ _ _ _ _ _ _ _
   | exact LeO.none _
   | refine LeO.ite ?_ ?_
   | refine LeO.bind ?_ (fun _ => ?_)
theorem drivers_Resolve.mono : ∀ a0 a1 a2 a3 a4 a5 k, LeO (drivers_Resolve.f k a0 a1 a2 a3 a4 a5) (drivers_Resolve.f (k + 1) a0 a1 a2 a3 a4 a5) := by
 intro a0 a1 a2 a3 a4 a5 k
 have ih0 := drivers_Resolve.mono_l k
 unfold drivers_Resolve.f
 repeat' first
   | (with_reducible exact ih0 _ _ _ _ _ _ _ _ _ _)
   | (with_reducible exact drivers_Scalar.mono _ _ _ _ _ _)
   | (with_reducible exact logic_Resolve.mono _ _)
   | (with_reducible exact types_Has.mono _ _ _ _ _ _ _ _ _ _)
   | (with_reducible exact LeO.refl _)
   | (with_reducible exact LeO.none _)
   | (with_reducible refine LeO.ite ?_ ?_)
   | (with_reducible refine LeO.bind ?_ (fun _ => ?_))
   | exact ih0 _ _ _ _ _ _ _ _ _ _
   | exact drivers_Scalar.mono _ _ _ _ _ _
   | exact logic_Resolve.mono _ _
   | exact types_Has.mono _ _ _ _ _ _ _ _ _ _
   | exact LeO.none _
   | refine LeO.ite ?_ ?_
   | refine LeO.bind ?_ (fun _ => ?_)
set_option maxHeartbeats 8000000 in
set_option maxRecDepth 100000 in
theorem drivers_Resolve.calls (k : Nat) (a0_0 : Int) (a0_1 : Int) (a0_2 : ByteArray) (A0_3 : Option Addr) (c0_3 : Nat) (l0_3 : List ByteArray) (A0_4 : Option Addr) (c0_4 : Nat) (l0_4 : List (S26)) (A1 : Option Addr) (c1 : Nat) (l1 : List (S30)) (r1 : Int) (r2 : Int) (r3 : List Int) (r4 : List (S30)) (r5 : Int) (w : World) (hG : Glob w) (hr0_3 : Kd.C Kd.string w A0_3 l0_3.length l0_3) (hc0_3 : l0_3.length ≤ c0_3) (hr0_4 : Kd.C k26 w A0_4 l0_4.length l0_4) (hc0_4 : l0_4.length ≤ c0_4) (hr1 : Kd.C k30 w A1 l1.length l1) (hc1 : l1.length ≤ c1) (h : drivers_Resolve.f k a0_0 a0_1 a0_2 l0_3 l0_4 l1 = some (r1, r2, r3, r4, r5)) :
  Calls Try.prog 30 #[.agg #[.int .i64 a0_0, .int .i64 a0_1, .string a0_2, .slice A0_3 l0_3.length c0_3, .slice A0_4 l0_4.length c0_4], .slice A1 l1.length c1] w fun e w' => ∃ v2_ v3_ : Value, e = .returned (.tuple #[.agg #[.int .i64 r1, .int .i64 r2, v2_, v3_], .int .i64 r5]) ∧ Kd.R (Kd.int .u8) 73 w' w.heap.size (fun _ => True) v2_ r3 ∧ Kd.R k30 30 w' w.heap.size (fun k_ => some k_ ≠ (v2_ : Value).ownBlock) v3_ r4 ∧ Below w.heap.size w w' := by
 have HG := mk0 hG; clear hG
 have hu26 := Try.underlying26
 have hu30 := Try.underlying30
 have HR0_3 := mk0 hr0_3; have HC0_3 := mk0 hc0_3; clear hr0_3 hc0_3; have HR0_4 := mk0 hr0_4; have HC0_4 := mk0 hc0_4; clear hr0_4 hc0_4; have HR1 := mk0 hr1; have HC1 := mk0 hc1; clear hr1 hc1
 have HB := mk0 (Below.refl w.heap.size w)
 have H : ((drivers_Scalar.f k a0_0 a0_1 a0_2 l0_3 l0_4).bind fun t156 => (if t156 = true then (if (l1.length : Int) = 0 then (none) else (if 0 ≤ (l1.length : Int) then (if ((l1.length : Int) : Int).toNat ≤ 281474976710656 then (drivers_Resolve.l0 k l1 (([] : List Int)) l1 (l1.length : Int) 0 a0_0 a0_1 a0_2 l0_3 l0_4) else (none)) else (none))) else (none))) = some (r1, r2, r3, r4, r5) := h
 clear h
 replace H := bS H; obtain ⟨t156, A3, H⟩ := H
 replace H := iB' H; obtain ⟨rfl, H⟩ | ⟨rfl, H⟩ := H
 ·exact absurd H (by simp)
 by_cases c5 : (l1.length : Int) = 0
 ·rw [if_pos c5] at H
  exact absurd H (by simp)
 rw [if_neg c5] at H
 have c5b0 : ((l1.length : Int) == 0) = false := beq_eq_false_iff_ne.mpr c5
 have c5b1 : ((l1.length : Int) != 0) = true := bne_iff_ne.mpr c5
 have c5b2 : ¬ (l1 = []) := fun h_ => c5 (by rw [h_]; rfl)
 by_cases c6 : 0 ≤ (l1.length : Int)
 rotate_left
 ·rw [if_neg c6] at H
  exact absurd H (by simp)
 rw [if_pos c6] at H; have c6b0 := eq_true c6; have c6b1 : decide (0 ≤ (l1.length : Int)) = true := decide_eq_true c6; clear c6
 by_cases c7 : ((l1.length : Int) : Int).toNat ≤ 281474976710656
 rotate_left
 ·rw [if_neg c7] at H
  exact absurd H (by simp)
 rw [if_pos c7] at H; have c7b0 := eq_true c7; have c7b1 : decide (((l1.length : Int) : Int).toNat ≤ 281474976710656) = true := decide_eq_true c7; clear c7
 obtain ⟨y157, hy157⟩ : ∃ y_ : List Int, y_ = (([] : List Int)) := ⟨_, rfl⟩
 replace H : (drivers_Resolve.l0 k l1 y157 l1 (l1.length : Int) 0 a0_0 a0_1 a0_2 l0_3 l0_4) = some (r1, r2, r3, r4, r5) := by first | (rw [hy157]; with_reducible exact H) | (have H2_ := (Option.bind_some _ _).symm.trans H; rw [hy157]; with_reducible exact H2_) | (have H2_ := (Option.bind_some _ _).symm.trans H; with_reducible exact H2_) | with_reducible exact H | (rw [hy157]; exact H) | exact H
 have Ny157 := mk0 hy157; clear hy157
 have H' := mk0 H
 clear H
 go_enter Try.func30, Try.ntmps30
 go_wp2_with (first | ((with_reducible refine box_event rfl (N := 2) rfl (cs := #[.int .i64 a0_0, .int .i64 a0_1, .string a0_2, .slice A0_3 l0_3.length c0_3, .slice A0_4 l0_4.length c0_4]) (t := 26) ?hr ?_); (case hr => first | (go_simp; done) | (go_simp; rfl)); intro gb154 hg w8 hbox hb; have BK154 := mk0 (hbox); have GE154 := bs (be HB) hg; replace HB := kh HB hb; clear hb hbox hg) | ((with_reducible refine box_event rfl (N := 4) rfl (cs := #[.int .i64 0, .int .i64 0, .slice none 0 0, .slice none 0 0]) (t := 30) ?hr ?_); (case hr => first | (go_simp; done) | (go_simp; rfl)); intro gb155 hg w9 hbox hb; have BK155 := mk0 (hbox); have GE155 := bs (be1 HB GE154) hg; replace HB := kh1 HB GE154 hb; have NB154_155 := nb1 (bu BK154) hg; have NB155_154 := nb2 (bu BK154) hg; replace BK154 := kb BK154 hb; clear hb hbox hg; have hnb10 := NB154_155.out; have hnc10 := NB155_154.out; have z11 := cells5 BK154.out) | ((with_reducible refine gate_callee (f := 17) rfl ?_); refine goB (some 12) rfl rfl Try.func17 (by kernel_rfl) rfl #[.agg #[.int .i64 a0_0, .int .i64 a0_1, .string a0_2, .slice A0_3 l0_3.length c0_3, .slice A0_4 l0_4.length c0_4]] rfl rfl (drivers_Scalar.calls k a0_0 a0_1 a0_2 _ _ l0_3 _ _ l0_4 true _ (glob_below HG.out (be2 HB GE154 GE155)) (cu HR0_3 HB) HC0_3.out (cu HR0_4 HB) HC0_4.out A3.out) ?_; intro w12 hb; replace BK154 := kb BK154 hb; replace BK155 := kb BK155 hb; replace HB := kh2 HB GE154 GE155 hb) | ((with_reducible refine gate_dst (N := 22) rfl ?_); (try (refine gate_guard (by rfl) ?_; dsimp only)); refine Kd.R_make0 (Kd.int .u8) _ 73 rfl (N := 22) rfl 27 _ _ rfl (l1.length : Int) rfl rfl Try.underlying27 (.int .u8 0) 1 info73 rfl (by decide) (by omega) 0 (ok := fun _ => True) (okp := fun _ => True) rfl (fun _ hk => hk) trivial (of_decide_eq_true (by assumption)) (Nat.le_trans (Nat.mul_le_mul_right _ (of_decide_eq_true (by assumption) : (l1.length : Int).toNat ≤ 281474976710656)) (by omega)) (Below.refl _ _) (Nat.le_refl _) ?_; intro v158 w13 ho14 hb hg_ hnew_; clear hg_ hnew_; (first | rw [← Ny157.out] at ho14 | (simp only [Int.reduceToNat] at ho14; rw [← Ny157.out] at ho14)); have HO159 := mk0 (Kd.R_lower ho14 (below_size (be2 HB GE154 GE155))); replace BK154 := kb BK154 hb; replace BK155 := kb BK155 hb; replace HB := kh2 HB GE154 GE155 hb; clear hb ho14))
 go_loopg [6, 25] k (fun kq v6 v25 w' => ∃ (x6_1 : List Int) (x25_1 : Int) (x156000_1 : Int) (x156001_1 : Int), v25 = .int .i64 x25_1 ∧ Aside0 (drivers_Resolve.l0 kq l1 x6_1 l1 (l1.length : Int) x25_1 a0_0 a0_1 a0_2 l0_3 l0_4 = some (r1, r2, r3, r4, r5)) ∧ Aside0 (kq ≤ k) ∧ Aside0 (Kd.R (Kd.int .u8) 73 w' w.heap.size (fun _ => True) v6 x6_1) ∧ Aside0 (w'.heap[gb154]? = some (.cells #[.int .i64 a0_0, .int .i64 a0_1, .string a0_2, (.slice A0_3 l0_3.length c0_3), (.slice A0_4 l0_4.length c0_4)] 26 (0, 0))) ∧ Aside0 (w'.heap[gb155]? = some (.cells #[.int .i64 x156000_1, .int .i64 x156001_1, (.slice none 0 0), (.slice none 0 0)] 30 (0, 0))) ∧ Aside0 (Below w.heap.size w w'))
 case atStart => exact ⟨(y157), (0), (0), (0), rfl, H', ⟨Nat.le_refl _⟩, ⟨R_up HO159.out⟩, ⟨bu BK154⟩, ⟨bu BK155⟩, ⟨be2 HB GE154 GE155⟩⟩
 case round =>
  clear H'
  try clear c1; try clear c5; try clear c5b0; try clear c5b1; try clear c5b2; try clear c6; try clear c6b0; try clear c6b1; try clear c7; try clear c7b0; try clear c7b1
  obtain ⟨x6_1, x25_1, x156000_1, x156001_1, rfl, HA, HK1, HO_6, BK154, BK155, HB⟩ := hrel
  cases gk with
  | zero => exact absurd HA.out (by simp [drivers_Resolve.l0])
  | succ k1 =>
   have H := HA.out; clear HA
   simp only [drivers_Resolve.l0] at H
   replace H := iD' H; obtain ⟨-, c15b0, H⟩ | ⟨-, c15b0, H⟩ := H
   ·by_cases c30 : (l1.length : Int) = 1
    ·rw [if_pos c30] at H
     exact absurd H (by simp)
    rw [if_neg c30] at H
    have c30b0 : ((l1.length : Int) == 1) = false := beq_eq_false_iff_ne.mpr c30
    have c30b1 : ((l1.length : Int) != 1) = true := bne_iff_ne.mpr c30
    by_cases c31 : a0_0 = 1
    rotate_left
    ·rw [if_neg c31] at H
     exact absurd H (by simp)
    rw [if_pos c31] at H
    have c31b0 : (a0_0 == 1) = true := beq_iff_eq.mpr c31
    have c31b1 : (a0_0 != 1) = false := bne_eq_false_iff_eq.mpr c31
    clear c31
    replace H := Option.bind_eq_some_iff.mp H
    obtain ⟨⟨t166, t167⟩, A320, H⟩ := H
    replace H : (some (1, 0, (([t166] : List Int)), ([] : List (S30)), t167)) = some (r1, r2, r3, r4, r5) := H
    have A32 := mk0 A320; clear A320
    obtain ⟨y168, hy168⟩ : ∃ y_ : List Int, y_ = (([t166] : List Int)) := ⟨_, rfl⟩
    replace H : (some (1, 0, y168, ([] : List (S30)), t167)) = some (r1, r2, r3, r4, r5) := by first | (rw [hy168]; with_reducible exact H) | (have H2_ := (Option.bind_some _ _).symm.trans H; rw [hy168]; with_reducible exact H2_) | (have H2_ := (Option.bind_some _ _).symm.trans H; with_reducible exact H2_) | with_reducible exact H | (rw [hy168]; exact H) | exact H
    have Ny168 := mk0 hy168; clear hy168
    simp only [Option.some.injEq, Prod.mk.injEq] at H
    obtain ⟨rfl, rfl, rfl, rfl, rfl⟩ := H
    have hnb33 := NB154_155.out; have hnc33 := NB155_154.out
    have z34 := cells5 BK154.out
    obtain ⟨Ao35, co35, eo35⟩ := Kd.R_slice HO_6.out
    subst eo35
    go_wp2_with (first | ((with_reducible refine gate_callee (f := 53) rfl ?_); refine goesL_ (some 52) rfl rfl Try.func53 (by kernel_rfl) rfl #[.slice Ao35 x6_1.length co35] rfl (by (try simp only [List.map_toArray, List.map_cons, List.map_nil]); first | done | rfl | (simp only [List.length_drop, List.length_take]; rfl)) ?_; (with_reducible refine (logic_Resolve.calls k1 _ _ x6_1 t166 t167 _ ?side1 ?side2 A32.out).mono ?_); (case side1 => repeat (first | exact (Kd.R_reads' HO_6.out).2.2 | (with_reducible refine Kd.C_alloc ?_ _) | (with_reducible refine Kd.C_drewN ?_ _) | (with_reducible refine Kd.C_drew ?_))); (case side2 => exact (Kd.R_reads' HO_6.out).2.1); rintro e w' ⟨rfl, ⟨nd, rfl⟩⟩; refine ⟨_, rfl, ?_⟩; (try (rw [drewN_self wr]; generalize hq_ : World.drewN wr _ = wr; have n0_ : Aside0 (Kd.R (Kd.int .u8) 73 wr w.heap.size (fun _ => True) (.slice Ao35 x6_1.length co35) x6_1) := ⟨by rw [← hq_]; exact (R_up HO_6.out)⟩; have n1_ : Aside0 (wr.heap[gb154]? = some (.cells #[.int .i64 a0_0, .int .i64 a0_1, .string a0_2, .slice A0_3 l0_3.length c0_3, .slice A0_4 l0_4.length c0_4] 26 (0, 0))) := ⟨by rw [← hq_]; exact (blk_up BK154.out)⟩; have n2_ : Aside0 (wr.heap[gb155]? = some (.cells #[.int .i64 x156000_1, .int .i64 x156001_1, .slice none 0 0, .slice none 0 0] 30 (0, 0))) := ⟨by rw [← hq_]; exact (blk_up BK155.out)⟩; have n3_ : Aside0 (Below w.heap.size w wr) := ⟨by rw [← hq_]; exact (be2 HB GE154 GE155)⟩; clear HO_6 BK154 BK155 HB hq_; have HO_6 := n0_; have BK154 := n1_; have BK155 := n2_; have HB := n3_; clear n0_ n1_ n2_ n3_))) | ((with_reducible refine gate_dst (N := 56) rfl ?_); (try (refine gate_guard (by rfl) ?_; dsimp only)); refine Kd.R_lit (Kd.int .u8) _ 73 ?hg (N := 56) ?hd (xs := ([t166] : List Int)) (inner := [.int .u8 t166]) (ok := fun _ => True) (okp := fun _ => True) ?hr ?hp (fun _ hk => hk) trivial (Below.refl _ _) (Nat.le_refl _) (by simp) ?_; (case hd => rfl); (case hg => rfl); (case hr => first | (go_simp; done) | (go_simp; rfl)); (case hp => exact (Reps.one (show Kd.M (Kd.int .u8) _ _ _ t166 [.int .u8 t166] from rfl) (Reps.none _ _))); intro v169 w36 ho37 hb hg_ hnew_; clear hg_ hnew_; (first | rw [← Ny168.out] at ho37 | (simp only [Int.reduceToNat] at ho37; rw [← Ny168.out] at ho37)); have HO170 := mk0 (Kd.R_lower (Kd.R_new' ho37 (Kd.R_lt (R_up HO_6.out))) (below_size (be2 HB GE154 GE155))); replace HO_6 := mk0 (Kd.R_elder' (R_up HO_6.out) (Kd.R_base ho37) hb); replace BK154 := kb BK154 hb; replace BK155 := kb BK155 hb; replace HB := kh2 HB GE154 GE155 hb; clear hb ho37; obtain ⟨Ao38, co38, eo38⟩ := Kd.R_slice HO170.out; subst eo38; have z39 := cells4 BK155.out))
    refine bodyPost_ret (results_ct rfl _ _ gb155 30 #[.int .i64 1, .int .i64 0, .slice Ao38 y168.length co38, .slice none 0 0] (0, 0) _ rfl (by refine blk_pl ?_; refine blk_put (cs := #[.int .i64 1, .int .i64 0, .slice Ao38 y168.length co38, .slice none 0 0]) ?_ 3 _ rfl; refine blk_pl ?_; refine blk_put (cs := #[.int .i64 1, .int .i64 0, .slice none 0 0, .slice none 0 0]) ?_ 2 _ rfl; refine blk_pl ?_; refine blk_put (cs := #[.int .i64 1, .int .i64 x156001_1, .slice none 0 0, .slice none 0 0]) ?_ 1 _ rfl; refine blk_pl ?_; refine blk_put (cs := #[.int .i64 x156000_1, .int .i64 x156001_1, .slice none 0 0, .slice none 0 0]) ?_ 0 _ rfl; refine blk_pl ?_; exact BK155.out) Try.underlying30 rfl (by kernel_rfl)) rfl ?_
    exact ⟨_, _, rfl, by exact R_pl (Kd.R_mono (Kd.R_far (p := ⟨gb155, 3, none⟩) (Kd.R_far (p := ⟨gb155, 2, none⟩) (Kd.R_far (p := ⟨gb155, 1, none⟩) (Kd.R_far (p := ⟨gb155, 0, none⟩) (Kd.R_types HO170.out BK155.out (by decide)) (fun _ hk => hk.2) (.int .i64 1)) (fun _ hk => hk.2) (.int .i64 0)) (fun _ hk => hk.2) (.slice Ao38 y168.length co38)) (fun _ hk => hk.2) (.slice none 0 0)) (fun _ hk => trivial)), by first | exact Kd.R_nil _ _ _ _ _ | exact Kd.N_nil _ _ _ _ _ | exact Kd.V_nil _ _ _ _ _ | exact Kd.Q_nil _ _ _ _ _ | exact Kd.S_nil _ _ _ _ _, be2 HB GE154 GE155⟩
   replace H := iN H; obtain ⟨-, c16b0, H⟩ := H
   replace H := iN H; obtain ⟨-, c17b0, H⟩ := H
   replace H := bS H; obtain ⟨t162, A18, H⟩ := H
   replace H := iB' H; obtain ⟨rfl, H⟩ | ⟨rfl, H⟩ := H
   ·exact absurd H (by simp)
   by_cases c20 : x6_1.length + ((rd_T30 l1 x25_1).f2).length < 140737488355328
   rotate_left
   ·rw [if_neg c20] at H
    exact absurd H (by simp)
   rw [if_pos c20] at H; have LMc20 := mk0 c20; clear c20
   obtain ⟨y163, hy163⟩ : ∃ y_ : List Int, y_ = (x6_1 ++ ((rd_T30 l1 x25_1).f2)) := ⟨_, rfl⟩
   replace H : (drivers_Resolve.l0 k1 l1 y163 l1 (l1.length : Int) (wrap64 (x25_1 + 1)) a0_0 a0_1 a0_2 l0_3 l0_4) = some (r1, r2, r3, r4, r5) := by first | (rw [hy163]; with_reducible exact H) | (have H2_ := (Option.bind_some _ _).symm.trans H; rw [hy163]; with_reducible exact H2_) | (have H2_ := (Option.bind_some _ _).symm.trans H; with_reducible exact H2_) | with_reducible exact H | (rw [hy163]; exact H) | exact H
   have Ny163 := mk0 hy163; clear hy163
   have H' := mk0 H
   clear H
   have p160 : 0 ≤ (x25_1 : Int) := of_decide_eq_true (by assumption)
   have q160 : x25_1 < (l1.length : Int) := of_decide_eq_true (by assumption)
   obtain ⟨ad160, A160_2, c160_2, A160_3, c160_3, e160, hx160_0, hx160_1, hx160_2, hx160_3, hl160_2, hi160_2, hl160_3, hi160_3⟩ := at_T30 HR1.out x25_1 p160 q160
   cases e160
   replace hx160_0 := keepc HB.out hx160_0
   replace hx160_1 := keepc HB.out hx160_1
   replace hx160_2 := keepc HB.out hx160_2
   replace hx160_3 := keepc HB.out hx160_3
   have HR160_2 := mk0 hi160_2; have HC160_2 := mk0 hl160_2; clear hi160_2 hl160_2; have HR160_3 := mk0 hi160_3; have HC160_3 := mk0 hl160_3; clear hi160_3 hl160_3; replace p160 := eq_true p160; replace q160 := eq_true q160
   go_wp2_with (first | ((with_reducible refine box_event rfl (N := 8) rfl (cs := #[.int .i64 0, .int .i64 0, .slice none 0 0, .slice none 0 0]) (t := 30) ?hr ?_); (case hr => first | (go_simp; done) | (go_simp; rfl)); intro gb161 hg w21 hbox hb; replace HO_6 := rb HO_6 hb; have BK161 := mk0 (hbox); have GE161 := bs (be2 HB GE154 GE155) hg; replace HB := kh2 HB GE154 GE155 hb; have NB154_161 := nb1 (bu BK154) hg; have NB161_154 := nb2 (bu BK154) hg; replace BK154 := kb BK154 hb; have NB155_161 := nb1 (bu BK155) hg; have NB161_155 := nb2 (bu BK155) hg; replace BK155 := kb BK155 hb; clear hb hbox hg; have hnb22 := NB161_154.out; have hnc22 := NB154_161.out; have hnb23 := NB161_155.out; have hnc23 := NB155_161.out; have z24 := cells4 BK161.out; have hnb25 := NB154_155.out; have hnc25 := NB155_154.out; have z26 := cells5 BK154.out) | ((with_reducible refine gate_callee (f := 45) rfl ?_); refine goB (some 31) rfl rfl Try.func45 (by kernel_rfl) rfl #[.agg #[.int .i64 a0_0, .int .i64 a0_1, .string a0_2, .slice A0_3 l0_3.length c0_3, .slice A0_4 l0_4.length c0_4], .agg #[.int .i64 ((rd_T30 l1 x25_1).f0), .int .i64 ((rd_T30 l1 x25_1).f1), .slice A160_2 ((rd_T30 l1 x25_1).f2).length c160_2, .slice A160_3 ((rd_T30 l1 x25_1).f3).length c160_3]] rfl rfl (types_Has.calls k1 a0_0 a0_1 a0_2 _ _ l0_3 _ _ l0_4 ((rd_T30 l1 x25_1).f0) ((rd_T30 l1 x25_1).f1) _ _ ((rd_T30 l1 x25_1).f2) _ _ ((rd_T30 l1 x25_1).f3) true _ (glob_below HG.out (be3 HB GE154 GE155 GE161)) (Kd.C_below HR0_3.out (be3 HB GE154 GE155 GE161)) HC0_3.out (Kd.C_below HR0_4.out (be3 HB GE154 GE155 GE161)) HC0_4.out (Kd.C_below HR160_2.out (be3 HB GE154 GE155 GE161)) HC160_2.out (Kd.C_below HR160_3.out (be3 HB GE154 GE155 GE161)) HC160_3.out A18.out) ?_; intro w27 hb; replace HO_6 := mk0 (Kd.R_below (by exact R_pl ((Kd.R_mono (Kd.R_far (p := ⟨gb161, 3, none⟩) (Kd.R_far (p := ⟨gb161, 2, none⟩) (Kd.R_far (p := ⟨gb161, 1, none⟩) (Kd.R_far (p := ⟨gb161, 0, none⟩) (Kd.R_types HO_6.out BK161.out (by decide)) (fun _ hk => hk.2) (.int .i64 ((rd_T30 l1 x25_1).f0))) (fun _ hk => hk.2) (.int .i64 ((rd_T30 l1 x25_1).f1))) (fun _ hk => hk.2) (.slice A160_2 ((rd_T30 l1 x25_1).f2).length c160_2)) (fun _ hk => hk.2) (.slice A160_3 ((rd_T30 l1 x25_1).f3).length c160_3)) (fun _ h_ => h_.1)))) hb); replace BK154 := mk0 (blk_below (g := gb154) (o := .cells #[.int .i64 a0_0, .int .i64 a0_1, .string a0_2, .slice A0_3 l0_3.length c0_3, .slice A0_4 l0_4.length c0_4] 26 (0, 0)) (by refine blk_pl ?_; refine blk_far ?_ NB154_161.out _; refine blk_pl ?_; refine blk_far ?_ NB154_161.out _; refine blk_pl ?_; refine blk_far ?_ NB154_161.out _; refine blk_pl ?_; refine blk_far ?_ NB154_161.out _; refine blk_pl ?_; exact BK154.out) hb); replace BK155 := mk0 (blk_below (g := gb155) (o := .cells #[.int .i64 x156000_1, .int .i64 x156001_1, .slice none 0 0, .slice none 0 0] 30 (0, 0)) (by refine blk_pl ?_; refine blk_far ?_ NB155_161.out _; refine blk_pl ?_; refine blk_far ?_ NB155_161.out _; refine blk_pl ?_; refine blk_far ?_ NB155_161.out _; refine blk_pl ?_; refine blk_far ?_ NB155_161.out _; refine blk_pl ?_; exact BK155.out) hb); replace BK161 := mk0 (blk_below (g := gb161) (o := .cells #[.int .i64 ((rd_T30 l1 x25_1).f0), .int .i64 ((rd_T30 l1 x25_1).f1), .slice A160_2 ((rd_T30 l1 x25_1).f2).length c160_2, .slice A160_3 ((rd_T30 l1 x25_1).f3).length c160_3] 30 (0, 0)) (by refine blk_pl ?_; refine blk_put (cs := #[.int .i64 ((rd_T30 l1 x25_1).f0), .int .i64 ((rd_T30 l1 x25_1).f1), .slice A160_2 ((rd_T30 l1 x25_1).f2).length c160_2, .slice none 0 0]) ?_ 3 _ rfl; refine blk_pl ?_; refine blk_put (cs := #[.int .i64 ((rd_T30 l1 x25_1).f0), .int .i64 ((rd_T30 l1 x25_1).f1), .slice none 0 0, .slice none 0 0]) ?_ 2 _ rfl; refine blk_pl ?_; refine blk_put (cs := #[.int .i64 ((rd_T30 l1 x25_1).f0), .int .i64 0, .slice none 0 0, .slice none 0 0]) ?_ 1 _ rfl; refine blk_pl ?_; refine blk_put (cs := #[.int .i64 0, .int .i64 0, .slice none 0 0, .slice none 0 0]) ?_ 0 _ rfl; refine blk_pl ?_; exact BK161.out) hb); replace HB := kh3 HB GE154 GE155 GE161 hb; have z28 := cells4 BK161.out) | ((with_reducible refine gate_builtin (b := .append) (xs := #[.tmp 34, .tmp 36]) rfl ?_); (try (refine gate_guard (by rfl) ?_; dsimp only)); at_builtin; refine Kd.R_append_rows (Kd.int .u8) (w0 := w) w.heap.size rfl (.tmp 34) (.tmp 36) 27 73 (.int .u8 0) 1 rfl Try.underlying27 info73 rfl (by decide) (by omega) u6 x6_1 ((rd_T30 l1 x25_1).f2) _ _ _ (fun _ => True) (fun _ => False) rfl rfl ?aO ?aR (fun _ _ h => h) (fun _ h => h.elim) ?aF ?aB ?aS ?aL ?_; (case aR => exact cu HR160_2 HB); (case aB => exact (be3 HB GE154 GE155 GE161)); (case aF => exact (fun _ _ => trivial)); (case aO => exact (R_up HO_6.out)); (case aS => exact (below_size (be3 HB GE154 GE155 GE161))); (case aL => have := LMc20.out; omega); intro v164 w29 ho hb hg hat; rw [← Ny163.out] at ho; replace BK154 := mk0 (blk_grown (g := gb154) (o := .cells #[.int .i64 a0_0, .int .i64 a0_1, .string a0_2, .slice A0_3 l0_3.length c0_3, .slice A0_4 l0_4.length c0_4] 26 (0, 0)) (blk_up BK154.out) hg (Kd.R_ne HO_6.out BK154.out (by decide))); replace BK155 := mk0 (blk_grown (g := gb155) (o := .cells #[.int .i64 x156000_1, .int .i64 x156001_1, .slice none 0 0, .slice none 0 0] 30 (0, 0)) (blk_up BK155.out) hg (Kd.R_ne HO_6.out BK155.out (by decide))); replace BK161 := mk0 (blk_grown (g := gb161) (o := .cells #[.int .i64 ((rd_T30 l1 x25_1).f0), .int .i64 ((rd_T30 l1 x25_1).f1), .slice A160_2 ((rd_T30 l1 x25_1).f2).length c160_2, .slice A160_3 ((rd_T30 l1 x25_1).f3).length c160_3] 30 (0, 0)) (blk_up BK161.out) hg (Kd.R_ne HO_6.out BK161.out (by decide))); replace HB := mk0 (hb); have HO165 := mk0 (ho); clear HO_6; clear ho hb hg hat))
   go_roundg k1
   case measure => have := HK1.out; omega
   case rel => exact ⟨(y163), (wrap64 (x25_1 + 1)), (x156000_1), (x156001_1), rfl, H', ⟨by have := HK1.out; omega⟩, ⟨R_up HO165.out⟩, ⟨bu BK154⟩, ⟨bu BK155⟩, ⟨be3 HB GE154 GE155 GE161⟩⟩
def r01Same.l0 : Nat → List Int → List Int → Int → Int → Option (Bool)
 | 0, _, _, _, _ => none
 | k + 1, x0, x1, x12, x13 => if x13 < x12 then (if 0 ≤ x13 then (if x13 < (x0.length : Int) then (if x13 < (x1.length : Int) then (if (rd x0 x13) = (rd x1 x13) then (r01Same.l0 k x0 x1 x12 (wrap64 (x13 + 1))) else (some false)) else (none)) else (none)) else (none)) else (some true)
def r01Same.f (k : Nat) (l0 : List Int) (l1 : List Int) : Option (Bool) := if (l0.length : Int) = (l1.length : Int) then (r01Same.l0 k l0 l1 (l0.length : Int) 0) else (some false)
theorem r01Same.mono_l : ∀ k, (∀ y0 y1 y2 y3, LeO (r01Same.l0 k y0 y1 y2 y3) (r01Same.l0 (k + 1) y0 y1 y2 y3))
 | 0 => fun _ _ _ _ r h => by simp [r01Same.l0] at h
 | k + 1 => by
  have ih0 := r01Same.mono_l k
  ·intro y0 y1 y2 y3
   unfold r01Same.l0
   repeat' first
   | (with_reducible exact ih0 _ _ _ _)
   | (with_reducible exact LeO.refl _)
   | (with_reducible exact LeO.none _)
   | (with_reducible refine LeO.ite ?_ ?_)
   | (with_reducible refine LeO.bind ?_ (fun _ => ?_))
   | exact ih0 _ _ _ _
   | exact LeO.none _
   | refine LeO.ite ?_ ?_
   | refine LeO.bind ?_ (fun _ => ?_)
theorem r01Same.mono : ∀ a0 a1 k, LeO (r01Same.f k a0 a1) (r01Same.f (k + 1) a0 a1) := by
 intro a0 a1 k
 have ih0 := r01Same.mono_l k
 unfold r01Same.f
 repeat' first
   | (with_reducible exact ih0 _ _ _ _)
   | (with_reducible exact LeO.refl _)
   | (with_reducible exact LeO.none _)
   | (with_reducible refine LeO.ite ?_ ?_)
   | (with_reducible refine LeO.bind ?_ (fun _ => ?_))
   | exact ih0 _ _ _ _
   | exact LeO.none _
   | refine LeO.ite ?_ ?_
   | refine LeO.bind ?_ (fun _ => ?_)
set_option maxHeartbeats 8000000 in
set_option maxRecDepth 100000 in
theorem r01Same.calls (k : Nat) (A0 : Option Addr) (c0 : Nat) (l0 : List Int) (A1 : Option Addr) (c1 : Nat) (l1 : List Int) (r : Bool) (w : World) (hr0 : Kd.C (Kd.int .u8) w A0 l0.length l0) (hc0 : l0.length ≤ c0) (hr1 : Kd.C (Kd.int .u8) w A1 l1.length l1) (hc1 : l1.length ≤ c1) (h : r01Same.f k l0 l1 = some r) :
  Calls Try.prog 55 #[.slice A0 l0.length c0, .slice A1 l1.length c1] w fun e w' => e = .returned (.bool r) ∧ Drawn0 w w' := by
 have HR0 := mk0 hr0; have HC0 := mk0 hc0; clear hr0 hc0; have HR1 := mk0 hr1; have HC1 := mk0 hc1; clear hr1 hc1
 have H : (if (l0.length : Int) = (l1.length : Int) then (r01Same.l0 k l0 l1 (l0.length : Int) 0) else (some false)) = some r := h
 clear h
 replace H := iF' H; obtain ⟨c3, c3b0, c3b1, H⟩ | ⟨c3, c3b0, c3b1, H⟩ := H
 ·have c3b2 : (l0.length == l1.length) = false := by first | simpa using c3 | (simp at c3 ⊢; omega)
  obtain rfl := sI H
  go_enter Try.func55, Try.ntmps55
  go_wp2
  repeat (go_quiet (fail); try go_wp2)
  go_ret
  exact dn
 have c3b2 : (l0.length == l1.length) = true := by first | simpa using c3 | (simp at c3 ⊢; omega)
 clear c3
 have H' := mk0 H
 clear H
 go_enter Try.func55, Try.ntmps55
 go_wp2
 repeat (go_quiet (fail); try go_wp2)
 go_loopg [13] k (fun kq v13 w' => ∃ (x13_1 : Int), v13 = .int .i64 x13_1 ∧ Aside0 (r01Same.l0 kq l0 l1 (l0.length : Int) x13_1 = some r) ∧ Aside0 (kq ≤ k) ∧ Drawn0 w w')
 case atStart => exact ⟨(0), rfl, H', ⟨Nat.le_refl _⟩, dr⟩
 case round =>
  clear H'
  try clear c1; try clear c3; try clear c3b0; try clear c3b1; try clear c3b2
  obtain ⟨x13_1, rfl, HA, HK1, ⟨m1, rfl⟩⟩ := hrel
  cases gk with
  | zero => exact absurd HA.out (by simp [r01Same.l0])
  | succ k1 =>
   have H := HA.out; clear HA
   simp only [r01Same.l0] at H
   replace H := iD' H; obtain ⟨-, c4b0, H⟩ | ⟨-, c4b0, H⟩ := H
   ·obtain rfl := sI H
    go_wp2
    repeat (go_quiet (fail); try go_wp2)
    go_ret
    exact dn
   replace H := iN H; obtain ⟨-, c5b0, H⟩ := H
   replace H := iN H; obtain ⟨-, c6b0, H⟩ := H
   replace H := iN H; obtain ⟨-, c7b0, H⟩ := H
   replace H := iE' H; obtain ⟨c8, c8b0, c8b1, H⟩ | ⟨c8b0, c8b1, H⟩ := H
   ·obtain rfl := sI H
    have p171 : 0 ≤ (x13_1 : Int) := of_decide_eq_true (by assumption)
    have q171 : x13_1 < (l0.length : Int) := of_decide_eq_true (by assumption)
    obtain ⟨ad171, e171, hx171_0⟩ := Kd.at_int HR0.out x13_1 p171 q171
    cases e171; replace p171 := eq_true p171; replace q171 := eq_true q171
    have p172 : 0 ≤ (x13_1 : Int) := of_decide_eq_true (by assumption)
    have q172 : x13_1 < (l1.length : Int) := of_decide_eq_true (by assumption)
    obtain ⟨ad172, e172, hx172_0⟩ := Kd.at_int HR1.out x13_1 p172 q172
    cases e172; replace p172 := eq_true p172; replace q172 := eq_true q172
    go_wp2
    repeat (go_quiet (fail); try go_wp2)
    go_ret
    exact dn
   have H' := mk0 H
   clear H
   have p171 : 0 ≤ (x13_1 : Int) := of_decide_eq_true (by assumption)
   have q171 : x13_1 < (l0.length : Int) := of_decide_eq_true (by assumption)
   obtain ⟨ad171, e171, hx171_0⟩ := Kd.at_int HR0.out x13_1 p171 q171
   cases e171; replace p171 := eq_true p171; replace q171 := eq_true q171
   have p172 : 0 ≤ (x13_1 : Int) := of_decide_eq_true (by assumption)
   have q172 : x13_1 < (l1.length : Int) := of_decide_eq_true (by assumption)
   obtain ⟨ad172, e172, hx172_0⟩ := Kd.at_int HR1.out x13_1 p172 q172
   cases e172; replace p172 := eq_true p172; replace q172 := eq_true q172
   go_wp2
   repeat (go_quiet (fail); try go_wp2)
   go_roundg k1
   case measure => have := HK1.out; omega
   case rel => exact ⟨(wrap64 (x13_1 + 1)), rfl, H', ⟨by have := HK1.out; omega⟩, dr⟩
mutual
def r04Alike.l0 : Nat → Int → Int → Option (Bool)
 | 0, _, _ => none
 | k + 1, x37, x38 => if x38 < x37 then (none) else (some true)
def r04Alike.f : Nat → Int → Int → List Int → List (S30) → Int → Int → List Int → List (S30) → Option (Bool)
 | 0, _, _, _, _, _, _, _, _ => none
 | k + 1, a0_0, a0_1, l0_2, l0_3, a1_0, a1_1, l1_2, l1_3 => if a0_0 = a1_0 then (if a0_1 = a1_1 then ((r01Same.f k l0_2 l1_2).bind fun t175 => (if t175 = true then (if (l0_3.length : Int) = (l1_3.length : Int) then (r04Alike.l0 k (l0_3.length : Int) 0) else (none)) else (none))) else (none)) else (none)
end
theorem r04Alike.mono_l : ∀ k, (∀ y0 y1 y2 y3 y4 y5 y6 y7, LeO (r04Alike.f k y0 y1 y2 y3 y4 y5 y6 y7) (r04Alike.f (k + 1) y0 y1 y2 y3 y4 y5 y6 y7)) ∧ (∀ y0 y1, LeO (r04Alike.l0 k y0 y1) (r04Alike.l0 (k + 1) y0 y1))
 | 0 => ⟨fun _ _ _ _ _ _ _ _ r h => by simp [r04Alike.f] at h, fun _ _ r h => by simp [r04Alike.l0] at h⟩
 | k + 1 => by
  obtain ⟨ih0, ih1⟩ := r04Alike.mono_l k
  refine ⟨?_, ?_⟩ <;> intros <;> (first | unfold r04Alike.f | unfold r04Alike.l0) <;> repeat' first | (with_reducible first | apply ih0 | apply ih1 | apply r01Same.mono | apply LeO.refl | apply LeO.none | refine LeO.ite ?_ ?_ | refine LeO.bind ?_ (fun _ => ?_)) | apply ih0 | apply ih1 | apply r01Same.mono | apply LeO.none | refine LeO.ite ?_ ?_ | refine LeO.bind ?_ (fun _ => ?_)
theorem r04Alike.mono : ∀ a0 a1 a2 a3 a4 a5 a6 a7 k, LeO (r04Alike.f k a0 a1 a2 a3 a4 a5 a6 a7) (r04Alike.f (k + 1) a0 a1 a2 a3 a4 a5 a6 a7) := by
 intro a0 a1 a2 a3 a4 a5 a6 a7 k
 obtain ⟨ih0, ih1⟩ := r04Alike.mono_l k
 exact ih0 a0 a1 a2 a3 a4 a5 a6 a7
set_option maxHeartbeats 8000000 in
set_option maxRecDepth 100000 in
theorem r04Alike.calls (k : Nat) : ∀ (a0_0 : Int) (a0_1 : Int) (A0_2 : Option Addr) (c0_2 : Nat) (l0_2 : List Int) (A0_3 : Option Addr) (c0_3 : Nat) (l0_3 : List (S30)) (a1_0 : Int) (a1_1 : Int) (A1_2 : Option Addr) (c1_2 : Nat) (l1_2 : List Int) (A1_3 : Option Addr) (c1_3 : Nat) (l1_3 : List (S30)) (r : Bool) (w : World) (hr0_2 : Kd.C (Kd.int .u8) w A0_2 l0_2.length l0_2) (hc0_2 : l0_2.length ≤ c0_2) (hr0_3 : Kd.C k30 w A0_3 l0_3.length l0_3) (hc0_3 : l0_3.length ≤ c0_3) (hr1_2 : Kd.C (Kd.int .u8) w A1_2 l1_2.length l1_2) (hc1_2 : l1_2.length ≤ c1_2) (hr1_3 : Kd.C k30 w A1_3 l1_3.length l1_3) (hc1_3 : l1_3.length ≤ c1_3) (h : r04Alike.f k a0_0 a0_1 l0_2 l0_3 a1_0 a1_1 l1_2 l1_3 = some r),
  Calls Try.prog 32 #[.agg #[.int .i64 a0_0, .int .i64 a0_1, .slice A0_2 l0_2.length c0_2, .slice A0_3 l0_3.length c0_3], .agg #[.int .i64 a1_0, .int .i64 a1_1, .slice A1_2 l1_2.length c1_2, .slice A1_3 l1_3.length c1_3]] w fun e w' => e = .returned (.bool r) ∧ Below w.heap.size w w' := by
 induction k using Nat.strongRecOn with
 | _ k ih =>
 intro a0_0 a0_1 A0_2 c0_2 l0_2 A0_3 c0_3 l0_3 a1_0 a1_1 A1_2 c1_2 l1_2 A1_3 c1_3 l1_3 r w hr0_2 hc0_2 hr0_3 hc0_3 hr1_2 hc1_2 hr1_3 hc1_3 h
 cases k with
 | zero => exact absurd h (by simp [r04Alike.f])
 | succ k =>
 simp only [r04Alike.f] at h
 have hu30 := Try.underlying30
 have HR0_2 := mk0 hr0_2; have HC0_2 := mk0 hc0_2; clear hr0_2 hc0_2; have HR0_3 := mk0 hr0_3; have HC0_3 := mk0 hc0_3; clear hr0_3 hc0_3; have HR1_2 := mk0 hr1_2; have HC1_2 := mk0 hc1_2; clear hr1_2 hc1_2; have HR1_3 := mk0 hr1_3; have HC1_3 := mk0 hc1_3; clear hr1_3 hc1_3
 have HB := mk0 (Below.refl w.heap.size w)
 have H : (if a0_0 = a1_0 then (if a0_1 = a1_1 then ((r01Same.f k l0_2 l1_2).bind fun t175 => (if t175 = true then (if (l0_3.length : Int) = (l1_3.length : Int) then (r04Alike.l0 k (l0_3.length : Int) 0) else (none)) else (none))) else (none)) else (none)) = some r := h
 clear h
 by_cases c3 : a0_0 = a1_0
 rotate_left
 ·rw [if_neg c3] at H
  exact absurd H (by simp)
 rw [if_pos c3] at H
 have c3b0 : (a0_0 == a1_0) = true := beq_iff_eq.mpr c3
 have c3b1 : (a0_0 != a1_0) = false := bne_eq_false_iff_eq.mpr c3
 clear c3
 by_cases c4 : a0_1 = a1_1
 rotate_left
 ·rw [if_neg c4] at H
  exact absurd H (by simp)
 rw [if_pos c4] at H
 have c4b0 : (a0_1 == a1_1) = true := beq_iff_eq.mpr c4
 have c4b1 : (a0_1 != a1_1) = false := bne_eq_false_iff_eq.mpr c4
 clear c4
 replace H := bS H; obtain ⟨t175, A5, H⟩ := H
 replace H := iB' H; obtain ⟨rfl, H⟩ | ⟨rfl, H⟩ := H
 ·exact absurd H (by simp)
 by_cases c7 : (l0_3.length : Int) = (l1_3.length : Int)
 rotate_left
 ·rw [if_neg c7] at H
  exact absurd H (by simp)
 rw [if_pos c7] at H
 have c7b0 : ((l0_3.length : Int) == (l1_3.length : Int)) = true := beq_iff_eq.mpr c7
 have c7b1 : ((l0_3.length : Int) != (l1_3.length : Int)) = false := bne_eq_false_iff_eq.mpr c7
 have c7b2 : (l0_3.length == l1_3.length) = true := by first | simpa using c7 | (simp at c7 ⊢; omega)
 clear c7
 have H' := mk0 H
 clear H
 go_enter Try.func32, Try.ntmps32
 go_wp2_with (first | ((with_reducible refine box_event rfl (N := 2) rfl (cs := #[.int .i64 a0_0, .int .i64 a0_1, .slice A0_2 l0_2.length c0_2, .slice A0_3 l0_3.length c0_3]) (t := 30) ?hr ?_); (case hr => first | (go_simp; done) | (go_simp; rfl)); intro gb173 hg w8 hbox hb; have BK173 := mk0 (hbox); have GE173 := bs (be HB) hg; replace HB := kh HB hb; clear hb hbox hg) | ((with_reducible refine box_event rfl (N := 3) rfl (cs := #[.int .i64 a1_0, .int .i64 a1_1, .slice A1_2 l1_2.length c1_2, .slice A1_3 l1_3.length c1_3]) (t := 30) ?hr ?_); (case hr => first | (go_simp; done) | (go_simp; rfl)); intro gb174 hg w9 hbox hb; have BK174 := mk0 (hbox); have GE174 := bs (be1 HB GE173) hg; replace HB := kh1 HB GE173 hb; have NB173_174 := nb1 (bu BK173) hg; have NB174_173 := nb2 (bu BK173) hg; replace BK173 := kb BK173 hb; clear hb hbox hg; have hnb10 := NB173_174.out; have hnc10 := NB174_173.out; have z11 := cells4 BK173.out; have z12 := cells4 BK174.out) | (go_at_call 55; refine (r01Same.calls k _ _ l0_2 _ _ l1_2 true _ (cu HR0_2 HB) HC0_2.out (cu HR1_2 HB) HC1_2.out A5.out).mono ?_; rintro e w' ⟨rfl, ⟨nd, rfl⟩⟩))
 go_loopg [38] k (fun kq v38 w' => ∃ (x38_1 : Int), v38 = .int .i64 x38_1 ∧ Aside0 (r04Alike.l0 kq (l0_3.length : Int) x38_1 = some r) ∧ Aside0 (kq ≤ k) ∧ Aside0 (w'.heap[gb173]? = some (.cells #[.int .i64 a0_0, .int .i64 a0_1, (.slice A0_2 l0_2.length c0_2), (.slice A0_3 l0_3.length c0_3)] 30 (0, 0))) ∧ Aside0 (w'.heap[gb174]? = some (.cells #[.int .i64 a1_0, .int .i64 a1_1, (.slice A1_2 l1_2.length c1_2), (.slice A1_3 l1_3.length c1_3)] 30 (0, 0))) ∧ Aside0 (Below w.heap.size w w'))
 case atStart => exact ⟨(0), rfl, H', ⟨Nat.le_refl _⟩, ⟨bu BK173⟩, ⟨bu BK174⟩, ⟨be2 HB GE173 GE174⟩⟩
 case round =>
  clear H'
  try clear c3; try clear c3b0; try clear c3b1; try clear c4; try clear c4b0; try clear c4b1; try clear c7; try clear c7b0; try clear c7b1; try clear c7b2
  obtain ⟨x38_1, rfl, HA, HK1, BK173, BK174, HB⟩ := hrel
  cases gk with
  | zero => exact absurd HA.out (by simp [r04Alike.l0])
  | succ k1 =>
   have H := HA.out; clear HA
   simp only [r04Alike.l0] at H
   by_cases c13 : x38_1 < (l0_3.length : Int)
   ·rw [if_pos c13] at H
    exact absurd H (by simp)
   rw [if_neg c13] at H; have c13b0 : decide (x38_1 < (l0_3.length : Int)) = false := decide_eq_false c13; clear c13; obtain rfl := sI H
   go_wp2
   go_ret
   exact ⟨rfl, be2 HB GE173 GE174⟩
def api_Bit_96.l0 : Nat → List Int → List Int → Int → Int → Option (Bool)
 | 0, _, _, _, _ => none
 | k + 1, x0, x1, x12, x13 => if x13 < x12 then (if 0 ≤ x13 then (if x13 < (x0.length : Int) then (if x13 < (x1.length : Int) then (if (rd x0 x13) = (rd x1 x13) then (api_Bit_96.l0 k x0 x1 x12 (wrap64 (x13 + 1))) else (some false)) else (none)) else (none)) else (none)) else (some true)
def api_Bit_96.f (k : Nat) (l0 : List Int) (l1 : List Int) : Option (Bool) := if (l0.length : Int) = (l1.length : Int) then (api_Bit_96.l0 k l0 l1 (l0.length : Int) 0) else (some false)
theorem api_Bit_96.mono_l : ∀ k, (∀ y0 y1 y2 y3, LeO (api_Bit_96.l0 k y0 y1 y2 y3) (api_Bit_96.l0 (k + 1) y0 y1 y2 y3))
 | 0 => fun _ _ _ _ r h => by simp [api_Bit_96.l0] at h
 | k + 1 => by
  have ih0 := api_Bit_96.mono_l k
  ·intro y0 y1 y2 y3
   unfold api_Bit_96.l0
   repeat' first
   | (with_reducible exact ih0 _ _ _ _)
   | (with_reducible exact LeO.refl _)
   | (with_reducible exact LeO.none _)
   | (with_reducible refine LeO.ite ?_ ?_)
   | (with_reducible refine LeO.bind ?_ (fun _ => ?_))
   | exact ih0 _ _ _ _
   | exact LeO.none _
   | refine LeO.ite ?_ ?_
   | refine LeO.bind ?_ (fun _ => ?_)
theorem api_Bit_96.mono : ∀ a0 a1 k, LeO (api_Bit_96.f k a0 a1) (api_Bit_96.f (k + 1) a0 a1) := by
 intro a0 a1 k
 have ih0 := api_Bit_96.mono_l k
 unfold api_Bit_96.f
 repeat' first
   | (with_reducible exact ih0 _ _ _ _)
   | (with_reducible exact LeO.refl _)
   | (with_reducible exact LeO.none _)
   | (with_reducible refine LeO.ite ?_ ?_)
   | (with_reducible refine LeO.bind ?_ (fun _ => ?_))
   | exact ih0 _ _ _ _
   | exact LeO.none _
   | refine LeO.ite ?_ ?_
   | refine LeO.bind ?_ (fun _ => ?_)
set_option maxHeartbeats 8000000 in
set_option maxRecDepth 100000 in
theorem api_Bit_96.calls (k : Nat) (A0 : Option Addr) (c0 : Nat) (l0 : List Int) (A1 : Option Addr) (c1 : Nat) (l1 : List Int) (r : Bool) (w : World) (hr0 : Kd.C (Kd.int .u8) w A0 l0.length l0) (hc0 : l0.length ≤ c0) (hr1 : Kd.C (Kd.int .u8) w A1 l1.length l1) (hc1 : l1.length ≤ c1) (h : api_Bit_96.f k l0 l1 = some r) :
  Calls Try.prog 96 #[.slice A0 l0.length c0, .slice A1 l1.length c1] w fun e w' => e = .returned (.bool r) ∧ Drawn0 w w' := by
 have HR0 := mk0 hr0; have HC0 := mk0 hc0; clear hr0 hc0; have HR1 := mk0 hr1; have HC1 := mk0 hc1; clear hr1 hc1
 have H : (if (l0.length : Int) = (l1.length : Int) then (api_Bit_96.l0 k l0 l1 (l0.length : Int) 0) else (some false)) = some r := h
 clear h
 replace H := iF' H; obtain ⟨c3, c3b0, c3b1, H⟩ | ⟨c3, c3b0, c3b1, H⟩ := H
 ·have c3b2 : (l0.length == l1.length) = false := by first | simpa using c3 | (simp at c3 ⊢; omega)
  obtain rfl := sI H
  go_enter Try.func96, Try.ntmps96
  go_wp2
  repeat (go_quiet (fail); try go_wp2)
  go_ret
  exact dn
 have c3b2 : (l0.length == l1.length) = true := by first | simpa using c3 | (simp at c3 ⊢; omega)
 clear c3
 have H' := mk0 H
 clear H
 go_enter Try.func96, Try.ntmps96
 go_wp2
 repeat (go_quiet (fail); try go_wp2)
 go_loopg [13] k (fun kq v13 w' => ∃ (x13_1 : Int), v13 = .int .i64 x13_1 ∧ Aside0 (api_Bit_96.l0 kq l0 l1 (l0.length : Int) x13_1 = some r) ∧ Aside0 (kq ≤ k) ∧ Drawn0 w w')
 case atStart => exact ⟨(0), rfl, H', ⟨Nat.le_refl _⟩, dr⟩
 case round =>
  clear H'
  try clear c1; try clear c3; try clear c3b0; try clear c3b1; try clear c3b2
  obtain ⟨x13_1, rfl, HA, HK1, ⟨m1, rfl⟩⟩ := hrel
  cases gk with
  | zero => exact absurd HA.out (by simp [api_Bit_96.l0])
  | succ k1 =>
   have H := HA.out; clear HA
   simp only [api_Bit_96.l0] at H
   replace H := iD' H; obtain ⟨-, c4b0, H⟩ | ⟨-, c4b0, H⟩ := H
   ·obtain rfl := sI H
    go_wp2
    repeat (go_quiet (fail); try go_wp2)
    go_ret
    exact dn
   replace H := iN H; obtain ⟨-, c5b0, H⟩ := H
   replace H := iN H; obtain ⟨-, c6b0, H⟩ := H
   replace H := iN H; obtain ⟨-, c7b0, H⟩ := H
   replace H := iE' H; obtain ⟨c8, c8b0, c8b1, H⟩ | ⟨c8b0, c8b1, H⟩ := H
   ·obtain rfl := sI H
    have p176 : 0 ≤ (x13_1 : Int) := of_decide_eq_true (by assumption)
    have q176 : x13_1 < (l0.length : Int) := of_decide_eq_true (by assumption)
    obtain ⟨ad176, e176, hx176_0⟩ := Kd.at_int HR0.out x13_1 p176 q176
    cases e176; replace p176 := eq_true p176; replace q176 := eq_true q176
    have p177 : 0 ≤ (x13_1 : Int) := of_decide_eq_true (by assumption)
    have q177 : x13_1 < (l1.length : Int) := of_decide_eq_true (by assumption)
    obtain ⟨ad177, e177, hx177_0⟩ := Kd.at_int HR1.out x13_1 p177 q177
    cases e177; replace p177 := eq_true p177; replace q177 := eq_true q177
    go_wp2
    repeat (go_quiet (fail); try go_wp2)
    go_ret
    exact dn
   have H' := mk0 H
   clear H
   have p176 : 0 ≤ (x13_1 : Int) := of_decide_eq_true (by assumption)
   have q176 : x13_1 < (l0.length : Int) := of_decide_eq_true (by assumption)
   obtain ⟨ad176, e176, hx176_0⟩ := Kd.at_int HR0.out x13_1 p176 q176
   cases e176; replace p176 := eq_true p176; replace q176 := eq_true q176
   have p177 : 0 ≤ (x13_1 : Int) := of_decide_eq_true (by assumption)
   have q177 : x13_1 < (l1.length : Int) := of_decide_eq_true (by assumption)
   obtain ⟨ad177, e177, hx177_0⟩ := Kd.at_int HR1.out x13_1 p177 q177
   cases e177; replace p177 := eq_true p177; replace q177 := eq_true q177
   go_wp2
   repeat (go_quiet (fail); try go_wp2)
   go_roundg k1
   case measure => have := HK1.out; omega
   case rel => exact ⟨(wrap64 (x13_1 + 1)), rfl, H', ⟨by have := HK1.out; omega⟩, dr⟩
def types_equal.f : Nat → Int → Int → List Int → List (S30) → Int → Int → List Int → List (S30) → Option (Bool)
 | 0, _, _, _, _, _, _, _, _ => none
 | k + 1, a0_0, a0_1, l0_2, l0_3, a1_0, a1_1, l1_2, l1_3 => if a0_1 = a1_1 then ((api_Bit_96.f k l0_2 l1_2).bind fun t180 => (if t180 = true then (none) else (some false))) else (none)
theorem types_equal.mono_l : ∀ k, (∀ y0 y1 y2 y3 y4 y5 y6 y7, LeO (types_equal.f k y0 y1 y2 y3 y4 y5 y6 y7) (types_equal.f (k + 1) y0 y1 y2 y3 y4 y5 y6 y7))
 | 0 => fun _ _ _ _ _ _ _ _ r h => by simp [types_equal.f] at h
 | k + 1 => by
  have ih0 := types_equal.mono_l k
  ·intro y0 y1 y2 y3 y4 y5 y6 y7
   unfold types_equal.f
   repeat' first
   | (with_reducible exact ih0 _ _ _ _ _ _ _ _)
   | (with_reducible exact api_Bit_96.mono _ _ _)
   | (with_reducible exact LeO.refl _)
   | (with_reducible exact LeO.none _)
   | (with_reducible refine LeO.ite ?_ ?_)
   | (with_reducible refine LeO.bind ?_ (fun _ => ?_))
   | exact ih0 _ _ _ _ _ _ _ _
   | exact api_Bit_96.mono _ _ _
   | exact LeO.none _
   | refine LeO.ite ?_ ?_
   | refine LeO.bind ?_ (fun _ => ?_)
theorem types_equal.mono : ∀ a0 a1 a2 a3 a4 a5 a6 a7 k, LeO (types_equal.f k a0 a1 a2 a3 a4 a5 a6 a7) (types_equal.f (k + 1) a0 a1 a2 a3 a4 a5 a6 a7) := by
 intro a0 a1 a2 a3 a4 a5 a6 a7 k
 have ih0 := types_equal.mono_l k
 exact ih0 a0 a1 a2 a3 a4 a5 a6 a7
set_option maxHeartbeats 8000000 in
set_option maxRecDepth 100000 in
theorem types_equal.calls (k : Nat) : ∀ (a0_0 : Int) (a0_1 : Int) (A0_2 : Option Addr) (c0_2 : Nat) (l0_2 : List Int) (A0_3 : Option Addr) (c0_3 : Nat) (l0_3 : List (S30)) (a1_0 : Int) (a1_1 : Int) (A1_2 : Option Addr) (c1_2 : Nat) (l1_2 : List Int) (A1_3 : Option Addr) (c1_3 : Nat) (l1_3 : List (S30)) (r : Bool) (w : World) (hr0_2 : Kd.C (Kd.int .u8) w A0_2 l0_2.length l0_2) (hc0_2 : l0_2.length ≤ c0_2) (hr0_3 : Kd.C k30 w A0_3 l0_3.length l0_3) (hc0_3 : l0_3.length ≤ c0_3) (hr1_2 : Kd.C (Kd.int .u8) w A1_2 l1_2.length l1_2) (hc1_2 : l1_2.length ≤ c1_2) (hr1_3 : Kd.C k30 w A1_3 l1_3.length l1_3) (hc1_3 : l1_3.length ≤ c1_3) (h : types_equal.f k a0_0 a0_1 l0_2 l0_3 a1_0 a1_1 l1_2 l1_3 = some r),
  Calls Try.prog 84 #[.agg #[.int .i64 a0_0, .int .i64 a0_1, .slice A0_2 l0_2.length c0_2, .slice A0_3 l0_3.length c0_3], .agg #[.int .i64 a1_0, .int .i64 a1_1, .slice A1_2 l1_2.length c1_2, .slice A1_3 l1_3.length c1_3]] w fun e w' => e = .returned (.bool r) ∧ Below w.heap.size w w' := by
 induction k using Nat.strongRecOn with
 | _ k ih =>
 intro a0_0 a0_1 A0_2 c0_2 l0_2 A0_3 c0_3 l0_3 a1_0 a1_1 A1_2 c1_2 l1_2 A1_3 c1_3 l1_3 r w hr0_2 hc0_2 hr0_3 hc0_3 hr1_2 hc1_2 hr1_3 hc1_3 h
 cases k with
 | zero => exact absurd h (by simp [types_equal.f])
 | succ k =>
 simp only [types_equal.f] at h
 have hu30 := Try.underlying30
 have HR0_2 := mk0 hr0_2; have HC0_2 := mk0 hc0_2; clear hr0_2 hc0_2; have HR0_3 := mk0 hr0_3; have HC0_3 := mk0 hc0_3; clear hr0_3 hc0_3; have HR1_2 := mk0 hr1_2; have HC1_2 := mk0 hc1_2; clear hr1_2 hc1_2; have HR1_3 := mk0 hr1_3; have HC1_3 := mk0 hc1_3; clear hr1_3 hc1_3
 have HB := mk0 (Below.refl w.heap.size w)
 have H : (if a0_1 = a1_1 then ((api_Bit_96.f k l0_2 l1_2).bind fun t180 => (if t180 = true then (none) else (some false))) else (none)) = some r := h
 clear h
 by_cases c3 : a0_1 = a1_1
 rotate_left
 ·rw [if_neg c3] at H
  exact absurd H (by simp)
 rw [if_pos c3] at H
 have c3b0 : (a0_1 == a1_1) = true := beq_iff_eq.mpr c3
 have c3b1 : (a0_1 != a1_1) = false := bne_eq_false_iff_eq.mpr c3
 clear c3
 replace H := bS H; obtain ⟨t180, A4, H⟩ := H
 replace H := iB H; obtain ⟨rfl, H⟩ | ⟨rfl, H⟩ := H
 ·exact absurd H (by simp)
 obtain rfl := sI H
 go_enter Try.func84, Try.ntmps84
 go_wp2_with (first | ((with_reducible refine box_event rfl (N := 2) rfl (cs := #[.int .i64 a0_0, .int .i64 a0_1, .slice A0_2 l0_2.length c0_2, .slice A0_3 l0_3.length c0_3]) (t := 30) ?hr ?_); (case hr => first | (go_simp; done) | (go_simp; rfl)); intro gb178 hg w6 hbox hb; have BK178 := mk0 (hbox); have GE178 := bs (be HB) hg; replace HB := kh HB hb; clear hb hbox hg) | ((with_reducible refine box_event rfl (N := 3) rfl (cs := #[.int .i64 a1_0, .int .i64 a1_1, .slice A1_2 l1_2.length c1_2, .slice A1_3 l1_3.length c1_3]) (t := 30) ?hr ?_); (case hr => first | (go_simp; done) | (go_simp; rfl)); intro gb179 hg w7 hbox hb; have BK179 := mk0 (hbox); have GE179 := bs (be1 HB GE178) hg; replace HB := kh1 HB GE178 hb; have NB178_179 := nb1 (bu BK178) hg; have NB179_178 := nb2 (bu BK178) hg; replace BK178 := kb BK178 hb; clear hb hbox hg; have hnb8 := NB178_179.out; have hnc8 := NB179_178.out; have z9 := cells4 BK178.out; have z10 := cells4 BK179.out) | (go_at_call 96; refine (api_Bit_96.calls k _ _ l0_2 _ _ l1_2 false _ (cu HR0_2 HB) HC0_2.out (cu HR1_2 HB) HC1_2.out A4.out).mono ?_; rintro e w' ⟨rfl, ⟨nd, rfl⟩⟩))
 go_ret
 exact ⟨rfl, be2 HB GE178 GE179⟩
end Go.Proofs.Ytojankgmedccdaa.PAw
