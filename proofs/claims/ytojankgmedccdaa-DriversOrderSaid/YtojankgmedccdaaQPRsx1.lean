/- Part of the proof of LawDriversOrder: every definition and lemma is one that it names. -/
import Derived.Test.YtojankgmedccdaaQPRsx0
namespace Go.Proofs.Ytojankgmedccdaa.PRs
open Go.RowKit Own PTy Hand PIs PAw YtojankgmedccdaaW.PrintWords YtojankgmedccdaaW.PrintLast YtojankgmedccdaaW.PrintMore
attribute [local go_sem] max2_int min2_int max_two min_two max_three min_three max_four min_four
set_option linter.unusedVariables false
set_option linter.unusedSimpArgs false
mutual
def drivers_Resolve.j0 : Nat → List (S30) → Bool → Int → Int → ByteArray → List ByteArray → List (S26) → Option (Int × Int × List Int × (List (S30)) × Int)
 | 0, _, _, _, _, _, _, _ => none
 | k + 1, x1, x18, x107000, x107001, x107002, x107003, x107004 => if x18 = true then (some (0, 0, ([] : List Int), ([] : List (S30)), 2)) else (if 0 ≤ (x1.length : Int) then (if ((x1.length : Int) : Int).toNat ≤ 281474976710656 then (drivers_Resolve.l0 k x1 (([] : List Int)) x1 (x1.length : Int) 0 x107000 x107001 x107002 x107003 x107004) else (none)) else (none))
def drivers_Resolve.l0 : Nat → List (S30) → List Int → List (S30) → Int → Int → Int → Int → ByteArray → List ByteArray → List (S26) → Option (Int × Int × List Int × (List (S30)) × Int)
 | 0, _, _, _, _, _, _, _, _, _, _ => none
 | k + 1, x1, x6, x23, x24, x25, x107000, x107001, x107002, x107003, x107004 => if x25 < x24 then (if 0 ≤ x25 then (if x25 < (x23.length : Int) then ((types_Has.f k x107000 x107001 x107002 x107003 x107004 ((rd_T30 x23 x25).f0) ((rd_T30 x23 x25).f1) ((rd_T30 x23 x25).f2) ((rd_T30 x23 x25).f3)).bind fun t114 => (if t114 = true then (if x6.length + ((rd_T30 x23 x25).f2).length < 140737488355328 then (drivers_Resolve.l0 k x1 (x6 ++ ((rd_T30 x23 x25).f2)) x23 x24 (wrap64 (x25 + 1)) x107000 x107001 x107002 x107003 x107004) else (none)) else (some (0, 0, ([] : List Int), ([] : List (S30)), 2)))) else (none)) else (none)) else (if (x1.length : Int) = 1 then (if 0 < (x1.length : Int) then ((drivers_copied.f ((rd_T30 x1 0).f0) ((rd_T30 x1 0).f1) ((rd_T30 x1 0).f2) ((rd_T30 x1 0).f3)).bind fun bt119 => (some (bt119.1, bt119.2.1, bt119.2.2.1, bt119.2.2.2, 0))) else (none)) else (if x107000 = 1 then ((logic_Resolve.f k x6).bind fun bt127 => (some (1, 0, (([bt127.1] : List Int)), ([] : List (S30)), bt127.2))) else (some (0, 0, ([] : List Int), ([] : List (S30)), 22))))
end
def drivers_Resolve.f (k : Nat) (a0_0 : Int) (a0_1 : Int) (a0_2 : ByteArray) (l0_3 : List ByteArray) (l0_4 : List (S26)) (l1 : List (S30)) : Option (Int × Int × List Int × (List (S30)) × Int) := (drivers_Scalar.f k a0_0 a0_1 a0_2 l0_3 l0_4).bind fun t108 => (if t108 = true then (drivers_Resolve.j0 k l1 ((l1.length : Int) == 0) a0_0 a0_1 a0_2 l0_3 l0_4) else (drivers_Resolve.j0 k l1 true a0_0 a0_1 a0_2 l0_3 l0_4))
theorem drivers_Resolve.mono_l : ∀ k, (∀ y0 y1 y2 y3 y4 y5 y6, LeO (drivers_Resolve.j0 k y0 y1 y2 y3 y4 y5 y6) (drivers_Resolve.j0 (k + 1) y0 y1 y2 y3 y4 y5 y6)) ∧ (∀ y0 y1 y2 y3 y4 y5 y6 y7 y8 y9, LeO (drivers_Resolve.l0 k y0 y1 y2 y3 y4 y5 y6 y7 y8 y9) (drivers_Resolve.l0 (k + 1) y0 y1 y2 y3 y4 y5 y6 y7 y8 y9))
 | 0 => ⟨fun _ _ _ _ _ _ _ r h => by simp [drivers_Resolve.j0] at h, fun _ _ _ _ _ _ _ _ _ _ r h => by simp [drivers_Resolve.l0] at h⟩
 | k + 1 => by
  obtain ⟨ih0, ih1⟩ := drivers_Resolve.mono_l k
  refine ⟨?_, ?_⟩ <;> intros <;> (first | unfold drivers_Resolve.j0 | unfold drivers_Resolve.l0) <;> repeat' first | (with_reducible first | apply ih0 | apply ih1 | apply drivers_Scalar.mono | apply logic_Resolve.mono | apply types_Has.mono | apply LeO.refl | apply LeO.none | refine LeO.ite ?_ ?_ | refine LeO.bind ?_ (fun _ => ?_)) | apply ih0 | apply ih1 | apply drivers_Scalar.mono | apply logic_Resolve.mono | apply types_Has.mono | apply LeO.none | refine LeO.ite ?_ ?_ | refine LeO.bind ?_ (fun _ => ?_)
theorem drivers_Resolve.mono : ∀ a0 a1 a2 a3 a4 a5 k, LeO (drivers_Resolve.f k a0 a1 a2 a3 a4 a5) (drivers_Resolve.f (k + 1) a0 a1 a2 a3 a4 a5) := by
 intro a0 a1 a2 a3 a4 a5 k
 obtain ⟨ih0, ih1⟩ := drivers_Resolve.mono_l k
 unfold drivers_Resolve.f
 repeat' first
   | (with_reducible exact ih0 _ _ _ _ _ _ _)
   | (with_reducible exact ih1 _ _ _ _ _ _ _ _ _ _)
   | (with_reducible exact drivers_Scalar.mono _ _ _ _ _ _)
   | (with_reducible exact logic_Resolve.mono _ _)
   | (with_reducible exact types_Has.mono _ _ _ _ _ _ _ _ _ _)
   | (with_reducible exact LeO.refl _)
   | (with_reducible exact LeO.none _)
   | (with_reducible refine LeO.ite ?_ ?_)
   | (with_reducible refine LeO.bind ?_ (fun _ => ?_))
   | exact ih0 _ _ _ _ _ _ _
   | exact ih1 _ _ _ _ _ _ _ _ _ _
   | exact drivers_Scalar.mono _ _ _ _ _ _
   | exact logic_Resolve.mono _ _
   | exact types_Has.mono _ _ _ _ _ _ _ _ _ _
   | exact LeO.none _
   | refine LeO.ite ?_ ?_
   | refine LeO.bind ?_ (fun _ => ?_)
set_option maxHeartbeats 8000000 in
set_option maxRecDepth 100000 in
theorem drivers_Resolve.calls (k : Nat) (a0_0 : Int) (a0_1 : Int) (a0_2 : ByteArray) (A0_3 : Option Addr) (c0_3 : Nat) (l0_3 : List ByteArray) (A0_4 : Option Addr) (c0_4 : Nat) (l0_4 : List (S26)) (P1_ : Nat → Prop) (A1 : Option Addr) (c1 : Nat) (l1 : List (S30)) (r1 : Int) (r2 : Int) (r3 : List Int) (r4 : List (S30)) (r5 : Int) (w : World) (hG : Glob w) (hr0_3 : Kd.C Kd.string w A0_3 l0_3.length l0_3) (hc0_3 : l0_3.length ≤ c0_3) (hr0_4 : Kd.C k26 w A0_4 l0_4.length l0_4) (hc0_4 : l0_4.length ≤ c0_4) (hs1 : Kd.V k30 30 w w.heap.size (fun k_ => P1_ k_) (.slice A1 l1.length c1) l1) (h : drivers_Resolve.f k a0_0 a0_1 a0_2 l0_3 l0_4 l1 = some (r1, r2, r3, r4, r5)) :
  Calls Try.prog 30 #[.agg #[.int .i64 a0_0, .int .i64 a0_1, .string a0_2, .slice A0_3 l0_3.length c0_3, .slice A0_4 l0_4.length c0_4], .slice A1 l1.length c1] w fun e w' => ∃ v2_ v3_ : Value, e = .returned (.tuple #[.agg #[.int .i64 r1, .int .i64 r2, v2_, v3_], .int .i64 r5]) ∧ Kd.R (Kd.int .u8) 73 w' w.heap.size (fun k_ => (w.heap.size ≤ k_)) v2_ r3 ∧ Kd.V k30 30 w' w.heap.size (fun k_ => (P1_ k_ ∨ w.heap.size ≤ k_) ∧ some k_ ≠ (v2_ : Value).ownBlock) v3_ r4 ∧ Below w.heap.size w w' := by
 have HG := mk0 hG; clear hG
 have hu26 := Try.underlying26
 have hu30 := Try.underlying30
 have HR0_3 := mk0 hr0_3; have HC0_3 := mk0 hc0_3; clear hr0_3 hc0_3; have HR0_4 := mk0 hr0_4; have HC0_4 := mk0 hc0_4; clear hr0_4 hc0_4
 have HO1 := mk0 (show Kd.V k30 30 w w.heap.size (fun k_ => (P1_ k_ ∨ w.heap.size ≤ k_)) (.slice A1 l1.length c1) l1 from Kd.V_mono hs1 (fun k_ hk => .inl hk))
 have HB := mk0 (Below.refl w.heap.size w)
 have H := h; unfold drivers_Resolve.f at H
 clear h; have HC3 := mk0 H; clear H
 go_enter Try.func30, Try.ntmps30
 go_upto_region 1 with (first | ((with_reducible refine box_event rfl (N := 2) rfl (cs := #[.int .i64 a0_0, .int .i64 a0_1, .string a0_2, .slice A0_3 l0_3.length c0_3, .slice A0_4 l0_4.length c0_4]) (t := 26) ?hr ?_); (case hr => first | (go_simp; done) | (go_simp; rfl)); intro gb106 hg w4 hbox hb; replace HO1 := vB HO1 hg hb; have BK106 := mk0 (hbox); have GE106 := bs (be HB) hg; replace HB := kh HB hb; clear hb hbox hg) | ((with_reducible refine box_event rfl (N := 4) rfl (cs := #[.int .i64 0, .int .i64 0, .slice none 0 0, .slice none 0 0]) (t := 30) ?hr ?_); (case hr => first | (go_simp; done) | (go_simp; rfl)); intro gb107 hg w5 hbox hb; replace HO1 := vB HO1 hg hb; have BK107 := mk0 (hbox); have GE107 := bs (be1 HB GE106) hg; replace HB := kh1 HB GE106 hb; have NB106_107 := nb1 (bu BK106) hg; have NB107_106 := nb2 (bu BK106) hg; replace BK106 := kb BK106 hb; clear hb hbox hg))
 (try simp only [Act.put, List.setIfInBounds_toArray, List.set_cons_zero, List.set_cons_succ])
 go_cut [18] (fun v18 wc => ∃ (kq : Nat) (x18_2 : Bool), v18 = .bool x18_2 ∧ Aside0 (drivers_Resolve.j0 kq l1 x18_2 a0_0 a0_1 a0_2 l0_3 l0_4 = some (r1, r2, r3, r4, r5)) ∧ Aside0 (kq ≤ k) ∧ Aside0 (Kd.V k30 30 wc w.heap.size (fun k_ => (P1_ k_ ∨ w.heap.size ≤ k_) ∧ k_ ≠ gb106 ∧ k_ ≠ gb107) (.slice A1 l1.length c1) l1) ∧ Aside0 (wc.heap[gb106]? = some (.cells #[.int .i64 a0_0, .int .i64 a0_1, .string a0_2, (.slice A0_3 l0_3.length c0_3), (.slice A0_4 l0_4.length c0_4)] 26 (0, 0))) ∧ Aside0 (wc.heap[gb107]? = some (.cells #[.int .i64 0, .int .i64 0, (.slice none 0 0), (.slice none 0 0)] 30 (0, 0))) ∧ Aside0 (Below w.heap.size w wc))
 case first =>
  have H := HC3.out; clear HC3
  replace H := bS H; obtain ⟨t108, A6, H⟩ := H
  replace H := iB H; obtain ⟨rfl, H⟩ | ⟨rfl, H⟩ := H
  ·have H' := mk0 H
   clear H; have hnb8 := NB106_107.out; have hnc8 := NB107_106.out
   have zc9 := cells5 BK106.out
   go_wp2_with ((with_reducible refine gate_callee (f := 17) rfl ?_); refine goB (some 12) rfl rfl Try.func17 (by kernel_rfl) rfl #[.agg #[.int .i64 a0_0, .int .i64 a0_1, .string a0_2, .slice A0_3 l0_3.length c0_3, .slice A0_4 l0_4.length c0_4]] rfl rfl (drivers_Scalar.calls k a0_0 a0_1 a0_2 _ _ l0_3 _ _ l0_4 true _ (glob_below HG.out (be2 HB GE106 GE107)) (cu HR0_3 HB) HC0_3.out (cu HR0_4 HB) HC0_4.out A6.out) ?_; intro w10 hb; replace HO1 := vb HO1 hb; replace BK106 := kb BK106 hb; replace BK107 := kb BK107 hb; replace HB := kh2 HB GE106 GE107 hb)
   go_meet
   case rel => exact ⟨_, (((l1.length : Int) == 0)), rfl, H', ⟨by omega⟩, ⟨by exact V_pl (Kd.V_mono HO1.out (fun _ hk => ⟨hk.1.1, ⟨hk.1.2, hk.2⟩⟩))⟩, ⟨bu BK106⟩, ⟨bu BK107⟩, ⟨be2 HB GE106 GE107⟩⟩
  have H' := mk0 H
  clear H; have hnb11 := NB106_107.out; have hnc11 := NB107_106.out
  have zc12 := cells5 BK106.out
  go_wp2_with ((with_reducible refine gate_callee (f := 17) rfl ?_); refine goB (some 12) rfl rfl Try.func17 (by kernel_rfl) rfl #[.agg #[.int .i64 a0_0, .int .i64 a0_1, .string a0_2, .slice A0_3 l0_3.length c0_3, .slice A0_4 l0_4.length c0_4]] rfl rfl (drivers_Scalar.calls k a0_0 a0_1 a0_2 _ _ l0_3 _ _ l0_4 false _ (glob_below HG.out (be2 HB GE106 GE107)) (cu HR0_3 HB) HC0_3.out (cu HR0_4 HB) HC0_4.out A6.out) ?_; intro w13 hb; replace HO1 := vb HO1 hb; replace BK106 := kb BK106 hb; replace BK107 := kb BK107 hb; replace HB := kh2 HB GE106 GE107 hb)
  go_meet
  case rel => exact ⟨_, (true), rfl, H', ⟨by omega⟩, ⟨by exact V_pl (Kd.V_mono HO1.out (fun _ hk => ⟨hk.1.1, ⟨hk.1.2, hk.2⟩⟩))⟩, ⟨bu BK106⟩, ⟨bu BK107⟩, ⟨be2 HB GE106 GE107⟩⟩
 case rest =>
  clear HC3; try clear c1
  obtain ⟨kq, x18_2, rfl, HA, HJ2, HO_1, BK106, BK107, HB⟩ := hcut
  cases kq with
  | zero => exact absurd HA.out (by simp [drivers_Resolve.j0])
  | succ kj2 =>
   have H := HA.out; clear HA
   simp only [drivers_Resolve.j0] at H
   replace H := iB H; obtain ⟨rfl, H⟩ | ⟨rfl, H⟩ := H
   ·simp only [Option.some.injEq, Prod.mk.injEq] at H
    obtain ⟨rfl, rfl, rfl, rfl, rfl⟩ := H
    have hnb15 := NB107_106.out; have hnc15 := NB106_107.out
    have zc16 := cells4 BK107.out
    go_wp2
    refine bodyPost_ret (results_ct rfl _ _ gb107 30 #[.int .i64 0, .int .i64 0, .slice none 0 0, .slice none 0 0] (0, 0) _ rfl (pB BK107) Try.underlying30 rfl (by kernel_rfl)) rfl ?_
    exact ⟨_, _, rfl, by first | exact Kd.R_nil _ _ _ _ _ | exact Kd.N_nil _ _ _ _ _ | exact Kd.V_nil _ _ _ _ _ | exact Kd.Q_nil _ _ _ _ _ | exact Kd.S_nil _ _ _ _ _, Kd.V_nil _ _ _ _ _, be2 HB GE106 GE107⟩
   by_cases c17 : 0 ≤ (l1.length : Int)
   rotate_left
   ·rw [if_neg c17] at H
    exact absurd H (by simp)
   rw [if_pos c17] at H; have c17b0 := eq_true c17; have c17b1 : decide (0 ≤ (l1.length : Int)) = true := decide_eq_true c17; clear c17
   by_cases c18 : ((l1.length : Int) : Int).toNat ≤ 281474976710656
   rotate_left
   ·rw [if_neg c18] at H
    exact absurd H (by simp)
   rw [if_pos c18] at H; have c18b0 := eq_true c18; have c18b1 : decide (((l1.length : Int) : Int).toNat ≤ 281474976710656) = true := decide_eq_true c18; clear c18
   obtain ⟨y109, hy109⟩ : ∃ y_ : List Int, y_ = (([] : List Int)) := ⟨_, rfl⟩
   replace H : (drivers_Resolve.l0 kj2 l1 y109 l1 (l1.length : Int) 0 a0_0 a0_1 a0_2 l0_3 l0_4) = some (r1, r2, r3, r4, r5) := by first | (rw [hy109]; with_reducible exact H) | (have H2_ := (Option.bind_some _ _).symm.trans H; rw [hy109]; with_reducible exact H2_) | (have H2_ := (Option.bind_some _ _).symm.trans H; with_reducible exact H2_) | with_reducible exact H | (rw [hy109]; exact H) | exact H
   have Ny109 := mk0 hy109; clear hy109
   have H' := mk0 H
   clear H
   go_wp2_with ((with_reducible refine gate_dst (N := 22) rfl ?_); (try (refine gate_guard (by rfl) ?_; dsimp only)); refine Kd.R_make0 (Kd.int .u8) _ 73 rfl (N := 22) rfl 27 _ _ rfl (l1.length : Int) rfl rfl Try.underlying27 (.int .u8 0) 1 info73 rfl (by decide) (by omega) 0 (ok := fun _ => True) (okp := fun _ => True) rfl (fun _ hk => hk) trivial (of_decide_eq_true (by assumption)) (Nat.le_trans (Nat.mul_le_mul_right _ (of_decide_eq_true (by assumption) : (l1.length : Int).toNat ≤ 281474976710656)) (by omega)) (Below.refl _ _) (Nat.le_refl _) ?_; intro v110 w19 ho20 hb hg_ hnew_; clear hg_ hnew_; (first | rw [← Ny109.out] at ho20 | (simp only [Int.reduceToNat] at ho20; rw [← Ny109.out] at ho20)); replace HO_1 := mk0 (Kd.V_elder' (V_up HO_1.out) (Kd.R_base ho20) hb); have HO111 := mk0 (Kd.R_lower (Kd.R_newM (M := fun k_ => (w.heap.size ≤ k_)) ho20 (below_size (be2 HB GE106 GE107)) (fun k_ h_ => h_)) (below_size (be2 HB GE106 GE107))); replace BK106 := kb BK106 hb; replace BK107 := kb BK107 hb; replace HB := kh2 HB GE106 GE107 hb; clear hb ho20)
   go_loopg [6, 25] kj2 (fun kq v6 v25 w' => ∃ (x6_2 : List Int) (x25_2 : Int) (x108000_2 : Int) (x108001_2 : Int), v25 = .int .i64 x25_2 ∧ Aside0 (drivers_Resolve.l0 kq l1 x6_2 l1 (l1.length : Int) x25_2 a0_0 a0_1 a0_2 l0_3 l0_4 = some (r1, r2, r3, r4, r5)) ∧ Aside0 (kq ≤ kj2) ∧ Aside0 (Kd.V k30 30 w' w.heap.size (fun k_ => (P1_ k_ ∨ w.heap.size ≤ k_) ∧ some k_ ≠ (v6 : Value).ownBlock ∧ k_ ≠ gb106 ∧ k_ ≠ gb107) (.slice A1 l1.length c1) l1) ∧ Aside0 (Kd.R (Kd.int .u8) 73 w' w.heap.size (fun k_ => (w.heap.size ≤ k_)) v6 x6_2) ∧ Aside0 (Kd.V k30 30 w' w.heap.size (fun k_ => (P1_ k_ ∨ w.heap.size ≤ k_) ∧ some k_ ≠ (v6 : Value).ownBlock ∧ k_ ≠ gb106 ∧ k_ ≠ gb107) (.slice A1 l1.length c1) l1) ∧ Aside0 (w'.heap[gb106]? = some (.cells #[.int .i64 a0_0, .int .i64 a0_1, .string a0_2, (.slice A0_3 l0_3.length c0_3), (.slice A0_4 l0_4.length c0_4)] 26 (0, 0))) ∧ Aside0 (w'.heap[gb107]? = some (.cells #[.int .i64 x108000_2, .int .i64 x108001_2, (.slice none 0 0), (.slice none 0 0)] 30 (0, 0))) ∧ Aside0 (Below w.heap.size w w'))
   case atStart => exact ⟨(y109), (0), (0), (0), rfl, H', ⟨Nat.le_refl _⟩, ⟨by exact V_pl (Kd.V_mono HO_1.out (fun _ hk => ⟨hk.1.1, ⟨hk.2, ⟨hk.1.2.1, hk.1.2.2⟩⟩⟩))⟩, ⟨by exact R_pl (Kd.R_mono HO111.out (fun _ hk => hk.1))⟩, ⟨by exact V_pl (Kd.V_mono HO_1.out (fun _ hk => ⟨hk.1.1, ⟨hk.2, ⟨hk.1.2.1, hk.1.2.2⟩⟩⟩))⟩, ⟨bu BK106⟩, ⟨bu BK107⟩, ⟨be2 HB GE106 GE107⟩⟩
   case round =>
    clear H'
    try clear c1; try clear c17; try clear c17b0; try clear c17b1; try clear c18; try clear c18b0; try clear c18b1
    obtain ⟨x6_2, x25_2, x108000_2, x108001_2, rfl, HA, HK2, HO_1, HO_6, HO_23, BK106, BK107, HB⟩ := hrel
    cases gk with
    | zero => exact absurd HA.out (by simp [drivers_Resolve.l0])
    | succ k2 =>
     have H := HA.out; clear HA
     simp only [drivers_Resolve.l0] at H
     replace H := iD' H; obtain ⟨-, c21b0, H⟩ | ⟨-, c21b0, H⟩ := H
     ·replace H := iE' H; obtain ⟨c44, c44b0, c44b1, H⟩ | ⟨c44b0, c44b1, H⟩ := H
      ·replace H := iE' H; obtain ⟨c52, c52b0, c52b1, H⟩ | ⟨c52b0, c52b1, H⟩ := H
       ·simp only [Option.some.injEq, Prod.mk.injEq] at H
        obtain ⟨rfl, rfl, rfl, rfl, rfl⟩ := H
        have hnb61 := NB106_107.out; have hnc61 := NB107_106.out
        have zc62 := cells5 BK106.out
        have zc63 := cells4 BK107.out
        go_wp2
        refine bodyPost_ret (results_ct rfl _ _ gb107 30 #[.int .i64 0, .int .i64 0, .slice none 0 0, .slice none 0 0] (0, 0) _ rfl (pB BK107) Try.underlying30 rfl (by kernel_rfl)) rfl ?_
        exact ⟨_, _, rfl, by first | exact Kd.R_nil _ _ _ _ _ | exact Kd.N_nil _ _ _ _ _ | exact Kd.V_nil _ _ _ _ _ | exact Kd.Q_nil _ _ _ _ _ | exact Kd.S_nil _ _ _ _ _, Kd.V_nil _ _ _ _ _, be2 HB GE106 GE107⟩
       replace H := Option.bind_eq_some_iff.mp H
       obtain ⟨⟨t127, t128⟩, A530, H⟩ := H
       replace H : (some (1, 0, (([t127] : List Int)), ([] : List (S30)), t128)) = some (r1, r2, r3, r4, r5) := H
       have A53 := mk0 A530; clear A530
       obtain ⟨y129, hy129⟩ : ∃ y_ : List Int, y_ = (([t127] : List Int)) := ⟨_, rfl⟩
       replace H : (some (1, 0, y129, ([] : List (S30)), t128)) = some (r1, r2, r3, r4, r5) := by first | (rw [hy129]; with_reducible exact H) | (have H2_ := (Option.bind_some _ _).symm.trans H; rw [hy129]; with_reducible exact H2_) | (have H2_ := (Option.bind_some _ _).symm.trans H; with_reducible exact H2_) | with_reducible exact H | (rw [hy129]; exact H) | exact H
       have Ny129 := mk0 hy129; clear hy129
       simp only [Option.some.injEq, Prod.mk.injEq] at H
       obtain ⟨rfl, rfl, rfl, rfl, rfl⟩ := H
       have hnb54 := NB106_107.out; have hnc54 := NB107_106.out
       have zc55 := cells5 BK106.out
       obtain ⟨Ao56, co56, eo56⟩ := Kd.R_slice HO_6.out
       subst eo56
       go_wp2_with (first | ((with_reducible refine gate_callee (f := 53) rfl ?_); refine goesL_ (some 52) rfl rfl Try.func53 (by kernel_rfl) rfl #[.slice Ao56 x6_2.length co56] rfl (by (try simp only [List.map_toArray, List.map_cons, List.map_nil]); first | done | rfl | (simp only [List.length_drop, List.length_take]; rfl)) ?_; (with_reducible refine (logic_Resolve.calls k2 _ _ x6_2 t127 t128 _ ?side1 ?side2 A53.out).mono ?_); (case side1 => repeat (first | exact (Kd.R_reads' HO_6.out).2.2 | (with_reducible refine Kd.C_alloc ?_ _) | (with_reducible refine Kd.C_drewN ?_ _) | (with_reducible refine Kd.C_drew ?_))); (case side2 => exact (Kd.R_reads' HO_6.out).2.1); rintro e w' ⟨rfl, ⟨nd, rfl⟩⟩; refine ⟨_, rfl, ?_⟩; (try (rw [drewN_self wr]; generalize hq_ : World.drewN wr _ = wr; have n0_ : Aside0 (Kd.V k30 30 wr w.heap.size (fun k_ => (P1_ k_ ∨ w.heap.size ≤ k_) ∧ some k_ ≠ (.slice Ao56 x6_2.length co56 : Value).ownBlock ∧ k_ ≠ gb106 ∧ k_ ≠ gb107) (.slice A1 l1.length c1) l1) := ⟨by rw [← hq_]; exact (V_up HO_1.out)⟩; have n1_ : Aside0 (Kd.V k30 30 wr w.heap.size (fun k_ => (P1_ k_ ∨ w.heap.size ≤ k_) ∧ some k_ ≠ (.slice Ao56 x6_2.length co56 : Value).ownBlock ∧ k_ ≠ gb106 ∧ k_ ≠ gb107) (.slice A1 l1.length c1) l1) := ⟨by rw [← hq_]; exact (V_up HO_23.out)⟩; have n2_ : Aside0 (Kd.R (Kd.int .u8) 73 wr w.heap.size (fun k_ => (w.heap.size ≤ k_)) (.slice Ao56 x6_2.length co56) x6_2) := ⟨by rw [← hq_]; exact (R_up HO_6.out)⟩; have n3_ : Aside0 (wr.heap[gb106]? = some (.cells #[.int .i64 a0_0, .int .i64 a0_1, .string a0_2, .slice A0_3 l0_3.length c0_3, .slice A0_4 l0_4.length c0_4] 26 (0, 0))) := ⟨by rw [← hq_]; exact (blk_up BK106.out)⟩; have n4_ : Aside0 (wr.heap[gb107]? = some (.cells #[.int .i64 x108000_2, .int .i64 x108001_2, .slice none 0 0, .slice none 0 0] 30 (0, 0))) := ⟨by rw [← hq_]; exact (blk_up BK107.out)⟩; have n5_ : Aside0 (Below w.heap.size w wr) := ⟨by rw [← hq_]; exact (be2 HB GE106 GE107)⟩; clear HO_1 HO_23 HO_6 BK106 BK107 HB hq_; have HO_1 := n0_; have HO_23 := n1_; have HO_6 := n2_; have BK106 := n3_; have BK107 := n4_; have HB := n5_; clear n0_ n1_ n2_ n3_ n4_ n5_))) | ((with_reducible refine gate_dst (N := 56) rfl ?_); (try (refine gate_guard (by rfl) ?_; dsimp only)); refine Kd.R_lit (Kd.int .u8) _ 73 ?hg (N := 56) ?hd (xs := ([t127] : List Int)) (inner := [.int .u8 t127]) (ok := fun _ => True) (okp := fun _ => True) ?hr ?hp (fun _ hk => hk) trivial (Below.refl _ _) (Nat.le_refl _) (by simp) ?_; (case hd => rfl); (case hg => rfl); (case hr => first | (go_simp; done) | (go_simp; rfl)); (case hp => exact (Reps.one (show Kd.M (Kd.int .u8) _ _ _ t127 [.int .u8 t127] from rfl) (Reps.none _ _))); intro v130 w57 ho58 hb hg_ hnew_; clear hg_ hnew_; (first | rw [← Ny129.out] at ho58 | (simp only [Int.reduceToNat] at ho58; rw [← Ny129.out] at ho58)); replace HO_1 := mk0 (Kd.V_elder' (V_up HO_1.out) (Kd.R_base ho58) hb); replace HO_23 := mk0 (Kd.V_elder' (V_up HO_23.out) (Kd.R_base ho58) hb); have HO131 := mk0 (Kd.R_lower (Kd.R_new' (Kd.R_newM (M := fun k_ => (w.heap.size ≤ k_)) ho58 (below_size (be2 HB GE106 GE107)) (fun k_ h_ => h_)) (Kd.R_lt (R_up HO_6.out))) (below_size (be2 HB GE106 GE107))); replace HO_6 := mk0 (Kd.R_elder' (R_up HO_6.out) (Kd.R_base ho58) hb); replace BK106 := kb BK106 hb; replace BK107 := kb BK107 hb; replace HB := kh2 HB GE106 GE107 hb; clear hb ho58; obtain ⟨Ao59, co59, eo59⟩ := Kd.R_slice HO131.out; subst eo59; have zc60 := cells4 BK107.out))
       refine bodyPost_ret (results_ct rfl _ _ gb107 30 #[.int .i64 1, .int .i64 0, .slice Ao59 y129.length co59, .slice none 0 0] (0, 0) _ rfl (pB BK107) Try.underlying30 rfl (by kernel_rfl)) rfl ?_
       exact ⟨_, _, rfl, by exact R_pl (Kd.R_mono (rI (q := gb107) (Kd.R_types HO131.out BK107.out (by decide)) (fun _ hk => hk.2)) (fun _ hk => hk.1.1.1)), Kd.V_nil _ _ _ _ _, be2 HB GE106 GE107⟩
      replace H := iN H; obtain ⟨c45, c45b0, H⟩ := H
      have c45b1 : decide (0 < l1.length) = true := decide_eq_true (by omega)
      clear c45
      replace H := Option.bind_eq_some_iff.mp H
      obtain ⟨⟨t119, t120, t121, t124⟩, A460, H⟩ := H
      replace H : (some (t119, t120, t121, t124, 0)) = some (r1, r2, r3, r4, r5) := H
      have A46 := mk0 A460; clear A460
      simp only [Option.some.injEq, Prod.mk.injEq] at H
      obtain ⟨rfl, rfl, rfl, rfl, rfl⟩ := H
      have p118 : 0 ≤ (0 : Int) := (by omega)
      have q118 : 0 < (l1.length : Int) := od
      obtain ⟨ad118, A118_2, c118_2, A118_3, c118_3, e118, hx118_0, hx118_1, hx118_2, hx118_3, hl118_2, hi118_2, hl118_3, hi118_3⟩ := at_T30 (Kd.V_reads' HO_1.out).2.2 0 p118 q118
      cases e118
      obtain ⟨ce118, hce118, hMe118, hcc118⟩ := Kd.V_get HO_1.out z30 0 p118 (by first | exact q118 | exact of_decide_eq_true (by assumption) | (have e_ := (Kd.V_reads' HO_1.out).1; omega))
      obtain ⟨ua118_2, uc118_2, ua118_3, uc118_3, rfl, ul118_2, ge118_2, ul118_3, ge118_3⟩ := k30_openF hMe118
      have hv118_2 := hcc118 2 _ rfl
      rw [add_field _ _ 2 (by omega)] at hv118_2
      replace hv118_2 := Option.some.inj (hv118_2.symm.trans hx118_2)
      injection hv118_2 with hva_ hvn_ hvc_
      rw [hva_] at ge118_2
      rw [hvc_] at ul118_2
      have HL118_2 := mk0 (show Kd.V (Kd.int .u8) 73 _ w.heap.size _ _ ((rd_T30 l1 0).f2) from Kd.V_mk ul118_2 ge118_2)
      clear hva_ hvn_ hvc_ ge118_2 ul118_2
      have hv118_3 := hcc118 3 _ rfl
      rw [add_field _ _ 3 (by omega)] at hv118_3
      replace hv118_3 := Option.some.inj (hv118_3.symm.trans hx118_3)
      injection hv118_3 with hva_ hvn_ hvc_
      rw [hva_] at ge118_3
      rw [hvc_] at ul118_3
      have HL118_3 := mk0 (show Kd.V k30 30 _ w.heap.size _ _ ((rd_T30 l1 0).f3) from Kd.V_mk ul118_3 ge118_3)
      clear hva_ hvn_ hvc_ ge118_3 ul118_3; clear hcc118 hce118
      have qi118 : (0 < l1.length) = True := eq_true (by omega)
      (try rw [show ((0 : Int)).toNat = 0 from rfl] at hx118_0)
      (try rw [show 0 * 4 = 0 from rfl] at hx118_0)
      (try rw [Addr.add_zero'] at hx118_0)
      (try rw [show ((0 : Int)).toNat = 0 from rfl] at hx118_1)
      (try rw [show 0 * 4 = 0 from rfl] at hx118_1)
      (try rw [Addr.add_zero'] at hx118_1)
      (try rw [show ((0 : Int)).toNat = 0 from rfl] at hx118_2)
      (try rw [show 0 * 4 = 0 from rfl] at hx118_2)
      (try rw [Addr.add_zero'] at hx118_2)
      (try rw [show ((0 : Int)).toNat = 0 from rfl] at hx118_3)
      (try rw [show 0 * 4 = 0 from rfl] at hx118_3)
      (try rw [Addr.add_zero'] at hx118_3)
      have HR118_2 := mk0 hi118_2; have HC118_2 := mk0 hl118_2; clear hi118_2 hl118_2; have HR118_3 := mk0 hi118_3; have HC118_3 := mk0 hl118_3; clear hi118_3 hl118_3; replace p118 := eq_true p118; replace q118 := eq_true q118
      go_wp2_with ((with_reducible refine gate_callee (f := 51) rfl ?_); refine goesL_ (some 45) rfl rfl Try.func51 (by kernel_rfl) rfl #[.agg #[.int .i64 ((rd_T30 l1 0).f0), .int .i64 ((rd_T30 l1 0).f1), .slice A118_2 ((rd_T30 l1 0).f2).length c118_2, .slice A118_3 ((rd_T30 l1 0).f3).length c118_3]] rfl (by (try simp only [List.map_toArray, List.map_cons, List.map_nil]); first | done | rfl | (simp only [List.length_drop, List.length_take]; rfl)) ?_; (with_reducible refine (drivers_copied.calls ((rd_T30 l1 0).f0) ((rd_T30 l1 0).f1) _ _ ((rd_T30 l1 0).f2) (fun k_ => ((P1_ k_ ∨ w.heap.size ≤ k_) ∧ (some k_ ≠ (u6 : Value).ownBlock ∧ (k_ ≠ gb106 ∧ k_ ≠ gb107)))) _ _ ((rd_T30 l1 0).f3) t119 t120 t121 t124 _ ?side1 ?side2 ?side3 A46.out).mono ?_); (case side1 => repeat (first | exact (by repeat (first | (with_reducible exact HR118_2.out) | (with_reducible refine Kd.C_alloc ?_ _) | (with_reducible refine Kd.C_drewN ?_ _) | (with_reducible refine Kd.C_drew ?_) | exact HR118_2.out)) | (with_reducible refine Kd.C_alloc ?_ _) | (with_reducible refine Kd.C_drewN ?_ _) | (with_reducible refine Kd.C_drew ?_))); (case side2 => exact HC118_2.out); (case side3 => exact HL118_3.out); rintro e w47 ⟨v122, v125, rfl, ho0, ho1, hb⟩; refine ⟨_, rfl, ?_⟩; replace HO_1 := mk0 (Kd.V_elder' (V_up HO_1.out) (Kd.R_base ho0) hb); replace HO_23 := mk0 (Kd.V_elder' (V_up HO_23.out) (Kd.R_base ho0) hb); replace HL118_2 := mk0 (Kd.V_elder' (V_up HL118_2.out) (Kd.R_base ho0) hb); replace HL118_3 := mk0 (Kd.V_elder' (V_up HL118_3.out) (Kd.R_base ho0) hb); have HO123 := mk0 (Kd.R_lower (Kd.R_new' (Kd.R_newM (M := fun k_ => (w.heap.size ≤ k_)) (Kd.R_mono (ok' := fun k_ => True) ho0 (fun _ hk_ => trivial)) (below_size (be2 HB GE106 GE107)) (fun k_ h_ => h_)) (Kd.R_lt (R_up HO_6.out))) (below_size (be2 HB GE106 GE107))); have HO126 := mk0 (Kd.V_lower (Kd.V_mono (ok' := fun k_ => (P1_ k_ ∨ w.heap.size ≤ k_) ∧ some k_ ≠ (v122 : Value).ownBlock ∧ some k_ ≠ (u6 : Value).ownBlock ∧ k_ ≠ gb106 ∧ k_ ≠ gb107) ho1 (fun k_ hk_ => ⟨Or.elim hk_.1 (fun hs_ => hs_.1) (fun hn_ => (.inr (Nat.le_trans (below_size (be2 HB GE106 GE107)) hn_))), hk_.2, Or.elim hk_.1 (fun hs_ => hs_.2.1) (fun hn_ => (Kd.fresh' (Kd.R_lt (R_up HO_6.out)) k_ hn_)), Or.elim hk_.1 (fun hs_ => hs_.2.2.1) (fun hn_ => (Kd.freshB (g := gb106) (o := .cells #[.int .i64 a0_0, .int .i64 a0_1, .string a0_2, .slice A0_3 l0_3.length c0_3, .slice A0_4 l0_4.length c0_4] 26 (0, 0)) (blk_up BK106.out) k_ hn_)), Or.elim hk_.1 (fun hs_ => hs_.2.2.2) (fun hn_ => (Kd.freshB (g := gb107) (o := .cells #[.int .i64 x108000_2, .int .i64 x108001_2, .slice none 0 0, .slice none 0 0] 30 (0, 0)) (blk_up BK107.out) k_ hn_))⟩)) (below_size (be2 HB GE106 GE107))); replace HO_6 := mk0 (Kd.R_elder' (R_up HO_6.out) (Kd.R_base ho0) hb); replace BK106 := kb BK106 hb; replace BK107 := kb BK107 hb; replace HR118_2 := cb HR118_2 hb; replace HR118_3 := cb HR118_3 hb; replace HB := kh2 HB GE106 GE107 hb; (try clear ho0); (try clear ho1); have hnb48 := NB107_106.out; have hnc48 := NB106_107.out; have zc49 := cells4 BK107.out; obtain ⟨Ao50, co50, eo50⟩ := Kd.R_slice HO123.out; subst eo50; obtain ⟨Ao51, co51, eo51⟩ := Kd.V_slice HO126.out; subst eo51)
      refine bodyPost_ret (results_ct rfl _ _ gb107 30 #[.int .i64 t119, .int .i64 t120, .slice Ao50 t121.length co50, .slice Ao51 t124.length co51] (0, 0) _ rfl (pB BK107) Try.underlying30 rfl (by kernel_rfl)) rfl ?_
      exact ⟨_, _, rfl, by exact R_pl (Kd.R_mono (rI (q := gb107) (Kd.R_types HO123.out BK107.out (by decide)) (fun _ hk => hk.2)) (fun _ hk => hk.1.1.1)), by exact V_pl (Kd.V_mono (vI (q := gb107) (Kd.V_mono HO126.out (fun k_ hk => (⟨hk, hk.2.2.2.2⟩ : _ ∧ k_ ≠ gb107))) (fun _ hk => hk.2)) (fun _ hk => ⟨hk.1.1, hk.1.2.1⟩)), be2 HB GE106 GE107⟩
     replace H := iN H; obtain ⟨-, c22b0, H⟩ := H
     replace H := iN H; obtain ⟨-, c23b0, H⟩ := H
     replace H := bS H; obtain ⟨t114, A24, H⟩ := H
     replace H := iB' H; obtain ⟨rfl, H⟩ | ⟨rfl, H⟩ := H
     ·simp only [Option.some.injEq, Prod.mk.injEq] at H
      obtain ⟨rfl, rfl, rfl, rfl, rfl⟩ := H
      have p112 : 0 ≤ (x25_2 : Int) := od
      have q112 : x25_2 < (l1.length : Int) := od
      obtain ⟨ad112, A112_2, c112_2, A112_3, c112_3, e112, hx112_0, hx112_1, hx112_2, hx112_3, hl112_2, hi112_2, hl112_3, hi112_3⟩ := at_T30 (Kd.V_reads' HO_23.out).2.2 x25_2 p112 q112
      cases e112
      obtain ⟨ce112, hce112, hMe112, hcc112⟩ := Kd.V_get HO_23.out z30 x25_2 p112 (by first | exact q112 | exact of_decide_eq_true (by assumption) | (have e_ := (Kd.V_reads' HO_23.out).1; omega))
      obtain ⟨ua112_2, uc112_2, ua112_3, uc112_3, rfl, ul112_2, ge112_2, ul112_3, ge112_3⟩ := k30_openF hMe112
      have hv112_2 := hcc112 2 _ rfl
      rw [add_field _ _ 2 (by omega)] at hv112_2
      replace hv112_2 := Option.some.inj (hv112_2.symm.trans hx112_2)
      injection hv112_2 with hva_ hvn_ hvc_
      rw [hva_] at ge112_2
      rw [hvc_] at ul112_2
      have HL112_2 := mk0 (show Kd.V (Kd.int .u8) 73 _ w.heap.size _ _ ((rd_T30 l1 x25_2).f2) from Kd.V_mk ul112_2 ge112_2)
      clear hva_ hvn_ hvc_ ge112_2 ul112_2
      have hv112_3 := hcc112 3 _ rfl
      rw [add_field _ _ 3 (by omega)] at hv112_3
      replace hv112_3 := Option.some.inj (hv112_3.symm.trans hx112_3)
      injection hv112_3 with hva_ hvn_ hvc_
      rw [hva_] at ge112_3
      rw [hvc_] at ul112_3
      have HL112_3 := mk0 (show Kd.V k30 30 _ w.heap.size _ _ ((rd_T30 l1 x25_2).f3) from Kd.V_mk ul112_3 ge112_3)
      clear hva_ hvn_ hvc_ ge112_3 ul112_3; clear hcc112 hce112; have HR112_2 := mk0 hi112_2; have HC112_2 := mk0 hl112_2; clear hi112_2 hl112_2; have HR112_3 := mk0 hi112_3; have HC112_3 := mk0 hl112_3; clear hi112_3 hl112_3; replace p112 := eq_true p112; replace q112 := eq_true q112
      go_wp2_with (first | ((with_reducible refine box_event rfl (N := 8) rfl (cs := #[.int .i64 0, .int .i64 0, .slice none 0 0, .slice none 0 0]) (t := 30) ?hr ?_); (case hr => first | (go_simp; done) | (go_simp; rfl)); intro gb113 hg w36 hbox hb; replace HO_1 := vB HO_1 hg hb; replace HO_6 := rb HO_6 hb; replace HO_23 := vB HO_23 hg hb; replace HL112_2 := vB HL112_2 hg hb; replace HL112_3 := vB HL112_3 hg hb; replace HR112_2 := cb HR112_2 hb; replace HR112_3 := cb HR112_3 hb; have BK113 := mk0 (hbox); have GE113 := bs (be2 HB GE106 GE107) hg; replace HB := kh2 HB GE106 GE107 hb; have NB106_113 := nb1 (bu BK106) hg; have NB113_106 := nb2 (bu BK106) hg; replace BK106 := kb BK106 hb; have NB107_113 := nb1 (bu BK107) hg; have NB113_107 := nb2 (bu BK107) hg; replace BK107 := kb BK107 hb; clear hb hbox hg; have hnb37 := NB113_106.out; have hnc37 := NB106_113.out; have hnb38 := NB113_107.out; have hnc38 := NB107_113.out; have zc39 := cells4 BK113.out; have hnb40 := NB106_107.out; have hnc40 := NB107_106.out; have zc41 := cells5 BK106.out) | ((with_reducible refine gate_callee (f := 45) rfl ?_); refine goesL_ (some 31) rfl rfl Try.func45 (by kernel_rfl) rfl #[.agg #[.int .i64 a0_0, .int .i64 a0_1, .string a0_2, .slice A0_3 l0_3.length c0_3, .slice A0_4 l0_4.length c0_4], .agg #[.int .i64 ((rd_T30 l1 x25_2).f0), .int .i64 ((rd_T30 l1 x25_2).f1), .slice A112_2 ((rd_T30 l1 x25_2).f2).length c112_2, .slice A112_3 ((rd_T30 l1 x25_2).f3).length c112_3]] rfl (by (try simp only [List.map_toArray, List.map_cons, List.map_nil]); first | done | rfl | (simp only [List.length_drop, List.length_take]; rfl)) ?_; (with_reducible refine (types_Has.calls k2 a0_0 a0_1 a0_2 _ _ l0_3 _ _ l0_4 ((rd_T30 l1 x25_2).f0) ((rd_T30 l1 x25_2).f1) _ _ ((rd_T30 l1 x25_2).f2) _ _ ((rd_T30 l1 x25_2).f3) false _ ?side9 ?side1 ?side2 ?side3 ?side4 ?side5 ?side6 ?side7 ?side8 A24.out).mono ?_); (case side1 => exact Kd.C_below HR0_3.out (be3 HB GE106 GE107 GE113)); (case side2 => exact HC0_3.out); (case side3 => exact Kd.C_below HR0_4.out (be3 HB GE106 GE107 GE113)); (case side4 => exact HC0_4.out); (case side5 => repeat (first | exact ((Kd.V_reads' (by exact V_pl ((vF (q := gb113) HL112_2 (fun _ hk => hk.2))))).2.2) | (with_reducible refine Kd.C_alloc ?_ _) | (with_reducible refine Kd.C_drewN ?_ _) | (with_reducible refine Kd.C_drew ?_))); (case side6 => exact HC112_2.out); (case side7 => repeat (first | exact ((Kd.V_reads' (by exact V_pl ((vF (q := gb113) HL112_3 (fun _ hk => hk.2))))).2.2) | (with_reducible refine Kd.C_alloc ?_ _) | (with_reducible refine Kd.C_drewN ?_ _) | (with_reducible refine Kd.C_drew ?_))); (case side8 => exact HC112_3.out); (case side9 => exact glob_below HG.out (be3 HB GE106 GE107 GE113)); rintro e w42 ⟨rfl, hb⟩; refine ⟨_, rfl, ?_⟩; replace HO_1 := mk0 (Kd.V_below (by exact V_pl ((vF (q := gb113) HO_1 (fun _ hk => hk.2)))) hb); replace HO_6 := mk0 (Kd.R_below (by exact R_pl ((Kd.R_mono (rI (q := gb113) (Kd.R_types HO_6.out BK113.out (by decide)) (fun _ hk => hk.2)) (fun _ h_ => h_.1)))) hb); replace HO_23 := mk0 (Kd.V_below (by exact V_pl ((vF (q := gb113) HO_23 (fun _ hk => hk.2)))) hb); replace BK106 := kF NB106_113 BK106 hb; replace BK107 := kF NB107_113 BK107 hb; replace HR112_2 := mk0 (Kd.C_below ((Kd.V_reads' (by exact V_pl ((vF (q := gb113) HL112_2 (fun _ hk => hk.2))))).2.2) hb); replace HL112_2 := mk0 (Kd.V_below (by exact V_pl ((vF (q := gb113) HL112_2 (fun _ hk => hk.2)))) hb); replace HR112_3 := mk0 (Kd.C_below ((Kd.V_reads' (by exact V_pl ((vF (q := gb113) HL112_3 (fun _ hk => hk.2))))).2.2) hb); replace HL112_3 := mk0 (Kd.V_below (by exact V_pl ((vF (q := gb113) HL112_3 (fun _ hk => hk.2)))) hb); replace BK113 := mk0 (blk_below (g := gb113) (o := .cells #[.int .i64 ((rd_T30 l1 x25_2).f0), .int .i64 ((rd_T30 l1 x25_2).f1), .slice A112_2 ((rd_T30 l1 x25_2).f2).length c112_2, .slice A112_3 ((rd_T30 l1 x25_2).f3).length c112_3] 30 (0, 0)) (pB BK113) hb); replace HB := kh3 HB GE106 GE107 GE113 hb; have zc43 := cells4 BK107.out))
      refine bodyPost_ret (results_ct rfl _ _ gb107 30 #[.int .i64 0, .int .i64 0, .slice none 0 0, .slice none 0 0] (0, 0) _ rfl (pB BK107) Try.underlying30 rfl (by kernel_rfl)) rfl ?_
      exact ⟨_, _, rfl, by first | exact Kd.R_nil _ _ _ _ _ | exact Kd.N_nil _ _ _ _ _ | exact Kd.V_nil _ _ _ _ _ | exact Kd.Q_nil _ _ _ _ _ | exact Kd.S_nil _ _ _ _ _, Kd.V_nil _ _ _ _ _, be3 HB GE106 GE107 GE113⟩
     by_cases c26 : x6_2.length + ((rd_T30 l1 x25_2).f2).length < 140737488355328
     rotate_left
     ·rw [if_neg c26] at H
      exact absurd H (by simp)
     rw [if_pos c26] at H; have LMc26 := mk0 c26; clear c26
     obtain ⟨y115, hy115⟩ : ∃ y_ : List Int, y_ = (x6_2 ++ ((rd_T30 l1 x25_2).f2)) := ⟨_, rfl⟩
     replace H : (drivers_Resolve.l0 k2 l1 y115 l1 (l1.length : Int) (wrap64 (x25_2 + 1)) a0_0 a0_1 a0_2 l0_3 l0_4) = some (r1, r2, r3, r4, r5) := by first | (rw [hy115]; with_reducible exact H) | (have H2_ := (Option.bind_some _ _).symm.trans H; rw [hy115]; with_reducible exact H2_) | (have H2_ := (Option.bind_some _ _).symm.trans H; with_reducible exact H2_) | with_reducible exact H | (rw [hy115]; exact H) | exact H
     have Ny115 := mk0 hy115; clear hy115
     have H' := mk0 H
     clear H
     have p112 : 0 ≤ (x25_2 : Int) := od
     have q112 : x25_2 < (l1.length : Int) := od
     obtain ⟨ad112, A112_2, c112_2, A112_3, c112_3, e112, hx112_0, hx112_1, hx112_2, hx112_3, hl112_2, hi112_2, hl112_3, hi112_3⟩ := at_T30 (Kd.V_reads' HO_23.out).2.2 x25_2 p112 q112
     cases e112
     obtain ⟨ce112, hce112, hMe112, hcc112⟩ := Kd.V_get HO_23.out z30 x25_2 p112 (by first | exact q112 | exact of_decide_eq_true (by assumption) | (have e_ := (Kd.V_reads' HO_23.out).1; omega))
     obtain ⟨ua112_2, uc112_2, ua112_3, uc112_3, rfl, ul112_2, ge112_2, ul112_3, ge112_3⟩ := k30_openF hMe112
     have hv112_2 := hcc112 2 _ rfl
     rw [add_field _ _ 2 (by omega)] at hv112_2
     replace hv112_2 := Option.some.inj (hv112_2.symm.trans hx112_2)
     injection hv112_2 with hva_ hvn_ hvc_
     rw [hva_] at ge112_2
     rw [hvc_] at ul112_2
     have HL112_2 := mk0 (show Kd.V (Kd.int .u8) 73 _ w.heap.size _ _ ((rd_T30 l1 x25_2).f2) from Kd.V_mk ul112_2 ge112_2)
     clear hva_ hvn_ hvc_ ge112_2 ul112_2
     have hv112_3 := hcc112 3 _ rfl
     rw [add_field _ _ 3 (by omega)] at hv112_3
     replace hv112_3 := Option.some.inj (hv112_3.symm.trans hx112_3)
     injection hv112_3 with hva_ hvn_ hvc_
     rw [hva_] at ge112_3
     rw [hvc_] at ul112_3
     have HL112_3 := mk0 (show Kd.V k30 30 _ w.heap.size _ _ ((rd_T30 l1 x25_2).f3) from Kd.V_mk ul112_3 ge112_3)
     clear hva_ hvn_ hvc_ ge112_3 ul112_3; clear hcc112 hce112; have HR112_2 := mk0 hi112_2; have HC112_2 := mk0 hl112_2; clear hi112_2 hl112_2; have HR112_3 := mk0 hi112_3; have HC112_3 := mk0 hl112_3; clear hi112_3 hl112_3; replace p112 := eq_true p112; replace q112 := eq_true q112
     go_wp2_with (first | ((with_reducible refine box_event rfl (N := 8) rfl (cs := #[.int .i64 0, .int .i64 0, .slice none 0 0, .slice none 0 0]) (t := 30) ?hr ?_); (case hr => first | (go_simp; done) | (go_simp; rfl)); intro gb113 hg w27 hbox hb; replace HO_1 := vB HO_1 hg hb; replace HO_6 := rb HO_6 hb; replace HO_23 := vB HO_23 hg hb; replace HL112_2 := vB HL112_2 hg hb; replace HL112_3 := vB HL112_3 hg hb; replace HR112_2 := cb HR112_2 hb; replace HR112_3 := cb HR112_3 hb; have BK113 := mk0 (hbox); have GE113 := bs (be2 HB GE106 GE107) hg; replace HB := kh2 HB GE106 GE107 hb; have NB106_113 := nb1 (bu BK106) hg; have NB113_106 := nb2 (bu BK106) hg; replace BK106 := kb BK106 hb; have NB107_113 := nb1 (bu BK107) hg; have NB113_107 := nb2 (bu BK107) hg; replace BK107 := kb BK107 hb; clear hb hbox hg; have hnb28 := NB113_106.out; have hnc28 := NB106_113.out; have hnb29 := NB113_107.out; have hnc29 := NB107_113.out; have zc30 := cells4 BK113.out; have hnb31 := NB106_107.out; have hnc31 := NB107_106.out; have zc32 := cells5 BK106.out) | ((with_reducible refine gate_callee (f := 45) rfl ?_); refine goesL_ (some 31) rfl rfl Try.func45 (by kernel_rfl) rfl #[.agg #[.int .i64 a0_0, .int .i64 a0_1, .string a0_2, .slice A0_3 l0_3.length c0_3, .slice A0_4 l0_4.length c0_4], .agg #[.int .i64 ((rd_T30 l1 x25_2).f0), .int .i64 ((rd_T30 l1 x25_2).f1), .slice A112_2 ((rd_T30 l1 x25_2).f2).length c112_2, .slice A112_3 ((rd_T30 l1 x25_2).f3).length c112_3]] rfl (by (try simp only [List.map_toArray, List.map_cons, List.map_nil]); first | done | rfl | (simp only [List.length_drop, List.length_take]; rfl)) ?_; (with_reducible refine (types_Has.calls k2 a0_0 a0_1 a0_2 _ _ l0_3 _ _ l0_4 ((rd_T30 l1 x25_2).f0) ((rd_T30 l1 x25_2).f1) _ _ ((rd_T30 l1 x25_2).f2) _ _ ((rd_T30 l1 x25_2).f3) true _ ?side9 ?side1 ?side2 ?side3 ?side4 ?side5 ?side6 ?side7 ?side8 A24.out).mono ?_); (case side1 => exact Kd.C_below HR0_3.out (be3 HB GE106 GE107 GE113)); (case side2 => exact HC0_3.out); (case side3 => exact Kd.C_below HR0_4.out (be3 HB GE106 GE107 GE113)); (case side4 => exact HC0_4.out); (case side5 => repeat (first | exact ((Kd.V_reads' (by exact V_pl ((vF (q := gb113) HL112_2 (fun _ hk => hk.2))))).2.2) | (with_reducible refine Kd.C_alloc ?_ _) | (with_reducible refine Kd.C_drewN ?_ _) | (with_reducible refine Kd.C_drew ?_))); (case side6 => exact HC112_2.out); (case side7 => repeat (first | exact ((Kd.V_reads' (by exact V_pl ((vF (q := gb113) HL112_3 (fun _ hk => hk.2))))).2.2) | (with_reducible refine Kd.C_alloc ?_ _) | (with_reducible refine Kd.C_drewN ?_ _) | (with_reducible refine Kd.C_drew ?_))); (case side8 => exact HC112_3.out); (case side9 => exact glob_below HG.out (be3 HB GE106 GE107 GE113)); rintro e w33 ⟨rfl, hb⟩; refine ⟨_, rfl, ?_⟩; replace HO_1 := mk0 (Kd.V_below (by exact V_pl ((vF (q := gb113) HO_1 (fun _ hk => hk.2)))) hb); replace HO_6 := mk0 (Kd.R_below (by exact R_pl ((Kd.R_mono (rI (q := gb113) (Kd.R_types HO_6.out BK113.out (by decide)) (fun _ hk => hk.2)) (fun _ h_ => h_.1)))) hb); replace HO_23 := mk0 (Kd.V_below (by exact V_pl ((vF (q := gb113) HO_23 (fun _ hk => hk.2)))) hb); replace BK106 := kF NB106_113 BK106 hb; replace BK107 := kF NB107_113 BK107 hb; replace HR112_2 := mk0 (Kd.C_below ((Kd.V_reads' (by exact V_pl ((vF (q := gb113) HL112_2 (fun _ hk => hk.2))))).2.2) hb); replace HL112_2 := mk0 (Kd.V_below (by exact V_pl ((vF (q := gb113) HL112_2 (fun _ hk => hk.2)))) hb); replace HR112_3 := mk0 (Kd.C_below ((Kd.V_reads' (by exact V_pl ((vF (q := gb113) HL112_3 (fun _ hk => hk.2))))).2.2) hb); replace HL112_3 := mk0 (Kd.V_below (by exact V_pl ((vF (q := gb113) HL112_3 (fun _ hk => hk.2)))) hb); replace BK113 := mk0 (blk_below (g := gb113) (o := .cells #[.int .i64 ((rd_T30 l1 x25_2).f0), .int .i64 ((rd_T30 l1 x25_2).f1), .slice A112_2 ((rd_T30 l1 x25_2).f2).length c112_2, .slice A112_3 ((rd_T30 l1 x25_2).f3).length c112_3] 30 (0, 0)) (pB BK113) hb); replace HB := kh3 HB GE106 GE107 GE113 hb; have zc34 := cells4 BK113.out) | ((with_reducible refine gate_builtin (b := .append) (xs := #[.tmp 34, .tmp 36]) rfl ?_); (try (refine gate_guard (by rfl) ?_; dsimp only)); at_builtin; refine Kd.R_append_rows (Kd.int .u8) (w0 := w) w.heap.size rfl (.tmp 34) (.tmp 36) 27 73 (.int .u8 0) 1 rfl Try.underlying27 info73 rfl (by decide) (by omega) u6 x6_2 ((rd_T30 l1 x25_2).f2) _ _ _ (fun k_ => (w.heap.size ≤ k_)) (fun _ => False) rfl rfl ?aO ?aR (fun _ _ h => h) (fun _ h => h.elim) ?aF ?aB ?aS ?aL ?_; (case aR => repeat (first | exact (by repeat (first | (with_reducible exact HR112_2.out) | (with_reducible refine Kd.C_alloc ?_ _) | (with_reducible refine Kd.C_drewN ?_ _) | (with_reducible refine Kd.C_drew ?_) | exact HR112_2.out)) | (with_reducible refine Kd.C_alloc ?_ _) | (with_reducible refine Kd.C_drewN ?_ _) | (with_reducible refine Kd.C_drew ?_))); (case aB => exact (be3 HB GE106 GE107 GE113)); (case aF => exact (fun k_ hk => (Nat.le_trans (below_size (be3 HB GE106 GE107 GE113)) hk))); (case aO => exact (R_up HO_6.out)); (case aS => exact (below_size (be3 HB GE106 GE107 GE113))); (case aL => have := LMc26.out; omega); intro v116 w35 ho hb hg hat; rw [← Ny115.out] at ho; replace HO_1 := mk0 (Kd.V_afterv (ok := (fun k_ => (P1_ k_ ∨ w.heap.size ≤ k_) ∧ k_ ≠ gb106 ∧ k_ ≠ gb107 ∧ k_ ≠ gb113)) (by exact V_pl (Kd.V_mono HO_1.out (fun _ hk => ⟨⟨hk.1.1, ⟨hk.1.2.2.1, ⟨hk.1.2.2.2, hk.2⟩⟩⟩, hk.1.2.1⟩))) hg hat); replace HO_23 := mk0 (Kd.V_afterv (ok := (fun k_ => (P1_ k_ ∨ w.heap.size ≤ k_) ∧ k_ ≠ gb106 ∧ k_ ≠ gb107 ∧ k_ ≠ gb113)) (by exact V_pl (Kd.V_mono HO_23.out (fun _ hk => ⟨⟨hk.1.1, ⟨hk.1.2.2.1, ⟨hk.1.2.2.2, hk.2⟩⟩⟩, hk.1.2.1⟩))) hg hat); replace BK106 := mk0 (blk_grown (g := gb106) (o := .cells #[.int .i64 a0_0, .int .i64 a0_1, .string a0_2, .slice A0_3 l0_3.length c0_3, .slice A0_4 l0_4.length c0_4] 26 (0, 0)) (blk_up BK106.out) hg (Kd.R_ne HO_6.out BK106.out (by decide))); replace BK107 := mk0 (blk_grown (g := gb107) (o := .cells #[.int .i64 x108000_2, .int .i64 x108001_2, .slice none 0 0, .slice none 0 0] 30 (0, 0)) (blk_up BK107.out) hg (Kd.R_ne HO_6.out BK107.out (by decide))); replace HL112_2 := mk0 (Kd.V_afterv (ok := (fun k_ => (P1_ k_ ∨ w.heap.size ≤ k_) ∧ k_ ≠ gb106 ∧ k_ ≠ gb107 ∧ k_ ≠ gb113)) (by exact V_pl (Kd.V_mono HL112_2.out (fun _ hk => ⟨⟨hk.1.1, ⟨hk.1.2.2.1, ⟨hk.1.2.2.2, hk.2⟩⟩⟩, hk.1.2.1⟩))) hg hat); replace HL112_3 := mk0 (Kd.V_afterv (ok := (fun k_ => (P1_ k_ ∨ w.heap.size ≤ k_) ∧ k_ ≠ gb106 ∧ k_ ≠ gb107 ∧ k_ ≠ gb113)) (by exact V_pl (Kd.V_mono HL112_3.out (fun _ hk => ⟨⟨hk.1.1, ⟨hk.1.2.2.1, ⟨hk.1.2.2.2, hk.2⟩⟩⟩, hk.1.2.1⟩))) hg hat); replace BK113 := mk0 (blk_grown (g := gb113) (o := .cells #[.int .i64 ((rd_T30 l1 x25_2).f0), .int .i64 ((rd_T30 l1 x25_2).f1), .slice A112_2 ((rd_T30 l1 x25_2).f2).length c112_2, .slice A112_3 ((rd_T30 l1 x25_2).f3).length c112_3] 30 (0, 0)) (blk_up BK113.out) hg (Kd.R_ne HO_6.out BK113.out (by decide))); replace HB := mk0 (hb); have HO117 := mk0 (ho); clear HO_6; clear ho hb hg hat))
     go_roundg k2
     case measure => have := HJ2.out; have := HK2.out; omega
     case rel => exact ⟨(y115), (wrap64 (x25_2 + 1)), (x108000_2), (x108001_2), rfl, H', ⟨by have := HJ2.out; have := HK2.out; omega⟩, ⟨by exact V_pl (Kd.V_mono HO_1.out (fun _ hk => ⟨hk.1.1, ⟨hk.2, ⟨hk.1.2.1, hk.1.2.2.1⟩⟩⟩))⟩, ⟨R_up HO117.out⟩, ⟨by exact V_pl (Kd.V_mono HO_23.out (fun _ hk => ⟨hk.1.1, ⟨hk.2, ⟨hk.1.2.1, hk.1.2.2.1⟩⟩⟩))⟩, ⟨bu BK106⟩, ⟨bu BK107⟩, ⟨be3 HB GE106 GE107 GE113⟩⟩
end Go.Proofs.Ytojankgmedccdaa.PRs
