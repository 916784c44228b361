/- Hand contract of logic.Map. -/
import Derived.Test.YtajpgmpidphmgaaHandE
import Derived.Test.YtajpgmpidphmgaaHandK
namespace Go.Proofs.Ytajpgmpidphmgaa.Hand
open Go.RowKit Go.Proofs.YtajpgmpidphmgaaW.PrintWords Go.Proofs.YtajpgmpidphmgaaW.PrintLast Go.Proofs.YtajpgmpidphmgaaW.PrintMore
attribute [local go_sem] max2_int min2_int max_two min_two max_three min_three max_four min_four
set_option linter.unusedVariables false
set_option linter.unusedSimpArgs false
/-- The table's index of a bit. -/
def opnd (a : Int) : Int := if 2 < a then 2 else a
def logic_Map.l0 : Nat → List Int → List Int → List Int → List Int → Int → Option (List Int × Int)
  | 0, _, _, _, _, _ => none
  | k + 1, T, o, l1, l2, i => if i < (l1.length : Int) then (if 0 ≤ i then (if i < (l2.length : Int) then (if i < (o.length : Int) then (if 0 ≤ rd l1 i then (if 0 ≤ rd l2 i then (logic_Map.l0 k T (o.set i.toNat (T.getD (opnd (rd l1 i) * 3 + opnd (rd l2 i)).toNat 0)) l1 l2 (wrap64 (i + 1))) else none) else none) else none) else none) else none) else some (o, 0)
def logic_Map.f (k : Nat) (a0 : ByteArray) (l1 l2 : List Int) : Option (List Int × Int) :=
  if (ofF a0.toList).2 = true then (if areF l1 l2 = true then (if (l1.length : Int).toNat ≤ 281474976710656 then logic_Map.l0 k (ofF a0.toList).1 (List.replicate (l1.length : Int).toNat 0) l1 l2 0 else none) else some ([], 2)) else some ([], 2)
theorem logic_Map.mono_l : ∀ k T o l1 l2 i, LeO (logic_Map.l0 k T o l1 l2 i) (logic_Map.l0 (k + 1) T o l1 l2 i)
  | 0 => fun _ _ _ _ _ r h => by simp [logic_Map.l0] at h
  | k + 1 => by
    intro T o l1 l2 i
    have ih := logic_Map.mono_l k
    unfold logic_Map.l0
    repeat' first
    | (with_reducible exact ih _ _ _ _ _)
    | (with_reducible exact LeO.refl _)
    | (with_reducible refine LeO.ite ?_ ?_)
theorem logic_Map.mono : ∀ a0 l1 l2 k, LeO (logic_Map.f k a0 l1 l2) (logic_Map.f (k + 1) a0 l1 l2) := by
  intro a0 l1 l2 k
  have ih := logic_Map.mono_l k
  unfold logic_Map.f
  repeat' first
    | (with_reducible exact ih _ _ _ _ _)
    | (with_reducible exact LeO.refl _)
    | (with_reducible refine LeO.ite ?_ ?_)
theorem cell9 {w : World} {g : Nat} {a b c d e f g1 h i : Int} (hg : w.heap[g]? = some (.cells #[.int .u8 a, .int .u8 b, .int .u8 c, .int .u8 d, .int .u8 e, .int .u8 f, .int .u8 g1, .int .u8 h, .int .u8 i] 61 (0, 0))) (j : Nat) :
    w.cell? ⟨g, j, none⟩ = (#[Value.int .u8 a, .int .u8 b, .int .u8 c, .int .u8 d, .int .u8 e, .int .u8 f, .int .u8 g1, .int .u8 h, .int .u8 i])[j]? := cell_of_row w g j _ 61 (0, 0) hg
theorem two_cells (W : World) (T : Obj) (a b : Value) (g : Nat) (hg : g = W.heap.size + 1) (j : Nat) : ((W.alloc T).alloc (.cells #[a, b] 31)).cell? ⟨g, j, none⟩ = (#[a, b])[j]? := by
  refine cell_of_row _ g j _ 31 (0, 0) ?_
  have e : (W.alloc T).heap.size = W.heap.size + 1 := Array.size_push ..
  rw [hg, ← e]
  exact blk_new _ _
set_option maxHeartbeats 8000000 in
set_option maxRecDepth 100000 in
theorem logic_Map.calls (k : Nat) (a0 : ByteArray) (A1 : Option Addr) (c1 : Nat) (l1 : List Int) (A2 : Option Addr) (c2 : Nat) (l2 : List Int) (r1 : List Int) (r2 : Int) (w : World) (hr1 : Kd.C (Kd.int .u8) w A1 l1.length l1) (hc1 : l1.length ≤ c1) (hr2 : Kd.C (Kd.int .u8) w A2 l2.length l2) (hc2 : l2.length ≤ c2) (h : logic_Map.f k a0 l1 l2 = some (r1, r2)) :
    Calls Try.prog 33 #[.string a0, .slice A1 l1.length c1, .slice A2 l2.length c2] w fun e w' => ∃ v0_ : Value, e = .returned (.tuple #[v0_, .int .i64 r2]) ∧ Kd.R (Kd.int .u8) 22 w' w.heap.size (fun _ => True) v0_ r1 ∧ Below w.heap.size w w' := by
  have hof := of_any a0
  obtain ⟨t0, t1, t2, t3, t4, t5, t6, t7, t8, y, he⟩ := ofF_nine a0.toList
  unfold logic_Map.f at h
  rw [he] at h
  simp only [he] at hof
  clear he
  have HO := Lib.hid hof
  clear hof
  have HR1 := Aside0.mk hr1
  have HC1 := Aside0.mk hc1
  have HR2 := Aside0.mk hr2
  have HC2 := Aside0.mk hc2
  clear hr1 hc1 hr2 hc2
  cases y with
  | false =>
    simp only [Bool.false_eq_true, if_false, Option.some.injEq, Prod.mk.injEq] at h
    obtain ⟨rfl, rfl⟩ := h
    go_enter Try.func33, Try.ntmps33
    go_wp2_with (go_at_call 42; refine (HO.out _).mono ?_; rintro e_ w1 ⟨rfl, hb⟩; rw [tab9])
    go_ret2
    exact ⟨_, rfl, Kd.R_nil _ _ _ _ _, by repeat (first | exact hb | apply below_alloc | apply pw_below_drewN | apply below_drew1)⟩
  | true =>
    simp only [if_true] at h
    obtain ⟨b, hb0⟩ : ∃ b, areF l1 l2 = b := ⟨_, rfl⟩
    rw [hb0] at h
    have HA := Aside0.mk (fun g w h1 h2 c0 d0 => are2_any A1 A2 c1 c2 l1 l2 g w h1 h2 HC1.out HC2.out c0 d0)
    rw [hb0] at HA
    clear hb0
    cases b with
    | false =>
      simp only [Bool.false_eq_true, if_false, Option.some.injEq, Prod.mk.injEq] at h
      obtain ⟨rfl, rfl⟩ := h
      go_enter Try.func33, Try.ntmps33
      go_wp2_with (first | (go_at_call 42; refine (HO.out _).mono ?_; rintro e_ w1 ⟨rfl, hb⟩; rw [tab9]) | (go_at_call 53; refine (HA.out _ _ ?h1 ?h2 ?c0 ?d0).mono ?_; (case h1 => repeat (first | exact Kd.C_below HR1.out hb | (with_reducible refine Kd.C_alloc ?_ _) | (with_reducible refine Kd.C_drewN ?_ _) | (with_reducible refine Kd.C_drew ?_))); (case h2 => repeat (first | exact Kd.C_below HR2.out hb | (with_reducible refine Kd.C_alloc ?_ _) | (with_reducible refine Kd.C_drewN ?_ _) | (with_reducible refine Kd.C_drew ?_))); (case c0 => exact two_cells _ _ _ _ _ rfl 0); (case d0 => exact two_cells _ _ _ _ _ rfl 1); rintro e_ w2 ⟨rfl, ⟨nd, rfl⟩⟩))
      go_ret2
      exact ⟨_, rfl, Kd.R_nil _ _ _ _ _, (by repeat (first | exact hb | apply below_alloc | apply pw_below_drewN | apply below_drew1))⟩
    | true =>
      simp only [if_true] at h
      by_cases c5 : (l1.length : Int).toNat ≤ 281474976710656
      · rw [if_pos c5] at h
        have c5b1 : decide ((l1.length : Int).toNat ≤ 281474976710656) = true := decide_eq_true c5
        clear c5
        have H' := Aside0.mk h
        clear h
        go_enter Try.func33, Try.ntmps33
        go_wp2_with (first | (go_at_call 42; refine (HO.out _).mono ?_; rintro e_ w1 ⟨rfl, hb⟩; rw [tab9]) | (go_at_call 53; refine (HA.out _ _ ?h1 ?h2 ?c0 ?d0).mono ?_; (case h1 => repeat (first | exact Kd.C_below HR1.out hb | (with_reducible refine Kd.C_alloc ?_ _) | (with_reducible refine Kd.C_drewN ?_ _) | (with_reducible refine Kd.C_drew ?_))); (case h2 => repeat (first | exact Kd.C_below HR2.out hb | (with_reducible refine Kd.C_alloc ?_ _) | (with_reducible refine Kd.C_drewN ?_ _) | (with_reducible refine Kd.C_drew ?_))); (case c0 => exact two_cells _ _ _ _ _ rfl 0); (case d0 => exact two_cells _ _ _ _ _ rfl 1); rintro e_ w2 ⟨rfl, ⟨nd, rfl⟩⟩) | ((with_reducible refine gate_dst (N := 28) rfl ?_); refine Kd.R_make (Kd.int .u8) _ 22 rfl (N := 28) rfl 31 _ _ rfl (l1.length : Int) rfl rfl Try.underlying31 (.int .u8 0) 1 info22 rfl (by decide) (by omega) 0 (ok := fun _ => True) (okp := fun _ => True) rfl (fun _ hk => hk) trivial (by omega) (Nat.le_trans (Nat.mul_le_mul_right _ (of_decide_eq_true (by first | (with_reducible assumption) | assumption) : (l1.length : Int).toNat ≤ 281474976710656)) (by omega)) (Below.refl _ _) (Nat.le_refl _) ?_; intro vO w6 ho7 hb6 hg_ hnew_; clear hg_ hnew_; have HO7 := Aside0.mk (Kd.R_lower ho7 (below_size (w := w) (by repeat (first | exact hb | apply below_alloc | apply pw_below_drewN | apply below_drew1)))); have HB7 := Aside0.mk (below_step (w := w) (by repeat (first | exact hb | apply below_alloc | apply pw_below_drewN | apply below_drew1)) hb6); have BK7 := Aside0.mk (blk_below (g := w1.heap.size) (o := .cells #[.int .u8 t0, .int .u8 t1, .int .u8 t2, .int .u8 t3, .int .u8 t4, .int .u8 t5, .int .u8 t6, .int .u8 t7, .int .u8 t8] 61 (0, 0)) (by repeat (first | exact blk_new _ _ | (with_reducible refine blk_drewN ?_ _) | (with_reducible refine blk_drew ?_) | (with_reducible refine blk_alloc ?_ _))) hb6); clear ho7 hb6 hb))
        obtain ⟨gT, hgT⟩ : ∃ g_, g_ = w1.heap.size := ⟨_, rfl⟩
        rw [← hgT] at BK7 ⊢
        clear hgT
        go_loopg [31] k (fun kq v31 w' => ∃ (o_1 : List Int) (x_1 : Int), v31 = .int .i64 x_1 ∧ Aside0 (logic_Map.l0 kq [t0, t1, t2, t3, t4, t5, t6, t7, t8] o_1 l1 l2 x_1 = some (r1, r2)) ∧ Aside0 (kq ≤ k) ∧ Aside0 (Kd.R (Kd.int .u8) 22 w' w.heap.size (fun _ => True) vO o_1) ∧ Aside0 (Below w.heap.size w w') ∧ Aside0 (w'.heap[gT]? = some (.cells #[.int .u8 t0, .int .u8 t1, .int .u8 t2, .int .u8 t3, .int .u8 t4, .int .u8 t5, .int .u8 t6, .int .u8 t7, .int .u8 t8] 61 (0, 0))))
        case atStart => exact ⟨List.replicate (l1.length : Int).toNat 0, 0, rfl, H', ⟨Nat.le_refl _⟩, ⟨by (with_reducible repeat (first | apply Kd.R_alloc | apply Kd.R_drewN | apply Kd.R_drew)); exact HO7.out⟩, ⟨by repeat (first | exact HB7.out | apply below_alloc | apply pw_below_drewN | apply below_drew1)⟩, ⟨by repeat (first | exact BK7.out | (with_reducible refine blk_drewN ?_ _) | (with_reducible refine blk_drew ?_) | (with_reducible refine blk_alloc ?_ _))⟩⟩
        case round =>
          clear H' HO7 HB7 BK7
          obtain ⟨o_1, x_1, rfl, HAL, HK1, HOO, HB, BK⟩ := hrel
          cases gk with
          | zero => exact absurd HAL.out (by simp [logic_Map.l0])
          | succ k1 =>
            have H := HAL.out
            clear HAL
            simp only [logic_Map.l0] at H
            by_cases d1 : x_1 < (l1.length : Int)
            · rw [if_pos d1] at H
              have d1b : decide (x_1 < (l1.length : Int)) = true := decide_eq_true d1
              by_cases d2 : 0 ≤ x_1
              · rw [if_pos d2] at H
                by_cases d3 : x_1 < (l2.length : Int)
                · rw [if_pos d3] at H
                  by_cases d4 : x_1 < (o_1.length : Int)
                  · rw [if_pos d4] at H
                    by_cases d5 : 0 ≤ rd l1 x_1
                    · rw [if_pos d5] at H
                      by_cases d6 : 0 ≤ rd l2 x_1
                      · rw [if_pos d6] at H
                        have h10 : 0 ≤ opnd (rd l1 x_1) ∧ opnd (rd l1 x_1) ≤ 2 := by unfold opnd; split <;> omega
                        have h20 : 0 ≤ opnd (rd l2 x_1) ∧ opnd (rd l2 x_1) ≤ 2 := by unfold opnd; split <;> omega
                        obtain ⟨i, hi⟩ : ∃ i : Int, opnd (rd l1 x_1) = i := ⟨_, rfl⟩
                        obtain ⟨j, hj⟩ : ∃ j : Int, opnd (rd l2 x_1) = j := ⟨_, rfl⟩
                        rw [hi] at h10 H
                        rw [hj] at h20 H
                        have CI := Lib.hid (operand_any (rd l1 x_1) i hi)
                        have CJ := Lib.hid (operand_any (rd l2 x_1) j hj)
                        clear hi hj d5 d6
                        obtain ⟨ad1, e1, hx1⟩ := Kd.at_int HR1.out x_1 d2 d1
                        cases e1
                        replace hx1 := (HB.out.cell (World.block_lt_of_cell? w _ hx1)).trans hx1
                        obtain ⟨ad2, e2, hx2⟩ := Kd.at_int HR2.out x_1 d2 d3
                        cases e2
                        replace hx2 := (HB.out.cell (World.block_lt_of_cell? w _ hx2)).trans hx2
                        have e1b := eq_true d2
                        have e2b := eq_true d1
                        have e3b := eq_true d3
                        obtain ⟨go13, co13, eo13, gb13, gl13, cl13, HG13⟩ := Kd.R_form HOO.out (by omega)
                        cases eo13
                        obtain ⟨hx13_0, hf13_0⟩ := Kd.R_celln 0 HOO.out x_1 d2 d4
                        have e4b := eq_true d4
                        have GB13 := Aside0.mk gb13
                        clear gb13 gl13 HG13
                        have NE13 := Aside0.mk (Kd.R_ne HOO.out BK.out (by decide))
                        clear d1 d2 d3 d4
                        obtain rfl | rfl | rfl : i = 0 ∨ i = 1 ∨ i = 2 := by omega
                        all_goals
                          obtain rfl | rfl | rfl : j = 0 ∨ j = 1 ∨ j = 2 := by omega
                        · have H' := Aside0.mk H
                          clear H
                          have hxT := cell9 BK.out 0
                          simp only [List.getElem?_toArray, List.getElem?_cons_zero, List.getElem?_cons_succ] at hxT
                          go_wp2_with (fail)
                          refine wp_region_still_tail 15 (by kernel_rfl) (by kernel_rfl) ?_
                          simp only [List.take_succ_cons, List.take_zero, List.drop_succ_cons, List.drop_zero]
                          still_step
                          still_step
                          still_step
                          still_step
                          still_step
                          still_step
                          still_call ((CI.out _).mono fun _ _ h => ⟨h.1, h.2.symm⟩)
                          still_step
                          still_step
                          still_step
                          still_step
                          still_call ((CJ.out _).mono fun _ _ h => ⟨h.1, h.2.symm⟩)
                          still_step
                          still_step
                          still_step
                          refine wpStill_nil ?_
                          change wpList _ _ _ _ _ wr.drew
                          have HOd := Aside0.mk (Kd.R_drew HOO.out)
                          have HBd := Aside0.mk (below_drew1 HB.out)
                          have BKd := Aside0.mk (blk_drew BK.out)
                          clear HOO HB BK NE13 hx1 hx2 hxT hx13_0 hf13_0
                          generalize wr.drew = wd at HOd HBd BKd
                          have NE13 := Aside0.mk (Kd.R_ne HOd.out BKd.out (by decide))
                          obtain ⟨hx13_0, hf13_0⟩ := Kd.R_celln 0 HOd.out x_1 (of_eq_true e1b) (of_eq_true e4b)
                          have HP14 := Kd.R_putg HOd.out x_1 t0
                          go_wp2_with (((with_reducible refine gate_store (t := 22) (p := 49) rfl ?_); refine store_event (t := 22) (p := 49) (v := ?vo_w15) (w1 := (wd.setCell ⟨go13, (x_1 : Int).toNat, none⟩ (.int .u8 t0))) ?hg ?ho ?hn ?hr ?_; (case ho => rfl); (case hg => rfl); (case hn => rfl); (case hr => first | (go_simp; done) | (go_simp; rfl)); intro w15 hw; have hg : wd.grownBy w15 (some go13) := (by rw [hw]; exact HP14.2); have hp_ := Aside0.mk (show Kd.R (Kd.int .u8) 22 w15 w.heap.size (fun _ => True) (.slice (some ⟨go13, 0, none⟩) o_1.length co13) (o_1.set (x_1 : Int).toNat t0) from (by rw [hw]; exact HP14.1)); have hb_ := Aside0.mk ((by rw [hw]; exact below_set (HBd.out) GB13.out : Below w.heap.size w w15)); have bk_ := Aside0.mk (blk_grown BKd.out hg NE13.out); clear HP14 HOd HBd BKd; clear hg hw))
                          go_roundg k1
                          case measure => have := HK1.out; omega
                          case rel => exact ⟨_, (wrap64 (x_1 + 1)), (by first | rfl | (simp; done) | (simp [*]; done)), H', ⟨by have := HK1.out; omega⟩, ⟨by (with_reducible repeat (first | apply Kd.R_alloc | apply Kd.R_drewN | apply Kd.R_drew)); exact hp_.out⟩, ⟨by repeat (first | exact hb_.out | apply below_alloc | apply pw_below_drewN | apply below_drew1)⟩, ⟨by repeat (first | exact bk_.out | (with_reducible refine blk_drewN ?_ _) | (with_reducible refine blk_drew ?_) | (with_reducible refine blk_alloc ?_ _))⟩⟩
                        · have H' := Aside0.mk H
                          clear H
                          have hxT := cell9 BK.out 1
                          simp only [List.getElem?_toArray, List.getElem?_cons_zero, List.getElem?_cons_succ] at hxT
                          go_wp2_with (fail)
                          refine wp_region_still_tail 15 (by kernel_rfl) (by kernel_rfl) ?_
                          simp only [List.take_succ_cons, List.take_zero, List.drop_succ_cons, List.drop_zero]
                          still_step
                          still_step
                          still_step
                          still_step
                          still_step
                          still_step
                          still_call ((CI.out _).mono fun _ _ h => ⟨h.1, h.2.symm⟩)
                          still_step
                          still_step
                          still_step
                          still_step
                          still_call ((CJ.out _).mono fun _ _ h => ⟨h.1, h.2.symm⟩)
                          still_step
                          still_step
                          still_step
                          refine wpStill_nil ?_
                          change wpList _ _ _ _ _ wr.drew
                          have HOd := Aside0.mk (Kd.R_drew HOO.out)
                          have HBd := Aside0.mk (below_drew1 HB.out)
                          have BKd := Aside0.mk (blk_drew BK.out)
                          clear HOO HB BK NE13 hx1 hx2 hxT hx13_0 hf13_0
                          generalize wr.drew = wd at HOd HBd BKd
                          have NE13 := Aside0.mk (Kd.R_ne HOd.out BKd.out (by decide))
                          obtain ⟨hx13_0, hf13_0⟩ := Kd.R_celln 0 HOd.out x_1 (of_eq_true e1b) (of_eq_true e4b)
                          have HP14 := Kd.R_putg HOd.out x_1 t1
                          go_wp2_with (((with_reducible refine gate_store (t := 22) (p := 49) rfl ?_); refine store_event (t := 22) (p := 49) (v := ?vo_w15) (w1 := (wd.setCell ⟨go13, (x_1 : Int).toNat, none⟩ (.int .u8 t1))) ?hg ?ho ?hn ?hr ?_; (case ho => rfl); (case hg => rfl); (case hn => rfl); (case hr => first | (go_simp; done) | (go_simp; rfl)); intro w15 hw; have hg : wd.grownBy w15 (some go13) := (by rw [hw]; exact HP14.2); have hp_ := Aside0.mk (show Kd.R (Kd.int .u8) 22 w15 w.heap.size (fun _ => True) (.slice (some ⟨go13, 0, none⟩) o_1.length co13) (o_1.set (x_1 : Int).toNat t1) from (by rw [hw]; exact HP14.1)); have hb_ := Aside0.mk ((by rw [hw]; exact below_set (HBd.out) GB13.out : Below w.heap.size w w15)); have bk_ := Aside0.mk (blk_grown BKd.out hg NE13.out); clear HP14 HOd HBd BKd; clear hg hw))
                          go_roundg k1
                          case measure => have := HK1.out; omega
                          case rel => exact ⟨_, (wrap64 (x_1 + 1)), (by first | rfl | (simp; done) | (simp [*]; done)), H', ⟨by have := HK1.out; omega⟩, ⟨by (with_reducible repeat (first | apply Kd.R_alloc | apply Kd.R_drewN | apply Kd.R_drew)); exact hp_.out⟩, ⟨by repeat (first | exact hb_.out | apply below_alloc | apply pw_below_drewN | apply below_drew1)⟩, ⟨by repeat (first | exact bk_.out | (with_reducible refine blk_drewN ?_ _) | (with_reducible refine blk_drew ?_) | (with_reducible refine blk_alloc ?_ _))⟩⟩
                        · have H' := Aside0.mk H
                          clear H
                          have hxT := cell9 BK.out 2
                          simp only [List.getElem?_toArray, List.getElem?_cons_zero, List.getElem?_cons_succ] at hxT
                          go_wp2_with (fail)
                          refine wp_region_still_tail 15 (by kernel_rfl) (by kernel_rfl) ?_
                          simp only [List.take_succ_cons, List.take_zero, List.drop_succ_cons, List.drop_zero]
                          still_step
                          still_step
                          still_step
                          still_step
                          still_step
                          still_step
                          still_call ((CI.out _).mono fun _ _ h => ⟨h.1, h.2.symm⟩)
                          still_step
                          still_step
                          still_step
                          still_step
                          still_call ((CJ.out _).mono fun _ _ h => ⟨h.1, h.2.symm⟩)
                          still_step
                          still_step
                          still_step
                          refine wpStill_nil ?_
                          change wpList _ _ _ _ _ wr.drew
                          have HOd := Aside0.mk (Kd.R_drew HOO.out)
                          have HBd := Aside0.mk (below_drew1 HB.out)
                          have BKd := Aside0.mk (blk_drew BK.out)
                          clear HOO HB BK NE13 hx1 hx2 hxT hx13_0 hf13_0
                          generalize wr.drew = wd at HOd HBd BKd
                          have NE13 := Aside0.mk (Kd.R_ne HOd.out BKd.out (by decide))
                          obtain ⟨hx13_0, hf13_0⟩ := Kd.R_celln 0 HOd.out x_1 (of_eq_true e1b) (of_eq_true e4b)
                          have HP14 := Kd.R_putg HOd.out x_1 t2
                          go_wp2_with (((with_reducible refine gate_store (t := 22) (p := 49) rfl ?_); refine store_event (t := 22) (p := 49) (v := ?vo_w15) (w1 := (wd.setCell ⟨go13, (x_1 : Int).toNat, none⟩ (.int .u8 t2))) ?hg ?ho ?hn ?hr ?_; (case ho => rfl); (case hg => rfl); (case hn => rfl); (case hr => first | (go_simp; done) | (go_simp; rfl)); intro w15 hw; have hg : wd.grownBy w15 (some go13) := (by rw [hw]; exact HP14.2); have hp_ := Aside0.mk (show Kd.R (Kd.int .u8) 22 w15 w.heap.size (fun _ => True) (.slice (some ⟨go13, 0, none⟩) o_1.length co13) (o_1.set (x_1 : Int).toNat t2) from (by rw [hw]; exact HP14.1)); have hb_ := Aside0.mk ((by rw [hw]; exact below_set (HBd.out) GB13.out : Below w.heap.size w w15)); have bk_ := Aside0.mk (blk_grown BKd.out hg NE13.out); clear HP14 HOd HBd BKd; clear hg hw))
                          go_roundg k1
                          case measure => have := HK1.out; omega
                          case rel => exact ⟨_, (wrap64 (x_1 + 1)), (by first | rfl | (simp; done) | (simp [*]; done)), H', ⟨by have := HK1.out; omega⟩, ⟨by (with_reducible repeat (first | apply Kd.R_alloc | apply Kd.R_drewN | apply Kd.R_drew)); exact hp_.out⟩, ⟨by repeat (first | exact hb_.out | apply below_alloc | apply pw_below_drewN | apply below_drew1)⟩, ⟨by repeat (first | exact bk_.out | (with_reducible refine blk_drewN ?_ _) | (with_reducible refine blk_drew ?_) | (with_reducible refine blk_alloc ?_ _))⟩⟩
                        · have H' := Aside0.mk H
                          clear H
                          have hxT := cell9 BK.out 3
                          simp only [List.getElem?_toArray, List.getElem?_cons_zero, List.getElem?_cons_succ] at hxT
                          go_wp2_with (fail)
                          refine wp_region_still_tail 15 (by kernel_rfl) (by kernel_rfl) ?_
                          simp only [List.take_succ_cons, List.take_zero, List.drop_succ_cons, List.drop_zero]
                          still_step
                          still_step
                          still_step
                          still_step
                          still_step
                          still_step
                          still_call ((CI.out _).mono fun _ _ h => ⟨h.1, h.2.symm⟩)
                          still_step
                          still_step
                          still_step
                          still_step
                          still_call ((CJ.out _).mono fun _ _ h => ⟨h.1, h.2.symm⟩)
                          still_step
                          still_step
                          still_step
                          refine wpStill_nil ?_
                          change wpList _ _ _ _ _ wr.drew
                          have HOd := Aside0.mk (Kd.R_drew HOO.out)
                          have HBd := Aside0.mk (below_drew1 HB.out)
                          have BKd := Aside0.mk (blk_drew BK.out)
                          clear HOO HB BK NE13 hx1 hx2 hxT hx13_0 hf13_0
                          generalize wr.drew = wd at HOd HBd BKd
                          have NE13 := Aside0.mk (Kd.R_ne HOd.out BKd.out (by decide))
                          obtain ⟨hx13_0, hf13_0⟩ := Kd.R_celln 0 HOd.out x_1 (of_eq_true e1b) (of_eq_true e4b)
                          have HP14 := Kd.R_putg HOd.out x_1 t3
                          go_wp2_with (((with_reducible refine gate_store (t := 22) (p := 49) rfl ?_); refine store_event (t := 22) (p := 49) (v := ?vo_w15) (w1 := (wd.setCell ⟨go13, (x_1 : Int).toNat, none⟩ (.int .u8 t3))) ?hg ?ho ?hn ?hr ?_; (case ho => rfl); (case hg => rfl); (case hn => rfl); (case hr => first | (go_simp; done) | (go_simp; rfl)); intro w15 hw; have hg : wd.grownBy w15 (some go13) := (by rw [hw]; exact HP14.2); have hp_ := Aside0.mk (show Kd.R (Kd.int .u8) 22 w15 w.heap.size (fun _ => True) (.slice (some ⟨go13, 0, none⟩) o_1.length co13) (o_1.set (x_1 : Int).toNat t3) from (by rw [hw]; exact HP14.1)); have hb_ := Aside0.mk ((by rw [hw]; exact below_set (HBd.out) GB13.out : Below w.heap.size w w15)); have bk_ := Aside0.mk (blk_grown BKd.out hg NE13.out); clear HP14 HOd HBd BKd; clear hg hw))
                          go_roundg k1
                          case measure => have := HK1.out; omega
                          case rel => exact ⟨_, (wrap64 (x_1 + 1)), (by first | rfl | (simp; done) | (simp [*]; done)), H', ⟨by have := HK1.out; omega⟩, ⟨by (with_reducible repeat (first | apply Kd.R_alloc | apply Kd.R_drewN | apply Kd.R_drew)); exact hp_.out⟩, ⟨by repeat (first | exact hb_.out | apply below_alloc | apply pw_below_drewN | apply below_drew1)⟩, ⟨by repeat (first | exact bk_.out | (with_reducible refine blk_drewN ?_ _) | (with_reducible refine blk_drew ?_) | (with_reducible refine blk_alloc ?_ _))⟩⟩
                        · have H' := Aside0.mk H
                          clear H
                          have hxT := cell9 BK.out 4
                          simp only [List.getElem?_toArray, List.getElem?_cons_zero, List.getElem?_cons_succ] at hxT
                          go_wp2_with (fail)
                          refine wp_region_still_tail 15 (by kernel_rfl) (by kernel_rfl) ?_
                          simp only [List.take_succ_cons, List.take_zero, List.drop_succ_cons, List.drop_zero]
                          still_step
                          still_step
                          still_step
                          still_step
                          still_step
                          still_step
                          still_call ((CI.out _).mono fun _ _ h => ⟨h.1, h.2.symm⟩)
                          still_step
                          still_step
                          still_step
                          still_step
                          still_call ((CJ.out _).mono fun _ _ h => ⟨h.1, h.2.symm⟩)
                          still_step
                          still_step
                          still_step
                          refine wpStill_nil ?_
                          change wpList _ _ _ _ _ wr.drew
                          have HOd := Aside0.mk (Kd.R_drew HOO.out)
                          have HBd := Aside0.mk (below_drew1 HB.out)
                          have BKd := Aside0.mk (blk_drew BK.out)
                          clear HOO HB BK NE13 hx1 hx2 hxT hx13_0 hf13_0
                          generalize wr.drew = wd at HOd HBd BKd
                          have NE13 := Aside0.mk (Kd.R_ne HOd.out BKd.out (by decide))
                          obtain ⟨hx13_0, hf13_0⟩ := Kd.R_celln 0 HOd.out x_1 (of_eq_true e1b) (of_eq_true e4b)
                          have HP14 := Kd.R_putg HOd.out x_1 t4
                          go_wp2_with (((with_reducible refine gate_store (t := 22) (p := 49) rfl ?_); refine store_event (t := 22) (p := 49) (v := ?vo_w15) (w1 := (wd.setCell ⟨go13, (x_1 : Int).toNat, none⟩ (.int .u8 t4))) ?hg ?ho ?hn ?hr ?_; (case ho => rfl); (case hg => rfl); (case hn => rfl); (case hr => first | (go_simp; done) | (go_simp; rfl)); intro w15 hw; have hg : wd.grownBy w15 (some go13) := (by rw [hw]; exact HP14.2); have hp_ := Aside0.mk (show Kd.R (Kd.int .u8) 22 w15 w.heap.size (fun _ => True) (.slice (some ⟨go13, 0, none⟩) o_1.length co13) (o_1.set (x_1 : Int).toNat t4) from (by rw [hw]; exact HP14.1)); have hb_ := Aside0.mk ((by rw [hw]; exact below_set (HBd.out) GB13.out : Below w.heap.size w w15)); have bk_ := Aside0.mk (blk_grown BKd.out hg NE13.out); clear HP14 HOd HBd BKd; clear hg hw))
                          go_roundg k1
                          case measure => have := HK1.out; omega
                          case rel => exact ⟨_, (wrap64 (x_1 + 1)), (by first | rfl | (simp; done) | (simp [*]; done)), H', ⟨by have := HK1.out; omega⟩, ⟨by (with_reducible repeat (first | apply Kd.R_alloc | apply Kd.R_drewN | apply Kd.R_drew)); exact hp_.out⟩, ⟨by repeat (first | exact hb_.out | apply below_alloc | apply pw_below_drewN | apply below_drew1)⟩, ⟨by repeat (first | exact bk_.out | (with_reducible refine blk_drewN ?_ _) | (with_reducible refine blk_drew ?_) | (with_reducible refine blk_alloc ?_ _))⟩⟩
                        · have H' := Aside0.mk H
                          clear H
                          have hxT := cell9 BK.out 5
                          simp only [List.getElem?_toArray, List.getElem?_cons_zero, List.getElem?_cons_succ] at hxT
                          go_wp2_with (fail)
                          refine wp_region_still_tail 15 (by kernel_rfl) (by kernel_rfl) ?_
                          simp only [List.take_succ_cons, List.take_zero, List.drop_succ_cons, List.drop_zero]
                          still_step
                          still_step
                          still_step
                          still_step
                          still_step
                          still_step
                          still_call ((CI.out _).mono fun _ _ h => ⟨h.1, h.2.symm⟩)
                          still_step
                          still_step
                          still_step
                          still_step
                          still_call ((CJ.out _).mono fun _ _ h => ⟨h.1, h.2.symm⟩)
                          still_step
                          still_step
                          still_step
                          refine wpStill_nil ?_
                          change wpList _ _ _ _ _ wr.drew
                          have HOd := Aside0.mk (Kd.R_drew HOO.out)
                          have HBd := Aside0.mk (below_drew1 HB.out)
                          have BKd := Aside0.mk (blk_drew BK.out)
                          clear HOO HB BK NE13 hx1 hx2 hxT hx13_0 hf13_0
                          generalize wr.drew = wd at HOd HBd BKd
                          have NE13 := Aside0.mk (Kd.R_ne HOd.out BKd.out (by decide))
                          obtain ⟨hx13_0, hf13_0⟩ := Kd.R_celln 0 HOd.out x_1 (of_eq_true e1b) (of_eq_true e4b)
                          have HP14 := Kd.R_putg HOd.out x_1 t5
                          go_wp2_with (((with_reducible refine gate_store (t := 22) (p := 49) rfl ?_); refine store_event (t := 22) (p := 49) (v := ?vo_w15) (w1 := (wd.setCell ⟨go13, (x_1 : Int).toNat, none⟩ (.int .u8 t5))) ?hg ?ho ?hn ?hr ?_; (case ho => rfl); (case hg => rfl); (case hn => rfl); (case hr => first | (go_simp; done) | (go_simp; rfl)); intro w15 hw; have hg : wd.grownBy w15 (some go13) := (by rw [hw]; exact HP14.2); have hp_ := Aside0.mk (show Kd.R (Kd.int .u8) 22 w15 w.heap.size (fun _ => True) (.slice (some ⟨go13, 0, none⟩) o_1.length co13) (o_1.set (x_1 : Int).toNat t5) from (by rw [hw]; exact HP14.1)); have hb_ := Aside0.mk ((by rw [hw]; exact below_set (HBd.out) GB13.out : Below w.heap.size w w15)); have bk_ := Aside0.mk (blk_grown BKd.out hg NE13.out); clear HP14 HOd HBd BKd; clear hg hw))
                          go_roundg k1
                          case measure => have := HK1.out; omega
                          case rel => exact ⟨_, (wrap64 (x_1 + 1)), (by first | rfl | (simp; done) | (simp [*]; done)), H', ⟨by have := HK1.out; omega⟩, ⟨by (with_reducible repeat (first | apply Kd.R_alloc | apply Kd.R_drewN | apply Kd.R_drew)); exact hp_.out⟩, ⟨by repeat (first | exact hb_.out | apply below_alloc | apply pw_below_drewN | apply below_drew1)⟩, ⟨by repeat (first | exact bk_.out | (with_reducible refine blk_drewN ?_ _) | (with_reducible refine blk_drew ?_) | (with_reducible refine blk_alloc ?_ _))⟩⟩
                        · have H' := Aside0.mk H
                          clear H
                          have hxT := cell9 BK.out 6
                          simp only [List.getElem?_toArray, List.getElem?_cons_zero, List.getElem?_cons_succ] at hxT
                          go_wp2_with (fail)
                          refine wp_region_still_tail 15 (by kernel_rfl) (by kernel_rfl) ?_
                          simp only [List.take_succ_cons, List.take_zero, List.drop_succ_cons, List.drop_zero]
                          still_step
                          still_step
                          still_step
                          still_step
                          still_step
                          still_step
                          still_call ((CI.out _).mono fun _ _ h => ⟨h.1, h.2.symm⟩)
                          still_step
                          still_step
                          still_step
                          still_step
                          still_call ((CJ.out _).mono fun _ _ h => ⟨h.1, h.2.symm⟩)
                          still_step
                          still_step
                          still_step
                          refine wpStill_nil ?_
                          change wpList _ _ _ _ _ wr.drew
                          have HOd := Aside0.mk (Kd.R_drew HOO.out)
                          have HBd := Aside0.mk (below_drew1 HB.out)
                          have BKd := Aside0.mk (blk_drew BK.out)
                          clear HOO HB BK NE13 hx1 hx2 hxT hx13_0 hf13_0
                          generalize wr.drew = wd at HOd HBd BKd
                          have NE13 := Aside0.mk (Kd.R_ne HOd.out BKd.out (by decide))
                          obtain ⟨hx13_0, hf13_0⟩ := Kd.R_celln 0 HOd.out x_1 (of_eq_true e1b) (of_eq_true e4b)
                          have HP14 := Kd.R_putg HOd.out x_1 t6
                          go_wp2_with (((with_reducible refine gate_store (t := 22) (p := 49) rfl ?_); refine store_event (t := 22) (p := 49) (v := ?vo_w15) (w1 := (wd.setCell ⟨go13, (x_1 : Int).toNat, none⟩ (.int .u8 t6))) ?hg ?ho ?hn ?hr ?_; (case ho => rfl); (case hg => rfl); (case hn => rfl); (case hr => first | (go_simp; done) | (go_simp; rfl)); intro w15 hw; have hg : wd.grownBy w15 (some go13) := (by rw [hw]; exact HP14.2); have hp_ := Aside0.mk (show Kd.R (Kd.int .u8) 22 w15 w.heap.size (fun _ => True) (.slice (some ⟨go13, 0, none⟩) o_1.length co13) (o_1.set (x_1 : Int).toNat t6) from (by rw [hw]; exact HP14.1)); have hb_ := Aside0.mk ((by rw [hw]; exact below_set (HBd.out) GB13.out : Below w.heap.size w w15)); have bk_ := Aside0.mk (blk_grown BKd.out hg NE13.out); clear HP14 HOd HBd BKd; clear hg hw))
                          go_roundg k1
                          case measure => have := HK1.out; omega
                          case rel => exact ⟨_, (wrap64 (x_1 + 1)), (by first | rfl | (simp; done) | (simp [*]; done)), H', ⟨by have := HK1.out; omega⟩, ⟨by (with_reducible repeat (first | apply Kd.R_alloc | apply Kd.R_drewN | apply Kd.R_drew)); exact hp_.out⟩, ⟨by repeat (first | exact hb_.out | apply below_alloc | apply pw_below_drewN | apply below_drew1)⟩, ⟨by repeat (first | exact bk_.out | (with_reducible refine blk_drewN ?_ _) | (with_reducible refine blk_drew ?_) | (with_reducible refine blk_alloc ?_ _))⟩⟩
                        · have H' := Aside0.mk H
                          clear H
                          have hxT := cell9 BK.out 7
                          simp only [List.getElem?_toArray, List.getElem?_cons_zero, List.getElem?_cons_succ] at hxT
                          go_wp2_with (fail)
                          refine wp_region_still_tail 15 (by kernel_rfl) (by kernel_rfl) ?_
                          simp only [List.take_succ_cons, List.take_zero, List.drop_succ_cons, List.drop_zero]
                          still_step
                          still_step
                          still_step
                          still_step
                          still_step
                          still_step
                          still_call ((CI.out _).mono fun _ _ h => ⟨h.1, h.2.symm⟩)
                          still_step
                          still_step
                          still_step
                          still_step
                          still_call ((CJ.out _).mono fun _ _ h => ⟨h.1, h.2.symm⟩)
                          still_step
                          still_step
                          still_step
                          refine wpStill_nil ?_
                          change wpList _ _ _ _ _ wr.drew
                          have HOd := Aside0.mk (Kd.R_drew HOO.out)
                          have HBd := Aside0.mk (below_drew1 HB.out)
                          have BKd := Aside0.mk (blk_drew BK.out)
                          clear HOO HB BK NE13 hx1 hx2 hxT hx13_0 hf13_0
                          generalize wr.drew = wd at HOd HBd BKd
                          have NE13 := Aside0.mk (Kd.R_ne HOd.out BKd.out (by decide))
                          obtain ⟨hx13_0, hf13_0⟩ := Kd.R_celln 0 HOd.out x_1 (of_eq_true e1b) (of_eq_true e4b)
                          have HP14 := Kd.R_putg HOd.out x_1 t7
                          go_wp2_with (((with_reducible refine gate_store (t := 22) (p := 49) rfl ?_); refine store_event (t := 22) (p := 49) (v := ?vo_w15) (w1 := (wd.setCell ⟨go13, (x_1 : Int).toNat, none⟩ (.int .u8 t7))) ?hg ?ho ?hn ?hr ?_; (case ho => rfl); (case hg => rfl); (case hn => rfl); (case hr => first | (go_simp; done) | (go_simp; rfl)); intro w15 hw; have hg : wd.grownBy w15 (some go13) := (by rw [hw]; exact HP14.2); have hp_ := Aside0.mk (show Kd.R (Kd.int .u8) 22 w15 w.heap.size (fun _ => True) (.slice (some ⟨go13, 0, none⟩) o_1.length co13) (o_1.set (x_1 : Int).toNat t7) from (by rw [hw]; exact HP14.1)); have hb_ := Aside0.mk ((by rw [hw]; exact below_set (HBd.out) GB13.out : Below w.heap.size w w15)); have bk_ := Aside0.mk (blk_grown BKd.out hg NE13.out); clear HP14 HOd HBd BKd; clear hg hw))
                          go_roundg k1
                          case measure => have := HK1.out; omega
                          case rel => exact ⟨_, (wrap64 (x_1 + 1)), (by first | rfl | (simp; done) | (simp [*]; done)), H', ⟨by have := HK1.out; omega⟩, ⟨by (with_reducible repeat (first | apply Kd.R_alloc | apply Kd.R_drewN | apply Kd.R_drew)); exact hp_.out⟩, ⟨by repeat (first | exact hb_.out | apply below_alloc | apply pw_below_drewN | apply below_drew1)⟩, ⟨by repeat (first | exact bk_.out | (with_reducible refine blk_drewN ?_ _) | (with_reducible refine blk_drew ?_) | (with_reducible refine blk_alloc ?_ _))⟩⟩
                        · have H' := Aside0.mk H
                          clear H
                          have hxT := cell9 BK.out 8
                          simp only [List.getElem?_toArray, List.getElem?_cons_zero, List.getElem?_cons_succ] at hxT
                          go_wp2_with (fail)
                          refine wp_region_still_tail 15 (by kernel_rfl) (by kernel_rfl) ?_
                          simp only [List.take_succ_cons, List.take_zero, List.drop_succ_cons, List.drop_zero]
                          still_step
                          still_step
                          still_step
                          still_step
                          still_step
                          still_step
                          still_call ((CI.out _).mono fun _ _ h => ⟨h.1, h.2.symm⟩)
                          still_step
                          still_step
                          still_step
                          still_step
                          still_call ((CJ.out _).mono fun _ _ h => ⟨h.1, h.2.symm⟩)
                          still_step
                          still_step
                          still_step
                          refine wpStill_nil ?_
                          change wpList _ _ _ _ _ wr.drew
                          have HOd := Aside0.mk (Kd.R_drew HOO.out)
                          have HBd := Aside0.mk (below_drew1 HB.out)
                          have BKd := Aside0.mk (blk_drew BK.out)
                          clear HOO HB BK NE13 hx1 hx2 hxT hx13_0 hf13_0
                          generalize wr.drew = wd at HOd HBd BKd
                          have NE13 := Aside0.mk (Kd.R_ne HOd.out BKd.out (by decide))
                          obtain ⟨hx13_0, hf13_0⟩ := Kd.R_celln 0 HOd.out x_1 (of_eq_true e1b) (of_eq_true e4b)
                          have HP14 := Kd.R_putg HOd.out x_1 t8
                          go_wp2_with (((with_reducible refine gate_store (t := 22) (p := 49) rfl ?_); refine store_event (t := 22) (p := 49) (v := ?vo_w15) (w1 := (wd.setCell ⟨go13, (x_1 : Int).toNat, none⟩ (.int .u8 t8))) ?hg ?ho ?hn ?hr ?_; (case ho => rfl); (case hg => rfl); (case hn => rfl); (case hr => first | (go_simp; done) | (go_simp; rfl)); intro w15 hw; have hg : wd.grownBy w15 (some go13) := (by rw [hw]; exact HP14.2); have hp_ := Aside0.mk (show Kd.R (Kd.int .u8) 22 w15 w.heap.size (fun _ => True) (.slice (some ⟨go13, 0, none⟩) o_1.length co13) (o_1.set (x_1 : Int).toNat t8) from (by rw [hw]; exact HP14.1)); have hb_ := Aside0.mk ((by rw [hw]; exact below_set (HBd.out) GB13.out : Below w.heap.size w w15)); have bk_ := Aside0.mk (blk_grown BKd.out hg NE13.out); clear HP14 HOd HBd BKd; clear hg hw))
                          go_roundg k1
                          case measure => have := HK1.out; omega
                          case rel => exact ⟨_, (wrap64 (x_1 + 1)), (by first | rfl | (simp; done) | (simp [*]; done)), H', ⟨by have := HK1.out; omega⟩, ⟨by (with_reducible repeat (first | apply Kd.R_alloc | apply Kd.R_drewN | apply Kd.R_drew)); exact hp_.out⟩, ⟨by repeat (first | exact hb_.out | apply below_alloc | apply pw_below_drewN | apply below_drew1)⟩, ⟨by repeat (first | exact bk_.out | (with_reducible refine blk_drewN ?_ _) | (with_reducible refine blk_drew ?_) | (with_reducible refine blk_alloc ?_ _))⟩⟩
                      · rw [if_neg d6] at H; exact absurd H (by simp)
                    · rw [if_neg d5] at H; exact absurd H (by simp)
                  · rw [if_neg d4] at H; exact absurd H (by simp)
                · rw [if_neg d3] at H; exact absurd H (by simp)
              · rw [if_neg d2] at H; exact absurd H (by simp)
            · rw [if_neg d1] at H
              have d1b : decide (x_1 < (l1.length : Int)) = false := decide_eq_false d1
              clear d1
              simp only [Option.some.injEq, Prod.mk.injEq] at H
              obtain ⟨rfl, rfl⟩ := H
              go_wp2
              go_ret2
              exact ⟨_, rfl, by (with_reducible repeat (first | apply Kd.R_alloc | apply Kd.R_drewN | apply Kd.R_drew)); exact HOO.out, by repeat (first | exact HB.out | apply below_alloc | apply pw_below_drewN | apply below_drew1)⟩
      · rw [if_neg c5] at h; exact absurd h (by simp)
end Go.Proofs.Ytajpgmpidphmgaa.Hand
