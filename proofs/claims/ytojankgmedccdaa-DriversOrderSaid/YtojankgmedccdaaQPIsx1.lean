/- Part of the proof of LawDriversOrder: every definition and lemma is one that it names. -/
import Derived.Test.YtojankgmedccdaaQPIsx0
namespace Go.Proofs.Ytojankgmedccdaa.PIs
open Go.RowKit Own PTy Hand YtojankgmedccdaaW.PrintWords YtojankgmedccdaaW.PrintLast YtojankgmedccdaaW.PrintMore
attribute [local go_sem] max2_int min2_int max_two min_two max_three min_three max_four min_four
set_option linter.unusedVariables false
set_option linter.unusedSimpArgs false
mutual
def r04parts.l0 : Nat → Int → List (S30) → Int → Int → Option (Int)
 | 0, _, _, _, _ => none
 | k + 1, x1, x14, x15, x16 => if x16 < x15 then (if 0 ≤ x16 then (if x16 < (x14.length : Int) then (if x1 < 0 then (some x1) else ((r04parts.f k ((rd_T30 x14 x16).f0) ((rd_T30 x14 x16).f1) ((rd_T30 x14 x16).f2) ((rd_T30 x14 x16).f3) x1).bind fun t104 => (r04parts.l0 k t104 x14 x15 (wrap64 (x16 + 1))))) else (none)) else (none)) else (some x1)
def r04parts.f : Nat → Int → Int → List Int → List (S30) → Int → Option (Int)
 | 0, _, _, _, _, _ => none
 | k + 1, a0_0, a0_1, l0_2, l0_3, a1 => r04parts.l0 k (wrap64 (a1 - (wrap64 (1 + (l0_2.length : Int))))) l0_3 (l0_3.length : Int) 0
end
theorem r04parts.mono_l : ∀ k, (∀ y0 y1 y2 y3 y4, LeO (r04parts.f k y0 y1 y2 y3 y4) (r04parts.f (k + 1) y0 y1 y2 y3 y4)) ∧ (∀ y0 y1 y2 y3, LeO (r04parts.l0 k y0 y1 y2 y3) (r04parts.l0 (k + 1) y0 y1 y2 y3))
 | 0 => ⟨fun _ _ _ _ _ r h => by simp [r04parts.f] at h, fun _ _ _ _ r h => by simp [r04parts.l0] at h⟩
 | k + 1 => by
  obtain ⟨ih0, ih1⟩ := r04parts.mono_l k
  refine ⟨?_, ?_⟩ <;> intros <;> (first | unfold r04parts.f | unfold r04parts.l0) <;> repeat' first | (with_reducible first | apply ih0 | apply ih1 | apply LeO.refl | apply LeO.none | refine LeO.ite ?_ ?_ | refine LeO.bind ?_ (fun _ => ?_)) | apply ih0 | apply ih1 | apply LeO.none | refine LeO.ite ?_ ?_ | refine LeO.bind ?_ (fun _ => ?_)
theorem r04parts.mono : ∀ a0 a1 a2 a3 a4 k, LeO (r04parts.f k a0 a1 a2 a3 a4) (r04parts.f (k + 1) a0 a1 a2 a3 a4) := by
 intro a0 a1 a2 a3 a4 k
 obtain ⟨ih0, ih1⟩ := r04parts.mono_l k
 exact ih0 a0 a1 a2 a3 a4
set_option maxHeartbeats 8000000 in
set_option maxRecDepth 100000 in
theorem r04parts.calls (k : Nat) : ∀ (a0_0 : Int) (a0_1 : Int) (A0_2 : Option Addr) (c0_2 : Nat) (l0_2 : List Int) (A0_3 : Option Addr) (c0_3 : Nat) (l0_3 : List (S30)) (a1 : Int) (r : Int) (w : World) (hr0_2 : Kd.C (Kd.int .u8) w A0_2 l0_2.length l0_2) (hc0_2 : l0_2.length ≤ c0_2) (hr0_3 : Kd.C k30 w A0_3 l0_3.length l0_3) (hc0_3 : l0_3.length ≤ c0_3) (h : r04parts.f k a0_0 a0_1 l0_2 l0_3 a1 = some r),
  Calls Try.prog 62 #[.agg #[.int .i64 a0_0, .int .i64 a0_1, .slice A0_2 l0_2.length c0_2, .slice A0_3 l0_3.length c0_3], .int .i64 a1] w fun e w' => e = .returned (.int .i64 r) ∧ Below w.heap.size w w' := by
 induction k using Nat.strongRecOn with
 | _ k ih =>
 intro a0_0 a0_1 A0_2 c0_2 l0_2 A0_3 c0_3 l0_3 a1 r w hr0_2 hc0_2 hr0_3 hc0_3 h
 cases k with
 | zero => exact absurd h (by simp [r04parts.f])
 | succ k =>
 simp only [r04parts.f] at h
 have hu30 := Try.underlying30
 have HR0_2 := mk0 hr0_2; have HC0_2 := mk0 hc0_2; clear hr0_2 hc0_2; have HR0_3 := mk0 hr0_3; have HC0_3 := mk0 hc0_3; clear hr0_3 hc0_3
 have HB := mk0 (Below.refl w.heap.size w)
 have H := h; unfold r04parts.f at H
 clear h
 have H' := mk0 H
 clear H
 go_enter Try.func62, Try.ntmps62
 go_wp2_with ((with_reducible refine box_event rfl (N := 2) rfl (cs := #[.int .i64 a0_0, .int .i64 a0_1, .slice A0_2 l0_2.length c0_2, .slice A0_3 l0_3.length c0_3]) (t := 30) ?hr ?_); (case hr => first | (go_simp; done) | (go_simp; rfl)); intro gb101 hg w3 hbox hb; have BK101 := mk0 (hbox); have GE101 := bs (be HB) hg; replace HB := kh HB hb; clear hb hbox hg; have z4 := cells4 BK101.out)
 go_loopg [1, 16] k (fun kq v1 v16 w' => ∃ (x1_1 : Int) (x16_1 : Int), v1 = .int .i64 x1_1 ∧ v16 = .int .i64 x16_1 ∧ Aside0 (r04parts.l0 kq x1_1 l0_3 (l0_3.length : Int) x16_1 = some r) ∧ Aside0 (kq ≤ k) ∧ Aside0 (w'.heap[gb101]? = some (.cells #[.int .i64 a0_0, .int .i64 a0_1, (.slice A0_2 l0_2.length c0_2), (.slice A0_3 l0_3.length c0_3)] 30 (0, 0))) ∧ Aside0 (Below w.heap.size w w'))
 case atStart => exact ⟨(wrap64 (a1 - (wrap64 (1 + (l0_2.length : Int))))), (0), rfl, rfl, H', ⟨Nat.le_refl _⟩, ⟨bu BK101⟩, ⟨be1 HB GE101⟩⟩
 case round =>
  clear H'
  obtain ⟨x1_1, x16_1, rfl, rfl, HA, HK1, BK101, HB⟩ := hrel
  cases gk with
  | zero => exact absurd HA.out (by simp [r04parts.l0])
  | succ k1 =>
   have H := HA.out; clear HA
   simp only [r04parts.l0] at H
   replace H := iD' H; obtain ⟨-, c5b0, H⟩ | ⟨-, c5b0, H⟩ := H
   ·obtain rfl := sI H
    go_wp2
    go_ret
    exact ⟨rfl, be1 HB GE101⟩
   replace H := iN H; obtain ⟨-, c6b0, H⟩ := H
   replace H := iN H; obtain ⟨-, c7b0, H⟩ := H
   replace H := iD H; obtain ⟨-, c8b0, H⟩ | ⟨-, c8b0, H⟩ := H
   ·obtain rfl := sI H
    have p102 : 0 ≤ (x16_1 : Int) := od
    have q102 : x16_1 < (l0_3.length : Int) := od
    obtain ⟨ad102, A102_2, c102_2, A102_3, c102_3, e102, hx102_0, hx102_1, hx102_2, hx102_3, hl102_2, hi102_2, hl102_3, hi102_3⟩ := at_T30 HR0_3.out x16_1 p102 q102
    cases e102
    replace hx102_0 := keepc HB.out hx102_0
    replace hx102_1 := keepc HB.out hx102_1
    replace hx102_2 := keepc HB.out hx102_2
    replace hx102_3 := keepc HB.out hx102_3
    have HR102_2 := mk0 hi102_2; have HC102_2 := mk0 hl102_2; clear hi102_2 hl102_2; have HR102_3 := mk0 hi102_3; have HC102_3 := mk0 hl102_3; clear hi102_3 hl102_3; replace p102 := eq_true p102; replace q102 := eq_true q102
    go_wp2_with ((with_reducible refine box_event rfl (N := 6) rfl (cs := #[.int .i64 0, .int .i64 0, .slice none 0 0, .slice none 0 0]) (t := 30) ?hr ?_); (case hr => first | (go_simp; done) | (go_simp; rfl)); intro gb103 hg w9 hbox hb; have BK103 := mk0 (hbox); have GE103 := bs (be1 HB GE101) hg; replace HB := kh1 HB GE101 hb; have NB101_103 := nb1 (bu BK101) hg; have NB103_101 := nb2 (bu BK101) hg; replace BK101 := kb BK101 hb; clear hb hbox hg; have hnb10 := NB103_101.out; have hnc10 := NB101_103.out; have z11 := cells4 BK103.out)
    go_ret
    exact ⟨rfl, be2 HB GE101 GE103⟩
   replace H := bS H; obtain ⟨t104, A12, H⟩ := H
   have H' := mk0 H
   clear H
   have p102 : 0 ≤ (x16_1 : Int) := od
   have q102 : x16_1 < (l0_3.length : Int) := od
   obtain ⟨ad102, A102_2, c102_2, A102_3, c102_3, e102, hx102_0, hx102_1, hx102_2, hx102_3, hl102_2, hi102_2, hl102_3, hi102_3⟩ := at_T30 HR0_3.out x16_1 p102 q102
   cases e102
   replace hx102_0 := keepc HB.out hx102_0
   replace hx102_1 := keepc HB.out hx102_1
   replace hx102_2 := keepc HB.out hx102_2
   replace hx102_3 := keepc HB.out hx102_3
   have HR102_2 := mk0 hi102_2; have HC102_2 := mk0 hl102_2; clear hi102_2 hl102_2; have HR102_3 := mk0 hi102_3; have HC102_3 := mk0 hl102_3; clear hi102_3 hl102_3; replace p102 := eq_true p102; replace q102 := eq_true q102
   go_wp2_with (first | ((with_reducible refine box_event rfl (N := 6) rfl (cs := #[.int .i64 0, .int .i64 0, .slice none 0 0, .slice none 0 0]) (t := 30) ?hr ?_); (case hr => first | (go_simp; done) | (go_simp; rfl)); intro gb103 hg w13 hbox hb; have BK103 := mk0 (hbox); have GE103 := bs (be1 HB GE101) hg; replace HB := kh1 HB GE101 hb; have NB101_103 := nb1 (bu BK101) hg; have NB103_101 := nb2 (bu BK101) hg; replace BK101 := kb BK101 hb; clear hb hbox hg; have hnb14 := NB103_101.out; have hnc14 := NB101_103.out; have z15 := cells4 BK103.out) | ((with_reducible refine gate_callee (f := 62) rfl ?_); refine goB (some 25) rfl rfl Try.func62 (by kernel_rfl) rfl #[.agg #[.int .i64 ((rd_T30 l0_3 x16_1).f0), .int .i64 ((rd_T30 l0_3 x16_1).f1), .slice A102_2 ((rd_T30 l0_3 x16_1).f2).length c102_2, .slice A102_3 ((rd_T30 l0_3 x16_1).f3).length c102_3], .int .i64 x1_1] rfl rfl (ih k1 (by have := HK1.out; omega) ((rd_T30 l0_3 x16_1).f0) ((rd_T30 l0_3 x16_1).f1) _ _ ((rd_T30 l0_3 x16_1).f2) _ _ ((rd_T30 l0_3 x16_1).f3) x1_1 t104 _ (Kd.C_below HR102_2.out (be2 HB GE101 GE103)) HC102_2.out (Kd.C_below HR102_3.out (be2 HB GE101 GE103)) HC102_3.out A12.out) ?_; intro w16 hb; replace BK101 := kF NB101_103 BK101 hb; replace BK103 := mk0 (blk_below (g := gb103) (o := .cells #[.int .i64 ((rd_T30 l0_3 x16_1).f0), .int .i64 ((rd_T30 l0_3 x16_1).f1), .slice A102_2 ((rd_T30 l0_3 x16_1).f2).length c102_2, .slice A102_3 ((rd_T30 l0_3 x16_1).f3).length c102_3] 30 (0, 0)) (pB BK103) hb); replace HB := kh2 HB GE101 GE103 hb))
   go_roundg k1
   case measure => have := HK1.out; omega
   case rel => exact ⟨(t104), (wrap64 (x16_1 + 1)), rfl, rfl, H', ⟨by have := HK1.out; omega⟩, ⟨bu BK101⟩, ⟨be2 HB GE101 GE103⟩⟩
end Go.Proofs.Ytojankgmedccdaa.PIs
