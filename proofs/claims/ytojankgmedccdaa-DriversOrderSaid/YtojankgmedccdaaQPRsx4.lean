/- Part of the proof of LawDriversOrder: every definition and lemma is one that it names. -/
import Derived.Test.YtojankgmedccdaaQPRsx0
namespace Go.Proofs.Ytojankgmedccdaa.PRs
open Go.RowKit Own PTy Hand PIs PAw YtojankgmedccdaaW.PrintWords YtojankgmedccdaaW.PrintLast YtojankgmedccdaaW.PrintMore
attribute [local go_sem] max2_int min2_int max_two min_two max_three min_three max_four min_four
set_option linter.unusedVariables false
set_option linter.unusedSimpArgs false
mutual
def r04Alike.j0 : Nat → Bool → Int → Int → List Int → List (S30) → Int → Int → List Int → List (S30) → Option (Bool)
 | 0, _, _, _, _, _, _, _, _, _ => none
 | k + 1, x34, x172000, x172001, x172002, x172003, x173000, x173001, x173002, x173003 => if x34 = true then (some false) else (r04Alike.l0 k (x172003.length : Int) 0 x172000 x172001 x172002 x172003 x173000 x173001 x173002 x173003)
def r04Alike.l0 : Nat → Int → Int → Int → Int → List Int → List (S30) → Int → Int → List Int → List (S30) → Option (Bool)
 | 0, _, _, _, _, _, _, _, _, _, _ => none
 | k + 1, x37, x38, x172000, x172001, x172002, x172003, x173000, x173001, x173002, x173003 => if x38 < x37 then (if 0 ≤ x38 then (if x38 < (x172003.length : Int) then (if x38 < (x173003.length : Int) then ((r04Alike.f k ((rd_T30 x172003 x38).f0) ((rd_T30 x172003 x38).f1) ((rd_T30 x172003 x38).f2) ((rd_T30 x172003 x38).f3) ((rd_T30 x173003 x38).f0) ((rd_T30 x173003 x38).f1) ((rd_T30 x173003 x38).f2) ((rd_T30 x173003 x38).f3)).bind fun t176 => (if t176 = true then (r04Alike.l0 k x37 (wrap64 (x38 + 1)) x172000 x172001 x172002 x172003 x173000 x173001 x173002 x173003) else (some false))) else (none)) else (none)) else (none)) else (some true)
def r04Alike.f : Nat → Int → Int → List Int → List (S30) → Int → Int → List Int → List (S30) → Option (Bool)
 | 0, _, _, _, _, _, _, _, _ => none
 | k + 1, a0_0, a0_1, l0_2, l0_3, a1_0, a1_1, l1_2, l1_3 => if a0_0 = a1_0 then (if a0_1 = a1_1 then ((r01Same.f k l0_2 l1_2).bind fun t173 => (if t173 = true then (r04Alike.j0 k ((l0_3.length : Int) != (l1_3.length : Int)) a0_0 a0_1 l0_2 l0_3 a1_0 a1_1 l1_2 l1_3) else (r04Alike.j0 k true a0_0 a0_1 l0_2 l0_3 a1_0 a1_1 l1_2 l1_3))) else (r04Alike.j0 k true a0_0 a0_1 l0_2 l0_3 a1_0 a1_1 l1_2 l1_3)) else (r04Alike.j0 k true a0_0 a0_1 l0_2 l0_3 a1_0 a1_1 l1_2 l1_3)
end
theorem r04Alike.mono_l : ∀ k, (∀ y0 y1 y2 y3 y4 y5 y6 y7, LeO (r04Alike.f k y0 y1 y2 y3 y4 y5 y6 y7) (r04Alike.f (k + 1) y0 y1 y2 y3 y4 y5 y6 y7)) ∧ (∀ y0 y1 y2 y3 y4 y5 y6 y7 y8, LeO (r04Alike.j0 k y0 y1 y2 y3 y4 y5 y6 y7 y8) (r04Alike.j0 (k + 1) y0 y1 y2 y3 y4 y5 y6 y7 y8)) ∧ (∀ y0 y1 y2 y3 y4 y5 y6 y7 y8 y9, LeO (r04Alike.l0 k y0 y1 y2 y3 y4 y5 y6 y7 y8 y9) (r04Alike.l0 (k + 1) y0 y1 y2 y3 y4 y5 y6 y7 y8 y9))
 | 0 => ⟨fun _ _ _ _ _ _ _ _ r h => by simp [r04Alike.f] at h, fun _ _ _ _ _ _ _ _ _ r h => by simp [r04Alike.j0] at h, fun _ _ _ _ _ _ _ _ _ _ r h => by simp [r04Alike.l0] at h⟩
 | k + 1 => by
  obtain ⟨ih0, ih1, ih2⟩ := r04Alike.mono_l k
  refine ⟨?_, ?_, ?_⟩ <;> intros <;> (first | unfold r04Alike.f | unfold r04Alike.j0 | unfold r04Alike.l0) <;> repeat' first | (with_reducible first | apply ih0 | apply ih1 | apply ih2 | apply r01Same.mono | apply LeO.refl | apply LeO.none | refine LeO.ite ?_ ?_ | refine LeO.bind ?_ (fun _ => ?_)) | apply ih0 | apply ih1 | apply ih2 | apply r01Same.mono | apply LeO.none | refine LeO.ite ?_ ?_ | refine LeO.bind ?_ (fun _ => ?_)
theorem r04Alike.mono : ∀ a0 a1 a2 a3 a4 a5 a6 a7 k, LeO (r04Alike.f k a0 a1 a2 a3 a4 a5 a6 a7) (r04Alike.f (k + 1) a0 a1 a2 a3 a4 a5 a6 a7) := by
 intro a0 a1 a2 a3 a4 a5 a6 a7 k
 obtain ⟨ih0, ih1, ih2⟩ := r04Alike.mono_l k
 exact ih0 a0 a1 a2 a3 a4 a5 a6 a7
def r04Alike.T6 : Bool × List (List Nat × List Nat) := (true, [([], []), ([0], [0]), ([], []), ([1, 2], [1, 2]), ([3], [3]), ([], []), ([5], [5]), ([], []), ([6, 7], [6, 7]), ([8], [8]), ([4, 9], [4, 9]), ([10], [10])])
def r04Alike.B6 : List Nat := [0, 1, 0, 7, 15, 0, 32, 0, 224, 480, 1023, 2047]
theorem r04Alike.tab6 : rtab .any (opsOf Try.f32 6) = r04Alike.T6 := by kernel_rfl
theorem r04Alike.bits6 : waitsOk r04Alike.T6.2 r04Alike.B6 = true := by kernel_rfl
set_option maxHeartbeats 8000000 in
set_option maxRecDepth 100000 in
theorem r04Alike.calls (k : Nat) : ∀ (a0_0 : Int) (a0_1 : Int) (A0_2 : Option Addr) (c0_2 : Nat) (l0_2 : List Int) (A0_3 : Option Addr) (c0_3 : Nat) (l0_3 : List (S30)) (a1_0 : Int) (a1_1 : Int) (A1_2 : Option Addr) (c1_2 : Nat) (l1_2 : List Int) (A1_3 : Option Addr) (c1_3 : Nat) (l1_3 : List (S30)) (r : Bool) (w : World) (hr0_2 : Kd.C (Kd.int .u8) w A0_2 l0_2.length l0_2) (hc0_2 : l0_2.length ≤ c0_2) (hr0_3 : Kd.C k30 w A0_3 l0_3.length l0_3) (hc0_3 : l0_3.length ≤ c0_3) (hr1_2 : Kd.C (Kd.int .u8) w A1_2 l1_2.length l1_2) (hc1_2 : l1_2.length ≤ c1_2) (hr1_3 : Kd.C k30 w A1_3 l1_3.length l1_3) (hc1_3 : l1_3.length ≤ c1_3) (h : r04Alike.f k a0_0 a0_1 l0_2 l0_3 a1_0 a1_1 l1_2 l1_3 = some r),
  Calls Try.prog 32 #[.agg #[.int .i64 a0_0, .int .i64 a0_1, .slice A0_2 l0_2.length c0_2, .slice A0_3 l0_3.length c0_3], .agg #[.int .i64 a1_0, .int .i64 a1_1, .slice A1_2 l1_2.length c1_2, .slice A1_3 l1_3.length c1_3]] w fun e w' => e = .returned (.bool r) ∧ Below w.heap.size w w' := by
 induction k using Nat.strongRecOn with
 | _ k ih =>
 intro a0_0 a0_1 A0_2 c0_2 l0_2 A0_3 c0_3 l0_3 a1_0 a1_1 A1_2 c1_2 l1_2 A1_3 c1_3 l1_3 r w hr0_2 hc0_2 hr0_3 hc0_3 hr1_2 hc1_2 hr1_3 hc1_3 h
 cases k with
 | zero => exact absurd h (by simp [r04Alike.f])
 | succ k =>
 simp only [r04Alike.f] at h
 have hu30 := Try.underlying30
 have HR0_2 := mk0 hr0_2; have HC0_2 := mk0 hc0_2; clear hr0_2 hc0_2; have HR0_3 := mk0 hr0_3; have HC0_3 := mk0 hc0_3; clear hr0_3 hc0_3; have HR1_2 := mk0 hr1_2; have HC1_2 := mk0 hc1_2; clear hr1_2 hc1_2; have HR1_3 := mk0 hr1_3; have HC1_3 := mk0 hc1_3; clear hr1_3 hc1_3
 have HB := mk0 (Below.refl w.heap.size w)
 have H := h; unfold r04Alike.f at H
 clear h; have HC3 := mk0 H; clear H
 go_enter Try.func32, Try.ntmps32
 go_upto_region 1 with (first | ((with_reducible refine box_event rfl (N := 2) rfl (cs := #[.int .i64 a0_0, .int .i64 a0_1, .slice A0_2 l0_2.length c0_2, .slice A0_3 l0_3.length c0_3]) (t := 30) ?hr ?_); (case hr => first | (go_simp; done) | (go_simp; rfl)); intro gb171 hg w4 hbox hb; have BK171 := mk0 (hbox); have GE171 := bs (be HB) hg; replace HB := kh HB hb; clear hb hbox hg) | ((with_reducible refine box_event rfl (N := 3) rfl (cs := #[.int .i64 a1_0, .int .i64 a1_1, .slice A1_2 l1_2.length c1_2, .slice A1_3 l1_3.length c1_3]) (t := 30) ?hr ?_); (case hr => first | (go_simp; done) | (go_simp; rfl)); intro gb172 hg w5 hbox hb; have BK172 := mk0 (hbox); have GE172 := bs (be1 HB GE171) hg; replace HB := kh1 HB GE171 hb; have NB171_172 := nb1 (bu BK171) hg; have NB172_171 := nb2 (bu BK171) hg; replace BK171 := kb BK171 hb; clear hb hbox hg))
 (try simp only [Act.put, List.setIfInBounds_toArray, List.set_cons_zero, List.set_cons_succ])
 go_cut [34] (fun v34 wc => ∃ (kq : Nat) (x34_2 : Bool), v34 = .bool x34_2 ∧ Aside0 (r04Alike.j0 kq x34_2 a0_0 a0_1 l0_2 l0_3 a1_0 a1_1 l1_2 l1_3 = some r) ∧ Aside0 (kq ≤ k) ∧ Aside0 (wc.heap[gb171]? = some (.cells #[.int .i64 a0_0, .int .i64 a0_1, (.slice A0_2 l0_2.length c0_2), (.slice A0_3 l0_3.length c0_3)] 30 (0, 0))) ∧ Aside0 (wc.heap[gb172]? = some (.cells #[.int .i64 a1_0, .int .i64 a1_1, (.slice A1_2 l1_2.length c1_2), (.slice A1_3 l1_3.length c1_3)] 30 (0, 0))) ∧ Aside0 (Below w.heap.size w wc))
 case first =>
  have H := HC3.out; clear HC3
  replace H := iE' H; obtain ⟨c6, c6b0, c6b1, H⟩ | ⟨c6b0, c6b1, H⟩ := H
  ·(first | rw [c6b0] | (simp only [i64_w, i32_w]; rw [c6b0]) | skip)
   have H' := mk0 H
   clear H; have hnb19 := NB171_172.out; have hnc19 := NB172_171.out
   have zc20 := cells4 BK171.out
   have zc21 := cells4 BK172.out
   go_wp2
   go_meet
   case rel => exact ⟨_, (true), rfl, H', ⟨by omega⟩, ⟨bu BK171⟩, ⟨bu BK172⟩, ⟨be2 HB GE171 GE172⟩⟩
  (first | rw [c6b0] | (simp only [i64_w, i32_w]; rw [c6b0]) | skip)
  replace H := iE' H; obtain ⟨c7, c7b0, c7b1, H⟩ | ⟨c7b0, c7b1, H⟩ := H
  ·have H' := mk0 H
   clear H; have hnb16 := NB171_172.out; have hnc16 := NB172_171.out
   have zc17 := cells4 BK171.out
   have zc18 := cells4 BK172.out
   go_wp2
   go_meet
   case rel => exact ⟨_, (true), rfl, H', ⟨by omega⟩, ⟨bu BK171⟩, ⟨bu BK172⟩, ⟨be2 HB GE171 GE172⟩⟩
  replace H := bS H; obtain ⟨t173, A8, H⟩ := H
  replace H := iB H; obtain ⟨rfl, H⟩ | ⟨rfl, H⟩ := H
  ·have H' := mk0 H
   clear H; have hnb10 := NB171_172.out; have hnc10 := NB172_171.out
   have zc11 := cells4 BK171.out
   have zc12 := cells4 BK172.out
   go_wp2_with (go_at_call 55; refine (r01Same.calls k _ _ l0_2 _ _ l1_2 true _ (cu HR0_2 HB) HC0_2.out (cu HR1_2 HB) HC1_2.out A8.out).mono ?_; rintro e w' ⟨rfl, ⟨nd, rfl⟩⟩)
   go_meet
   case rel => exact ⟨_, (((l0_3.length : Int) != (l1_3.length : Int))), rfl, H', ⟨by omega⟩, ⟨bu BK171⟩, ⟨bu BK172⟩, ⟨be2 HB GE171 GE172⟩⟩
  have H' := mk0 H
  clear H; have hnb13 := NB171_172.out; have hnc13 := NB172_171.out
  have zc14 := cells4 BK171.out
  have zc15 := cells4 BK172.out
  go_wp2_with (go_at_call 55; refine (r01Same.calls k _ _ l0_2 _ _ l1_2 false _ (cu HR0_2 HB) HC0_2.out (cu HR1_2 HB) HC1_2.out A8.out).mono ?_; rintro e w' ⟨rfl, ⟨nd, rfl⟩⟩)
  go_meet
  case rel => exact ⟨_, (true), rfl, H', ⟨by omega⟩, ⟨bu BK171⟩, ⟨bu BK172⟩, ⟨be2 HB GE171 GE172⟩⟩
 case rest =>
  clear HC3
  obtain ⟨kq, x34_2, rfl, HA, HJ2, BK171, BK172, HB⟩ := hcut
  cases kq with
  | zero => exact absurd HA.out (by simp [r04Alike.j0])
  | succ kj2 =>
   have H := HA.out; clear HA
   simp only [r04Alike.j0] at H
   replace H := iB H; obtain ⟨rfl, H⟩ | ⟨rfl, H⟩ := H
   ·obtain rfl := sI H
    go_wp2
    go_ret
    exact ⟨rfl, be2 HB GE171 GE172⟩
   have H' := mk0 H
   clear H; have hnb23 := NB171_172.out; have hnc23 := NB172_171.out
   have zc24 := cells4 BK171.out
   go_wp2
   go_loopg [38] kj2 (fun kq v38 w' => ∃ (x38_2 : Int), v38 = .int .i64 x38_2 ∧ Aside0 (r04Alike.l0 kq (l0_3.length : Int) x38_2 a0_0 a0_1 l0_2 l0_3 a1_0 a1_1 l1_2 l1_3 = some r) ∧ Aside0 (kq ≤ kj2) ∧ Aside0 (w'.heap[gb171]? = some (.cells #[.int .i64 a0_0, .int .i64 a0_1, (.slice A0_2 l0_2.length c0_2), (.slice A0_3 l0_3.length c0_3)] 30 (0, 0))) ∧ Aside0 (w'.heap[gb172]? = some (.cells #[.int .i64 a1_0, .int .i64 a1_1, (.slice A1_2 l1_2.length c1_2), (.slice A1_3 l1_3.length c1_3)] 30 (0, 0))) ∧ Aside0 (Below w.heap.size w w'))
   case atStart => exact ⟨(0), rfl, H', ⟨Nat.le_refl _⟩, ⟨bu BK171⟩, ⟨bu BK172⟩, ⟨be2 HB GE171 GE172⟩⟩
   case round =>
    clear H'
    obtain ⟨x38_2, rfl, HA, HK2, BK171, BK172, HB⟩ := hrel
    cases gk with
    | zero => exact absurd HA.out (by simp [r04Alike.l0])
    | succ k2 =>
     have H := HA.out; clear HA
     simp only [r04Alike.l0] at H
     replace H := iD' H; obtain ⟨-, c25b0, H⟩ | ⟨-, c25b0, H⟩ := H
     ·obtain rfl := sI H
      go_wp2
      go_ret
      exact ⟨rfl, be2 HB GE171 GE172⟩
     replace H := iN H; obtain ⟨-, c26b0, H⟩ := H
     replace H := iN H; obtain ⟨-, c27b0, H⟩ := H
     replace H := iN H; obtain ⟨-, c28b0, H⟩ := H
     replace H := bS H; obtain ⟨t176, A29, H⟩ := H
     replace H := iB' H; obtain ⟨rfl, H⟩ | ⟨rfl, H⟩ := H
     ·obtain rfl := sI H
      try go_wp2
      have n0_ := mk0 (blk_drew BK171.out)
      have n1_ := mk0 (blk_drew BK172.out)
      have n2_ := mk0 (below_drew1 HB.out)
      clear BK171; clear BK172; clear HB; have BK171 := n0_; have BK172 := n1_; have HB := n2_; clear n0_ n1_ n2_
      have p174 : 0 ≤ (x38_2 : Int) := od
      have q174 : x38_2 < (l0_3.length : Int) := od
      obtain ⟨ad174, A174_2, c174_2, A174_3, c174_3, e174, hx174_0, hx174_1, hx174_2, hx174_3, hl174_2, hi174_2, hl174_3, hi174_3⟩ := at_T30 HR0_3.out x38_2 p174 q174
      have hw174_3 := hx174_3; have hw174_2 := hx174_2; have hw174_1 := hx174_1; have hw174_0 := hx174_0; cases e174
      replace hx174_0 := keepc HB.out hx174_0
      replace hx174_1 := keepc HB.out hx174_1
      replace hx174_2 := keepc HB.out hx174_2
      replace hx174_3 := keepc HB.out hx174_3
      have HR174_2 := mk0 hi174_2; have HC174_2 := mk0 hl174_2; clear hi174_2 hl174_2; have HR174_3 := mk0 hi174_3; have HC174_3 := mk0 hl174_3; clear hi174_3 hl174_3; replace p174 := eq_true p174; replace q174 := eq_true q174
      have p175 : 0 ≤ (x38_2 : Int) := od
      have q175 : x38_2 < (l1_3.length : Int) := od
      obtain ⟨ad175, A175_2, c175_2, A175_3, c175_3, e175, hx175_0, hx175_1, hx175_2, hx175_3, hl175_2, hi175_2, hl175_3, hi175_3⟩ := at_T30 HR1_3.out x38_2 p175 q175
      have hw175_3 := hx175_3; have hw175_2 := hx175_2; have hw175_1 := hx175_1; have hw175_0 := hx175_0; cases e175
      replace hx175_0 := keepc HB.out hx175_0
      replace hx175_1 := keepc HB.out hx175_1
      replace hx175_2 := keepc HB.out hx175_2
      replace hx175_3 := keepc HB.out hx175_3
      have HR175_2 := mk0 hi175_2; have HC175_2 := mk0 hl175_2; clear hi175_2 hl175_2; have HR175_3 := mk0 hi175_3; have HC175_3 := mk0 hl175_3; clear hi175_3 hl175_3; replace p175 := eq_true p175; replace q175 := eq_true q175
      refine start_ (n := 12) (S := fun w' => w'.cell? ⟨gb171, 0, none⟩ = some (.int .i64 a0_0) ∧ w'.cell? ⟨gb171, 1, none⟩ = some (.int .i64 a0_1) ∧ w'.cell? ⟨gb171, 2, none⟩ = some (.slice A0_2 l0_2.length c0_2) ∧ w'.cell? ⟨gb171, 3, none⟩ = some (.slice (some ad174) l0_3.length c0_3) ∧ w'.cell? ⟨gb172, 0, none⟩ = some (.int .i64 a1_0) ∧ w'.cell? ⟨gb172, 1, none⟩ = some (.int .i64 a1_1) ∧ w'.cell? ⟨gb172, 2, none⟩ = some (.slice A1_2 l1_2.length c1_2) ∧ w'.cell? ⟨gb172, 3, none⟩ = some (.slice (some ad175) l1_3.length c1_3) ∧ w'.cell? (ad174.add ((x38_2).toNat * 4)) = some (.int .i64 ((rd_T30 l0_3 x38_2).f0)) ∧ w'.cell? ⟨(ad174.add ((x38_2).toNat * 4)).block, (ad174.add ((x38_2).toNat * 4)).off + 1, none⟩ = some (.int .i64 ((rd_T30 l0_3 x38_2).f1)) ∧ w'.cell? ⟨(ad174.add ((x38_2).toNat * 4)).block, (ad174.add ((x38_2).toNat * 4)).off + 2, none⟩ = some (.slice A174_2 ((rd_T30 l0_3 x38_2).f2).length c174_2) ∧ w'.cell? ⟨(ad174.add ((x38_2).toNat * 4)).block, (ad174.add ((x38_2).toNat * 4)).off + 3, none⟩ = some (.slice A174_3 ((rd_T30 l0_3 x38_2).f3).length c174_3) ∧ w'.cell? (ad175.add ((x38_2).toNat * 4)) = some (.int .i64 ((rd_T30 l1_3 x38_2).f0)) ∧ w'.cell? ⟨(ad175.add ((x38_2).toNat * 4)).block, (ad175.add ((x38_2).toNat * 4)).off + 1, none⟩ = some (.int .i64 ((rd_T30 l1_3 x38_2).f1)) ∧ w'.cell? ⟨(ad175.add ((x38_2).toNat * 4)).block, (ad175.add ((x38_2).toNat * 4)).off + 2, none⟩ = some (.slice A175_2 ((rd_T30 l1_3 x38_2).f2).length c175_2) ∧ w'.cell? ⟨(ad175.add ((x38_2).toNat * 4)).block, (ad175.add ((x38_2).toNat * 4)).off + 3, none⟩ = some (.slice A175_3 ((rd_T30 l1_3 x38_2).f3).length c175_3)) (ds := []) #[false, false, false, false, false, false, false, false, false, false, false, false] (by kernel_rfl) rfl rfl ⟨bc BK171 0, bc BK171 1, bc BK171 2, bc BK171 3, bc BK172 0, bc BK172 1, bc BK172 2, bc BK172 3, (keepc HB.out hw174_0), (keepc HB.out hw174_1), (keepc HB.out hw174_2), (keepc HB.out hw174_3), (keepc HB.out hw175_0), (keepc HB.out hw175_1), (keepc HB.out hw175_2), (keepc HB.out hw175_3)⟩ (fun hHeld => ?_); refine with_tabW r04Alike.tab6 r04Alike.bits6 (fun HT_ HW_ => ?_)
      generalize wr.drew = w33 at BK171 BK172 HB HR174_2 HR174_3 HR175_2 HR175_3 hx174_0 hx174_1 hx174_2 hx174_3 hx175_0 hx175_1 hx175_2 hx175_3 hHeld ⊢
      refine pu_ (v := ?_) (a' := ?_) 0 41 #[true, false, false, false, false, false, false, false, false, false, false, false] HT_ ?_ ?_ ?_
      rotate_left
      ·intro w'
       go_simp
       with_reducible rfl
      rotate_left
      ·simp only [ps]
       rfl
      refine pu_ (v := ?_) (a' := ?_) 2 43 #[true, false, true, false, false, false, false, false, false, false, false, false] HT_ ?_ ?_ ?_
      rotate_left
      ·intro w'
       go_simp
       with_reducible rfl
      rotate_left
      ·simp only [ps]
       rfl
      refine pu_ (v := ?_) (a' := ?_) 5 46 #[true, false, true, false, false, true, false, false, false, false, false, false] HT_ ?_ ?_ ?_
      rotate_left
      ·intro w'
       go_simp
       with_reducible rfl
      rotate_left
      ·simp only [ps]
       rfl
      refine pu_ (v := ?_) (a' := ?_) 7 48 #[true, false, true, false, false, true, false, true, false, false, false, false] HT_ ?_ ?_ ?_
      rotate_left
      ·intro w'
       go_simp
       with_reducible rfl
      rotate_left
      ·simp only [ps]
       rfl
      refine take_ (i := 1) (N := some 42) (v := ?_) (a' := ?_) #[true, true, true, false, false, true, false, true, false, false, false, false] rfl rfl (take_ofW HT_.out HW_.out (by kernel_rfl)) (fun _ _ _ h => h) (Or.inl ⟨by rfl, ?_⟩) hHeld ?_ ?_
      rotate_left
      ·rintro w' ⟨s0, s1, s2, s3, s4, s5, s6, s7, s8, s9, s10, s11, s12, s13, s14, s15⟩
       go_simp
       with_reducible rfl
      rotate_left
      ·simp only [ps]
       rfl
      refine pu_ (v := ?_) (a' := ?_) 3 44 #[true, true, true, true, false, true, false, true, false, false, false, false] HT_ ?_ ?_ ?_
      rotate_left
      ·intro w'
       go_simp
       with_reducible rfl
      rotate_left
      ·simp only [ps]
       rfl
      refine take_ (i := 4) (N := some 45) (v := ?_) (a' := ?_) #[true, true, true, true, true, true, false, true, false, false, false, false] rfl rfl (take_ofW HT_.out HW_.out (by kernel_rfl)) (fun _ _ _ h => h) (Or.inl ⟨by rfl, ?_⟩) hHeld ?_ ?_
      rotate_left
      ·rintro w' ⟨s0, s1, s2, s3, s4, s5, s6, s7, s8, s9, s10, s11, s12, s13, s14, s15⟩
       go_simp
       with_reducible rfl
      rotate_left
      ·simp only [ps]
       rfl
      refine take_ (i := 6) (N := some 47) (v := ?_) (a' := ?_) (tf 8 4) rfl rfl (take_ofW HT_.out HW_.out (by kernel_rfl)) (fun _ _ _ h => h) (Or.inl ⟨by rfl, ?_⟩) hHeld ?_ ?_
      rotate_left
      ·rintro w' ⟨s0, s1, s2, s3, s4, s5, s6, s7, s8, s9, s10, s11, s12, s13, s14, s15⟩
       go_simp
       with_reducible rfl
      rotate_left
      ·simp only [ps]
       rfl
      refine pu_ (v := ?_) (a' := ?_) 8 49 #[true, true, true, true, true, true, true, true, true, false, false, false] HT_ ?_ ?_ ?_
      rotate_left
      ·intro w'
       go_simp
       with_reducible rfl
      rotate_left
      ·simp only [ps]
       rfl
      refine take_ (i := 9) (N := some 50) (v := ?_) (a' := ?_) (tf 10 2) rfl rfl (take_ofW HT_.out HW_.out (by kernel_rfl)) (fun _ _ _ h => h) (Or.inl ⟨by rfl, ?_⟩) hHeld ?_ ?_
      rotate_left
      ·rintro w' ⟨s0, s1, s2, s3, s4, s5, s6, s7, s8, s9, s10, s11, s12, s13, s14, s15⟩
       go_simp
       with_reducible rfl
      rotate_left
      ·simp only [ps]
       rfl
      refine one_ (i := 10) (N := some 51) (tf 11 1) rfl rfl (one_of HT_.out (by kernel_rfl)) (by decide) (fun K hK => ?_)
      refine goes_ Try.func32 (by kernel_rfl) rfl #[.agg #[.int .i64 ((rd_T30 l0_3 x38_2).f0), .int .i64 ((rd_T30 l0_3 x38_2).f1), .slice A174_2 ((rd_T30 l0_3 x38_2).f2).length c174_2, .slice A174_3 ((rd_T30 l0_3 x38_2).f3).length c174_3], .agg #[.int .i64 ((rd_T30 l1_3 x38_2).f0), .int .i64 ((rd_T30 l1_3 x38_2).f1), .slice A175_2 ((rd_T30 l1_3 x38_2).f2).length c175_2, .slice A175_3 ((rd_T30 l1_3 x38_2).f3).length c175_3]] (by rfl) rfl rfl (by (try simp only [List.map_toArray, List.map_cons, List.map_nil]); first | done | rfl | (simp only [List.length_drop, List.length_take]; rfl)) ?_
      with_reducible refine (ih k2 (by have := HJ2.out; have := HK2.out; omega) ((rd_T30 l0_3 x38_2).f0) ((rd_T30 l0_3 x38_2).f1) _ _ ((rd_T30 l0_3 x38_2).f2) _ _ ((rd_T30 l0_3 x38_2).f3) ((rd_T30 l1_3 x38_2).f0) ((rd_T30 l1_3 x38_2).f1) _ _ ((rd_T30 l1_3 x38_2).f2) _ _ ((rd_T30 l1_3 x38_2).f3) false _ ?side1 ?side2 ?side3 ?side4 ?side5 ?side6 ?side7 ?side8 A29.out).mono ?_
      (case side1 => exact cu HR174_2 HB)
      (case side2 => exact HC174_2.out)
      (case side3 => exact cu HR174_3 HB)
      (case side4 => exact HC174_3.out)
      (case side5 => exact cu HR175_2 HB)
      (case side6 => exact HC175_2.out)
      (case side7 => exact cu HR175_3 HB)
      (case side8 => exact HC175_3.out)
      rintro e w34 ⟨rfl, hb⟩
      refine ⟨_, rfl, ?_⟩
      have n0_ := kb BK171 hb
      have n1_ := kb BK172 hb
      have n2_ := kh2 HB GE171 GE172 hb
      clear BK171; clear BK172; clear HB; have BK171 := n0_; have BK172 := n1_; have HB := n2_; clear n0_ n1_ n2_
      try clear hb
      refine hK.out _ _ ⟨bc BK171 0, bc BK171 1, bc BK171 2, bc BK171 3, bc BK172 0, bc BK172 1, bc BK172 2, bc BK172 3, (keepc HB.out hw174_0), (keepc HB.out hw174_1), (keepc HB.out hw174_2), (keepc HB.out hw174_3), (keepc HB.out hw175_0), (keepc HB.out hw175_1), (keepc HB.out hw175_2), (keepc HB.out hw175_3)⟩ (fun hHeld => ?_)
      clear hK K
      refine norm_ (a' := ?_) ?_ ?_
      rotate_left
      ·show Act.put _ (some 51) _ = _
       simp only [ps]
       rfl
      refine pu_ (v := ?_) (a' := ?_) 11 52 #[true, true, true, true, true, true, true, true, true, true, true, true] HT_ ?_ ?_ ?_
      rotate_left
      ·intro w'
       go_simp
       with_reducible rfl
      rotate_left
      ·simp only [ps]
       rfl
      refine done_ (done_of HT_.out (by kernel_rfl)) ?_
      try go_wp2
      go_ret
      exact ⟨rfl, be2 HB GE171 GE172⟩
     have H' := mk0 H
     clear H
     try go_wp2
     have n0_ := mk0 (blk_drew BK171.out)
     have n1_ := mk0 (blk_drew BK172.out)
     have n2_ := mk0 (below_drew1 HB.out)
     clear BK171; clear BK172; clear HB; have BK171 := n0_; have BK172 := n1_; have HB := n2_; clear n0_ n1_ n2_
     have p174 : 0 ≤ (x38_2 : Int) := od
     have q174 : x38_2 < (l0_3.length : Int) := od
     obtain ⟨ad174, A174_2, c174_2, A174_3, c174_3, e174, hx174_0, hx174_1, hx174_2, hx174_3, hl174_2, hi174_2, hl174_3, hi174_3⟩ := at_T30 HR0_3.out x38_2 p174 q174
     have hw174_3 := hx174_3; have hw174_2 := hx174_2; have hw174_1 := hx174_1; have hw174_0 := hx174_0; cases e174
     replace hx174_0 := keepc HB.out hx174_0
     replace hx174_1 := keepc HB.out hx174_1
     replace hx174_2 := keepc HB.out hx174_2
     replace hx174_3 := keepc HB.out hx174_3
     have HR174_2 := mk0 hi174_2; have HC174_2 := mk0 hl174_2; clear hi174_2 hl174_2; have HR174_3 := mk0 hi174_3; have HC174_3 := mk0 hl174_3; clear hi174_3 hl174_3; replace p174 := eq_true p174; replace q174 := eq_true q174
     have p175 : 0 ≤ (x38_2 : Int) := od
     have q175 : x38_2 < (l1_3.length : Int) := od
     obtain ⟨ad175, A175_2, c175_2, A175_3, c175_3, e175, hx175_0, hx175_1, hx175_2, hx175_3, hl175_2, hi175_2, hl175_3, hi175_3⟩ := at_T30 HR1_3.out x38_2 p175 q175
     have hw175_3 := hx175_3; have hw175_2 := hx175_2; have hw175_1 := hx175_1; have hw175_0 := hx175_0; cases e175
     replace hx175_0 := keepc HB.out hx175_0
     replace hx175_1 := keepc HB.out hx175_1
     replace hx175_2 := keepc HB.out hx175_2
     replace hx175_3 := keepc HB.out hx175_3
     have HR175_2 := mk0 hi175_2; have HC175_2 := mk0 hl175_2; clear hi175_2 hl175_2; have HR175_3 := mk0 hi175_3; have HC175_3 := mk0 hl175_3; clear hi175_3 hl175_3; replace p175 := eq_true p175; replace q175 := eq_true q175
     refine start_ (n := 12) (S := fun w' => w'.cell? ⟨gb171, 0, none⟩ = some (.int .i64 a0_0) ∧ w'.cell? ⟨gb171, 1, none⟩ = some (.int .i64 a0_1) ∧ w'.cell? ⟨gb171, 2, none⟩ = some (.slice A0_2 l0_2.length c0_2) ∧ w'.cell? ⟨gb171, 3, none⟩ = some (.slice (some ad174) l0_3.length c0_3) ∧ w'.cell? ⟨gb172, 0, none⟩ = some (.int .i64 a1_0) ∧ w'.cell? ⟨gb172, 1, none⟩ = some (.int .i64 a1_1) ∧ w'.cell? ⟨gb172, 2, none⟩ = some (.slice A1_2 l1_2.length c1_2) ∧ w'.cell? ⟨gb172, 3, none⟩ = some (.slice (some ad175) l1_3.length c1_3) ∧ w'.cell? (ad174.add ((x38_2).toNat * 4)) = some (.int .i64 ((rd_T30 l0_3 x38_2).f0)) ∧ w'.cell? ⟨(ad174.add ((x38_2).toNat * 4)).block, (ad174.add ((x38_2).toNat * 4)).off + 1, none⟩ = some (.int .i64 ((rd_T30 l0_3 x38_2).f1)) ∧ w'.cell? ⟨(ad174.add ((x38_2).toNat * 4)).block, (ad174.add ((x38_2).toNat * 4)).off + 2, none⟩ = some (.slice A174_2 ((rd_T30 l0_3 x38_2).f2).length c174_2) ∧ w'.cell? ⟨(ad174.add ((x38_2).toNat * 4)).block, (ad174.add ((x38_2).toNat * 4)).off + 3, none⟩ = some (.slice A174_3 ((rd_T30 l0_3 x38_2).f3).length c174_3) ∧ w'.cell? (ad175.add ((x38_2).toNat * 4)) = some (.int .i64 ((rd_T30 l1_3 x38_2).f0)) ∧ w'.cell? ⟨(ad175.add ((x38_2).toNat * 4)).block, (ad175.add ((x38_2).toNat * 4)).off + 1, none⟩ = some (.int .i64 ((rd_T30 l1_3 x38_2).f1)) ∧ w'.cell? ⟨(ad175.add ((x38_2).toNat * 4)).block, (ad175.add ((x38_2).toNat * 4)).off + 2, none⟩ = some (.slice A175_2 ((rd_T30 l1_3 x38_2).f2).length c175_2) ∧ w'.cell? ⟨(ad175.add ((x38_2).toNat * 4)).block, (ad175.add ((x38_2).toNat * 4)).off + 3, none⟩ = some (.slice A175_3 ((rd_T30 l1_3 x38_2).f3).length c175_3)) (ds := []) #[false, false, false, false, false, false, false, false, false, false, false, false] (by kernel_rfl) rfl rfl ⟨bc BK171 0, bc BK171 1, bc BK171 2, bc BK171 3, bc BK172 0, bc BK172 1, bc BK172 2, bc BK172 3, (keepc HB.out hw174_0), (keepc HB.out hw174_1), (keepc HB.out hw174_2), (keepc HB.out hw174_3), (keepc HB.out hw175_0), (keepc HB.out hw175_1), (keepc HB.out hw175_2), (keepc HB.out hw175_3)⟩ (fun hHeld => ?_); refine with_tabW r04Alike.tab6 r04Alike.bits6 (fun HT_ HW_ => ?_)
     generalize wr.drew = w31 at BK171 BK172 HB HR174_2 HR174_3 HR175_2 HR175_3 hx174_0 hx174_1 hx174_2 hx174_3 hx175_0 hx175_1 hx175_2 hx175_3 hHeld ⊢
     refine pu_ (v := ?_) (a' := ?_) 0 41 #[true, false, false, false, false, false, false, false, false, false, false, false] HT_ ?_ ?_ ?_
     rotate_left
     ·intro w'
      go_simp
      with_reducible rfl
     rotate_left
     ·simp only [ps]
      rfl
     refine pu_ (v := ?_) (a' := ?_) 2 43 #[true, false, true, false, false, false, false, false, false, false, false, false] HT_ ?_ ?_ ?_
     rotate_left
     ·intro w'
      go_simp
      with_reducible rfl
     rotate_left
     ·simp only [ps]
      rfl
     refine pu_ (v := ?_) (a' := ?_) 5 46 #[true, false, true, false, false, true, false, false, false, false, false, false] HT_ ?_ ?_ ?_
     rotate_left
     ·intro w'
      go_simp
      with_reducible rfl
     rotate_left
     ·simp only [ps]
      rfl
     refine pu_ (v := ?_) (a' := ?_) 7 48 #[true, false, true, false, false, true, false, true, false, false, false, false] HT_ ?_ ?_ ?_
     rotate_left
     ·intro w'
      go_simp
      with_reducible rfl
     rotate_left
     ·simp only [ps]
      rfl
     refine take_ (i := 1) (N := some 42) (v := ?_) (a' := ?_) #[true, true, true, false, false, true, false, true, false, false, false, false] rfl rfl (take_ofW HT_.out HW_.out (by kernel_rfl)) (fun _ _ _ h => h) (Or.inl ⟨by rfl, ?_⟩) hHeld ?_ ?_
     rotate_left
     ·rintro w' ⟨s0, s1, s2, s3, s4, s5, s6, s7, s8, s9, s10, s11, s12, s13, s14, s15⟩
      go_simp
      with_reducible rfl
     rotate_left
     ·simp only [ps]
      rfl
     refine pu_ (v := ?_) (a' := ?_) 3 44 #[true, true, true, true, false, true, false, true, false, false, false, false] HT_ ?_ ?_ ?_
     rotate_left
     ·intro w'
      go_simp
      with_reducible rfl
     rotate_left
     ·simp only [ps]
      rfl
     refine take_ (i := 4) (N := some 45) (v := ?_) (a' := ?_) #[true, true, true, true, true, true, false, true, false, false, false, false] rfl rfl (take_ofW HT_.out HW_.out (by kernel_rfl)) (fun _ _ _ h => h) (Or.inl ⟨by rfl, ?_⟩) hHeld ?_ ?_
     rotate_left
     ·rintro w' ⟨s0, s1, s2, s3, s4, s5, s6, s7, s8, s9, s10, s11, s12, s13, s14, s15⟩
      go_simp
      with_reducible rfl
     rotate_left
     ·simp only [ps]
      rfl
     refine take_ (i := 6) (N := some 47) (v := ?_) (a' := ?_) (tf 8 4) rfl rfl (take_ofW HT_.out HW_.out (by kernel_rfl)) (fun _ _ _ h => h) (Or.inl ⟨by rfl, ?_⟩) hHeld ?_ ?_
     rotate_left
     ·rintro w' ⟨s0, s1, s2, s3, s4, s5, s6, s7, s8, s9, s10, s11, s12, s13, s14, s15⟩
      go_simp
      with_reducible rfl
     rotate_left
     ·simp only [ps]
      rfl
     refine pu_ (v := ?_) (a' := ?_) 8 49 #[true, true, true, true, true, true, true, true, true, false, false, false] HT_ ?_ ?_ ?_
     rotate_left
     ·intro w'
      go_simp
      with_reducible rfl
     rotate_left
     ·simp only [ps]
      rfl
     refine take_ (i := 9) (N := some 50) (v := ?_) (a' := ?_) (tf 10 2) rfl rfl (take_ofW HT_.out HW_.out (by kernel_rfl)) (fun _ _ _ h => h) (Or.inl ⟨by rfl, ?_⟩) hHeld ?_ ?_
     rotate_left
     ·rintro w' ⟨s0, s1, s2, s3, s4, s5, s6, s7, s8, s9, s10, s11, s12, s13, s14, s15⟩
      go_simp
      with_reducible rfl
     rotate_left
     ·simp only [ps]
      rfl
     refine one_ (i := 10) (N := some 51) (tf 11 1) rfl rfl (one_of HT_.out (by kernel_rfl)) (by decide) (fun K hK => ?_)
     refine goes_ Try.func32 (by kernel_rfl) rfl #[.agg #[.int .i64 ((rd_T30 l0_3 x38_2).f0), .int .i64 ((rd_T30 l0_3 x38_2).f1), .slice A174_2 ((rd_T30 l0_3 x38_2).f2).length c174_2, .slice A174_3 ((rd_T30 l0_3 x38_2).f3).length c174_3], .agg #[.int .i64 ((rd_T30 l1_3 x38_2).f0), .int .i64 ((rd_T30 l1_3 x38_2).f1), .slice A175_2 ((rd_T30 l1_3 x38_2).f2).length c175_2, .slice A175_3 ((rd_T30 l1_3 x38_2).f3).length c175_3]] (by rfl) rfl rfl (by (try simp only [List.map_toArray, List.map_cons, List.map_nil]); first | done | rfl | (simp only [List.length_drop, List.length_take]; rfl)) ?_
     with_reducible refine (ih k2 (by have := HJ2.out; have := HK2.out; omega) ((rd_T30 l0_3 x38_2).f0) ((rd_T30 l0_3 x38_2).f1) _ _ ((rd_T30 l0_3 x38_2).f2) _ _ ((rd_T30 l0_3 x38_2).f3) ((rd_T30 l1_3 x38_2).f0) ((rd_T30 l1_3 x38_2).f1) _ _ ((rd_T30 l1_3 x38_2).f2) _ _ ((rd_T30 l1_3 x38_2).f3) true _ ?side1 ?side2 ?side3 ?side4 ?side5 ?side6 ?side7 ?side8 A29.out).mono ?_
     (case side1 => exact cu HR174_2 HB)
     (case side2 => exact HC174_2.out)
     (case side3 => exact cu HR174_3 HB)
     (case side4 => exact HC174_3.out)
     (case side5 => exact cu HR175_2 HB)
     (case side6 => exact HC175_2.out)
     (case side7 => exact cu HR175_3 HB)
     (case side8 => exact HC175_3.out)
     rintro e w32 ⟨rfl, hb⟩
     refine ⟨_, rfl, ?_⟩
     have n0_ := kb BK171 hb
     have n1_ := kb BK172 hb
     have n2_ := kh2 HB GE171 GE172 hb
     clear BK171; clear BK172; clear HB; have BK171 := n0_; have BK172 := n1_; have HB := n2_; clear n0_ n1_ n2_
     try clear hb
     refine hK.out _ _ ⟨bc BK171 0, bc BK171 1, bc BK171 2, bc BK171 3, bc BK172 0, bc BK172 1, bc BK172 2, bc BK172 3, (keepc HB.out hw174_0), (keepc HB.out hw174_1), (keepc HB.out hw174_2), (keepc HB.out hw174_3), (keepc HB.out hw175_0), (keepc HB.out hw175_1), (keepc HB.out hw175_2), (keepc HB.out hw175_3)⟩ (fun hHeld => ?_)
     clear hK K
     refine norm_ (a' := ?_) ?_ ?_
     rotate_left
     ·show Act.put _ (some 51) _ = _
      simp only [ps]
      rfl
     refine pu_ (v := ?_) (a' := ?_) 11 52 #[true, true, true, true, true, true, true, true, true, true, true, true] HT_ ?_ ?_ ?_
     rotate_left
     ·intro w'
      go_simp
      with_reducible rfl
     rotate_left
     ·simp only [ps]
      rfl
     refine done_ (done_of HT_.out (by kernel_rfl)) ?_
     try go_wp2
     go_roundg k2
     case measure => have := HJ2.out; have := HK2.out; omega
     case rel => exact ⟨(wrap64 (x38_2 + 1)), rfl, H', ⟨by have := HJ2.out; have := HK2.out; omega⟩, ⟨bu BK171⟩, ⟨bu BK172⟩, ⟨be2 HB GE171 GE172⟩⟩
end Go.Proofs.Ytojankgmedccdaa.PRs
