/- Part of the proof of LawDriversOrder: every definition and lemma is one that it names. -/
import Derived.Test.YtojankgmedccdaaQPIsx0
import Derived.Test.YtojankgmedccdaaQPIsx6
import Derived.Test.YtojankgmedccdaaQPIsx10
namespace Go.Proofs.Ytojankgmedccdaa.PIs
open Go.RowKit Own PTy Hand YtojankgmedccdaaW.PrintWords YtojankgmedccdaaW.PrintLast YtojankgmedccdaaW.PrintMore
attribute [local go_sem] max2_int min2_int max_two min_two max_three min_three max_four min_four
set_option linter.unusedVariables false
set_option linter.unusedSimpArgs false
mutual
def drivers_Is.j0 : Nat → Bool → Int → Int → ByteArray → List ByteArray → List (S26) → Int → Int → List Int → List (S30) → List (S63) → Option (Bool)
 | 0, _, _, _, _, _, _, _, _, _, _, _ => none
 | k + 1, x23, x197000, x197001, x197002, x197003, x197004, x198000, x198001, x198002, x198003, x198004 => if x23 = true then (some false) else (drivers_Is.l0 k (-1) x198004 (x198004.length : Int) 0 x197000 x197001 x197002 x197003 x197004)
def drivers_Is.l0 : Nat → Int → List (S63) → Int → Int → Int → Int → ByteArray → List ByteArray → List (S26) → Option (Bool)
 | 0, _, _, _, _, _, _, _, _, _ => none
 | k + 1, x5, x25, x26, x27, x197000, x197001, x197002, x197003, x197004 => if x27 < x26 then (if 0 ≤ x27 then (if x27 < (x25.length : Int) then (if ((rd_T63 x25 x27).f0) ≤ x5 then (some false) else (if ((rd_T63 x25 x27).f0) > 2000000 then (some false) else ((types_Has.f k x197000 x197001 x197002 x197003 x197004 ((rd_T63 x25 x27).f1.f0) ((rd_T63 x25 x27).f1.f1) ((rd_T63 x25 x27).f1.f2) ((rd_T63 x25 x27).f1.f3)).bind fun t202 => (if t202 = true then (drivers_Is.l0 k ((rd_T63 x25 x27).f0) x25 x26 (wrap64 (x27 + 1)) x197000 x197001 x197002 x197003 x197004) else (some false))))) else (none)) else (none)) else (some true)
end
def drivers_Is.f (k : Nat) (a0_0 : Int) (a0_1 : Int) (a0_2 : ByteArray) (l0_3 : List ByteArray) (l0_4 : List (S26)) (a1_0 : Int) (a1_1 : Int) (l1_2 : List Int) (l1_3 : List (S30)) (l1_4 : List (S63)) : Option (Bool) := (drivers_Scalar.f k a0_0 a0_1 a0_2 l0_3 l0_4).bind fun t198 => (if t198 = true then ((types_Has.f k a0_0 a0_1 a0_2 l0_3 l0_4 a1_0 a1_1 l1_2 l1_3).bind fun t199 => (if t199 = true then (drivers_Is.j0 k (decide ((l1_4.length : Int) > 64)) a0_0 a0_1 a0_2 l0_3 l0_4 a1_0 a1_1 l1_2 l1_3 l1_4) else (drivers_Is.j0 k true a0_0 a0_1 a0_2 l0_3 l0_4 a1_0 a1_1 l1_2 l1_3 l1_4))) else (drivers_Is.j0 k true a0_0 a0_1 a0_2 l0_3 l0_4 a1_0 a1_1 l1_2 l1_3 l1_4))
theorem drivers_Is.mono_l : ∀ k, (∀ y0 y1 y2 y3 y4 y5 y6 y7 y8 y9 y10, LeO (drivers_Is.j0 k y0 y1 y2 y3 y4 y5 y6 y7 y8 y9 y10) (drivers_Is.j0 (k + 1) y0 y1 y2 y3 y4 y5 y6 y7 y8 y9 y10)) ∧ (∀ y0 y1 y2 y3 y4 y5 y6 y7 y8, LeO (drivers_Is.l0 k y0 y1 y2 y3 y4 y5 y6 y7 y8) (drivers_Is.l0 (k + 1) y0 y1 y2 y3 y4 y5 y6 y7 y8))
 | 0 => ⟨fun _ _ _ _ _ _ _ _ _ _ _ r h => by simp [drivers_Is.j0] at h, fun _ _ _ _ _ _ _ _ _ r h => by simp [drivers_Is.l0] at h⟩
 | k + 1 => by
  obtain ⟨ih0, ih1⟩ := drivers_Is.mono_l k
  refine ⟨?_, ?_⟩ <;> intros <;> (first | unfold drivers_Is.j0 | unfold drivers_Is.l0) <;> repeat' first | (with_reducible first | apply ih0 | apply ih1 | apply drivers_Scalar.mono | apply types_Has.mono | apply LeO.refl | apply LeO.none | refine LeO.ite ?_ ?_ | refine LeO.bind ?_ (fun _ => ?_)) | apply ih0 | apply ih1 | apply drivers_Scalar.mono | apply types_Has.mono | apply LeO.none | refine LeO.ite ?_ ?_ | refine LeO.bind ?_ (fun _ => ?_)
theorem drivers_Is.mono : ∀ a0 a1 a2 a3 a4 a5 a6 a7 a8 a9 k, LeO (drivers_Is.f k a0 a1 a2 a3 a4 a5 a6 a7 a8 a9) (drivers_Is.f (k + 1) a0 a1 a2 a3 a4 a5 a6 a7 a8 a9) := by
 intro a0 a1 a2 a3 a4 a5 a6 a7 a8 a9 k
 obtain ⟨ih0, ih1⟩ := drivers_Is.mono_l k
 unfold drivers_Is.f
 repeat' first
   | (with_reducible exact ih0 _ _ _ _ _ _ _ _ _ _ _)
   | (with_reducible exact ih1 _ _ _ _ _ _ _ _ _)
   | (with_reducible exact drivers_Scalar.mono _ _ _ _ _ _)
   | (with_reducible exact types_Has.mono _ _ _ _ _ _ _ _ _ _)
   | (with_reducible exact LeO.refl _)
   | (with_reducible exact LeO.none _)
   | (with_reducible refine LeO.ite ?_ ?_)
   | (with_reducible refine LeO.bind ?_ (fun _ => ?_))
   | exact ih0 _ _ _ _ _ _ _ _ _ _ _
   | exact ih1 _ _ _ _ _ _ _ _ _
   | exact drivers_Scalar.mono _ _ _ _ _ _
   | exact types_Has.mono _ _ _ _ _ _ _ _ _ _
   | exact LeO.none _
   | refine LeO.ite ?_ ?_
   | refine LeO.bind ?_ (fun _ => ?_)
set_option maxHeartbeats 8000000 in
set_option maxRecDepth 100000 in
theorem drivers_Is.calls (k : Nat) (a0_0 : Int) (a0_1 : Int) (a0_2 : ByteArray) (A0_3 : Option Addr) (c0_3 : Nat) (l0_3 : List ByteArray) (A0_4 : Option Addr) (c0_4 : Nat) (l0_4 : List (S26)) (a1_0 : Int) (a1_1 : Int) (A1_2 : Option Addr) (c1_2 : Nat) (l1_2 : List Int) (A1_3 : Option Addr) (c1_3 : Nat) (l1_3 : List (S30)) (A1_4 : Option Addr) (c1_4 : Nat) (l1_4 : List (S63)) (r : Bool) (w : World) (hG : Glob w) (hr0_3 : Kd.C Kd.string w A0_3 l0_3.length l0_3) (hc0_3 : l0_3.length ≤ c0_3) (hr0_4 : Kd.C k26 w A0_4 l0_4.length l0_4) (hc0_4 : l0_4.length ≤ c0_4) (hr1_2 : Kd.C (Kd.int .u8) w A1_2 l1_2.length l1_2) (hc1_2 : l1_2.length ≤ c1_2) (hr1_3 : Kd.C k30 w A1_3 l1_3.length l1_3) (hc1_3 : l1_3.length ≤ c1_3) (hr1_4 : Kd.C k63 w A1_4 l1_4.length l1_4) (hc1_4 : l1_4.length ≤ c1_4) (h : drivers_Is.f k a0_0 a0_1 a0_2 l0_3 l0_4 a1_0 a1_1 l1_2 l1_3 l1_4 = some r) :
  Calls Try.prog 19 #[.agg #[.int .i64 a0_0, .int .i64 a0_1, .string a0_2, .slice A0_3 l0_3.length c0_3, .slice A0_4 l0_4.length c0_4], .agg #[.int .i64 a1_0, .int .i64 a1_1, .slice A1_2 l1_2.length c1_2, .slice A1_3 l1_3.length c1_3, .slice A1_4 l1_4.length c1_4]] w fun e w' => e = .returned (.bool r) ∧ Below w.heap.size w w' := by
 have HG := mk0 hG; clear hG
 have hu26 := Try.underlying26
 have hu33 := Try.underlying33
 have hu30 := Try.underlying30
 have hu63 := Try.underlying63
 have HR0_3 := mk0 hr0_3; have HC0_3 := mk0 hc0_3; clear hr0_3 hc0_3; have HR0_4 := mk0 hr0_4; have HC0_4 := mk0 hc0_4; clear hr0_4 hc0_4; have HR1_2 := mk0 hr1_2; have HC1_2 := mk0 hc1_2; clear hr1_2 hc1_2; have HR1_3 := mk0 hr1_3; have HC1_3 := mk0 hc1_3; clear hr1_3 hc1_3; have HR1_4 := mk0 hr1_4; have HC1_4 := mk0 hc1_4; clear hr1_4 hc1_4
 have HB := mk0 (Below.refl w.heap.size w)
 have H := h; unfold drivers_Is.f at H
 clear h; have HC3 := mk0 H; clear H
 go_enter Try.func19, Try.ntmps19
 go_upto_region 1 with (first | ((with_reducible refine box_event rfl (N := 2) rfl (cs := #[.int .i64 a0_0, .int .i64 a0_1, .string a0_2, .slice A0_3 l0_3.length c0_3, .slice A0_4 l0_4.length c0_4]) (t := 26) ?hr ?_); (case hr => first | (go_simp; done) | (go_simp; rfl)); intro gb196 hg w4 hbox hb; have BK196 := mk0 (hbox); have GE196 := bs (be HB) hg; replace HB := kh HB hb; clear hb hbox hg) | ((with_reducible refine box_event rfl (N := 3) rfl (cs := #[.int .i64 a1_0, .int .i64 a1_1, .slice A1_2 l1_2.length c1_2, .slice A1_3 l1_3.length c1_3, .slice A1_4 l1_4.length c1_4]) (t := 33) ?hr ?_); (case hr => first | (go_simp; done) | (go_simp; rfl)); intro gb197 hg w5 hbox hb; have BK197 := mk0 (hbox); have GE197 := bs (be1 HB GE196) hg; replace HB := kh1 HB GE196 hb; have NB196_197 := nb1 (bu BK196) hg; have NB197_196 := nb2 (bu BK196) hg; replace BK196 := kb BK196 hb; clear hb hbox hg))
 (try simp only [Act.put, List.setIfInBounds_toArray, List.set_cons_zero, List.set_cons_succ])
 go_cut [23] (fun v23 wc => ∃ (kq : Nat) (x23_2 : Bool), v23 = .bool x23_2 ∧ Aside0 (drivers_Is.j0 kq x23_2 a0_0 a0_1 a0_2 l0_3 l0_4 a1_0 a1_1 l1_2 l1_3 l1_4 = some r) ∧ Aside0 (kq ≤ k) ∧ Aside0 (wc.heap[gb196]? = some (.cells #[.int .i64 a0_0, .int .i64 a0_1, .string a0_2, (.slice A0_3 l0_3.length c0_3), (.slice A0_4 l0_4.length c0_4)] 26 (0, 0))) ∧ Aside0 (wc.heap[gb197]? = some (.cells #[.int .i64 a1_0, .int .i64 a1_1, (.slice A1_2 l1_2.length c1_2), (.slice A1_3 l1_3.length c1_3), (.slice A1_4 l1_4.length c1_4)] 33 (0, 0))) ∧ Aside0 (Below w.heap.size w wc))
 case first =>
  have H := HC3.out; clear HC3
  replace H := bS H; obtain ⟨t198, A6, H⟩ := H
  replace H := iB' H; obtain ⟨rfl, H⟩ | ⟨rfl, H⟩ := H
  ·have H' := mk0 H
   clear H; have hnb23 := NB196_197.out; have hnc23 := NB197_196.out
   have z24 := cells5 BK196.out
   go_wp2_with ((with_reducible refine gate_callee (f := 17) rfl ?_); refine goB (some 9) rfl rfl Try.func17 (by kernel_rfl) rfl #[.agg #[.int .i64 a0_0, .int .i64 a0_1, .string a0_2, .slice A0_3 l0_3.length c0_3, .slice A0_4 l0_4.length c0_4]] rfl rfl (drivers_Scalar.calls k a0_0 a0_1 a0_2 _ _ l0_3 _ _ l0_4 false _ (glob_below HG.out (be2 HB GE196 GE197)) (cu HR0_3 HB) HC0_3.out (cu HR0_4 HB) HC0_4.out A6.out) ?_; intro w25 hb; replace BK196 := kb BK196 hb; replace BK197 := kb BK197 hb; replace HB := kh2 HB GE196 GE197 hb)
   go_meet
   case rel => exact ⟨_, (true), rfl, H', ⟨by omega⟩, ⟨bu BK196⟩, ⟨bu BK197⟩, ⟨be2 HB GE196 GE197⟩⟩
  replace H := bS H; obtain ⟨t199, A8, H⟩ := H
  replace H := iB H; obtain ⟨rfl, H⟩ | ⟨rfl, H⟩ := H
  ·have H' := mk0 H
   clear H; have hnb10 := NB196_197.out; have hnc10 := NB197_196.out
   have z11 := cells5 BK196.out
   go_wp2_with (first | ((with_reducible refine gate_callee (f := 17) rfl ?_); refine goB (some 9) rfl rfl Try.func17 (by kernel_rfl) rfl #[.agg #[.int .i64 a0_0, .int .i64 a0_1, .string a0_2, .slice A0_3 l0_3.length c0_3, .slice A0_4 l0_4.length c0_4]] rfl rfl (drivers_Scalar.calls k a0_0 a0_1 a0_2 _ _ l0_3 _ _ l0_4 true _ (glob_below HG.out (be2 HB GE196 GE197)) (cu HR0_3 HB) HC0_3.out (cu HR0_4 HB) HC0_4.out A6.out) ?_; intro w12 hb; replace BK196 := kb BK196 hb; replace BK197 := kb BK197 hb; replace HB := kh2 HB GE196 GE197 hb; have z13 := cells5 BK196.out; have z14 := cells5 BK197.out) | (go_at_call 45; refine (types_Has.calls k a0_0 a0_1 a0_2 _ _ l0_3 _ _ l0_4 a1_0 a1_1 _ _ l1_2 _ _ l1_3 true _ (glob_below HG.out (be2 HB GE196 GE197)) (cu HR0_3 HB) HC0_3.out (cu HR0_4 HB) HC0_4.out (cu HR1_2 HB) HC1_2.out (cu HR1_3 HB) HC1_3.out A8.out).mono ?_; rintro e w15 ⟨rfl, hb⟩; replace BK196 := kb BK196 hb; replace BK197 := kb BK197 hb; replace HB := kh2 HB GE196 GE197 hb; have z16 := cells5 BK197.out))
   go_meet
   case rel => exact ⟨_, (decide ((l1_4.length : Int) > 64)), rfl, H', ⟨by omega⟩, ⟨bu BK196⟩, ⟨bu BK197⟩, ⟨be2 HB GE196 GE197⟩⟩
  have H' := mk0 H
  clear H; have hnb17 := NB196_197.out; have hnc17 := NB197_196.out
  have z18 := cells5 BK196.out
  go_wp2_with (first | ((with_reducible refine gate_callee (f := 17) rfl ?_); refine goB (some 9) rfl rfl Try.func17 (by kernel_rfl) rfl #[.agg #[.int .i64 a0_0, .int .i64 a0_1, .string a0_2, .slice A0_3 l0_3.length c0_3, .slice A0_4 l0_4.length c0_4]] rfl rfl (drivers_Scalar.calls k a0_0 a0_1 a0_2 _ _ l0_3 _ _ l0_4 true _ (glob_below HG.out (be2 HB GE196 GE197)) (cu HR0_3 HB) HC0_3.out (cu HR0_4 HB) HC0_4.out A6.out) ?_; intro w19 hb; replace BK196 := kb BK196 hb; replace BK197 := kb BK197 hb; replace HB := kh2 HB GE196 GE197 hb; have z20 := cells5 BK196.out; have z21 := cells5 BK197.out) | (go_at_call 45; refine (types_Has.calls k a0_0 a0_1 a0_2 _ _ l0_3 _ _ l0_4 a1_0 a1_1 _ _ l1_2 _ _ l1_3 false _ (glob_below HG.out (be2 HB GE196 GE197)) (cu HR0_3 HB) HC0_3.out (cu HR0_4 HB) HC0_4.out (cu HR1_2 HB) HC1_2.out (cu HR1_3 HB) HC1_3.out A8.out).mono ?_; rintro e w22 ⟨rfl, hb⟩; replace BK196 := kb BK196 hb; replace BK197 := kb BK197 hb; replace HB := kh2 HB GE196 GE197 hb))
  go_meet
  case rel => exact ⟨_, (true), rfl, H', ⟨by omega⟩, ⟨bu BK196⟩, ⟨bu BK197⟩, ⟨be2 HB GE196 GE197⟩⟩
 case rest =>
  clear HC3
  obtain ⟨kq, x23_2, rfl, HA, HJ2, BK196, BK197, HB⟩ := hcut
  cases kq with
  | zero => exact absurd HA.out (by simp [drivers_Is.j0])
  | succ kj2 =>
   have H := HA.out; clear HA
   simp only [drivers_Is.j0] at H
   replace H := iB H; obtain ⟨rfl, H⟩ | ⟨rfl, H⟩ := H
   ·obtain rfl := sI H
    go_wp2
    go_ret
    exact ⟨rfl, be2 HB GE196 GE197⟩
   have H' := mk0 H
   clear H; have hnb27 := NB197_196.out; have hnc27 := NB196_197.out
   have z28 := cells5 BK197.out
   go_wp2
   go_loopg [5, 27] kj2 (fun kq v5 v27 w' => ∃ (x5_2 : Int) (x27_2 : Int), v5 = .int .i64 x5_2 ∧ v27 = .int .i64 x27_2 ∧ Aside0 (drivers_Is.l0 kq x5_2 l1_4 (l1_4.length : Int) x27_2 a0_0 a0_1 a0_2 l0_3 l0_4 = some r) ∧ Aside0 (kq ≤ kj2) ∧ Aside0 (w'.heap[gb196]? = some (.cells #[.int .i64 a0_0, .int .i64 a0_1, .string a0_2, (.slice A0_3 l0_3.length c0_3), (.slice A0_4 l0_4.length c0_4)] 26 (0, 0))) ∧ Aside0 (w'.heap[gb197]? = some (.cells #[.int .i64 a1_0, .int .i64 a1_1, (.slice A1_2 l1_2.length c1_2), (.slice A1_3 l1_3.length c1_3), (.slice A1_4 l1_4.length c1_4)] 33 (0, 0))) ∧ Aside0 (Below w.heap.size w w'))
   case atStart => exact ⟨((-1)), (0), rfl, rfl, H', ⟨Nat.le_refl _⟩, ⟨bu BK196⟩, ⟨bu BK197⟩, ⟨be2 HB GE196 GE197⟩⟩
   case round =>
    clear H'
    obtain ⟨x5_2, x27_2, rfl, rfl, HA, HK2, BK196, BK197, HB⟩ := hrel
    cases gk with
    | zero => exact absurd HA.out (by simp [drivers_Is.l0])
    | succ k2 =>
     have H := HA.out; clear HA
     simp only [drivers_Is.l0] at H
     replace H := iD' H; obtain ⟨-, c29b0, H⟩ | ⟨-, c29b0, H⟩ := H
     ·obtain rfl := sI H
      go_wp2
      go_ret
      exact ⟨rfl, be2 HB GE196 GE197⟩
     replace H := iN H; obtain ⟨-, c30b0, H⟩ := H
     replace H := iN H; obtain ⟨-, c31b0, H⟩ := H
     replace H := iD H; obtain ⟨-, c32b0, H⟩ | ⟨-, c32b0, H⟩ := H
     ·obtain rfl := sI H
      have p200 : 0 ≤ (x27_2 : Int) := od
      have q200 : x27_2 < (l1_4.length : Int) := od
      obtain ⟨ad200, A200_3, c200_3, A200_4, c200_4, e200, hx200_0, hx200_1, hx200_2, hx200_3, hx200_4, hl200_3, hi200_3, hl200_4, hi200_4⟩ := at_T63 HR1_4.out x27_2 p200 q200
      cases e200
      replace hx200_0 := keepc HB.out hx200_0
      replace hx200_1 := keepc HB.out hx200_1
      replace hx200_2 := keepc HB.out hx200_2
      replace hx200_3 := keepc HB.out hx200_3
      replace hx200_4 := keepc HB.out hx200_4
      have HR200_3 := mk0 hi200_3; have HC200_3 := mk0 hl200_3; clear hi200_3 hl200_3; have HR200_4 := mk0 hi200_4; have HC200_4 := mk0 hl200_4; clear hi200_4 hl200_4; replace p200 := eq_true p200; replace q200 := eq_true q200
      go_wp2_with ((with_reducible refine box_event rfl (N := 7) rfl (cs := #[.int .i64 0, .int .i64 0, .int .i64 0, .slice none 0 0, .slice none 0 0]) (t := 63) ?hr ?_); (case hr => first | (go_simp; done) | (go_simp; rfl)); intro gb201 hg w33 hbox hb; have BK201 := mk0 (hbox); have GE201 := bs (be2 HB GE196 GE197) hg; replace HB := kh2 HB GE196 GE197 hb; have NB196_201 := nb1 (bu BK196) hg; have NB201_196 := nb2 (bu BK196) hg; replace BK196 := kb BK196 hb; have NB197_201 := nb1 (bu BK197) hg; have NB201_197 := nb2 (bu BK197) hg; replace BK197 := kb BK197 hb; clear hb hbox hg; have hnb34 := NB201_196.out; have hnc34 := NB196_201.out; have hnb35 := NB201_197.out; have hnc35 := NB197_201.out; have z36 := cells5 BK201.out)
      go_ret
      exact ⟨rfl, be3 HB GE196 GE197 GE201⟩
     by_cases c37 : ((rd_T63 l1_4 x27_2).f0) > 2000000
     ·rw [if_pos c37] at H
      have c37b0 : decide (2000000 < ((rd_T63 l1_4 x27_2).f0)) = true := decide_eq_true c37; clear c37; obtain rfl := sI H
      have p200 : 0 ≤ (x27_2 : Int) := od
      have q200 : x27_2 < (l1_4.length : Int) := od
      obtain ⟨ad200, A200_3, c200_3, A200_4, c200_4, e200, hx200_0, hx200_1, hx200_2, hx200_3, hx200_4, hl200_3, hi200_3, hl200_4, hi200_4⟩ := at_T63 HR1_4.out x27_2 p200 q200
      cases e200
      replace hx200_0 := keepc HB.out hx200_0
      replace hx200_1 := keepc HB.out hx200_1
      replace hx200_2 := keepc HB.out hx200_2
      replace hx200_3 := keepc HB.out hx200_3
      replace hx200_4 := keepc HB.out hx200_4
      have HR200_3 := mk0 hi200_3; have HC200_3 := mk0 hl200_3; clear hi200_3 hl200_3; have HR200_4 := mk0 hi200_4; have HC200_4 := mk0 hl200_4; clear hi200_4 hl200_4; replace p200 := eq_true p200; replace q200 := eq_true q200
      go_wp2_with ((with_reducible refine box_event rfl (N := 7) rfl (cs := #[.int .i64 0, .int .i64 0, .int .i64 0, .slice none 0 0, .slice none 0 0]) (t := 63) ?hr ?_); (case hr => first | (go_simp; done) | (go_simp; rfl)); intro gb201 hg w38 hbox hb; have BK201 := mk0 (hbox); have GE201 := bs (be2 HB GE196 GE197) hg; replace HB := kh2 HB GE196 GE197 hb; have NB196_201 := nb1 (bu BK196) hg; have NB201_196 := nb2 (bu BK196) hg; replace BK196 := kb BK196 hb; have NB197_201 := nb1 (bu BK197) hg; have NB201_197 := nb2 (bu BK197) hg; replace BK197 := kb BK197 hb; clear hb hbox hg; have hnb39 := NB201_196.out; have hnc39 := NB196_201.out; have hnb40 := NB201_197.out; have hnc40 := NB197_201.out; have z41 := cells5 BK201.out)
      go_ret
      exact ⟨rfl, be3 HB GE196 GE197 GE201⟩
     rw [if_neg c37] at H; have c37b0 : decide (2000000 < ((rd_T63 l1_4 x27_2).f0)) = false := decide_eq_false c37; clear c37
     replace H := bS H; obtain ⟨t202, A42, H⟩ := H
     replace H := iB' H; obtain ⟨rfl, H⟩ | ⟨rfl, H⟩ := H
     ·obtain rfl := sI H
      have p200 : 0 ≤ (x27_2 : Int) := od
      have q200 : x27_2 < (l1_4.length : Int) := od
      obtain ⟨ad200, A200_3, c200_3, A200_4, c200_4, e200, hx200_0, hx200_1, hx200_2, hx200_3, hx200_4, hl200_3, hi200_3, hl200_4, hi200_4⟩ := at_T63 HR1_4.out x27_2 p200 q200
      cases e200
      replace hx200_0 := keepc HB.out hx200_0
      replace hx200_1 := keepc HB.out hx200_1
      replace hx200_2 := keepc HB.out hx200_2
      replace hx200_3 := keepc HB.out hx200_3
      replace hx200_4 := keepc HB.out hx200_4
      have HR200_3 := mk0 hi200_3; have HC200_3 := mk0 hl200_3; clear hi200_3 hl200_3; have HR200_4 := mk0 hi200_4; have HC200_4 := mk0 hl200_4; clear hi200_4 hl200_4; replace p200 := eq_true p200; replace q200 := eq_true q200
      go_wp2_with (first | ((with_reducible refine box_event rfl (N := 7) rfl (cs := #[.int .i64 0, .int .i64 0, .int .i64 0, .slice none 0 0, .slice none 0 0]) (t := 63) ?hr ?_); (case hr => first | (go_simp; done) | (go_simp; rfl)); intro gb201 hg w52 hbox hb; have BK201 := mk0 (hbox); have GE201 := bs (be2 HB GE196 GE197) hg; replace HB := kh2 HB GE196 GE197 hb; have NB196_201 := nb1 (bu BK196) hg; have NB201_196 := nb2 (bu BK196) hg; replace BK196 := kb BK196 hb; have NB197_201 := nb1 (bu BK197) hg; have NB201_197 := nb2 (bu BK197) hg; replace BK197 := kb BK197 hb; clear hb hbox hg; have hnb53 := NB201_196.out; have hnc53 := NB196_201.out; have hnb54 := NB201_197.out; have hnc54 := NB197_201.out; have z55 := cells5 BK201.out; have hnb56 := NB196_197.out; have hnc56 := NB197_196.out; have z57 := cells5 BK196.out) | (go_at_call 45; refine (types_Has.calls k2 a0_0 a0_1 a0_2 _ _ l0_3 _ _ l0_4 ((rd_T63 l1_4 x27_2).f1.f0) ((rd_T63 l1_4 x27_2).f1.f1) _ _ ((rd_T63 l1_4 x27_2).f1.f2) _ _ ((rd_T63 l1_4 x27_2).f1.f3) false _ (glob_below HG.out (be3 HB GE196 GE197 GE201)) (Kd.C_below HR0_3.out (be3 HB GE196 GE197 GE201)) HC0_3.out (Kd.C_below HR0_4.out (be3 HB GE196 GE197 GE201)) HC0_4.out (Kd.C_below HR200_3.out (be3 HB GE196 GE197 GE201)) HC200_3.out (Kd.C_below HR200_4.out (be3 HB GE196 GE197 GE201)) HC200_4.out A42.out).mono ?_; rintro e w58 ⟨rfl, hb⟩; replace BK196 := kF NB196_201 BK196 hb; replace BK197 := kF NB197_201 BK197 hb; replace BK201 := mk0 (blk_below (g := gb201) (o := .cells #[.int .i64 ((rd_T63 l1_4 x27_2).f0), .int .i64 ((rd_T63 l1_4 x27_2).f1.f0), .int .i64 ((rd_T63 l1_4 x27_2).f1.f1), .slice A200_3 ((rd_T63 l1_4 x27_2).f1.f2).length c200_3, .slice A200_4 ((rd_T63 l1_4 x27_2).f1.f3).length c200_4] 63 (0, 0)) (pB BK201) hb); replace HB := kh3 HB GE196 GE197 GE201 hb))
      go_ret
      exact ⟨rfl, be3 HB GE196 GE197 GE201⟩
     have H' := mk0 H
     clear H
     have p200 : 0 ≤ (x27_2 : Int) := od
     have q200 : x27_2 < (l1_4.length : Int) := od
     obtain ⟨ad200, A200_3, c200_3, A200_4, c200_4, e200, hx200_0, hx200_1, hx200_2, hx200_3, hx200_4, hl200_3, hi200_3, hl200_4, hi200_4⟩ := at_T63 HR1_4.out x27_2 p200 q200
     cases e200
     replace hx200_0 := keepc HB.out hx200_0
     replace hx200_1 := keepc HB.out hx200_1
     replace hx200_2 := keepc HB.out hx200_2
     replace hx200_3 := keepc HB.out hx200_3
     replace hx200_4 := keepc HB.out hx200_4
     have HR200_3 := mk0 hi200_3; have HC200_3 := mk0 hl200_3; clear hi200_3 hl200_3; have HR200_4 := mk0 hi200_4; have HC200_4 := mk0 hl200_4; clear hi200_4 hl200_4; replace p200 := eq_true p200; replace q200 := eq_true q200
     go_wp2_with (first | ((with_reducible refine box_event rfl (N := 7) rfl (cs := #[.int .i64 0, .int .i64 0, .int .i64 0, .slice none 0 0, .slice none 0 0]) (t := 63) ?hr ?_); (case hr => first | (go_simp; done) | (go_simp; rfl)); intro gb201 hg w44 hbox hb; have BK201 := mk0 (hbox); have GE201 := bs (be2 HB GE196 GE197) hg; replace HB := kh2 HB GE196 GE197 hb; have NB196_201 := nb1 (bu BK196) hg; have NB201_196 := nb2 (bu BK196) hg; replace BK196 := kb BK196 hb; have NB197_201 := nb1 (bu BK197) hg; have NB201_197 := nb2 (bu BK197) hg; replace BK197 := kb BK197 hb; clear hb hbox hg; have hnb45 := NB201_196.out; have hnc45 := NB196_201.out; have hnb46 := NB201_197.out; have hnc46 := NB197_201.out; have z47 := cells5 BK201.out; have hnb48 := NB196_197.out; have hnc48 := NB197_196.out; have z49 := cells5 BK196.out) | (go_at_call 45; refine (types_Has.calls k2 a0_0 a0_1 a0_2 _ _ l0_3 _ _ l0_4 ((rd_T63 l1_4 x27_2).f1.f0) ((rd_T63 l1_4 x27_2).f1.f1) _ _ ((rd_T63 l1_4 x27_2).f1.f2) _ _ ((rd_T63 l1_4 x27_2).f1.f3) true _ (glob_below HG.out (be3 HB GE196 GE197 GE201)) (Kd.C_below HR0_3.out (be3 HB GE196 GE197 GE201)) HC0_3.out (Kd.C_below HR0_4.out (be3 HB GE196 GE197 GE201)) HC0_4.out (Kd.C_below HR200_3.out (be3 HB GE196 GE197 GE201)) HC200_3.out (Kd.C_below HR200_4.out (be3 HB GE196 GE197 GE201)) HC200_4.out A42.out).mono ?_; rintro e w50 ⟨rfl, hb⟩; replace BK196 := kF NB196_201 BK196 hb; replace BK197 := kF NB197_201 BK197 hb; replace BK201 := mk0 (blk_below (g := gb201) (o := .cells #[.int .i64 ((rd_T63 l1_4 x27_2).f0), .int .i64 ((rd_T63 l1_4 x27_2).f1.f0), .int .i64 ((rd_T63 l1_4 x27_2).f1.f1), .slice A200_3 ((rd_T63 l1_4 x27_2).f1.f2).length c200_3, .slice A200_4 ((rd_T63 l1_4 x27_2).f1.f3).length c200_4] 63 (0, 0)) (pB BK201) hb); replace HB := kh3 HB GE196 GE197 GE201 hb; have z51 := cells5 BK201.out))
     go_roundg k2
     case measure => have := HJ2.out; have := HK2.out; omega
     case rel => exact ⟨((rd_T63 l1_4 x27_2).f0), (wrap64 (x27_2 + 1)), rfl, rfl, H', ⟨by have := HJ2.out; have := HK2.out; omega⟩, ⟨bu BK196⟩, ⟨bu BK197⟩, ⟨be3 HB GE196 GE197 GE201⟩⟩
end Go.Proofs.Ytojankgmedccdaa.PIs
