/- Part of the proof of LawDriversOrder: every definition and lemma is one that it names. -/
import Derived.Test.YtojankgmedccdaaQPIsx0
import Derived.Test.YtojankgmedccdaaQPIsx6
import Derived.Test.YtojankgmedccdaaQPIsx9
namespace Go.Proofs.Ytojankgmedccdaa.PIs
open Go.RowKit Own PTy Hand YtojankgmedccdaaW.PrintWords YtojankgmedccdaaW.PrintLast YtojankgmedccdaaW.PrintMore
attribute [local go_sem] max2_int min2_int max_two min_two max_three min_three max_four min_four
set_option linter.unusedVariables false
set_option linter.unusedSimpArgs false
def types_bare.f (a0_0 : Int) (a0_1 : Int) (l0_2 : List Int) (l0_3 : List (S30)) (a1 : Bool) (a2 : Bool) (a3 : Bool) : Option (Bool) := if a1 = true then (if a2 = true then (if a3 = true then (some true) else (some ((l0_3.length : Int) == 0))) else (if (l0_2.length : Int) = 0 then (if a3 = true then (some true) else (some ((l0_3.length : Int) == 0))) else (some false))) else (if a0_1 = 0 then (if a2 = true then (if a3 = true then (some true) else (some ((l0_3.length : Int) == 0))) else (if (l0_2.length : Int) = 0 then (if a3 = true then (some true) else (some ((l0_3.length : Int) == 0))) else (some false))) else (some false))
set_option maxHeartbeats 8000000 in
set_option maxRecDepth 100000 in
theorem types_bare.calls (a0_0 : Int) (a0_1 : Int) (A0_2 : Option Addr) (c0_2 : Nat) (l0_2 : List Int) (A0_3 : Option Addr) (c0_3 : Nat) (l0_3 : List (S30)) (a1 : Bool) (a2 : Bool) (a3 : Bool) (r : Bool) (w : World) (hr0_2 : Kd.C (Kd.int .u8) w A0_2 l0_2.length l0_2) (hc0_2 : l0_2.length ≤ c0_2) (hr0_3 : Kd.C k30 w A0_3 l0_3.length l0_3) (hc0_3 : l0_3.length ≤ c0_3) (h : types_bare.f a0_0 a0_1 l0_2 l0_3 a1 a2 a3 = some r) :
  Calls Try.prog 80 #[.agg #[.int .i64 a0_0, .int .i64 a0_1, .slice A0_2 l0_2.length c0_2, .slice A0_3 l0_3.length c0_3], .bool a1, .bool a2, .bool a3] w fun e w' => e = .returned (.bool r) ∧ Below w.heap.size w w' := by
 have hu30 := Try.underlying30
 have HR0_2 := mk0 hr0_2; have HC0_2 := mk0 hc0_2; clear hr0_2 hc0_2; have HR0_3 := mk0 hr0_3; have HC0_3 := mk0 hc0_3; clear hr0_3 hc0_3
 have HB := mk0 (Below.refl w.heap.size w)
 have H := h; unfold types_bare.f at H
 clear h
 replace H := iB H; obtain ⟨rfl, H⟩ | ⟨rfl, H⟩ := H
 ·replace H := iB H; obtain ⟨rfl, H⟩ | ⟨rfl, H⟩ := H
  ·replace H := iB H; obtain ⟨rfl, H⟩ | ⟨rfl, H⟩ := H
   ·obtain rfl := sI H
    go_enter Try.func80, Try.ntmps80
    go_wp2_with ((with_reducible refine box_event rfl (N := 4) rfl (cs := #[.int .i64 a0_0, .int .i64 a0_1, .slice A0_2 l0_2.length c0_2, .slice A0_3 l0_3.length c0_3]) (t := 30) ?hr ?_); (case hr => first | (go_simp; done) | (go_simp; rfl)); intro gb183 hg w8 hbox hb; have BK183 := mk0 (hbox); have GE183 := bs (be HB) hg; replace HB := kh HB hb; clear hb hbox hg)
    go_ret
    exact ⟨rfl, be1 HB GE183⟩
   obtain rfl := sI H
   go_enter Try.func80, Try.ntmps80
   go_wp2_with ((with_reducible refine box_event rfl (N := 4) rfl (cs := #[.int .i64 a0_0, .int .i64 a0_1, .slice A0_2 l0_2.length c0_2, .slice A0_3 l0_3.length c0_3]) (t := 30) ?hr ?_); (case hr => first | (go_simp; done) | (go_simp; rfl)); intro gb183 hg w9 hbox hb; have BK183 := mk0 (hbox); have GE183 := bs (be HB) hg; replace HB := kh HB hb; clear hb hbox hg; have z10 := cells4 BK183.out)
   go_ret
   exact ⟨rfl, be1 HB GE183⟩
  replace H := iE' H; obtain ⟨c11, c11b0, c11b1, H⟩ | ⟨c11b0, c11b1, H⟩ := H
  ·have c11b2 : ¬ (l0_2 = []) := fun h_ => c11 (by rw [h_]; rfl)
   obtain rfl := sI H
   go_enter Try.func80, Try.ntmps80
   go_wp2_with ((with_reducible refine box_event rfl (N := 4) rfl (cs := #[.int .i64 a0_0, .int .i64 a0_1, .slice A0_2 l0_2.length c0_2, .slice A0_3 l0_3.length c0_3]) (t := 30) ?hr ?_); (case hr => first | (go_simp; done) | (go_simp; rfl)); intro gb183 hg w17 hbox hb; have BK183 := mk0 (hbox); have GE183 := bs (be HB) hg; replace HB := kh HB hb; clear hb hbox hg; have z18 := cells4 BK183.out)
   go_ret
   exact ⟨rfl, be1 HB GE183⟩
  replace H := iB H; obtain ⟨rfl, H⟩ | ⟨rfl, H⟩ := H
  ·obtain rfl := sI H
   go_enter Try.func80, Try.ntmps80
   go_wp2_with ((with_reducible refine box_event rfl (N := 4) rfl (cs := #[.int .i64 a0_0, .int .i64 a0_1, .slice A0_2 l0_2.length c0_2, .slice A0_3 l0_3.length c0_3]) (t := 30) ?hr ?_); (case hr => first | (go_simp; done) | (go_simp; rfl)); intro gb183 hg w13 hbox hb; have BK183 := mk0 (hbox); have GE183 := bs (be HB) hg; replace HB := kh HB hb; clear hb hbox hg; have z14 := cells4 BK183.out)
   go_ret
   exact ⟨rfl, be1 HB GE183⟩
  obtain rfl := sI H
  go_enter Try.func80, Try.ntmps80
  go_wp2_with ((with_reducible refine box_event rfl (N := 4) rfl (cs := #[.int .i64 a0_0, .int .i64 a0_1, .slice A0_2 l0_2.length c0_2, .slice A0_3 l0_3.length c0_3]) (t := 30) ?hr ?_); (case hr => first | (go_simp; done) | (go_simp; rfl)); intro gb183 hg w15 hbox hb; have BK183 := mk0 (hbox); have GE183 := bs (be HB) hg; replace HB := kh HB hb; clear hb hbox hg; have z16 := cells4 BK183.out)
  go_ret
  exact ⟨rfl, be1 HB GE183⟩
 replace H := iE' H; obtain ⟨c19, c19b0, c19b1, H⟩ | ⟨c19b0, c19b1, H⟩ := H
 ·obtain rfl := sI H
  go_enter Try.func80, Try.ntmps80
  go_wp2_with ((with_reducible refine box_event rfl (N := 4) rfl (cs := #[.int .i64 a0_0, .int .i64 a0_1, .slice A0_2 l0_2.length c0_2, .slice A0_3 l0_3.length c0_3]) (t := 30) ?hr ?_); (case hr => first | (go_simp; done) | (go_simp; rfl)); intro gb183 hg w34 hbox hb; have BK183 := mk0 (hbox); have GE183 := bs (be HB) hg; replace HB := kh HB hb; clear hb hbox hg; have z35 := cells4 BK183.out)
  go_ret
  exact ⟨rfl, be1 HB GE183⟩
 replace H := iB H; obtain ⟨rfl, H⟩ | ⟨rfl, H⟩ := H
 ·replace H := iB H; obtain ⟨rfl, H⟩ | ⟨rfl, H⟩ := H
  ·obtain rfl := sI H
   go_enter Try.func80, Try.ntmps80
   go_wp2_with ((with_reducible refine box_event rfl (N := 4) rfl (cs := #[.int .i64 a0_0, .int .i64 a0_1, .slice A0_2 l0_2.length c0_2, .slice A0_3 l0_3.length c0_3]) (t := 30) ?hr ?_); (case hr => first | (go_simp; done) | (go_simp; rfl)); intro gb183 hg w22 hbox hb; have BK183 := mk0 (hbox); have GE183 := bs (be HB) hg; replace HB := kh HB hb; clear hb hbox hg; have z23 := cells4 BK183.out)
   go_ret
   exact ⟨rfl, be1 HB GE183⟩
  obtain rfl := sI H
  go_enter Try.func80, Try.ntmps80
  go_wp2_with ((with_reducible refine box_event rfl (N := 4) rfl (cs := #[.int .i64 a0_0, .int .i64 a0_1, .slice A0_2 l0_2.length c0_2, .slice A0_3 l0_3.length c0_3]) (t := 30) ?hr ?_); (case hr => first | (go_simp; done) | (go_simp; rfl)); intro gb183 hg w24 hbox hb; have BK183 := mk0 (hbox); have GE183 := bs (be HB) hg; replace HB := kh HB hb; clear hb hbox hg; have z25 := cells4 BK183.out)
  go_ret
  exact ⟨rfl, be1 HB GE183⟩
 replace H := iE' H; obtain ⟨c26, c26b0, c26b1, H⟩ | ⟨c26b0, c26b1, H⟩ := H
 ·have c26b2 : ¬ (l0_2 = []) := fun h_ => c26 (by rw [h_]; rfl)
  obtain rfl := sI H
  go_enter Try.func80, Try.ntmps80
  go_wp2_with ((with_reducible refine box_event rfl (N := 4) rfl (cs := #[.int .i64 a0_0, .int .i64 a0_1, .slice A0_2 l0_2.length c0_2, .slice A0_3 l0_3.length c0_3]) (t := 30) ?hr ?_); (case hr => first | (go_simp; done) | (go_simp; rfl)); intro gb183 hg w32 hbox hb; have BK183 := mk0 (hbox); have GE183 := bs (be HB) hg; replace HB := kh HB hb; clear hb hbox hg; have z33 := cells4 BK183.out)
  go_ret
  exact ⟨rfl, be1 HB GE183⟩
 replace H := iB H; obtain ⟨rfl, H⟩ | ⟨rfl, H⟩ := H
 ·obtain rfl := sI H
  go_enter Try.func80, Try.ntmps80
  go_wp2_with ((with_reducible refine box_event rfl (N := 4) rfl (cs := #[.int .i64 a0_0, .int .i64 a0_1, .slice A0_2 l0_2.length c0_2, .slice A0_3 l0_3.length c0_3]) (t := 30) ?hr ?_); (case hr => first | (go_simp; done) | (go_simp; rfl)); intro gb183 hg w28 hbox hb; have BK183 := mk0 (hbox); have GE183 := bs (be HB) hg; replace HB := kh HB hb; clear hb hbox hg; have z29 := cells4 BK183.out)
  go_ret
  exact ⟨rfl, be1 HB GE183⟩
 obtain rfl := sI H
 go_enter Try.func80, Try.ntmps80
 go_wp2_with ((with_reducible refine box_event rfl (N := 4) rfl (cs := #[.int .i64 a0_0, .int .i64 a0_1, .slice A0_2 l0_2.length c0_2, .slice A0_3 l0_3.length c0_3]) (t := 30) ?hr ?_); (case hr => first | (go_simp; done) | (go_simp; rfl)); intro gb183 hg w30 hbox hb; have BK183 := mk0 (hbox); have GE183 := bs (be HB) hg; replace HB := kh HB hb; clear hb hbox hg; have z31 := cells4 BK183.out)
 go_ret
 exact ⟨rfl, be1 HB GE183⟩
def types_has.j0 : Nat → Int → Bool → Int → Int → ByteArray → List ByteArray → List (S26) → Int → Int → List Int → List (S30) → Option (Bool)
 | 0, _, _, _, _, _, _, _, _, _, _, _ => none
 | k + 1, x11, x12, x185000, x185001, x185002, x185003, x185004, x186000, x186001, x186002, x186003 => if x12 = true then ((types_bare.f x186000 x186001 x186002 x186003 false true false).bind fun t186 => (if t186 = true then ((logic_Is.f x186002).bind fun t187 => (if t187 = true then (some ((x186002.length : Int) == (mx x185001 1))) else (some false))) else (some false))) else (if x11 = 2 then ((types_bare.f x186000 x186001 x186002 x186003 true false false).bind fun t188 => (if t188 = true then (if x186001 = 0 then (some true) else (some (x186001 == 1))) else (some false))) else (if x11 = 3 then ((types_bare.f x186000 x186001 x186002 x186003 true false false).bind fun t189 => (if t189 = true then (if x186001 ≥ (-2147483648) then (some (decide (x186001 ≤ 2147483647))) else (some false)) else (some false))) else (if x11 = 5 then ((types_bare.f x186000 x186001 x186002 x186003 true false false).bind fun t190 => (if t190 = true then (if x186001 ≥ 0 then (some (decide (x186001 < (x185003.length : Int)))) else (some false)) else (some false))) else ((types_bare.f x186000 x186001 x186002 x186003 false false true).bind fun t191 => (if t191 = true then (if (x186003.length : Int) = x185001 then (none) else (some false)) else (some false))))))
def types_has.f (k : Nat) (a0_0 : Int) (a0_1 : Int) (a0_2 : ByteArray) (l0_3 : List ByteArray) (l0_4 : List (S26)) (a1_0 : Int) (a1_1 : Int) (l1_2 : List Int) (l1_3 : List (S30)) : Option (Bool) := if a1_0 = a0_0 then (if a0_0 = 1 then (types_has.j0 k a0_0 (a0_0 == 1) a0_0 a0_1 a0_2 l0_3 l0_4 a1_0 a1_1 l1_2 l1_3) else (types_has.j0 k a0_0 (a0_0 == 4) a0_0 a0_1 a0_2 l0_3 l0_4 a1_0 a1_1 l1_2 l1_3)) else (some false)
theorem types_has.mono_l : ∀ k, (∀ y0 y1 y2 y3 y4 y5 y6 y7 y8 y9 y10, LeO (types_has.j0 k y0 y1 y2 y3 y4 y5 y6 y7 y8 y9 y10) (types_has.j0 (k + 1) y0 y1 y2 y3 y4 y5 y6 y7 y8 y9 y10))
 | 0 => fun _ _ _ _ _ _ _ _ _ _ _ r h => by simp [types_has.j0] at h
 | k + 1 => by
  have ih0 := types_has.mono_l k
  ·intro y0 y1 y2 y3 y4 y5 y6 y7 y8 y9 y10
   unfold types_has.j0
   repeat' first
   | (with_reducible exact ih0 _ _ _ _ _ _ _ _ _ _ _)
   | (with_reducible exact LeO.refl _)
   | (with_reducible exact LeO.none _)
   | (with_reducible refine LeO.ite ?_ ?_)
   | (with_reducible refine LeO.bind ?_ (fun _ => ?_))
   | exact ih0 _ _ _ _ _ _ _ _ _ _ _
   | exact LeO.none _
   | refine LeO.ite ?_ ?_
   | refine LeO.bind ?_ (fun _ => ?_)
theorem types_has.mono : ∀ a0 a1 a2 a3 a4 a5 a6 a7 a8 k, LeO (types_has.f k a0 a1 a2 a3 a4 a5 a6 a7 a8) (types_has.f (k + 1) a0 a1 a2 a3 a4 a5 a6 a7 a8) := by
 intro a0 a1 a2 a3 a4 a5 a6 a7 a8 k
 have ih0 := types_has.mono_l k
 unfold types_has.f
 repeat' first
   | (with_reducible exact ih0 _ _ _ _ _ _ _ _ _ _ _)
   | (with_reducible exact LeO.refl _)
   | (with_reducible exact LeO.none _)
   | (with_reducible refine LeO.ite ?_ ?_)
   | (with_reducible refine LeO.bind ?_ (fun _ => ?_))
   | exact ih0 _ _ _ _ _ _ _ _ _ _ _
   | exact LeO.none _
   | refine LeO.ite ?_ ?_
   | refine LeO.bind ?_ (fun _ => ?_)
set_option maxHeartbeats 8000000 in
set_option maxRecDepth 100000 in
theorem types_has.calls (k : Nat) (a0_0 : Int) (a0_1 : Int) (a0_2 : ByteArray) (A0_3 : Option Addr) (c0_3 : Nat) (l0_3 : List ByteArray) (A0_4 : Option Addr) (c0_4 : Nat) (l0_4 : List (S26)) (a1_0 : Int) (a1_1 : Int) (A1_2 : Option Addr) (c1_2 : Nat) (l1_2 : List Int) (A1_3 : Option Addr) (c1_3 : Nat) (l1_3 : List (S30)) (r : Bool) (w : World) (hr0_3 : Kd.C Kd.string w A0_3 l0_3.length l0_3) (hc0_3 : l0_3.length ≤ c0_3) (hr0_4 : Kd.C k26 w A0_4 l0_4.length l0_4) (hc0_4 : l0_4.length ≤ c0_4) (hr1_2 : Kd.C (Kd.int .u8) w A1_2 l1_2.length l1_2) (hc1_2 : l1_2.length ≤ c1_2) (hr1_3 : Kd.C k30 w A1_3 l1_3.length l1_3) (hc1_3 : l1_3.length ≤ c1_3) (h : types_has.f k a0_0 a0_1 a0_2 l0_3 l0_4 a1_0 a1_1 l1_2 l1_3 = some r) :
  Calls Try.prog 67 #[.agg #[.int .i64 a0_0, .int .i64 a0_1, .string a0_2, .slice A0_3 l0_3.length c0_3, .slice A0_4 l0_4.length c0_4], .agg #[.int .i64 a1_0, .int .i64 a1_1, .slice A1_2 l1_2.length c1_2, .slice A1_3 l1_3.length c1_3]] w fun e w' => e = .returned (.bool r) ∧ Below w.heap.size w w' := by
 have hu26 := Try.underlying26
 have hu30 := Try.underlying30
 have HR0_3 := mk0 hr0_3; have HC0_3 := mk0 hc0_3; clear hr0_3 hc0_3; have HR0_4 := mk0 hr0_4; have HC0_4 := mk0 hc0_4; clear hr0_4 hc0_4; have HR1_2 := mk0 hr1_2; have HC1_2 := mk0 hc1_2; clear hr1_2 hc1_2; have HR1_3 := mk0 hr1_3; have HC1_3 := mk0 hc1_3; clear hr1_3 hc1_3
 have HB := mk0 (Below.refl w.heap.size w)
 have H := h; unfold types_has.f at H
 clear h
 replace H := iE' H; obtain ⟨c3, c3b0, c3b1, H⟩ | ⟨c3b0, c3b1, H⟩ := H
 ·obtain rfl := sI H
  go_enter Try.func67, Try.ntmps67
  go_wp2_with (first | ((with_reducible refine box_event rfl (N := 2) rfl (cs := #[.int .i64 a0_0, .int .i64 a0_1, .string a0_2, .slice A0_3 l0_3.length c0_3, .slice A0_4 l0_4.length c0_4]) (t := 26) ?hr ?_); (case hr => first | (go_simp; done) | (go_simp; rfl)); intro gb184 hg w86 hbox hb; have BK184 := mk0 (hbox); have GE184 := bs (be HB) hg; replace HB := kh HB hb; clear hb hbox hg) | ((with_reducible refine box_event rfl (N := 3) rfl (cs := #[.int .i64 a1_0, .int .i64 a1_1, .slice A1_2 l1_2.length c1_2, .slice A1_3 l1_3.length c1_3]) (t := 30) ?hr ?_); (case hr => first | (go_simp; done) | (go_simp; rfl)); intro gb185 hg w87 hbox hb; have BK185 := mk0 (hbox); have GE185 := bs (be1 HB GE184) hg; replace HB := kh1 HB GE184 hb; have NB184_185 := nb1 (bu BK184) hg; have NB185_184 := nb2 (bu BK184) hg; replace BK184 := kb BK184 hb; clear hb hbox hg; have hnb88 := NB185_184.out; have hnc88 := NB184_185.out; have z89 := cells4 BK185.out; have z90 := cells5 BK184.out))
  go_ret
  exact ⟨rfl, be2 HB GE184 GE185⟩
 have HC4 := mk0 H; clear H
 go_enter Try.func67, Try.ntmps67
 go_upto_if 12 with (first | ((with_reducible refine box_event rfl (N := 2) rfl (cs := #[.int .i64 a0_0, .int .i64 a0_1, .string a0_2, .slice A0_3 l0_3.length c0_3, .slice A0_4 l0_4.length c0_4]) (t := 26) ?hr ?_); (case hr => first | (go_simp; done) | (go_simp; rfl)); intro gb184 hg w5 hbox hb; have BK184 := mk0 (hbox); have GE184 := bs (be HB) hg; replace HB := kh HB hb; clear hb hbox hg) | ((with_reducible refine box_event rfl (N := 3) rfl (cs := #[.int .i64 a1_0, .int .i64 a1_1, .slice A1_2 l1_2.length c1_2, .slice A1_3 l1_3.length c1_3]) (t := 30) ?hr ?_); (case hr => first | (go_simp; done) | (go_simp; rfl)); intro gb185 hg w6 hbox hb; have BK185 := mk0 (hbox); have GE185 := bs (be1 HB GE184) hg; replace HB := kh1 HB GE184 hb; have NB184_185 := nb1 (bu BK184) hg; have NB185_184 := nb2 (bu BK184) hg; replace BK184 := kb BK184 hb; clear hb hbox hg; have hnb7 := NB185_184.out; have hnc7 := NB184_185.out; have z8 := cells4 BK185.out; have z9 := cells5 BK184.out))
 (try simp only [Act.put, List.setIfInBounds_toArray, List.set_cons_zero, List.set_cons_succ])
 go_cut [12] (fun v12 wc => ∃ (kq : Nat) (x12_3 : Bool), v12 = .bool x12_3 ∧ Aside0 (types_has.j0 kq a0_0 x12_3 a0_0 a0_1 a0_2 l0_3 l0_4 a1_0 a1_1 l1_2 l1_3 = some r) ∧ Aside0 (kq ≤ k) ∧ Aside0 (wc.heap[gb184]? = some (.cells #[.int .i64 a0_0, .int .i64 a0_1, .string a0_2, (.slice A0_3 l0_3.length c0_3), (.slice A0_4 l0_4.length c0_4)] 26 (0, 0))) ∧ Aside0 (wc.heap[gb185]? = some (.cells #[.int .i64 a1_0, .int .i64 a1_1, (.slice A1_2 l1_2.length c1_2), (.slice A1_3 l1_3.length c1_3)] 30 (0, 0))) ∧ Aside0 (Below w.heap.size w wc))
 case first =>
  have H := HC4.out; clear HC4
  replace H := iE' H; obtain ⟨c10, c10b0, c10b1, H⟩ | ⟨c10b0, c10b1, H⟩ := H
  ·(first | rw [c10b0] | (simp only [i64_w, i32_w]; rw [c10b0]) | skip)
   have H' := mk0 H
   clear H
   go_wp2
   go_meet
   case rel => exact ⟨_, ((a0_0 == 4)), rfl, H', ⟨by omega⟩, ⟨bu BK184⟩, ⟨bu BK185⟩, ⟨be2 HB GE184 GE185⟩⟩
  (first | rw [c10b0] | (simp only [i64_w, i32_w]; rw [c10b0]) | skip)
  have H' := mk0 H
  clear H
  go_wp2
  go_meet
  case rel => exact ⟨_, ((a0_0 == 1)), (by first | rfl | (simp; done) | (simp [*]; done)), H', ⟨by omega⟩, ⟨bu BK184⟩, ⟨bu BK185⟩, ⟨be2 HB GE184 GE185⟩⟩
 case rest =>
  clear HC4; try clear c3; try clear c3b0; try clear c3b1
  obtain ⟨kq, x12_3, rfl, HA, HJ3, BK184, BK185, HB⟩ := hcut
  cases kq with
  | zero => exact absurd HA.out (by simp [types_has.j0])
  | succ kj3 =>
   have H := HA.out; clear HA
   simp only [types_has.j0] at H
   replace H := iB H; obtain ⟨rfl, H⟩ | ⟨rfl, H⟩ := H
   ·replace H := bS H; obtain ⟨t186, A12, H⟩ := H
    replace H := iB' H; obtain ⟨rfl, H⟩ | ⟨rfl, H⟩ := H
    ·obtain rfl := sI H; have hnb26 := NB185_184.out; have hnc26 := NB184_185.out
     have z27 := cells4 BK185.out
     go_wp2_with ((with_reducible refine gate_callee (f := 80) rfl ?_); refine goB (some 16) rfl rfl Try.func80 (by kernel_rfl) rfl #[.agg #[.int .i64 a1_0, .int .i64 a1_1, .slice A1_2 l1_2.length c1_2, .slice A1_3 l1_3.length c1_3], .bool false, .bool true, .bool false] rfl rfl (types_bare.calls a1_0 a1_1 _ _ l1_2 _ _ l1_3 false true false false _ (cu HR1_2 HB) HC1_2.out (cu HR1_3 HB) HC1_3.out A12.out) ?_; intro w28 hb; replace BK184 := kb BK184 hb; replace BK185 := kb BK185 hb; replace HB := kh2 HB GE184 GE185 hb)
     go_ret
     exact ⟨rfl, be2 HB GE184 GE185⟩
    replace H := bS H; obtain ⟨t187, A14, H⟩ := H
    replace H := iB' H; obtain ⟨rfl, H⟩ | ⟨rfl, H⟩ := H
    ·obtain rfl := sI H; have hnb22 := NB185_184.out; have hnc22 := NB184_185.out
     have z23 := cells4 BK185.out
     go_wp2_with (first | ((with_reducible refine gate_callee (f := 80) rfl ?_); refine goB (some 16) rfl rfl Try.func80 (by kernel_rfl) rfl #[.agg #[.int .i64 a1_0, .int .i64 a1_1, .slice A1_2 l1_2.length c1_2, .slice A1_3 l1_3.length c1_3], .bool false, .bool true, .bool false] rfl rfl (types_bare.calls a1_0 a1_1 _ _ l1_2 _ _ l1_3 false true false true _ (cu HR1_2 HB) HC1_2.out (cu HR1_3 HB) HC1_3.out A12.out) ?_; intro w24 hb; replace BK184 := kb BK184 hb; replace BK185 := kb BK185 hb; replace HB := kh2 HB GE184 GE185 hb; have z25 := cells4 BK185.out) | (go_at_call 81; refine (logic_Is.calls _ _ l1_2 false _ (cu HR1_2 HB) HC1_2.out A14.out).mono ?_; rintro e w' ⟨rfl, ⟨nd, rfl⟩⟩))
     go_ret
     exact ⟨rfl, be2 HB GE184 GE185⟩
    obtain ⟨ji16, hji16⟩ : ∃ j_ : Int, (mx a0_1 1) = j_ := ⟨_, rfl⟩
    replace H : (some ((l1_2.length : Int) == (ji16))) = some r := by first | (rw [hji16] at H; exact H) | (simp only [hji16] at H ⊢; exact H)
    (try rw [hji16] at A12)
    (try rw [hji16] at A14)
    have hji16_ : (if a0_1 < 1 then 1 else a0_1) = ji16 := hji16
    obtain rfl := sI H; have hnb17 := NB185_184.out; have hnc17 := NB184_185.out
    have z18 := cells4 BK185.out
    go_wp2_with (first | ((with_reducible refine gate_callee (f := 80) rfl ?_); refine goB (some 16) rfl rfl Try.func80 (by kernel_rfl) rfl #[.agg #[.int .i64 a1_0, .int .i64 a1_1, .slice A1_2 l1_2.length c1_2, .slice A1_3 l1_3.length c1_3], .bool false, .bool true, .bool false] rfl rfl (types_bare.calls a1_0 a1_1 _ _ l1_2 _ _ l1_3 false true false true _ (cu HR1_2 HB) HC1_2.out (cu HR1_3 HB) HC1_3.out A12.out) ?_; intro w19 hb; replace BK184 := kb BK184 hb; replace BK185 := kb BK185 hb; replace HB := kh2 HB GE184 GE185 hb; have z20 := cells4 BK185.out) | (go_at_call 81; refine (logic_Is.calls _ _ l1_2 true _ (cu HR1_2 HB) HC1_2.out A14.out).mono ?_; rintro e w' ⟨rfl, ⟨nd, rfl⟩⟩; have z21 := cells5 BK184.out))
    go_ret
    exact ⟨by first | rfl | (simp [errW_none, errW_some] <;> rfl) | (simp only [← hji16]; first | rfl | (simp [errW_none, errW_some] <;> rfl)) | (simp [*, errW_none, errW_some] <;> rfl), be2 HB GE184 GE185⟩
   replace H := iE H; obtain ⟨c29b0, c29b1, H⟩ | ⟨c29, c29b0, c29b1, H⟩ := H
   ·replace H := bS H; obtain ⟨t188, A30, H⟩ := H
    replace H := iB' H; obtain ⟨rfl, H⟩ | ⟨rfl, H⟩ := H
    ·obtain rfl := sI H; have hnb41 := NB185_184.out; have hnc41 := NB184_185.out
     have z42 := cells4 BK185.out
     go_wp2_with ((with_reducible refine gate_callee (f := 80) rfl ?_); refine goB (some 34) rfl rfl Try.func80 (by kernel_rfl) rfl #[.agg #[.int .i64 a1_0, .int .i64 a1_1, .slice A1_2 l1_2.length c1_2, .slice A1_3 l1_3.length c1_3], .bool true, .bool false, .bool false] rfl rfl (types_bare.calls a1_0 a1_1 _ _ l1_2 _ _ l1_3 true false false false _ (cu HR1_2 HB) HC1_2.out (cu HR1_3 HB) HC1_3.out A30.out) ?_; intro w43 hb; replace BK184 := kb BK184 hb; replace BK185 := kb BK185 hb; replace HB := kh2 HB GE184 GE185 hb)
     go_ret
     exact ⟨rfl, be2 HB GE184 GE185⟩
    replace H := iE' H; obtain ⟨c32, c32b0, c32b1, H⟩ | ⟨c32b0, c32b1, H⟩ := H
    ·obtain rfl := sI H; have hnb37 := NB185_184.out; have hnc37 := NB184_185.out
     have z38 := cells4 BK185.out
     go_wp2_with ((with_reducible refine gate_callee (f := 80) rfl ?_); refine goB (some 34) rfl rfl Try.func80 (by kernel_rfl) rfl #[.agg #[.int .i64 a1_0, .int .i64 a1_1, .slice A1_2 l1_2.length c1_2, .slice A1_3 l1_3.length c1_3], .bool true, .bool false, .bool false] rfl rfl (types_bare.calls a1_0 a1_1 _ _ l1_2 _ _ l1_3 true false false true _ (cu HR1_2 HB) HC1_2.out (cu HR1_3 HB) HC1_3.out A30.out) ?_; intro w39 hb; replace BK184 := kb BK184 hb; replace BK185 := kb BK185 hb; replace HB := kh2 HB GE184 GE185 hb; have z40 := cells4 BK185.out)
     go_ret
     exact ⟨rfl, be2 HB GE184 GE185⟩
    obtain rfl := sI H; have hnb33 := NB185_184.out; have hnc33 := NB184_185.out
    have z34 := cells4 BK185.out
    go_wp2_with ((with_reducible refine gate_callee (f := 80) rfl ?_); refine goB (some 34) rfl rfl Try.func80 (by kernel_rfl) rfl #[.agg #[.int .i64 a1_0, .int .i64 a1_1, .slice A1_2 l1_2.length c1_2, .slice A1_3 l1_3.length c1_3], .bool true, .bool false, .bool false] rfl rfl (types_bare.calls a1_0 a1_1 _ _ l1_2 _ _ l1_3 true false false true _ (cu HR1_2 HB) HC1_2.out (cu HR1_3 HB) HC1_3.out A30.out) ?_; intro w35 hb; replace BK184 := kb BK184 hb; replace BK185 := kb BK185 hb; replace HB := kh2 HB GE184 GE185 hb; have z36 := cells4 BK185.out)
    go_ret
    exact ⟨rfl, be2 HB GE184 GE185⟩
   replace H := iE H; obtain ⟨c44b0, c44b1, H⟩ | ⟨c44, c44b0, c44b1, H⟩ := H
   ·replace H := bS H; obtain ⟨t189, A45, H⟩ := H
    replace H := iB' H; obtain ⟨rfl, H⟩ | ⟨rfl, H⟩ := H
    ·obtain rfl := sI H; have hnb56 := NB185_184.out; have hnc56 := NB184_185.out
     have z57 := cells4 BK185.out
     go_wp2_with ((with_reducible refine gate_callee (f := 80) rfl ?_); refine goB (some 48) rfl rfl Try.func80 (by kernel_rfl) rfl #[.agg #[.int .i64 a1_0, .int .i64 a1_1, .slice A1_2 l1_2.length c1_2, .slice A1_3 l1_3.length c1_3], .bool true, .bool false, .bool false] rfl rfl (types_bare.calls a1_0 a1_1 _ _ l1_2 _ _ l1_3 true false false false _ (cu HR1_2 HB) HC1_2.out (cu HR1_3 HB) HC1_3.out A45.out) ?_; intro w58 hb; replace BK184 := kb BK184 hb; replace BK185 := kb BK185 hb; replace HB := kh2 HB GE184 GE185 hb)
     go_ret
     exact ⟨rfl, be2 HB GE184 GE185⟩
    by_cases c47 : a1_1 ≥ (-2147483648)
    rotate_left
    ·rw [if_neg c47] at H
     have c47b0 : decide ((-2147483648) ≤ a1_1) = false := decide_eq_false c47; clear c47; obtain rfl := sI H; have hnb52 := NB185_184.out; have hnc52 := NB184_185.out
     have z53 := cells4 BK185.out
     go_wp2_with ((with_reducible refine gate_callee (f := 80) rfl ?_); refine goB (some 48) rfl rfl Try.func80 (by kernel_rfl) rfl #[.agg #[.int .i64 a1_0, .int .i64 a1_1, .slice A1_2 l1_2.length c1_2, .slice A1_3 l1_3.length c1_3], .bool true, .bool false, .bool false] rfl rfl (types_bare.calls a1_0 a1_1 _ _ l1_2 _ _ l1_3 true false false true _ (cu HR1_2 HB) HC1_2.out (cu HR1_3 HB) HC1_3.out A45.out) ?_; intro w54 hb; replace BK184 := kb BK184 hb; replace BK185 := kb BK185 hb; replace HB := kh2 HB GE184 GE185 hb; have z55 := cells4 BK185.out)
     go_ret
     exact ⟨rfl, be2 HB GE184 GE185⟩
    rw [if_pos c47] at H; have c47b0 : decide ((-2147483648) ≤ a1_1) = true := decide_eq_true c47; clear c47; obtain rfl := sI H; have hnb48 := NB185_184.out; have hnc48 := NB184_185.out
    have z49 := cells4 BK185.out
    go_wp2_with ((with_reducible refine gate_callee (f := 80) rfl ?_); refine goB (some 48) rfl rfl Try.func80 (by kernel_rfl) rfl #[.agg #[.int .i64 a1_0, .int .i64 a1_1, .slice A1_2 l1_2.length c1_2, .slice A1_3 l1_3.length c1_3], .bool true, .bool false, .bool false] rfl rfl (types_bare.calls a1_0 a1_1 _ _ l1_2 _ _ l1_3 true false false true _ (cu HR1_2 HB) HC1_2.out (cu HR1_3 HB) HC1_3.out A45.out) ?_; intro w50 hb; replace BK184 := kb BK184 hb; replace BK185 := kb BK185 hb; replace HB := kh2 HB GE184 GE185 hb; have z51 := cells4 BK185.out)
    go_ret
    exact ⟨rfl, be2 HB GE184 GE185⟩
   replace H := iE' H; obtain ⟨c59, c59b0, c59b1, H⟩ | ⟨c59b0, c59b1, H⟩ := H
   ·replace H := bS H; obtain ⟨t191, A75, H⟩ := H
    replace H := iB' H; obtain ⟨rfl, H⟩ | ⟨rfl, H⟩ := H
    ·obtain rfl := sI H; have hnb83 := NB185_184.out; have hnc83 := NB184_185.out
     have z84 := cells4 BK185.out
     go_wp2_with ((with_reducible refine gate_callee (f := 80) rfl ?_); refine goB (some 77) rfl rfl Try.func80 (by kernel_rfl) rfl #[.agg #[.int .i64 a1_0, .int .i64 a1_1, .slice A1_2 l1_2.length c1_2, .slice A1_3 l1_3.length c1_3], .bool false, .bool false, .bool true] rfl rfl (types_bare.calls a1_0 a1_1 _ _ l1_2 _ _ l1_3 false false true false _ (cu HR1_2 HB) HC1_2.out (cu HR1_3 HB) HC1_3.out A75.out) ?_; intro w85 hb; replace BK184 := kb BK184 hb; replace BK185 := kb BK185 hb; replace HB := kh2 HB GE184 GE185 hb)
     go_ret
     exact ⟨rfl, be2 HB GE184 GE185⟩
    replace H := iE H; obtain ⟨c77b0, c77b1, H⟩ | ⟨c77, c77b0, c77b1, H⟩ := H
    ·exact absurd H (by simp)
    obtain rfl := sI H; have hnb78 := NB185_184.out; have hnc78 := NB184_185.out
    have z79 := cells4 BK185.out
    go_wp2_with ((with_reducible refine gate_callee (f := 80) rfl ?_); refine goB (some 77) rfl rfl Try.func80 (by kernel_rfl) rfl #[.agg #[.int .i64 a1_0, .int .i64 a1_1, .slice A1_2 l1_2.length c1_2, .slice A1_3 l1_3.length c1_3], .bool false, .bool false, .bool true] rfl rfl (types_bare.calls a1_0 a1_1 _ _ l1_2 _ _ l1_3 false false true true _ (cu HR1_2 HB) HC1_2.out (cu HR1_3 HB) HC1_3.out A75.out) ?_; intro w80 hb; replace BK184 := kb BK184 hb; replace BK185 := kb BK185 hb; replace HB := kh2 HB GE184 GE185 hb; have z81 := cells4 BK185.out; have z82 := cells5 BK184.out)
    go_ret
    exact ⟨rfl, be2 HB GE184 GE185⟩
   replace H := bS H; obtain ⟨t190, A60, H⟩ := H
   replace H := iB' H; obtain ⟨rfl, H⟩ | ⟨rfl, H⟩ := H
   ·obtain rfl := sI H; have hnb72 := NB185_184.out; have hnc72 := NB184_185.out
    have z73 := cells4 BK185.out
    go_wp2_with ((with_reducible refine gate_callee (f := 80) rfl ?_); refine goB (some 62) rfl rfl Try.func80 (by kernel_rfl) rfl #[.agg #[.int .i64 a1_0, .int .i64 a1_1, .slice A1_2 l1_2.length c1_2, .slice A1_3 l1_3.length c1_3], .bool true, .bool false, .bool false] rfl rfl (types_bare.calls a1_0 a1_1 _ _ l1_2 _ _ l1_3 true false false false _ (cu HR1_2 HB) HC1_2.out (cu HR1_3 HB) HC1_3.out A60.out) ?_; intro w74 hb; replace BK184 := kb BK184 hb; replace BK185 := kb BK185 hb; replace HB := kh2 HB GE184 GE185 hb)
    go_ret
    exact ⟨rfl, be2 HB GE184 GE185⟩
   by_cases c62 : a1_1 ≥ 0
   rotate_left
   ·rw [if_neg c62] at H
    have c62b0 : decide (0 ≤ a1_1) = false := decide_eq_false c62; clear c62; obtain rfl := sI H; have hnb68 := NB185_184.out; have hnc68 := NB184_185.out
    have z69 := cells4 BK185.out
    go_wp2_with ((with_reducible refine gate_callee (f := 80) rfl ?_); refine goB (some 62) rfl rfl Try.func80 (by kernel_rfl) rfl #[.agg #[.int .i64 a1_0, .int .i64 a1_1, .slice A1_2 l1_2.length c1_2, .slice A1_3 l1_3.length c1_3], .bool true, .bool false, .bool false] rfl rfl (types_bare.calls a1_0 a1_1 _ _ l1_2 _ _ l1_3 true false false true _ (cu HR1_2 HB) HC1_2.out (cu HR1_3 HB) HC1_3.out A60.out) ?_; intro w70 hb; replace BK184 := kb BK184 hb; replace BK185 := kb BK185 hb; replace HB := kh2 HB GE184 GE185 hb; have z71 := cells4 BK185.out)
    go_ret
    exact ⟨rfl, be2 HB GE184 GE185⟩
   rw [if_pos c62] at H; have c62b0 : decide (0 ≤ a1_1) = true := decide_eq_true c62; clear c62; obtain rfl := sI H; have hnb63 := NB185_184.out; have hnc63 := NB184_185.out
   have z64 := cells4 BK185.out
   go_wp2_with ((with_reducible refine gate_callee (f := 80) rfl ?_); refine goB (some 62) rfl rfl Try.func80 (by kernel_rfl) rfl #[.agg #[.int .i64 a1_0, .int .i64 a1_1, .slice A1_2 l1_2.length c1_2, .slice A1_3 l1_3.length c1_3], .bool true, .bool false, .bool false] rfl rfl (types_bare.calls a1_0 a1_1 _ _ l1_2 _ _ l1_3 true false false true _ (cu HR1_2 HB) HC1_2.out (cu HR1_3 HB) HC1_3.out A60.out) ?_; intro w65 hb; replace BK184 := kb BK184 hb; replace BK185 := kb BK185 hb; replace HB := kh2 HB GE184 GE185 hb; have z66 := cells4 BK185.out; have z67 := cells5 BK184.out)
   go_ret
   exact ⟨rfl, be2 HB GE184 GE185⟩
def types_Has.f (k : Nat) (a0_0 : Int) (a0_1 : Int) (a0_2 : ByteArray) (l0_3 : List ByteArray) (l0_4 : List (S26)) (a1_0 : Int) (a1_1 : Int) (l1_2 : List Int) (l1_3 : List (S30)) : Option (Bool) := (types_Valid.f k a0_0 a0_1 a0_2 l0_3 l0_4).bind fun t194 => (if t194 = true then ((types_has.f k a0_0 a0_1 a0_2 l0_3 l0_4 a1_0 a1_1 l1_2 l1_3).bind fun t195 => (some t195)) else (some false))
theorem types_Has.mono : ∀ a0 a1 a2 a3 a4 a5 a6 a7 a8 k, LeO (types_Has.f k a0 a1 a2 a3 a4 a5 a6 a7 a8) (types_Has.f (k + 1) a0 a1 a2 a3 a4 a5 a6 a7 a8) := by
 intro a0 a1 a2 a3 a4 a5 a6 a7 a8 k
 unfold types_Has.f
 repeat' first
   | (with_reducible exact types_Valid.mono _ _ _ _ _ _)
   | (with_reducible exact types_has.mono _ _ _ _ _ _ _ _ _ _)
   | (with_reducible exact LeO.refl _)
   | (with_reducible exact LeO.none _)
   | (with_reducible refine LeO.ite ?_ ?_)
   | (with_reducible refine LeO.bind ?_ (fun _ => ?_))
   | exact types_Valid.mono _ _ _ _ _ _
   | exact types_has.mono _ _ _ _ _ _ _ _ _ _
   | exact LeO.none _
   | refine LeO.ite ?_ ?_
   | refine LeO.bind ?_ (fun _ => ?_)
set_option maxHeartbeats 8000000 in
set_option maxRecDepth 100000 in
theorem types_Has.calls (k : Nat) (a0_0 : Int) (a0_1 : Int) (a0_2 : ByteArray) (A0_3 : Option Addr) (c0_3 : Nat) (l0_3 : List ByteArray) (A0_4 : Option Addr) (c0_4 : Nat) (l0_4 : List (S26)) (a1_0 : Int) (a1_1 : Int) (A1_2 : Option Addr) (c1_2 : Nat) (l1_2 : List Int) (A1_3 : Option Addr) (c1_3 : Nat) (l1_3 : List (S30)) (r : Bool) (w : World) (hG : Glob w) (hr0_3 : Kd.C Kd.string w A0_3 l0_3.length l0_3) (hc0_3 : l0_3.length ≤ c0_3) (hr0_4 : Kd.C k26 w A0_4 l0_4.length l0_4) (hc0_4 : l0_4.length ≤ c0_4) (hr1_2 : Kd.C (Kd.int .u8) w A1_2 l1_2.length l1_2) (hc1_2 : l1_2.length ≤ c1_2) (hr1_3 : Kd.C k30 w A1_3 l1_3.length l1_3) (hc1_3 : l1_3.length ≤ c1_3) (h : types_Has.f k a0_0 a0_1 a0_2 l0_3 l0_4 a1_0 a1_1 l1_2 l1_3 = some r) :
  Calls Try.prog 45 #[.agg #[.int .i64 a0_0, .int .i64 a0_1, .string a0_2, .slice A0_3 l0_3.length c0_3, .slice A0_4 l0_4.length c0_4], .agg #[.int .i64 a1_0, .int .i64 a1_1, .slice A1_2 l1_2.length c1_2, .slice A1_3 l1_3.length c1_3]] w fun e w' => e = .returned (.bool r) ∧ Below w.heap.size w w' := by
 have HG := mk0 hG; clear hG
 have hu26 := Try.underlying26
 have hu30 := Try.underlying30
 have HR0_3 := mk0 hr0_3; have HC0_3 := mk0 hc0_3; clear hr0_3 hc0_3; have HR0_4 := mk0 hr0_4; have HC0_4 := mk0 hc0_4; clear hr0_4 hc0_4; have HR1_2 := mk0 hr1_2; have HC1_2 := mk0 hc1_2; clear hr1_2 hc1_2; have HR1_3 := mk0 hr1_3; have HC1_3 := mk0 hc1_3; clear hr1_3 hc1_3
 have HB := mk0 (Below.refl w.heap.size w)
 have H := h; unfold types_Has.f at H
 clear h
 replace H := bS H; obtain ⟨t194, A3, H⟩ := H
 replace H := iB' H; obtain ⟨rfl, H⟩ | ⟨rfl, H⟩ := H
 ·obtain rfl := sI H
  go_enter Try.func45, Try.ntmps45
  go_wp2_with (first | ((with_reducible refine box_event rfl (N := 2) rfl (cs := #[.int .i64 a0_0, .int .i64 a0_1, .string a0_2, .slice A0_3 l0_3.length c0_3, .slice A0_4 l0_4.length c0_4]) (t := 26) ?hr ?_); (case hr => first | (go_simp; done) | (go_simp; rfl)); intro gb192 hg w14 hbox hb; have BK192 := mk0 (hbox); have GE192 := bs (be HB) hg; replace HB := kh HB hb; clear hb hbox hg) | ((with_reducible refine box_event rfl (N := 3) rfl (cs := #[.int .i64 a1_0, .int .i64 a1_1, .slice A1_2 l1_2.length c1_2, .slice A1_3 l1_3.length c1_3]) (t := 30) ?hr ?_); (case hr => first | (go_simp; done) | (go_simp; rfl)); intro gb193 hg w15 hbox hb; have BK193 := mk0 (hbox); have GE193 := bs (be1 HB GE192) hg; replace HB := kh1 HB GE192 hb; have NB192_193 := nb1 (bu BK192) hg; have NB193_192 := nb2 (bu BK192) hg; replace BK192 := kb BK192 hb; clear hb hbox hg; have hnb16 := NB192_193.out; have hnc16 := NB193_192.out; have z17 := cells5 BK192.out) | ((with_reducible refine gate_callee (f := 43) rfl ?_); refine goB (some 6) rfl rfl Try.func43 (by kernel_rfl) rfl #[.agg #[.int .i64 a0_0, .int .i64 a0_1, .string a0_2, .slice A0_3 l0_3.length c0_3, .slice A0_4 l0_4.length c0_4]] rfl rfl (types_Valid.calls k a0_0 a0_1 a0_2 _ _ l0_3 _ _ l0_4 false _ (glob_below HG.out (be2 HB GE192 GE193)) (cu HR0_3 HB) HC0_3.out (cu HR0_4 HB) HC0_4.out A3.out) ?_; intro w18 hb; replace BK192 := kb BK192 hb; replace BK193 := kb BK193 hb; replace HB := kh2 HB GE192 GE193 hb))
  go_ret
  exact ⟨rfl, be2 HB GE192 GE193⟩
 replace H := bS H; obtain ⟨t195, A5, H⟩ := H; obtain rfl := sI H
 go_enter Try.func45, Try.ntmps45
 go_wp2_with (first | ((with_reducible refine box_event rfl (N := 2) rfl (cs := #[.int .i64 a0_0, .int .i64 a0_1, .string a0_2, .slice A0_3 l0_3.length c0_3, .slice A0_4 l0_4.length c0_4]) (t := 26) ?hr ?_); (case hr => first | (go_simp; done) | (go_simp; rfl)); intro gb192 hg w6 hbox hb; have BK192 := mk0 (hbox); have GE192 := bs (be HB) hg; replace HB := kh HB hb; clear hb hbox hg) | ((with_reducible refine box_event rfl (N := 3) rfl (cs := #[.int .i64 a1_0, .int .i64 a1_1, .slice A1_2 l1_2.length c1_2, .slice A1_3 l1_3.length c1_3]) (t := 30) ?hr ?_); (case hr => first | (go_simp; done) | (go_simp; rfl)); intro gb193 hg w7 hbox hb; have BK193 := mk0 (hbox); have GE193 := bs (be1 HB GE192) hg; replace HB := kh1 HB GE192 hb; have NB192_193 := nb1 (bu BK192) hg; have NB193_192 := nb2 (bu BK192) hg; replace BK192 := kb BK192 hb; clear hb hbox hg; have hnb8 := NB192_193.out; have hnc8 := NB193_192.out; have z9 := cells5 BK192.out) | ((with_reducible refine gate_callee (f := 43) rfl ?_); refine goB (some 6) rfl rfl Try.func43 (by kernel_rfl) rfl #[.agg #[.int .i64 a0_0, .int .i64 a0_1, .string a0_2, .slice A0_3 l0_3.length c0_3, .slice A0_4 l0_4.length c0_4]] rfl rfl (types_Valid.calls k a0_0 a0_1 a0_2 _ _ l0_3 _ _ l0_4 true _ (glob_below HG.out (be2 HB GE192 GE193)) (cu HR0_3 HB) HC0_3.out (cu HR0_4 HB) HC0_4.out A3.out) ?_; intro w10 hb; replace BK192 := kb BK192 hb; replace BK193 := kb BK193 hb; replace HB := kh2 HB GE192 GE193 hb; have z11 := cells5 BK192.out; have z12 := cells4 BK193.out) | (go_at_call 67; refine (types_has.calls k a0_0 a0_1 a0_2 _ _ l0_3 _ _ l0_4 a1_0 a1_1 _ _ l1_2 _ _ l1_3 t195 _ (cu HR0_3 HB) HC0_3.out (cu HR0_4 HB) HC0_4.out (cu HR1_2 HB) HC1_2.out (cu HR1_3 HB) HC1_3.out A5.out).mono ?_; rintro e w13 ⟨rfl, hb⟩; replace BK192 := kb BK192 hb; replace BK193 := kb BK193 hb; replace HB := kh2 HB GE192 GE193 hb))
 go_ret
 exact ⟨rfl, be2 HB GE192 GE193⟩
end Go.Proofs.Ytojankgmedccdaa.PIs
