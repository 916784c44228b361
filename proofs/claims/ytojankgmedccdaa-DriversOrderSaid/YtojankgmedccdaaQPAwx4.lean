/- Part of the proof of LawDriversOrder: every definition and lemma is one that it names. -/
import Derived.Test.YtojankgmedccdaaQPAwx0
import Derived.Test.YtojankgmedccdaaQPAwx1
import Derived.Test.YtojankgmedccdaaQPAwx3
namespace Go.Proofs.Ytojankgmedccdaa.PAw
open Go.RowKit Own PTy Hand PIs YtojankgmedccdaaW.PrintWords YtojankgmedccdaaW.PrintLast YtojankgmedccdaaW.PrintMore
attribute [local go_sem] max2_int min2_int max_two min_two max_three min_three max_four min_four
set_option linter.unusedVariables false
set_option linter.unusedSimpArgs false
def types_Equal.f (k : Nat) (a0_0 : Int) (a0_1 : Int) (a0_2 : ByteArray) (l0_3 : List ByteArray) (l0_4 : List (S26)) (a1_0 : Int) (a1_1 : Int) (l1_2 : List Int) (l1_3 : List (S30)) (a2_0 : Int) (a2_1 : Int) (l2_2 : List Int) (l2_3 : List (S30)) : Option (Bool × Int) := (types_Has.f k a0_0 a0_1 a0_2 l0_3 l0_4 a1_0 a1_1 l1_2 l1_3).bind fun t184 => (if t184 = true then ((types_Has.f k a0_0 a0_1 a0_2 l0_3 l0_4 a2_0 a2_1 l2_2 l2_3).bind fun t185 => (if t185 = true then ((types_equal.f k a1_0 a1_1 l1_2 l1_3 a2_0 a2_1 l2_2 l2_3).bind fun t186 => (some (t186, 0))) else (none))) else (none))
theorem types_Equal.mono : ∀ a0 a1 a2 a3 a4 a5 a6 a7 a8 a9 a10 a11 a12 k, LeO (types_Equal.f k a0 a1 a2 a3 a4 a5 a6 a7 a8 a9 a10 a11 a12) (types_Equal.f (k + 1) a0 a1 a2 a3 a4 a5 a6 a7 a8 a9 a10 a11 a12) := by
 intro a0 a1 a2 a3 a4 a5 a6 a7 a8 a9 a10 a11 a12 k
 unfold types_Equal.f
 repeat' first
   | (with_reducible exact types_Has.mono _ _ _ _ _ _ _ _ _ _)
   | (with_reducible exact types_equal.mono _ _ _ _ _ _ _ _ _)
   | (with_reducible exact LeO.refl _)
   | (with_reducible exact LeO.none _)
   | (with_reducible refine LeO.ite ?_ ?_)
   | (with_reducible refine LeO.bind ?_ (fun _ => ?_))
   | exact types_Has.mono _ _ _ _ _ _ _ _ _ _
   | exact types_equal.mono _ _ _ _ _ _ _ _ _
   | exact LeO.none _
   | refine LeO.ite ?_ ?_
   | refine LeO.bind ?_ (fun _ => ?_)
set_option maxHeartbeats 8000000 in
set_option maxRecDepth 100000 in
theorem types_Equal.calls (k : Nat) (a0_0 : Int) (a0_1 : Int) (a0_2 : ByteArray) (A0_3 : Option Addr) (c0_3 : Nat) (l0_3 : List ByteArray) (A0_4 : Option Addr) (c0_4 : Nat) (l0_4 : List (S26)) (a1_0 : Int) (a1_1 : Int) (A1_2 : Option Addr) (c1_2 : Nat) (l1_2 : List Int) (A1_3 : Option Addr) (c1_3 : Nat) (l1_3 : List (S30)) (a2_0 : Int) (a2_1 : Int) (A2_2 : Option Addr) (c2_2 : Nat) (l2_2 : List Int) (A2_3 : Option Addr) (c2_3 : Nat) (l2_3 : List (S30)) (r1 : Bool) (r2 : Int) (w : World) (hG : Glob w) (hr0_3 : Kd.C Kd.string w A0_3 l0_3.length l0_3) (hc0_3 : l0_3.length ≤ c0_3) (hr0_4 : Kd.C k26 w A0_4 l0_4.length l0_4) (hc0_4 : l0_4.length ≤ c0_4) (hr1_2 : Kd.C (Kd.int .u8) w A1_2 l1_2.length l1_2) (hc1_2 : l1_2.length ≤ c1_2) (hr1_3 : Kd.C k30 w A1_3 l1_3.length l1_3) (hc1_3 : l1_3.length ≤ c1_3) (hr2_2 : Kd.C (Kd.int .u8) w A2_2 l2_2.length l2_2) (hc2_2 : l2_2.length ≤ c2_2) (hr2_3 : Kd.C k30 w A2_3 l2_3.length l2_3) (hc2_3 : l2_3.length ≤ c2_3) (h : types_Equal.f k a0_0 a0_1 a0_2 l0_3 l0_4 a1_0 a1_1 l1_2 l1_3 a2_0 a2_1 l2_2 l2_3 = some (r1, r2)) :
  Calls Try.prog 72 #[.agg #[.int .i64 a0_0, .int .i64 a0_1, .string a0_2, .slice A0_3 l0_3.length c0_3, .slice A0_4 l0_4.length c0_4], .agg #[.int .i64 a1_0, .int .i64 a1_1, .slice A1_2 l1_2.length c1_2, .slice A1_3 l1_3.length c1_3], .agg #[.int .i64 a2_0, .int .i64 a2_1, .slice A2_2 l2_2.length c2_2, .slice A2_3 l2_3.length c2_3]] w fun e w' => e = .returned (.tuple #[.bool r1, .int .i64 r2]) ∧ Below w.heap.size w w' := by
 have HG := mk0 hG; clear hG
 have hu26 := Try.underlying26
 have hu30 := Try.underlying30
 have HR0_3 := mk0 hr0_3; have HC0_3 := mk0 hc0_3; clear hr0_3 hc0_3; have HR0_4 := mk0 hr0_4; have HC0_4 := mk0 hc0_4; clear hr0_4 hc0_4; have HR1_2 := mk0 hr1_2; have HC1_2 := mk0 hc1_2; clear hr1_2 hc1_2; have HR1_3 := mk0 hr1_3; have HC1_3 := mk0 hc1_3; clear hr1_3 hc1_3; have HR2_2 := mk0 hr2_2; have HC2_2 := mk0 hc2_2; clear hr2_2 hc2_2; have HR2_3 := mk0 hr2_3; have HC2_3 := mk0 hc2_3; clear hr2_3 hc2_3
 have HB := mk0 (Below.refl w.heap.size w)
 have H := h; unfold types_Equal.f at H
 clear h
 replace H := bS H; obtain ⟨t184, A4, H⟩ := H
 replace H := iB' H; obtain ⟨rfl, H⟩ | ⟨rfl, H⟩ := H
 ·exact absurd H (by simp)
 replace H := bS H; obtain ⟨t185, A6, H⟩ := H
 replace H := iB' H; obtain ⟨rfl, H⟩ | ⟨rfl, H⟩ := H
 ·exact absurd H (by simp)
 replace H := bS H; obtain ⟨t186, A8, H⟩ := H
 simp only [Option.some.injEq, Prod.mk.injEq] at H
 obtain ⟨rfl, rfl⟩ := H
 go_enter Try.func72, Try.ntmps72
 go_wp2_with (first | ((with_reducible refine box_event rfl (N := 3) rfl (cs := #[.int .i64 a0_0, .int .i64 a0_1, .string a0_2, .slice A0_3 l0_3.length c0_3, .slice A0_4 l0_4.length c0_4]) (t := 26) ?hr ?_); (case hr => first | (go_simp; done) | (go_simp; rfl)); intro gb181 hg w9 hbox hb; have BK181 := mk0 (hbox); have GE181 := bs (be HB) hg; replace HB := kh HB hb; clear hb hbox hg) | ((with_reducible refine box_event rfl (N := 4) rfl (cs := #[.int .i64 a1_0, .int .i64 a1_1, .slice A1_2 l1_2.length c1_2, .slice A1_3 l1_3.length c1_3]) (t := 30) ?hr ?_); (case hr => first | (go_simp; done) | (go_simp; rfl)); intro gb182 hg w10 hbox hb; have BK182 := mk0 (hbox); have GE182 := bs (be1 HB GE181) hg; replace HB := kh1 HB GE181 hb; have NB181_182 := nb1 (bu BK181) hg; have NB182_181 := nb2 (bu BK181) hg; replace BK181 := kb BK181 hb; clear hb hbox hg) | ((with_reducible refine box_event rfl (N := 5) rfl (cs := #[.int .i64 a2_0, .int .i64 a2_1, .slice A2_2 l2_2.length c2_2, .slice A2_3 l2_3.length c2_3]) (t := 30) ?hr ?_); (case hr => first | (go_simp; done) | (go_simp; rfl)); intro gb183 hg w11 hbox hb; have BK183 := mk0 (hbox); have GE183 := bs (be2 HB GE181 GE182) hg; replace HB := kh2 HB GE181 GE182 hb; have NB181_183 := nb1 (bu BK181) hg; have NB183_181 := nb2 (bu BK181) hg; replace BK181 := kb BK181 hb; have NB182_183 := nb1 (bu BK182) hg; have NB183_182 := nb2 (bu BK182) hg; replace BK182 := kb BK182 hb; clear hb hbox hg; have hnb12 := NB181_182.out; have hnc12 := NB182_181.out; have hnb13 := NB181_183.out; have hnc13 := NB183_181.out; have z14 := cells5 BK181.out; have hnb15 := NB182_183.out; have hnc15 := NB183_182.out; have z16 := cells4 BK182.out) | ((with_reducible refine gate_callee (f := 45) rfl ?_); refine goB (some 10) rfl rfl Try.func45 (by kernel_rfl) rfl #[.agg #[.int .i64 a0_0, .int .i64 a0_1, .string a0_2, .slice A0_3 l0_3.length c0_3, .slice A0_4 l0_4.length c0_4], .agg #[.int .i64 a1_0, .int .i64 a1_1, .slice A1_2 l1_2.length c1_2, .slice A1_3 l1_3.length c1_3]] rfl rfl (types_Has.calls k a0_0 a0_1 a0_2 _ _ l0_3 _ _ l0_4 a1_0 a1_1 _ _ l1_2 _ _ l1_3 true _ (glob_below HG.out (be3 HB GE181 GE182 GE183)) (cu HR0_3 HB) HC0_3.out (cu HR0_4 HB) HC0_4.out (cu HR1_2 HB) HC1_2.out (cu HR1_3 HB) HC1_3.out A4.out) ?_; intro w17 hb; replace BK181 := kb BK181 hb; replace BK182 := kb BK182 hb; replace BK183 := kb BK183 hb; replace HB := kh3 HB GE181 GE182 GE183 hb; have z18 := cells5 BK181.out; have z19 := cells4 BK183.out) | (go_at_call 45; refine (types_Has.calls k a0_0 a0_1 a0_2 _ _ l0_3 _ _ l0_4 a2_0 a2_1 _ _ l2_2 _ _ l2_3 true _ (glob_below HG.out (be3 HB GE181 GE182 GE183)) (cu HR0_3 HB) HC0_3.out (cu HR0_4 HB) HC0_4.out (cu HR2_2 HB) HC2_2.out (cu HR2_3 HB) HC2_3.out A6.out).mono ?_; rintro e w20 ⟨rfl, hb⟩; replace BK181 := kb BK181 hb; replace BK182 := kb BK182 hb; replace BK183 := kb BK183 hb; replace HB := kh3 HB GE181 GE182 GE183 hb; have z21 := cells4 BK182.out; have z22 := cells4 BK183.out) | ((with_reducible refine gate_callee (f := 84) rfl ?_); refine goB (some 20) rfl rfl Try.func84 (by kernel_rfl) rfl #[.agg #[.int .i64 a1_0, .int .i64 a1_1, .slice A1_2 l1_2.length c1_2, .slice A1_3 l1_3.length c1_3], .agg #[.int .i64 a2_0, .int .i64 a2_1, .slice A2_2 l2_2.length c2_2, .slice A2_3 l2_3.length c2_3]] rfl rfl (types_equal.calls k a1_0 a1_1 _ _ l1_2 _ _ l1_3 a2_0 a2_1 _ _ l2_2 _ _ l2_3 t186 _ (cu HR1_2 HB) HC1_2.out (cu HR1_3 HB) HC1_3.out (cu HR2_2 HB) HC2_2.out (cu HR2_3 HB) HC2_3.out A8.out) ?_; intro w23 hb; replace BK181 := kb BK181 hb; replace BK182 := kb BK182 hb; replace BK183 := kb BK183 hb; replace HB := kh3 HB GE181 GE182 GE183 hb))
 go_ret2
 exact ⟨rfl, be3 HB GE181 GE182 GE183⟩
def drivers_equal.f (k : Nat) (a0_0 : Int) (a0_1 : Int) (a0_2 : ByteArray) (l0_3 : List ByteArray) (l0_4 : List (S26)) (a1_0 : Int) (a1_1 : Int) (l1_2 : List Int) (l1_3 : List (S30)) (a2_0 : Int) (a2_1 : Int) (l2_2 : List Int) (l2_3 : List (S30)) : Option (Bool) := (types_Equal.f k a0_0 a0_1 a0_2 l0_3 l0_4 a1_0 a1_1 l1_2 l1_3 a2_0 a2_1 l2_2 l2_3).bind fun bt190 => (if bt190.1 = true then (none) else (some false))
theorem drivers_equal.mono : ∀ a0 a1 a2 a3 a4 a5 a6 a7 a8 a9 a10 a11 a12 k, LeO (drivers_equal.f k a0 a1 a2 a3 a4 a5 a6 a7 a8 a9 a10 a11 a12) (drivers_equal.f (k + 1) a0 a1 a2 a3 a4 a5 a6 a7 a8 a9 a10 a11 a12) := by
 intro a0 a1 a2 a3 a4 a5 a6 a7 a8 a9 a10 a11 a12 k
 unfold drivers_equal.f
 repeat' first
   | (with_reducible exact types_Equal.mono _ _ _ _ _ _ _ _ _ _ _ _ _ _)
   | (with_reducible exact LeO.refl _)
   | (with_reducible exact LeO.none _)
   | (with_reducible refine LeO.ite ?_ ?_)
   | (with_reducible refine LeO.bind ?_ (fun _ => ?_))
   | exact types_Equal.mono _ _ _ _ _ _ _ _ _ _ _ _ _ _
   | exact LeO.none _
   | refine LeO.ite ?_ ?_
   | refine LeO.bind ?_ (fun _ => ?_)
set_option maxHeartbeats 8000000 in
set_option maxRecDepth 100000 in
theorem drivers_equal.calls (k : Nat) (a0_0 : Int) (a0_1 : Int) (a0_2 : ByteArray) (A0_3 : Option Addr) (c0_3 : Nat) (l0_3 : List ByteArray) (A0_4 : Option Addr) (c0_4 : Nat) (l0_4 : List (S26)) (a1_0 : Int) (a1_1 : Int) (A1_2 : Option Addr) (c1_2 : Nat) (l1_2 : List Int) (A1_3 : Option Addr) (c1_3 : Nat) (l1_3 : List (S30)) (a2_0 : Int) (a2_1 : Int) (A2_2 : Option Addr) (c2_2 : Nat) (l2_2 : List Int) (A2_3 : Option Addr) (c2_3 : Nat) (l2_3 : List (S30)) (r : Bool) (w : World) (hG : Glob w) (hr0_3 : Kd.C Kd.string w A0_3 l0_3.length l0_3) (hc0_3 : l0_3.length ≤ c0_3) (hr0_4 : Kd.C k26 w A0_4 l0_4.length l0_4) (hc0_4 : l0_4.length ≤ c0_4) (hr1_2 : Kd.C (Kd.int .u8) w A1_2 l1_2.length l1_2) (hc1_2 : l1_2.length ≤ c1_2) (hr1_3 : Kd.C k30 w A1_3 l1_3.length l1_3) (hc1_3 : l1_3.length ≤ c1_3) (hr2_2 : Kd.C (Kd.int .u8) w A2_2 l2_2.length l2_2) (hc2_2 : l2_2.length ≤ c2_2) (hr2_3 : Kd.C k30 w A2_3 l2_3.length l2_3) (hc2_3 : l2_3.length ≤ c2_3) (h : drivers_equal.f k a0_0 a0_1 a0_2 l0_3 l0_4 a1_0 a1_1 l1_2 l1_3 a2_0 a2_1 l2_2 l2_3 = some r) :
  Calls Try.prog 56 #[.agg #[.int .i64 a0_0, .int .i64 a0_1, .string a0_2, .slice A0_3 l0_3.length c0_3, .slice A0_4 l0_4.length c0_4], .agg #[.int .i64 a1_0, .int .i64 a1_1, .slice A1_2 l1_2.length c1_2, .slice A1_3 l1_3.length c1_3], .agg #[.int .i64 a2_0, .int .i64 a2_1, .slice A2_2 l2_2.length c2_2, .slice A2_3 l2_3.length c2_3]] w fun e w' => e = .returned (.bool r) ∧ Below w.heap.size w w' := by
 have HG := mk0 hG; clear hG
 have hu26 := Try.underlying26
 have hu30 := Try.underlying30
 have HR0_3 := mk0 hr0_3; have HC0_3 := mk0 hc0_3; clear hr0_3 hc0_3; have HR0_4 := mk0 hr0_4; have HC0_4 := mk0 hc0_4; clear hr0_4 hc0_4; have HR1_2 := mk0 hr1_2; have HC1_2 := mk0 hc1_2; clear hr1_2 hc1_2; have HR1_3 := mk0 hr1_3; have HC1_3 := mk0 hc1_3; clear hr1_3 hc1_3; have HR2_2 := mk0 hr2_2; have HC2_2 := mk0 hc2_2; clear hr2_2 hc2_2; have HR2_3 := mk0 hr2_3; have HC2_3 := mk0 hc2_3; clear hr2_3 hc2_3
 have HB := mk0 (Below.refl w.heap.size w)
 have H := h; unfold drivers_equal.f at H
 clear h
 replace H := Option.bind_eq_some_iff.mp H
 obtain ⟨⟨t190, t191⟩, A40, H⟩ := H
 replace H : (if t190 = true then (none) else (some false)) = some r := H
 have A4 := mk0 A40; clear A40
 replace H := iB H; obtain ⟨rfl, H⟩ | ⟨rfl, H⟩ := H
 ·exact absurd H (by simp)
 obtain rfl := sI H
 go_enter Try.func56, Try.ntmps56
 go_wp2_with (first | ((with_reducible refine box_event rfl (N := 3) rfl (cs := #[.int .i64 a0_0, .int .i64 a0_1, .string a0_2, .slice A0_3 l0_3.length c0_3, .slice A0_4 l0_4.length c0_4]) (t := 26) ?hr ?_); (case hr => first | (go_simp; done) | (go_simp; rfl)); intro gb187 hg w6 hbox hb; have BK187 := mk0 (hbox); have GE187 := bs (be HB) hg; replace HB := kh HB hb; clear hb hbox hg) | ((with_reducible refine box_event rfl (N := 4) rfl (cs := #[.int .i64 a1_0, .int .i64 a1_1, .slice A1_2 l1_2.length c1_2, .slice A1_3 l1_3.length c1_3]) (t := 30) ?hr ?_); (case hr => first | (go_simp; done) | (go_simp; rfl)); intro gb188 hg w7 hbox hb; have BK188 := mk0 (hbox); have GE188 := bs (be1 HB GE187) hg; replace HB := kh1 HB GE187 hb; have NB187_188 := nb1 (bu BK187) hg; have NB188_187 := nb2 (bu BK187) hg; replace BK187 := kb BK187 hb; clear hb hbox hg) | ((with_reducible refine box_event rfl (N := 5) rfl (cs := #[.int .i64 a2_0, .int .i64 a2_1, .slice A2_2 l2_2.length c2_2, .slice A2_3 l2_3.length c2_3]) (t := 30) ?hr ?_); (case hr => first | (go_simp; done) | (go_simp; rfl)); intro gb189 hg w8 hbox hb; have BK189 := mk0 (hbox); have GE189 := bs (be2 HB GE187 GE188) hg; replace HB := kh2 HB GE187 GE188 hb; have NB187_189 := nb1 (bu BK187) hg; have NB189_187 := nb2 (bu BK187) hg; replace BK187 := kb BK187 hb; have NB188_189 := nb1 (bu BK188) hg; have NB189_188 := nb2 (bu BK188) hg; replace BK188 := kb BK188 hb; clear hb hbox hg; have hnb9 := NB187_188.out; have hnc9 := NB188_187.out; have hnb10 := NB187_189.out; have hnc10 := NB189_187.out; have z11 := cells5 BK187.out; have hnb12 := NB188_189.out; have hnc12 := NB189_188.out; have z13 := cells4 BK188.out; have z14 := cells4 BK189.out) | ((with_reducible refine gate_callee (f := 72) rfl ?_); refine goB (some 13) rfl rfl Try.func72 (by kernel_rfl) rfl #[.agg #[.int .i64 a0_0, .int .i64 a0_1, .string a0_2, .slice A0_3 l0_3.length c0_3, .slice A0_4 l0_4.length c0_4], .agg #[.int .i64 a1_0, .int .i64 a1_1, .slice A1_2 l1_2.length c1_2, .slice A1_3 l1_3.length c1_3], .agg #[.int .i64 a2_0, .int .i64 a2_1, .slice A2_2 l2_2.length c2_2, .slice A2_3 l2_3.length c2_3]] rfl rfl (types_Equal.calls k a0_0 a0_1 a0_2 _ _ l0_3 _ _ l0_4 a1_0 a1_1 _ _ l1_2 _ _ l1_3 a2_0 a2_1 _ _ l2_2 _ _ l2_3 false t191 _ (glob_below HG.out (be3 HB GE187 GE188 GE189)) (cu HR0_3 HB) HC0_3.out (cu HR0_4 HB) HC0_4.out (cu HR1_2 HB) HC1_2.out (cu HR1_3 HB) HC1_3.out (cu HR2_2 HB) HC2_2.out (cu HR2_3 HB) HC2_3.out A4.out) ?_; intro w15 hb; replace BK187 := kb BK187 hb; replace BK188 := kb BK188 hb; replace BK189 := kb BK189 hb; replace HB := kh3 HB GE187 GE188 GE189 hb))
 go_ret
 exact ⟨rfl, be3 HB GE187 GE188 GE189⟩
end Go.Proofs.Ytojankgmedccdaa.PAw
