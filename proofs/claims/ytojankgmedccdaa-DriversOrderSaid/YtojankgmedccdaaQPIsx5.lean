/- Part of the proof of LawDriversOrder: every definition and lemma is one that it names. -/
import Derived.Test.YtojankgmedccdaaQPIsx0
import Derived.Test.YtojankgmedccdaaQPIsx4
namespace Go.Proofs.Ytojankgmedccdaa.PIs
open Go.RowKit Own PTy Hand YtojankgmedccdaaW.PrintWords YtojankgmedccdaaW.PrintLast YtojankgmedccdaaW.PrintMore
attribute [local go_sem] max2_int min2_int max_two min_two max_three min_three max_four min_four
set_option linter.unusedVariables false
set_option linter.unusedSimpArgs false
mutual
def types_isEnum.j0 : Nat → Bool → Int → Int → ByteArray → List ByteArray → List (S26) → Option (Bool)
 | 0, _, _, _, _, _, _ => none
 | k + 1, x30, x136000, x136001, x136002, x136003, x136004 => if x30 = true then (some false) else (types_isEnum.l0 k x136003 (x136003.length : Int) 0 x136000 x136001 x136002 x136003 x136004)
def types_isEnum.l0 : Nat → List ByteArray → Int → Int → Int → Int → ByteArray → List ByteArray → List (S26) → Option (Bool)
 | 0, _, _, _, _, _, _, _, _ => none
 | k + 1, x32, x33, x34, x136000, x136001, x136002, x136003, x136004 => if x34 < x33 then (if 0 ≤ x34 then (if x34 < (x32.length : Int) then ((lexer_IsName.f k (rdOf ByteArray.empty x32 x34)).bind fun t138 => (if t138 = true then (if x34 ≤ (x136003.length : Int) then ((sCon.f k (x136003.take (x34 : Int).toNat) (rdOf ByteArray.empty x32 x34)).bind fun t140 => (if t140 = true then (some false) else (types_isEnum.l0 k x32 x33 (wrap64 (x34 + 1)) x136000 x136001 x136002 x136003 x136004))) else (none)) else (some false))) else (none)) else (none)) else (some true)
end
def types_isEnum.f (k : Nat) (a0_0 : Int) (a0_1 : Int) (a0_2 : ByteArray) (l0_3 : List ByteArray) (l0_4 : List (S26)) : Option (Bool) := if a0_2.toList = ([] : List UInt8) then (types_isEnum.j0 k true a0_0 a0_1 a0_2 l0_3 l0_4) else (if (a0_2.size : Int) > 100 then (types_isEnum.j0 k true a0_0 a0_1 a0_2 l0_3 l0_4) else ((strings_ContainsFunc.f a0_2).bind fun t136 => (if t136 = true then (types_isEnum.j0 k true a0_0 a0_1 a0_2 l0_3 l0_4) else (if (l0_3.length : Int) < 1 then (types_isEnum.j0 k true a0_0 a0_1 a0_2 l0_3 l0_4) else (types_isEnum.j0 k (decide ((l0_3.length : Int) > 16)) a0_0 a0_1 a0_2 l0_3 l0_4)))))
theorem types_isEnum.mono_l : ∀ k, (∀ y0 y1 y2 y3 y4 y5, LeO (types_isEnum.j0 k y0 y1 y2 y3 y4 y5) (types_isEnum.j0 (k + 1) y0 y1 y2 y3 y4 y5)) ∧ (∀ y0 y1 y2 y3 y4 y5 y6 y7, LeO (types_isEnum.l0 k y0 y1 y2 y3 y4 y5 y6 y7) (types_isEnum.l0 (k + 1) y0 y1 y2 y3 y4 y5 y6 y7))
 | 0 => ⟨fun _ _ _ _ _ _ r h => by simp [types_isEnum.j0] at h, fun _ _ _ _ _ _ _ _ r h => by simp [types_isEnum.l0] at h⟩
 | k + 1 => by
  obtain ⟨ih0, ih1⟩ := types_isEnum.mono_l k
  refine ⟨?_, ?_⟩ <;> intros <;> (first | unfold types_isEnum.j0 | unfold types_isEnum.l0) <;> repeat' first | (with_reducible first | apply ih0 | apply ih1 | apply lexer_IsName.mono | apply sCon.mono | apply LeO.refl | apply LeO.none | refine LeO.ite ?_ ?_ | refine LeO.bind ?_ (fun _ => ?_)) | apply ih0 | apply ih1 | apply lexer_IsName.mono | apply sCon.mono | apply LeO.none | refine LeO.ite ?_ ?_ | refine LeO.bind ?_ (fun _ => ?_)
theorem types_isEnum.mono : ∀ a0 a1 a2 a3 a4 k, LeO (types_isEnum.f k a0 a1 a2 a3 a4) (types_isEnum.f (k + 1) a0 a1 a2 a3 a4) := by
 intro a0 a1 a2 a3 a4 k
 obtain ⟨ih0, ih1⟩ := types_isEnum.mono_l k
 unfold types_isEnum.f
 repeat' first
   | (with_reducible exact ih0 _ _ _ _ _ _)
   | (with_reducible exact ih1 _ _ _ _ _ _ _ _)
   | (with_reducible exact lexer_IsName.mono _ _)
   | (with_reducible exact sCon.mono _ _ _)
   | (with_reducible exact LeO.refl _)
   | (with_reducible exact LeO.none _)
   | (with_reducible refine LeO.ite ?_ ?_)
   | (with_reducible refine LeO.bind ?_ (fun _ => ?_))
   | exact ih0 _ _ _ _ _ _
   | exact ih1 _ _ _ _ _ _ _ _
   | exact lexer_IsName.mono _ _
   | exact sCon.mono _ _ _
   | exact LeO.none _
   | refine LeO.ite ?_ ?_
   | refine LeO.bind ?_ (fun _ => ?_)
set_option maxHeartbeats 8000000 in
set_option maxRecDepth 100000 in
theorem types_isEnum.calls (k : Nat) (a0_0 : Int) (a0_1 : Int) (a0_2 : ByteArray) (A0_3 : Option Addr) (c0_3 : Nat) (l0_3 : List ByteArray) (A0_4 : Option Addr) (c0_4 : Nat) (l0_4 : List (S26)) (r : Bool) (w : World) (hG : Glob w) (hr0_3 : Kd.C Kd.string w A0_3 l0_3.length l0_3) (hc0_3 : l0_3.length ≤ c0_3) (hr0_4 : Kd.C k26 w A0_4 l0_4.length l0_4) (hc0_4 : l0_4.length ≤ c0_4) (h : types_isEnum.f k a0_0 a0_1 a0_2 l0_3 l0_4 = some r) :
  Calls Try.prog 64 #[.agg #[.int .i64 a0_0, .int .i64 a0_1, .string a0_2, .slice A0_3 l0_3.length c0_3, .slice A0_4 l0_4.length c0_4]] w fun e w' => e = .returned (.bool r) ∧ Below w.heap.size w w' := by
 have HG := mk0 hG; clear hG
 have hu26 := Try.underlying26
 have HR0_3 := mk0 hr0_3; have HC0_3 := mk0 hc0_3; clear hr0_3 hc0_3; have HR0_4 := mk0 hr0_4; have HC0_4 := mk0 hc0_4; clear hr0_4 hc0_4
 have HB := mk0 (Below.refl w.heap.size w)
 have H := h; unfold types_isEnum.f at H
 clear h; have HC2 := mk0 H; clear H
 go_enter Try.func64, Try.ntmps64
 go_upto_region 1 with ((with_reducible refine box_event rfl (N := 1) rfl (cs := #[.int .i64 a0_0, .int .i64 a0_1, .string a0_2, .slice A0_3 l0_3.length c0_3, .slice A0_4 l0_4.length c0_4]) (t := 26) ?hr ?_); (case hr => first | (go_simp; done) | (go_simp; rfl)); intro gb135 hg w3 hbox hb; have BK135 := mk0 (hbox); have GE135 := bs (be HB) hg; replace HB := kh HB hb; clear hb hbox hg)
 (try simp only [Act.put, List.setIfInBounds_toArray, List.set_cons_zero, List.set_cons_succ])
 go_cut [30] (fun v30 wc => ∃ (kq : Nat) (x30_1 : Bool), v30 = .bool x30_1 ∧ Aside0 (types_isEnum.j0 kq x30_1 a0_0 a0_1 a0_2 l0_3 l0_4 = some r) ∧ Aside0 (kq ≤ k) ∧ Aside0 (wc.heap[gb135]? = some (.cells #[.int .i64 a0_0, .int .i64 a0_1, .string a0_2, (.slice A0_3 l0_3.length c0_3), (.slice A0_4 l0_4.length c0_4)] 26 (0, 0))) ∧ Aside0 (Below w.heap.size w wc))
 case first =>
  have H := HC2.out; clear HC2
  replace H := iE H; obtain ⟨c4b0, c4b1, H⟩ | ⟨c4, c4b0, c4b1, H⟩ := H
  ·(first | rw [c4b0] | (simp only [i64_w, i32_w]; rw [c4b0]) | skip)
   have H' := mk0 H
   clear H
   have z5 := cells5 BK135.out
   go_wp2
   go_meet
   case rel => exact ⟨_, (true), rfl, H', ⟨by omega⟩, ⟨bu BK135⟩, ⟨be1 HB GE135⟩⟩
  (first | rw [c4b0] | (simp only [i64_w, i32_w]; rw [c4b0]) | skip)
  by_cases c6 : (a0_2.size : Int) > 100
  ·rw [if_pos c6] at H
   have c6b0 : decide (100 < (a0_2.size : Int)) = true := decide_eq_true c6
   have c6b1 : decide (100 < a0_2.size) = true := decide_eq_true (by omega)
   clear c6
   have H' := mk0 H
   clear H
   have z7 := cells5 BK135.out
   go_wp2
   go_meet
   case rel => exact ⟨_, (true), rfl, H', ⟨by omega⟩, ⟨bu BK135⟩, ⟨be1 HB GE135⟩⟩
  rw [if_neg c6] at H; have c6b0 : decide (100 < (a0_2.size : Int)) = false := decide_eq_false c6
  have c6b1 : decide (100 < a0_2.size) = false := decide_eq_false (by omega)
  clear c6
  replace H := bS H; obtain ⟨t136, A8, H⟩ := H
  replace H := iB H; obtain ⟨rfl, H⟩ | ⟨rfl, H⟩ := H
  ·have H' := mk0 H
   clear H
   have z10 := cells5 BK135.out
   go_wp2_with (go_at_call 73; refine (strings_ContainsFunc.calls a0_2 true _ A8.out).mono ?_; rintro e w11 ⟨rfl, hb⟩; replace BK135 := kb BK135 hb; replace HB := kh1 HB GE135 hb)
   go_meet
   case rel => exact ⟨_, (true), rfl, H', ⟨by omega⟩, ⟨bu BK135⟩, ⟨be1 HB GE135⟩⟩
  replace H := iD' H; obtain ⟨c12, c12b0, H⟩ | ⟨c12, c12b0, H⟩ := H
  ·have c12b1 : decide (l0_3.length < 1) = false := decide_eq_false (by omega); clear c12
   have H' := mk0 H
   clear H
   have z16 := cells5 BK135.out
   go_wp2_with (go_at_call 73; refine (strings_ContainsFunc.calls a0_2 false _ A8.out).mono ?_; rintro e w17 ⟨rfl, hb⟩; replace BK135 := kb BK135 hb; replace HB := kh1 HB GE135 hb; have z18 := cells5 BK135.out)
   go_meet
   case rel => exact ⟨_, (decide ((l0_3.length : Int) > 16)), rfl, H', ⟨by omega⟩, ⟨bu BK135⟩, ⟨be1 HB GE135⟩⟩
  have c12b1 : decide (l0_3.length < 1) = true := decide_eq_true (by omega)
  clear c12
  have H' := mk0 H
  clear H
  have z13 := cells5 BK135.out
  go_wp2_with (go_at_call 73; refine (strings_ContainsFunc.calls a0_2 false _ A8.out).mono ?_; rintro e w14 ⟨rfl, hb⟩; replace BK135 := kb BK135 hb; replace HB := kh1 HB GE135 hb; have z15 := cells5 BK135.out)
  go_meet
  case rel => exact ⟨_, (true), rfl, H', ⟨by omega⟩, ⟨bu BK135⟩, ⟨be1 HB GE135⟩⟩
 case rest =>
  clear HC2
  obtain ⟨kq, x30_1, rfl, HA, HJ1, BK135, HB⟩ := hcut
  cases kq with
  | zero => exact absurd HA.out (by simp [types_isEnum.j0])
  | succ kj1 =>
   have H := HA.out; clear HA
   simp only [types_isEnum.j0] at H
   replace H := iB H; obtain ⟨rfl, H⟩ | ⟨rfl, H⟩ := H
   ·obtain rfl := sI H
    go_wp2
    go_ret
    exact ⟨rfl, be1 HB GE135⟩
   have H' := mk0 H
   clear H
   have z20 := cells5 BK135.out
   go_wp2
   go_loopg [34] kj1 (fun kq v34 w' => ∃ (x34_2 : Int), v34 = .int .i64 x34_2 ∧ Aside0 (types_isEnum.l0 kq l0_3 (l0_3.length : Int) x34_2 a0_0 a0_1 a0_2 l0_3 l0_4 = some r) ∧ Aside0 (kq ≤ kj1) ∧ Aside0 (w'.heap[gb135]? = some (.cells #[.int .i64 a0_0, .int .i64 a0_1, .string a0_2, (.slice A0_3 l0_3.length c0_3), (.slice A0_4 l0_4.length c0_4)] 26 (0, 0))) ∧ Aside0 (Below w.heap.size w w'))
   case atStart => exact ⟨(0), rfl, H', ⟨Nat.le_refl _⟩, ⟨bu BK135⟩, ⟨be1 HB GE135⟩⟩
   case round =>
    clear H'
    obtain ⟨x34_2, rfl, HA, HK2, BK135, HB⟩ := hrel
    cases gk with
    | zero => exact absurd HA.out (by simp [types_isEnum.l0])
    | succ k2 =>
     have H := HA.out; clear HA
     simp only [types_isEnum.l0] at H
     replace H := iD' H; obtain ⟨-, c21b0, H⟩ | ⟨-, c21b0, H⟩ := H
     ·obtain rfl := sI H
      go_wp2
      go_ret
      exact ⟨rfl, be1 HB GE135⟩
     replace H := iN H; obtain ⟨-, c22b0, H⟩ := H
     replace H := iN H; obtain ⟨-, c23b0, H⟩ := H
     replace H := bS H; obtain ⟨t138, A24, H⟩ := H
     replace H := iB' H; obtain ⟨rfl, H⟩ | ⟨rfl, H⟩ := H
     ·obtain rfl := sI H
      have p137 : 0 ≤ (x34_2 : Int) := od
      have q137 : x34_2 < (l0_3.length : Int) := od
      obtain ⟨ad137, e137, hx137_0⟩ := Kd.at_string HR0_3.out x34_2 p137 q137
      cases e137
      replace hx137_0 := keepc HB.out hx137_0
      replace p137 := eq_true p137; replace q137 := eq_true q137
      go_wp2_with ((with_reducible refine gate_callee (f := 75) rfl ?_); refine goD (some 40) rfl rfl Try.func75 (by kernel_rfl) rfl #[.string (rdOf ByteArray.empty l0_3 x34_2)] rfl rfl (lexer_IsName.calls k2 (rdOf ByteArray.empty l0_3 x34_2) false _ (glob_below HG.out (be1 HB GE135)) A24.out) ?_; intro nd)
      go_ret
      exact ⟨rfl, be1 HB GE135⟩
     have c26b0 := eq_true (of_decide_eq_true (by assumption) : 0 ≤ x34_2)
     by_cases c27 : x34_2 ≤ (l0_3.length : Int)
     rotate_left
     ·rw [if_neg c27] at H
      exact absurd H (by simp)
     rw [if_pos c27] at H; have c27b0 := eq_true c27; have c27b1 : decide (x34_2 ≤ (l0_3.length : Int)) = true := decide_eq_true c27; clear c27
     replace H := bS H; obtain ⟨t140, A28, H⟩ := H
     replace H := iB H; obtain ⟨rfl, H⟩ | ⟨rfl, H⟩ := H
     ·obtain rfl := sI H
      have p137 : 0 ≤ (x34_2 : Int) := od
      have q137 : x34_2 < (l0_3.length : Int) := od
      obtain ⟨ad137, e137, hx137_0⟩ := Kd.at_string HR0_3.out x34_2 p137 q137
      cases e137
      replace hx137_0 := keepc HB.out hx137_0
      replace p137 := eq_true p137; replace q137 := eq_true q137
      go_wp2_with (first | ((with_reducible refine gate_callee (f := 75) rfl ?_); refine goD (some 40) rfl rfl Try.func75 (by kernel_rfl) rfl #[.string (rdOf ByteArray.empty l0_3 x34_2)] rfl rfl (lexer_IsName.calls k2 (rdOf ByteArray.empty l0_3 x34_2) true _ (glob_below HG.out (be1 HB GE135)) A24.out) ?_; intro nd; have z30 := cells5 BK135.out; obtain ⟨i031, hi031, _, hsz31, _⟩ := info_parts info9; obtain ⟨hcut31, hA31, hC31⟩ := print_take_of (P := Try.prog) Value.string (⟨#[]⟩ : ByteArray) 23 9 .i64 Try.underlying23 hi031 hsz31 (some ad137) c0_3 l0_3 x34_2 (of_decide_eq_true (by assumption)) (of_decide_eq_true (by assumption)) HC0_3.out; have HR139 := mk0 (Kd.C_of_reads (h1 := fun _ => rfl) (hA31 _ (Kd.reads_of_C HR0_3.out))); have HC139 := mk0 hC31; clear hA31 hC31 hi031 hsz31) | (go_at_call 76; refine calls_of_args (args' := #[.slice (some ad137) (l0_3.take (x34_2 : Int).toNat).length c0_3, .string (rdOf ByteArray.empty l0_3 x34_2)]) (by rw [show (l0_3.take (x34_2 : Int).toNat).length = (x34_2).toNat from (by rw [List.length_take]; have h_ : (x34_2 : Int) ≤ (l0_3.length : Int) := of_decide_eq_true (by assumption); omega)] <;> rfl) ?_; (with_reducible refine (sCon.calls k2 _ _ (l0_3.take (x34_2 : Int).toNat) (rdOf ByteArray.empty l0_3 x34_2) true _ ?side1 ?side2 A28.out).mono ?_); (case side1 => repeat (first | exact (Kd.C_below HR139.out (be1 HB GE135)) | (with_reducible refine Kd.C_alloc ?_ _) | (with_reducible refine Kd.C_drewN ?_ _) | (with_reducible refine Kd.C_drew ?_))); (case side2 => exact HC139.out); rintro e w' ⟨rfl, ⟨nd, rfl⟩⟩))
      go_ret
      exact ⟨rfl, be1 HB GE135⟩
     have H' := mk0 H
     clear H
     have p137 : 0 ≤ (x34_2 : Int) := od
     have q137 : x34_2 < (l0_3.length : Int) := od
     obtain ⟨ad137, e137, hx137_0⟩ := Kd.at_string HR0_3.out x34_2 p137 q137
     cases e137
     replace hx137_0 := keepc HB.out hx137_0
     replace p137 := eq_true p137; replace q137 := eq_true q137
     go_wp2_with (first | ((with_reducible refine gate_callee (f := 75) rfl ?_); refine goD (some 40) rfl rfl Try.func75 (by kernel_rfl) rfl #[.string (rdOf ByteArray.empty l0_3 x34_2)] rfl rfl (lexer_IsName.calls k2 (rdOf ByteArray.empty l0_3 x34_2) true _ (glob_below HG.out (be1 HB GE135)) A24.out) ?_; intro nd; have z32 := cells5 BK135.out; obtain ⟨i033, hi033, _, hsz33, _⟩ := info_parts info9; obtain ⟨hcut33, hA33, hC33⟩ := print_take_of (P := Try.prog) Value.string (⟨#[]⟩ : ByteArray) 23 9 .i64 Try.underlying23 hi033 hsz33 (some ad137) c0_3 l0_3 x34_2 (of_decide_eq_true (by assumption)) (of_decide_eq_true (by assumption)) HC0_3.out; have HR139 := mk0 (Kd.C_of_reads (h1 := fun _ => rfl) (hA33 _ (Kd.reads_of_C HR0_3.out))); have HC139 := mk0 hC33; clear hA33 hC33 hi033 hsz33) | (go_at_call 76; refine calls_of_args (args' := #[.slice (some ad137) (l0_3.take (x34_2 : Int).toNat).length c0_3, .string (rdOf ByteArray.empty l0_3 x34_2)]) (by rw [show (l0_3.take (x34_2 : Int).toNat).length = (x34_2).toNat from (by rw [List.length_take]; have h_ : (x34_2 : Int) ≤ (l0_3.length : Int) := of_decide_eq_true (by assumption); omega)] <;> rfl) ?_; (with_reducible refine (sCon.calls k2 _ _ (l0_3.take (x34_2 : Int).toNat) (rdOf ByteArray.empty l0_3 x34_2) false _ ?side1 ?side2 A28.out).mono ?_); (case side1 => repeat (first | exact (Kd.C_below HR139.out (be1 HB GE135)) | (with_reducible refine Kd.C_alloc ?_ _) | (with_reducible refine Kd.C_drewN ?_ _) | (with_reducible refine Kd.C_drew ?_))); (case side2 => exact HC139.out); rintro e w' ⟨rfl, ⟨nd, rfl⟩⟩))
     go_roundg k2
     case measure => have := HJ1.out; have := HK2.out; omega
     case rel => exact ⟨(wrap64 (x34_2 + 1)), rfl, H', ⟨by have := HJ1.out; have := HK2.out; omega⟩, ⟨bu BK135⟩, ⟨be1 HB GE135⟩⟩
end Go.Proofs.Ytojankgmedccdaa.PIs
