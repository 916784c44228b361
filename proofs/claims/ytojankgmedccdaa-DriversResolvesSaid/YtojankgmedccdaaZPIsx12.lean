/- Part of the proof of LawDriversResolves: every definition and lemma is one that it names. -/
import Derived.Test.YtojankgmedccdaaZPIsx0
import Derived.Test.YtojankgmedccdaaZPIsx9
import Derived.Test.YtojankgmedccdaaZPIsx11
namespace Go.Proofs.Ytojankgmedccdaa.PIs
open Go.RowKit Own PTy Hand YtojankgmedccdaaW.PrintWords YtojankgmedccdaaW.PrintLast YtojankgmedccdaaW.PrintMore
attribute [local go_sem] max2_int min2_int max_two min_two max_three min_three max_four min_four
set_option linter.unusedVariables false
set_option linter.unusedSimpArgs false
mutual
def r04Has.j0 : Nat → Bool → Int → Int → ByteArray → List ByteArray → List (S26) → Int → Int → List Int → List (S30) → Option (Bool)
 | 0, _, _, _, _, _, _, _, _, _, _ => none
 | k + 1, x16, x206000, x206001, x206002, x206003, x206004, x207000, x207001, x207002, x207003 => if x16 = true then (some false) else (if x206000 = 1 then (if x207001 = 0 then (if (x207002.length : Int) = 1 then ((r01Is.f k x207002).bind fun t208 => (if t208 = true then (some ((x207003.length : Int) == 0)) else (some false))) else (some false)) else (some false)) else (if x206000 = 2 then (if x207001 = 0 then (if (x207002.length : Int) = 0 then (some ((x207003.length : Int) == 0)) else (some false)) else (if x207001 = 1 then (if (x207002.length : Int) = 0 then (some ((x207003.length : Int) == 0)) else (some false)) else (some false))) else (if x206000 = 3 then ((r02Fits.f x207001).bind fun t209 => (if t209 = true then (if (x207002.length : Int) = 0 then (some ((x207003.length : Int) == 0)) else (some false)) else (some false))) else (if x206000 = 4 then (if x207001 = 0 then (if (x207002.length : Int) = x206001 then ((r01Is.f k x207002).bind fun t210 => (if t210 = true then (some ((x207003.length : Int) == 0)) else (some false))) else (some false)) else (some false)) else (if x206000 = 5 then (if x207001 ≥ 0 then (if x207001 < (x206003.length : Int) then (if (x207002.length : Int) = 0 then (some ((x207003.length : Int) == 0)) else (some false)) else (some false)) else (some false)) else (if x207001 = 0 then (if (x207002.length : Int) = 0 then (r04Has.j1 k ((x207003.length : Int) != x206001) x206000 x206001 x206002 x206003 x206004 x207000 x207001 x207002 x207003) else (r04Has.j1 k true x206000 x206001 x206002 x206003 x206004 x207000 x207001 x207002 x207003)) else (r04Has.j1 k true x206000 x206001 x206002 x206003 x206004 x207000 x207001 x207002 x207003)))))))
def r04Has.j1 : Nat → Bool → Int → Int → ByteArray → List ByteArray → List (S26) → Int → Int → List Int → List (S30) → Option (Bool)
 | 0, _, _, _, _, _, _, _, _, _, _ => none
 | k + 1, x145, x206000, x206001, x206002, x206003, x206004, x207000, x207001, x207002, x207003 => if x145 = true then (some false) else (r04Has.l0 k x207003 (x207003.length : Int) 0 x206000 x206001 x206002 x206003 x206004)
def r04Has.l0 : Nat → List (S30) → Int → Int → Int → Int → ByteArray → List ByteArray → List (S26) → Option (Bool)
 | 0, _, _, _, _, _, _, _, _ => none
 | k + 1, x147, x148, x149, x206000, x206001, x206002, x206003, x206004 => if x149 < x148 then (if 0 ≤ x149 then (if x149 < (x147.length : Int) then (if 0 < (x206004.length : Int) then ((r04Has.f k ((rd_T26 x206004 0).f0) ((rd_T26 x206004 0).f1) ((rd_T26 x206004 0).f2) ((rd_T26 x206004 0).f3) ((rd_T26 x206004 0).f4) ((rd_T30 x147 x149).f0) ((rd_T30 x147 x149).f1) ((rd_T30 x147 x149).f2) ((rd_T30 x147 x149).f3)).bind fun t214 => (if t214 = true then (r04Has.l0 k x147 x148 (wrap64 (x149 + 1)) x206000 x206001 x206002 x206003 x206004) else (some false))) else (none)) else (none)) else (none)) else (some true)
def r04Has.f : Nat → Int → Int → ByteArray → List ByteArray → List (S26) → Int → Int → List Int → List (S30) → Option (Bool)
 | 0, _, _, _, _, _, _, _, _, _ => none
 | k + 1, a0_0, a0_1, a0_2, l0_3, l0_4, a1_0, a1_1, l1_2, l1_3 => (r04Valid.f k a0_0 a0_1 a0_2 l0_3 l0_4).bind fun t207 => (if t207 = true then (r04Has.j0 k (a1_0 != a0_0) a0_0 a0_1 a0_2 l0_3 l0_4 a1_0 a1_1 l1_2 l1_3) else (r04Has.j0 k true a0_0 a0_1 a0_2 l0_3 l0_4 a1_0 a1_1 l1_2 l1_3))
end
theorem r04Has.mono_l : ∀ k, (∀ y0 y1 y2 y3 y4 y5 y6 y7 y8, LeO (r04Has.f k y0 y1 y2 y3 y4 y5 y6 y7 y8) (r04Has.f (k + 1) y0 y1 y2 y3 y4 y5 y6 y7 y8)) ∧ (∀ y0 y1 y2 y3 y4 y5 y6 y7 y8 y9, LeO (r04Has.j0 k y0 y1 y2 y3 y4 y5 y6 y7 y8 y9) (r04Has.j0 (k + 1) y0 y1 y2 y3 y4 y5 y6 y7 y8 y9)) ∧ (∀ y0 y1 y2 y3 y4 y5 y6 y7 y8 y9, LeO (r04Has.j1 k y0 y1 y2 y3 y4 y5 y6 y7 y8 y9) (r04Has.j1 (k + 1) y0 y1 y2 y3 y4 y5 y6 y7 y8 y9)) ∧ (∀ y0 y1 y2 y3 y4 y5 y6 y7, LeO (r04Has.l0 k y0 y1 y2 y3 y4 y5 y6 y7) (r04Has.l0 (k + 1) y0 y1 y2 y3 y4 y5 y6 y7))
 | 0 => ⟨fun _ _ _ _ _ _ _ _ _ r h => by simp [r04Has.f] at h, fun _ _ _ _ _ _ _ _ _ _ r h => by simp [r04Has.j0] at h, fun _ _ _ _ _ _ _ _ _ _ r h => by simp [r04Has.j1] at h, fun _ _ _ _ _ _ _ _ r h => by simp [r04Has.l0] at h⟩
 | k + 1 => by
  obtain ⟨ih0, ih1, ih2, ih3⟩ := r04Has.mono_l k
  refine ⟨?_, ?_, ?_, ?_⟩ <;> intros <;> (first | unfold r04Has.f | unfold r04Has.j0 | unfold r04Has.j1 | unfold r04Has.l0) <;> repeat' first | (with_reducible first | apply ih0 | apply ih1 | apply ih2 | apply ih3 | apply r01Is.mono | apply r04Valid.mono | apply LeO.refl | apply LeO.none | refine LeO.ite ?_ ?_ | refine LeO.bind ?_ (fun _ => ?_)) | apply ih0 | apply ih1 | apply ih2 | apply ih3 | apply r01Is.mono | apply r04Valid.mono | apply LeO.none | refine LeO.ite ?_ ?_ | refine LeO.bind ?_ (fun _ => ?_)
theorem r04Has.mono : ∀ a0 a1 a2 a3 a4 a5 a6 a7 a8 k, LeO (r04Has.f k a0 a1 a2 a3 a4 a5 a6 a7 a8) (r04Has.f (k + 1) a0 a1 a2 a3 a4 a5 a6 a7 a8) := by
 intro a0 a1 a2 a3 a4 a5 a6 a7 a8 k
 obtain ⟨ih0, ih1, ih2, ih3⟩ := r04Has.mono_l k
 exact ih0 a0 a1 a2 a3 a4 a5 a6 a7 a8
set_option maxHeartbeats 8000000 in
set_option maxRecDepth 100000 in
theorem r04Has.calls (k : Nat) : ∀ (a0_0 : Int) (a0_1 : Int) (a0_2 : ByteArray) (A0_3 : Option Addr) (c0_3 : Nat) (l0_3 : List ByteArray) (A0_4 : Option Addr) (c0_4 : Nat) (l0_4 : List (S26)) (a1_0 : Int) (a1_1 : Int) (A1_2 : Option Addr) (c1_2 : Nat) (l1_2 : List Int) (A1_3 : Option Addr) (c1_3 : Nat) (l1_3 : List (S30)) (r : Bool) (w : World) (hr0_3 : Kd.C Kd.string w A0_3 l0_3.length l0_3) (hc0_3 : l0_3.length ≤ c0_3) (hr0_4 : Kd.C k26 w A0_4 l0_4.length l0_4) (hc0_4 : l0_4.length ≤ c0_4) (hr1_2 : Kd.C (Kd.int .u8) w A1_2 l1_2.length l1_2) (hc1_2 : l1_2.length ≤ c1_2) (hr1_3 : Kd.C k30 w A1_3 l1_3.length l1_3) (hc1_3 : l1_3.length ≤ c1_3) (h : r04Has.f k a0_0 a0_1 a0_2 l0_3 l0_4 a1_0 a1_1 l1_2 l1_3 = some r),
  Calls Try.prog 37 #[.agg #[.int .i64 a0_0, .int .i64 a0_1, .string a0_2, .slice A0_3 l0_3.length c0_3, .slice A0_4 l0_4.length c0_4], .agg #[.int .i64 a1_0, .int .i64 a1_1, .slice A1_2 l1_2.length c1_2, .slice A1_3 l1_3.length c1_3]] w fun e w' => e = .returned (.bool r) ∧ Below w.heap.size w w' := by
 induction k using Nat.strongRecOn with
 | _ k ih =>
 intro a0_0 a0_1 a0_2 A0_3 c0_3 l0_3 A0_4 c0_4 l0_4 a1_0 a1_1 A1_2 c1_2 l1_2 A1_3 c1_3 l1_3 r w hr0_3 hc0_3 hr0_4 hc0_4 hr1_2 hc1_2 hr1_3 hc1_3 h
 cases k with
 | zero => exact absurd h (by simp [r04Has.f])
 | succ k =>
 simp only [r04Has.f] at h
 have hu26 := Try.underlying26
 have hu30 := Try.underlying30
 have HR0_3 := mk0 hr0_3; have HC0_3 := mk0 hc0_3; clear hr0_3 hc0_3; have HR0_4 := mk0 hr0_4; have HC0_4 := mk0 hc0_4; clear hr0_4 hc0_4; have HR1_2 := mk0 hr1_2; have HC1_2 := mk0 hc1_2; clear hr1_2 hc1_2; have HR1_3 := mk0 hr1_3; have HC1_3 := mk0 hc1_3; clear hr1_3 hc1_3
 have HB := mk0 (Below.refl w.heap.size w)
 have H := h; unfold r04Has.f at H
 clear h; have HC3 := mk0 H; clear H
 go_enter Try.func37, Try.ntmps37
 go_upto_region 1 with (first | ((with_reducible refine box_event rfl (N := 2) rfl (cs := #[.int .i64 a0_0, .int .i64 a0_1, .string a0_2, .slice A0_3 l0_3.length c0_3, .slice A0_4 l0_4.length c0_4]) (t := 26) ?hr ?_); (case hr => first | (go_simp; done) | (go_simp; rfl)); intro gb205 hg w4 hbox hb; have BK205 := mk0 (hbox); have GE205 := bs (be HB) hg; replace HB := kh HB hb; clear hb hbox hg) | ((with_reducible refine box_event rfl (N := 3) rfl (cs := #[.int .i64 a1_0, .int .i64 a1_1, .slice A1_2 l1_2.length c1_2, .slice A1_3 l1_3.length c1_3]) (t := 30) ?hr ?_); (case hr => first | (go_simp; done) | (go_simp; rfl)); intro gb206 hg w5 hbox hb; have BK206 := mk0 (hbox); have GE206 := bs (be1 HB GE205) hg; replace HB := kh1 HB GE205 hb; have NB205_206 := nb1 (bu BK205) hg; have NB206_205 := nb2 (bu BK205) hg; replace BK205 := kb BK205 hb; clear hb hbox hg))
 (try simp only [Act.put, List.setIfInBounds_toArray, List.set_cons_zero, List.set_cons_succ])
 go_cut [16] (fun v16 wc => ∃ (kq : Nat) (x16_2 : Bool), v16 = .bool x16_2 ∧ Aside0 (r04Has.j0 kq x16_2 a0_0 a0_1 a0_2 l0_3 l0_4 a1_0 a1_1 l1_2 l1_3 = some r) ∧ Aside0 (kq ≤ k) ∧ Aside0 (wc.heap[gb205]? = some (.cells #[.int .i64 a0_0, .int .i64 a0_1, .string a0_2, (.slice A0_3 l0_3.length c0_3), (.slice A0_4 l0_4.length c0_4)] 26 (0, 0))) ∧ Aside0 (wc.heap[gb206]? = some (.cells #[.int .i64 a1_0, .int .i64 a1_1, (.slice A1_2 l1_2.length c1_2), (.slice A1_3 l1_3.length c1_3)] 30 (0, 0))) ∧ Aside0 (Below w.heap.size w wc))
 case first =>
  have H := HC3.out; clear HC3
  replace H := bS H; obtain ⟨t207, A6, H⟩ := H
  replace H := iB H; obtain ⟨rfl, H⟩ | ⟨rfl, H⟩ := H
  ·have H' := mk0 H
   clear H; have hnb8 := NB205_206.out; have hnc8 := NB206_205.out
   have z9 := cells5 BK205.out
   go_wp2_with ((with_reducible refine gate_callee (f := 44) rfl ?_); refine goB (some 8) rfl rfl Try.func44 (by kernel_rfl) rfl #[.agg #[.int .i64 a0_0, .int .i64 a0_1, .string a0_2, .slice A0_3 l0_3.length c0_3, .slice A0_4 l0_4.length c0_4]] rfl rfl (r04Valid.calls k a0_0 a0_1 a0_2 _ _ l0_3 _ _ l0_4 true _ (cu HR0_3 HB) HC0_3.out (cu HR0_4 HB) HC0_4.out A6.out) ?_; intro w10 hb; replace BK205 := kb BK205 hb; replace BK206 := kb BK206 hb; replace HB := kh2 HB GE205 GE206 hb; have z11 := cells4 BK206.out; have z12 := cells5 BK205.out)
   go_meet
   case rel => exact ⟨_, ((a1_0 != a0_0)), rfl, H', ⟨by omega⟩, ⟨bu BK205⟩, ⟨bu BK206⟩, ⟨be2 HB GE205 GE206⟩⟩
  have H' := mk0 H
  clear H; have hnb13 := NB205_206.out; have hnc13 := NB206_205.out
  have z14 := cells5 BK205.out
  go_wp2_with ((with_reducible refine gate_callee (f := 44) rfl ?_); refine goB (some 8) rfl rfl Try.func44 (by kernel_rfl) rfl #[.agg #[.int .i64 a0_0, .int .i64 a0_1, .string a0_2, .slice A0_3 l0_3.length c0_3, .slice A0_4 l0_4.length c0_4]] rfl rfl (r04Valid.calls k a0_0 a0_1 a0_2 _ _ l0_3 _ _ l0_4 false _ (cu HR0_3 HB) HC0_3.out (cu HR0_4 HB) HC0_4.out A6.out) ?_; intro w15 hb; replace BK205 := kb BK205 hb; replace BK206 := kb BK206 hb; replace HB := kh2 HB GE205 GE206 hb)
  go_meet
  case rel => exact ⟨_, (true), rfl, H', ⟨by omega⟩, ⟨bu BK205⟩, ⟨bu BK206⟩, ⟨be2 HB GE205 GE206⟩⟩
 case rest =>
  clear HC3
  obtain ⟨kq, x16_2, rfl, HA, HJ2, BK205, BK206, HB⟩ := hcut
  cases kq with
  | zero => exact absurd HA.out (by simp [r04Has.j0])
  | succ kj2 =>
   have H := HA.out; clear HA
   simp only [r04Has.j0] at H
   replace H := iB H; obtain ⟨rfl, H⟩ | ⟨rfl, H⟩ := H
   ·obtain rfl := sI H
    go_wp2
    go_ret
    exact ⟨rfl, be2 HB GE205 GE206⟩
   replace H := iE H; obtain ⟨c17b0, c17b1, H⟩ | ⟨c17, c17b0, c17b1, H⟩ := H
   ·replace H := iE' H; obtain ⟨c18, c18b0, c18b1, H⟩ | ⟨c18b0, c18b1, H⟩ := H
    ·obtain rfl := sI H; have hnb31 := NB205_206.out; have hnc31 := NB206_205.out
     have z32 := cells5 BK205.out
     have z33 := cells4 BK206.out
     go_wp2
     go_ret
     exact ⟨rfl, be2 HB GE205 GE206⟩
    replace H := iE' H; obtain ⟨c19, c19b0, c19b1, H⟩ | ⟨c19b0, c19b1, H⟩ := H
    ·obtain rfl := sI H; have hnb28 := NB205_206.out; have hnc28 := NB206_205.out
     have z29 := cells5 BK205.out
     have z30 := cells4 BK206.out
     go_wp2
     go_ret
     exact ⟨rfl, be2 HB GE205 GE206⟩
    replace H := bS H; obtain ⟨t208, A20, H⟩ := H
    replace H := iB H; obtain ⟨rfl, H⟩ | ⟨rfl, H⟩ := H
    ·obtain rfl := sI H; have hnb22 := NB205_206.out; have hnc22 := NB206_205.out
     have z23 := cells5 BK205.out
     have z24 := cells4 BK206.out
     go_wp2_with (go_at_call 57; refine (r01Is.calls kj2 _ _ l1_2 true _ (cu HR1_2 HB) HC1_2.out A20.out).mono ?_; rintro e w' ⟨rfl, ⟨nd, rfl⟩⟩)
     go_ret
     exact ⟨rfl, be2 HB GE205 GE206⟩
    obtain rfl := sI H; have hnb25 := NB205_206.out; have hnc25 := NB206_205.out
    have z26 := cells5 BK205.out
    have z27 := cells4 BK206.out
    go_wp2_with (go_at_call 57; refine (r01Is.calls kj2 _ _ l1_2 false _ (cu HR1_2 HB) HC1_2.out A20.out).mono ?_; rintro e w' ⟨rfl, ⟨nd, rfl⟩⟩)
    go_ret
    exact ⟨rfl, be2 HB GE205 GE206⟩
   replace H := iE H; obtain ⟨c34b0, c34b1, H⟩ | ⟨c34, c34b0, c34b1, H⟩ := H
   ·replace H := iE H; obtain ⟨c35b0, c35b1, H⟩ | ⟨c35, c35b0, c35b1, H⟩ := H
    ·replace H := iE' H; obtain ⟨c36, c36b0, c36b1, H⟩ | ⟨c36b0, c36b1, H⟩ := H
     ·have c36b2 : ¬ (l1_2 = []) := fun h_ => c36 (by rw [h_]; rfl)
      obtain rfl := sI H; have hnb40 := NB205_206.out; have hnc40 := NB206_205.out
      have z41 := cells5 BK205.out
      have z42 := cells4 BK206.out
      go_wp2
      go_ret
      exact ⟨rfl, be2 HB GE205 GE206⟩
     obtain rfl := sI H; have hnb37 := NB205_206.out; have hnc37 := NB206_205.out
     have z38 := cells5 BK205.out
     have z39 := cells4 BK206.out
     go_wp2
     go_ret
     exact ⟨rfl, be2 HB GE205 GE206⟩
    replace H := iE' H; obtain ⟨c43, c43b0, c43b1, H⟩ | ⟨c43b0, c43b1, H⟩ := H
    ·obtain rfl := sI H; have hnb51 := NB205_206.out; have hnc51 := NB206_205.out
     have z52 := cells5 BK205.out
     have z53 := cells4 BK206.out
     go_wp2
     go_ret
     exact ⟨rfl, be2 HB GE205 GE206⟩
    replace H := iE' H; obtain ⟨c44, c44b0, c44b1, H⟩ | ⟨c44b0, c44b1, H⟩ := H
    ·have c44b2 : ¬ (l1_2 = []) := fun h_ => c44 (by rw [h_]; rfl)
     obtain rfl := sI H; have hnb48 := NB205_206.out; have hnc48 := NB206_205.out
     have z49 := cells5 BK205.out
     have z50 := cells4 BK206.out
     go_wp2
     go_ret
     exact ⟨rfl, be2 HB GE205 GE206⟩
    obtain rfl := sI H; have hnb45 := NB205_206.out; have hnc45 := NB206_205.out
    have z46 := cells5 BK205.out
    have z47 := cells4 BK206.out
    go_wp2
    go_ret
    exact ⟨rfl, be2 HB GE205 GE206⟩
   replace H := iE H; obtain ⟨c54b0, c54b1, H⟩ | ⟨c54, c54b0, c54b1, H⟩ := H
   ·replace H := bS H; obtain ⟨t209, A55, H⟩ := H
    replace H := iB' H; obtain ⟨rfl, H⟩ | ⟨rfl, H⟩ := H
    ·obtain rfl := sI H; have hnb64 := NB205_206.out; have hnc64 := NB206_205.out
     have z65 := cells5 BK205.out
     have z66 := cells4 BK206.out
     go_wp2_with ((with_reducible refine gate_callee (f := 58) rfl ?_); refine goD (some 67) rfl rfl Try.func58 (by kernel_rfl) rfl #[.int .i64 a1_1] rfl rfl (r02Fits.calls a1_1 false _ A55.out) ?_; intro nd)
     go_ret
     exact ⟨rfl, be2 HB GE205 GE206⟩
    replace H := iE' H; obtain ⟨c57, c57b0, c57b1, H⟩ | ⟨c57b0, c57b1, H⟩ := H
    ·have c57b2 : ¬ (l1_2 = []) := fun h_ => c57 (by rw [h_]; rfl)
     obtain rfl := sI H; have hnb61 := NB205_206.out; have hnc61 := NB206_205.out
     have z62 := cells5 BK205.out
     have z63 := cells4 BK206.out
     go_wp2_with ((with_reducible refine gate_callee (f := 58) rfl ?_); refine goD (some 67) rfl rfl Try.func58 (by kernel_rfl) rfl #[.int .i64 a1_1] rfl rfl (r02Fits.calls a1_1 true _ A55.out) ?_; intro nd)
     go_ret
     exact ⟨rfl, be2 HB GE205 GE206⟩
    obtain rfl := sI H; have hnb58 := NB205_206.out; have hnc58 := NB206_205.out
    have z59 := cells5 BK205.out
    have z60 := cells4 BK206.out
    go_wp2_with ((with_reducible refine gate_callee (f := 58) rfl ?_); refine goD (some 67) rfl rfl Try.func58 (by kernel_rfl) rfl #[.int .i64 a1_1] rfl rfl (r02Fits.calls a1_1 true _ A55.out) ?_; intro nd)
    go_ret
    exact ⟨rfl, be2 HB GE205 GE206⟩
   replace H := iE H; obtain ⟨c67b0, c67b1, H⟩ | ⟨c67, c67b0, c67b1, H⟩ := H
   ·replace H := iE' H; obtain ⟨c68, c68b0, c68b1, H⟩ | ⟨c68b0, c68b1, H⟩ := H
    ·obtain rfl := sI H; have hnb81 := NB205_206.out; have hnc81 := NB206_205.out
     have z82 := cells5 BK205.out
     have z83 := cells4 BK206.out
     go_wp2
     go_ret
     exact ⟨rfl, be2 HB GE205 GE206⟩
    replace H := iE' H; obtain ⟨c69, c69b0, c69b1, H⟩ | ⟨c69b0, c69b1, H⟩ := H
    ·obtain rfl := sI H; have hnb78 := NB205_206.out; have hnc78 := NB206_205.out
     have z79 := cells5 BK205.out
     have z80 := cells4 BK206.out
     go_wp2
     go_ret
     exact ⟨rfl, be2 HB GE205 GE206⟩
    replace H := bS H; obtain ⟨t210, A70, H⟩ := H
    replace H := iB H; obtain ⟨rfl, H⟩ | ⟨rfl, H⟩ := H
    ·obtain rfl := sI H; have hnb72 := NB205_206.out; have hnc72 := NB206_205.out
     have z73 := cells5 BK205.out
     have z74 := cells4 BK206.out
     go_wp2_with (go_at_call 57; refine (r01Is.calls kj2 _ _ l1_2 true _ (cu HR1_2 HB) HC1_2.out A70.out).mono ?_; rintro e w' ⟨rfl, ⟨nd, rfl⟩⟩)
     go_ret
     exact ⟨rfl, be2 HB GE205 GE206⟩
    obtain rfl := sI H; have hnb75 := NB205_206.out; have hnc75 := NB206_205.out
    have z76 := cells5 BK205.out
    have z77 := cells4 BK206.out
    go_wp2_with (go_at_call 57; refine (r01Is.calls kj2 _ _ l1_2 false _ (cu HR1_2 HB) HC1_2.out A70.out).mono ?_; rintro e w' ⟨rfl, ⟨nd, rfl⟩⟩)
    go_ret
    exact ⟨rfl, be2 HB GE205 GE206⟩
   replace H := iE H; obtain ⟨c84b0, c84b1, H⟩ | ⟨c84, c84b0, c84b1, H⟩ := H
   ·by_cases c85 : a1_1 ≥ 0
    rotate_left
    ·rw [if_neg c85] at H
     have c85b0 : decide (0 ≤ a1_1) = false := decide_eq_false c85; clear c85; obtain rfl := sI H; have hnb97 := NB205_206.out; have hnc97 := NB206_205.out
     have z98 := cells5 BK205.out
     have z99 := cells4 BK206.out
     go_wp2
     go_ret
     exact ⟨rfl, be2 HB GE205 GE206⟩
    rw [if_pos c85] at H; have c85b0 : decide (0 ≤ a1_1) = true := decide_eq_true c85; clear c85
    replace H := iD' H; obtain ⟨-, c86b0, H⟩ | ⟨-, c86b0, H⟩ := H
    ·obtain rfl := sI H; have hnb94 := NB205_206.out; have hnc94 := NB206_205.out
     have z95 := cells5 BK205.out
     have z96 := cells4 BK206.out
     go_wp2
     go_ret
     exact ⟨rfl, be2 HB GE205 GE206⟩
    replace H := iE' H; obtain ⟨c87, c87b0, c87b1, H⟩ | ⟨c87b0, c87b1, H⟩ := H
    ·have c87b2 : ¬ (l1_2 = []) := fun h_ => c87 (by rw [h_]; rfl)
     obtain rfl := sI H; have hnb91 := NB205_206.out; have hnc91 := NB206_205.out
     have z92 := cells5 BK205.out
     have z93 := cells4 BK206.out
     go_wp2
     go_ret
     exact ⟨rfl, be2 HB GE205 GE206⟩
    obtain rfl := sI H; have hnb88 := NB205_206.out; have hnc88 := NB206_205.out
    have z89 := cells5 BK205.out
    have z90 := cells4 BK206.out
    go_wp2
    go_ret
    exact ⟨rfl, be2 HB GE205 GE206⟩
   have HC100 := mk0 H; clear H; have hnb101 := NB205_206.out; have hnc101 := NB206_205.out
   have z102 := cells5 BK205.out
   go_upto_region 14 with (fail)
   go_cut [145] (fun v145 wc => ∃ (kq : Nat) (x145_99 : Bool), v145 = .bool x145_99 ∧ Aside0 (r04Has.j1 kq x145_99 a0_0 a0_1 a0_2 l0_3 l0_4 a1_0 a1_1 l1_2 l1_3 = some r) ∧ Aside0 (kq ≤ kj2) ∧ Aside0 (wc.heap[gb205]? = some (.cells #[.int .i64 a0_0, .int .i64 a0_1, .string a0_2, (.slice A0_3 l0_3.length c0_3), (.slice A0_4 l0_4.length c0_4)] 26 (0, 0))) ∧ Aside0 (wc.heap[gb206]? = some (.cells #[.int .i64 a1_0, .int .i64 a1_1, (.slice A1_2 l1_2.length c1_2), (.slice A1_3 l1_3.length c1_3)] 30 (0, 0))) ∧ Aside0 (Below w.heap.size w wc))
   case first =>
    have H := HC100.out; clear HC100
    replace H := iE' H; obtain ⟨c103, c103b0, c103b1, H⟩ | ⟨c103b0, c103b1, H⟩ := H
    ·(first | rw [c103b0] | (simp only [i64_w, i32_w]; rw [c103b0]) | skip)
     have H' := mk0 H
     clear H; have hnb110 := NB206_205.out; have hnc110 := NB205_206.out
     have z111 := cells4 BK206.out
     go_wp2
     go_meet
     case rel => exact ⟨_, (true), rfl, H', ⟨by have := HJ2.out; omega⟩, ⟨bu BK205⟩, ⟨bu BK206⟩, ⟨be2 HB GE205 GE206⟩⟩
    (first | rw [c103b0] | (simp only [i64_w, i32_w]; rw [c103b0]) | skip)
    replace H := iE' H; obtain ⟨c104, c104b0, c104b1, H⟩ | ⟨c104b0, c104b1, H⟩ := H
    ·have c104b2 : ¬ (l1_2 = []) := fun h_ => c104 (by rw [h_]; rfl)
     have H' := mk0 H
     clear H; have hnb108 := NB206_205.out; have hnc108 := NB205_206.out
     have z109 := cells4 BK206.out
     go_wp2
     go_meet
     case rel => exact ⟨_, (true), rfl, H', ⟨by have := HJ2.out; omega⟩, ⟨bu BK205⟩, ⟨bu BK206⟩, ⟨be2 HB GE205 GE206⟩⟩
    have H' := mk0 H
    clear H; have hnb105 := NB206_205.out; have hnc105 := NB205_206.out
    have z106 := cells4 BK206.out
    have z107 := cells5 BK205.out
    go_wp2
    go_meet
    case rel => exact ⟨_, (((l1_3.length : Int) != a0_1)), rfl, H', ⟨by have := HJ2.out; omega⟩, ⟨bu BK205⟩, ⟨bu BK206⟩, ⟨be2 HB GE205 GE206⟩⟩
   case rest =>
    clear HC100; try clear c34; try clear c34b0; try clear c34b1; try clear c54; try clear c54b0; try clear c54b1; try clear c67; try clear c67b0; try clear c67b1; try clear c84; try clear c84b0; try clear c84b1
    obtain ⟨kq, x145_99, rfl, HA, HJ99, BK205, BK206, HB⟩ := hcut
    cases kq with
    | zero => exact absurd HA.out (by simp [r04Has.j1])
    | succ kj99 =>
     have H := HA.out; clear HA
     simp only [r04Has.j1] at H
     replace H := iB H; obtain ⟨rfl, H⟩ | ⟨rfl, H⟩ := H
     ·obtain rfl := sI H
      go_wp2
      go_ret
      exact ⟨rfl, be2 HB GE205 GE206⟩
     have H' := mk0 H
     clear H; have hnb113 := NB206_205.out; have hnc113 := NB205_206.out
     have z114 := cells4 BK206.out
     go_wp2
     go_loopg [149] kj99 (fun kq v149 w' => ∃ (x149_3 : Int), v149 = .int .i64 x149_3 ∧ Aside0 (r04Has.l0 kq l1_3 (l1_3.length : Int) x149_3 a0_0 a0_1 a0_2 l0_3 l0_4 = some r) ∧ Aside0 (kq ≤ kj99) ∧ Aside0 (w'.heap[gb205]? = some (.cells #[.int .i64 a0_0, .int .i64 a0_1, .string a0_2, (.slice A0_3 l0_3.length c0_3), (.slice A0_4 l0_4.length c0_4)] 26 (0, 0))) ∧ Aside0 (w'.heap[gb206]? = some (.cells #[.int .i64 a1_0, .int .i64 a1_1, (.slice A1_2 l1_2.length c1_2), (.slice A1_3 l1_3.length c1_3)] 30 (0, 0))) ∧ Aside0 (Below w.heap.size w w'))
     case atStart => exact ⟨(0), rfl, H', ⟨Nat.le_refl _⟩, ⟨bu BK205⟩, ⟨bu BK206⟩, ⟨be2 HB GE205 GE206⟩⟩
     case round =>
      clear H'
      try clear c34; try clear c34b0; try clear c34b1; try clear c54; try clear c54b0; try clear c54b1; try clear c67; try clear c67b0; try clear c67b1; try clear c84; try clear c84b0; try clear c84b1
      obtain ⟨x149_3, rfl, HA, HK3, BK205, BK206, HB⟩ := hrel
      cases gk with
      | zero => exact absurd HA.out (by simp [r04Has.l0])
      | succ k3 =>
       have H := HA.out; clear HA
       simp only [r04Has.l0] at H
       replace H := iD' H; obtain ⟨-, c115b0, H⟩ | ⟨-, c115b0, H⟩ := H
       ·obtain rfl := sI H
        go_wp2
        go_ret
        exact ⟨rfl, be2 HB GE205 GE206⟩
       replace H := iN H; obtain ⟨-, c116b0, H⟩ := H
       replace H := iN H; obtain ⟨-, c117b0, H⟩ := H
       replace H := iN H; obtain ⟨c118, c118b0, H⟩ := H
       have c118b1 : decide (0 < l0_4.length) = true := decide_eq_true (by omega)
       clear c118
       replace H := bS H; obtain ⟨t214, A119, H⟩ := H
       replace H := iB' H; obtain ⟨rfl, H⟩ | ⟨rfl, H⟩ := H
       ·obtain rfl := sI H
        have p211 : 0 ≤ (x149_3 : Int) := od
        have q211 : x149_3 < (l1_3.length : Int) := od
        obtain ⟨ad211, A211_2, c211_2, A211_3, c211_3, e211, hx211_0, hx211_1, hx211_2, hx211_3, hl211_2, hi211_2, hl211_3, hi211_3⟩ := at_T30 HR1_3.out x149_3 p211 q211
        cases e211
        replace hx211_0 := keepc HB.out hx211_0
        replace hx211_1 := keepc HB.out hx211_1
        replace hx211_2 := keepc HB.out hx211_2
        replace hx211_3 := keepc HB.out hx211_3
        have HR211_2 := mk0 hi211_2; have HC211_2 := mk0 hl211_2; clear hi211_2 hl211_2; have HR211_3 := mk0 hi211_3; have HC211_3 := mk0 hl211_3; clear hi211_3 hl211_3; replace p211 := eq_true p211; replace q211 := eq_true q211
        try go_wp2_with ((with_reducible refine box_event rfl (N := 6) rfl (cs := #[.int .i64 0, .int .i64 0, .slice none 0 0, .slice none 0 0]) (t := 30) ?hr ?_); (case hr => first | (go_simp; done) | (go_simp; rfl)); intro gb212 hg w128 hbox hb; have BK212 := mk0 (hbox); have GE212 := bs (be2 HB GE205 GE206) hg; replace HB := kh2 HB GE205 GE206 hb; have NB205_212 := nb1 (bu BK205) hg; have NB212_205 := nb2 (bu BK205) hg; replace BK205 := kb BK205 hb; have NB206_212 := nb1 (bu BK206) hg; have NB212_206 := nb2 (bu BK206) hg; replace BK206 := kb BK206 hb; clear hb hbox hg; have hnb129 := NB212_205.out; have hnc129 := NB205_212.out; have hnb130 := NB212_206.out; have hnc130 := NB206_212.out; have z131 := cells4 BK212.out)
        have n0_ : Aside0 (((((w128.setCell ⟨gb212, 0, none⟩ (.int .i64 ((rd_T30 l1_3 x149_3).f0))).setCell ⟨gb212, 1, none⟩ (.int .i64 ((rd_T30 l1_3 x149_3).f1))).setCell ⟨gb212, 2, none⟩ (.slice A211_2 ((rd_T30 l1_3 x149_3).f2).length c211_2)).setCell ⟨gb212, 3, none⟩ (.slice A211_3 ((rd_T30 l1_3 x149_3).f3).length c211_3)).heap[gb205]? = some (.cells #[.int .i64 a0_0, .int .i64 a0_1, .string a0_2, .slice A0_3 l0_3.length c0_3, .slice A0_4 l0_4.length c0_4] 26 (0, 0))) := ⟨bF NB205_212 BK205⟩
        have n1_ : Aside0 (((((w128.setCell ⟨gb212, 0, none⟩ (.int .i64 ((rd_T30 l1_3 x149_3).f0))).setCell ⟨gb212, 1, none⟩ (.int .i64 ((rd_T30 l1_3 x149_3).f1))).setCell ⟨gb212, 2, none⟩ (.slice A211_2 ((rd_T30 l1_3 x149_3).f2).length c211_2)).setCell ⟨gb212, 3, none⟩ (.slice A211_3 ((rd_T30 l1_3 x149_3).f3).length c211_3)).heap[gb206]? = some (.cells #[.int .i64 a1_0, .int .i64 a1_1, .slice A1_2 l1_2.length c1_2, .slice (some ad211) l1_3.length c1_3] 30 (0, 0))) := ⟨bF NB206_212 BK206⟩
        have n2_ : Aside0 (((((w128.setCell ⟨gb212, 0, none⟩ (.int .i64 ((rd_T30 l1_3 x149_3).f0))).setCell ⟨gb212, 1, none⟩ (.int .i64 ((rd_T30 l1_3 x149_3).f1))).setCell ⟨gb212, 2, none⟩ (.slice A211_2 ((rd_T30 l1_3 x149_3).f2).length c211_2)).setCell ⟨gb212, 3, none⟩ (.slice A211_3 ((rd_T30 l1_3 x149_3).f3).length c211_3)).heap[gb212]? = some (.cells #[.int .i64 ((rd_T30 l1_3 x149_3).f0), .int .i64 ((rd_T30 l1_3 x149_3).f1), .slice A211_2 ((rd_T30 l1_3 x149_3).f2).length c211_2, .slice A211_3 ((rd_T30 l1_3 x149_3).f3).length c211_3] 30 (0, 0))) := ⟨pB BK212⟩
        have n3_ : Aside0 (Below w.heap.size w ((((w128.setCell ⟨gb212, 0, none⟩ (.int .i64 ((rd_T30 l1_3 x149_3).f0))).setCell ⟨gb212, 1, none⟩ (.int .i64 ((rd_T30 l1_3 x149_3).f1))).setCell ⟨gb212, 2, none⟩ (.slice A211_2 ((rd_T30 l1_3 x149_3).f2).length c211_2)).setCell ⟨gb212, 3, none⟩ (.slice A211_3 ((rd_T30 l1_3 x149_3).f3).length c211_3))) := ⟨be3 HB GE205 GE206 GE212⟩
        try clear BK205
        try clear BK206
        try clear BK212
        try clear HB
        generalize ((((w128.setCell ⟨gb212, 0, none⟩ (.int .i64 ((rd_T30 l1_3 x149_3).f0))).setCell ⟨gb212, 1, none⟩ (.int .i64 ((rd_T30 l1_3 x149_3).f1))).setCell ⟨gb212, 2, none⟩ (.slice A211_2 ((rd_T30 l1_3 x149_3).f2).length c211_2)).setCell ⟨gb212, 3, none⟩ (.slice A211_3 ((rd_T30 l1_3 x149_3).f3).length c211_3)) = w132 at n0_ n1_ n2_ n3_ ⊢
        have BK205 := n0_; have BK206 := n1_; have BK212 := n2_; have HB := n3_; clear n0_ n1_ n2_ n3_
        have n0_ := mk0 (blk_drew BK205.out)
        have n1_ := mk0 (blk_drew BK206.out)
        have n2_ := mk0 (blk_drew BK212.out)
        have n3_ := mk0 (below_drew1 HB.out)
        clear BK205; clear BK206; clear BK212; clear HB; have BK205 := n0_; have BK206 := n1_; have BK212 := n2_; have HB := n3_; clear n0_ n1_ n2_ n3_
        have p213 : 0 ≤ (0 : Int) := (by omega)
        have q213 : 0 < (l0_4.length : Int) := od
        obtain ⟨ad213, A213_3, c213_3, A213_4, c213_4, e213, hx213_0, hx213_1, hx213_2, hx213_3, hx213_4, hl213_3, hi213_3, hl213_4, hi213_4⟩ := at_T26 HR0_4.out 0 p213 q213
        have hw213_4 := hx213_4
        (try rw [show ((0 : Int)).toNat = 0 from rfl] at hw213_4)
        (try rw [show 0 * 5 = 0 from rfl] at hw213_4)
        (try rw [Addr.add_zero'] at hw213_4)
        have hw213_3 := hx213_3
        (try rw [show ((0 : Int)).toNat = 0 from rfl] at hw213_3)
        (try rw [show 0 * 5 = 0 from rfl] at hw213_3)
        (try rw [Addr.add_zero'] at hw213_3)
        have hw213_2 := hx213_2
        (try rw [show ((0 : Int)).toNat = 0 from rfl] at hw213_2)
        (try rw [show 0 * 5 = 0 from rfl] at hw213_2)
        (try rw [Addr.add_zero'] at hw213_2)
        have hw213_1 := hx213_1
        (try rw [show ((0 : Int)).toNat = 0 from rfl] at hw213_1)
        (try rw [show 0 * 5 = 0 from rfl] at hw213_1)
        (try rw [Addr.add_zero'] at hw213_1)
        have hw213_0 := hx213_0
        (try rw [show ((0 : Int)).toNat = 0 from rfl] at hw213_0)
        (try rw [show 0 * 5 = 0 from rfl] at hw213_0)
        (try rw [Addr.add_zero'] at hw213_0)
        cases e213
        have qi213 : (0 < l0_4.length) = True := eq_true (by omega)
        (try rw [show ((0 : Int)).toNat = 0 from rfl] at hx213_0)
        (try rw [show 0 * 5 = 0 from rfl] at hx213_0)
        (try rw [Addr.add_zero'] at hx213_0)
        (try rw [show ((0 : Int)).toNat = 0 from rfl] at hx213_1)
        (try rw [show 0 * 5 = 0 from rfl] at hx213_1)
        (try rw [Addr.add_zero'] at hx213_1)
        (try rw [show ((0 : Int)).toNat = 0 from rfl] at hx213_2)
        (try rw [show 0 * 5 = 0 from rfl] at hx213_2)
        (try rw [Addr.add_zero'] at hx213_2)
        (try rw [show ((0 : Int)).toNat = 0 from rfl] at hx213_3)
        (try rw [show 0 * 5 = 0 from rfl] at hx213_3)
        (try rw [Addr.add_zero'] at hx213_3)
        (try rw [show ((0 : Int)).toNat = 0 from rfl] at hx213_4)
        (try rw [show 0 * 5 = 0 from rfl] at hx213_4)
        (try rw [Addr.add_zero'] at hx213_4)
        replace hx213_0 := keepc HB.out hx213_0
        replace hx213_1 := keepc HB.out hx213_1
        replace hx213_2 := keepc HB.out hx213_2
        replace hx213_3 := keepc HB.out hx213_3
        replace hx213_4 := keepc HB.out hx213_4
        have HR213_3 := mk0 hi213_3; have HC213_3 := mk0 hl213_3; clear hi213_3 hl213_3; have HR213_4 := mk0 hi213_4; have HC213_4 := mk0 hl213_4; clear hi213_4 hl213_4; replace p213 := eq_true p213; replace q213 := eq_true q213
        refine start_ (n := 7) (S := fun w' => w'.cell? ⟨gb205, 0, none⟩ = some (.int .i64 a0_0) ∧ w'.cell? ⟨gb205, 1, none⟩ = some (.int .i64 a0_1) ∧ w'.cell? ⟨gb205, 2, none⟩ = some (.string a0_2) ∧ w'.cell? ⟨gb205, 3, none⟩ = some (.slice A0_3 l0_3.length c0_3) ∧ w'.cell? ⟨gb205, 4, none⟩ = some (.slice (some ad213) l0_4.length c0_4) ∧ w'.cell? ⟨gb212, 0, none⟩ = some (.int .i64 ((rd_T30 l1_3 x149_3).f0)) ∧ w'.cell? ⟨gb212, 1, none⟩ = some (.int .i64 ((rd_T30 l1_3 x149_3).f1)) ∧ w'.cell? ⟨gb212, 2, none⟩ = some (.slice A211_2 ((rd_T30 l1_3 x149_3).f2).length c211_2) ∧ w'.cell? ⟨gb212, 3, none⟩ = some (.slice A211_3 ((rd_T30 l1_3 x149_3).f3).length c211_3) ∧ w'.cell? ad213 = some (.int .i64 ((rd_T26 l0_4 0).f0)) ∧ w'.cell? ⟨ad213.block, ad213.off + 1, none⟩ = some (.int .i64 ((rd_T26 l0_4 0).f1)) ∧ w'.cell? ⟨ad213.block, ad213.off + 2, none⟩ = some (.string ((rd_T26 l0_4 0).f2)) ∧ w'.cell? ⟨ad213.block, ad213.off + 3, none⟩ = some (.slice A213_3 ((rd_T26 l0_4 0).f3).length c213_3) ∧ w'.cell? ⟨ad213.block, ad213.off + 4, none⟩ = some (.slice A213_4 ((rd_T26 l0_4 0).f4).length c213_4)) (ds := []) #[false, false, false, false, false, false, false] (by kernel_rfl) rfl rfl ⟨bc BK205 0, bc BK205 1, bc BK205 2, bc BK205 3, bc BK205 4, bc BK212 0, bc BK212 1, bc BK212 2, bc BK212 3, (keepc HB.out hw213_0), (keepc HB.out hw213_1), (keepc HB.out hw213_2), (keepc HB.out hw213_3), (keepc HB.out hw213_4)⟩ (fun hHeld => ?_)
        generalize w132.drew = w133 at BK205 BK206 BK212 HB HR213_3 HR213_4 hx213_0 hx213_1 hx213_2 hx213_3 hx213_4 hHeld ⊢
        refine pure_ (i := 0) (N := some 153) (v := ?_) (a' := ?_) (tf 1 6) rfl rfl (by kernel_rfl) (fun _ _ _ h => h) (Or.inl ⟨by rfl, ?_⟩) ?_ ?_
        rotate_left
        ·intro w'
         go_simp
         with_reducible rfl
        rotate_left
        ·simp only [ps]
         rfl
        refine take_ (i := 1) (N := some 154) (v := ?_) (a' := ?_) (tf 2 5) rfl rfl (by kernel_rfl) (fun _ _ _ h => h) (Or.inl ⟨by rfl, ?_⟩) hHeld ?_ ?_
        rotate_left
        ·rintro w' ⟨s0, s1, s2, s3, s4, s5, s6, s7, s8, s9, s10, s11, s12, s13⟩
         go_simp
         with_reducible rfl
        rotate_left
        ·simp only [ps]
         rfl
        refine pure_ (i := 2) (N := some 155) (v := ?_) (a' := ?_) (tf 3 4) rfl rfl (by kernel_rfl) (fun _ _ _ h => h) (Or.inl ⟨by rfl, ?_⟩) ?_ ?_
        rotate_left
        ·intro w'
         go_simp
         with_reducible rfl
        rotate_left
        ·simp only [ps]
         rfl
        refine take_ (i := 3) (N := some 156) (v := ?_) (a' := ?_) (tf 4 3) rfl rfl (by kernel_rfl) (fun _ _ _ h => h) (Or.inl ⟨by rfl, ?_⟩) hHeld ?_ ?_
        rotate_left
        ·rintro w' ⟨s0, s1, s2, s3, s4, s5, s6, s7, s8, s9, s10, s11, s12, s13⟩
         go_simp
         with_reducible rfl
        rotate_left
        ·simp only [ps]
         rfl
        refine take_ (i := 4) (N := some 157) (v := ?_) (a' := ?_) (tf 5 2) rfl rfl (by kernel_rfl) (fun _ _ _ h => h) (Or.inl ⟨by rfl, ?_⟩) hHeld ?_ ?_
        rotate_left
        ·rintro w' ⟨s0, s1, s2, s3, s4, s5, s6, s7, s8, s9, s10, s11, s12, s13⟩
         go_simp
         with_reducible rfl
        rotate_left
        ·simp only [ps]
         rfl
        refine one_ (i := 5) (N := some 158) (tf 6 1) rfl rfl (by kernel_rfl) (by decide) (fun K hK => ?_)
        refine goes_ Try.func37 (by kernel_rfl) rfl #[.agg #[.int .i64 ((rd_T26 l0_4 0).f0), .int .i64 ((rd_T26 l0_4 0).f1), .string ((rd_T26 l0_4 0).f2), .slice A213_3 ((rd_T26 l0_4 0).f3).length c213_3, .slice A213_4 ((rd_T26 l0_4 0).f4).length c213_4], .agg #[.int .i64 ((rd_T30 l1_3 x149_3).f0), .int .i64 ((rd_T30 l1_3 x149_3).f1), .slice A211_2 ((rd_T30 l1_3 x149_3).f2).length c211_2, .slice A211_3 ((rd_T30 l1_3 x149_3).f3).length c211_3]] (by rfl) rfl rfl (by (try simp only [List.map_toArray, List.map_cons, List.map_nil]); first | done | rfl | (simp only [List.length_drop, List.length_take]; rfl)) ?_
        with_reducible refine (ih k3 (by have := HJ2.out; have := HJ99.out; have := HK3.out; omega) ((rd_T26 l0_4 0).f0) ((rd_T26 l0_4 0).f1) ((rd_T26 l0_4 0).f2) _ _ ((rd_T26 l0_4 0).f3) _ _ ((rd_T26 l0_4 0).f4) ((rd_T30 l1_3 x149_3).f0) ((rd_T30 l1_3 x149_3).f1) _ _ ((rd_T30 l1_3 x149_3).f2) _ _ ((rd_T30 l1_3 x149_3).f3) false _ ?side1 ?side2 ?side3 ?side4 ?side5 ?side6 ?side7 ?side8 A119.out).mono ?_
        (case side1 => exact cu HR213_3 HB)
        (case side2 => exact HC213_3.out)
        (case side3 => exact cu HR213_4 HB)
        (case side4 => exact HC213_4.out)
        (case side5 => exact cu HR211_2 HB)
        (case side6 => exact HC211_2.out)
        (case side7 => exact cu HR211_3 HB)
        (case side8 => exact HC211_3.out)
        rintro e w134 ⟨rfl, hb⟩
        refine ⟨_, rfl, ?_⟩
        have n0_ := kb BK205 hb
        have n1_ := kb BK206 hb
        have n2_ := kb BK212 hb
        have n3_ := kh3 HB GE205 GE206 GE212 hb
        clear BK205; clear BK206; clear BK212; clear HB; have BK205 := n0_; have BK206 := n1_; have BK212 := n2_; have HB := n3_; clear n0_ n1_ n2_ n3_
        try clear hb
        refine hK.out _ _ ⟨bc BK205 0, bc BK205 1, bc BK205 2, bc BK205 3, bc BK205 4, bc BK212 0, bc BK212 1, bc BK212 2, bc BK212 3, (keepc HB.out hw213_0), (keepc HB.out hw213_1), (keepc HB.out hw213_2), (keepc HB.out hw213_3), (keepc HB.out hw213_4)⟩ (fun hHeld => ?_)
        clear hK K
        refine norm_ (a' := ?_) ?_ ?_
        rotate_left
        ·show Act.put _ (some 158) _ = _
         simp only [ps]
         rfl
        refine pure_ (i := 6) (N := some 159) (v := ?_) (a' := ?_) (tf 7 0) rfl rfl (by kernel_rfl) (fun _ _ _ h => h) (Or.inl ⟨by rfl, ?_⟩) ?_ ?_
        rotate_left
        ·intro w'
         go_simp
         with_reducible rfl
        rotate_left
        ·simp only [ps]
         rfl
        refine done_ (by kernel_rfl) ?_
        try go_wp2
        go_ret
        exact ⟨rfl, be3 HB GE205 GE206 GE212⟩
       have H' := mk0 H
       clear H
       have p211 : 0 ≤ (x149_3 : Int) := od
       have q211 : x149_3 < (l1_3.length : Int) := od
       obtain ⟨ad211, A211_2, c211_2, A211_3, c211_3, e211, hx211_0, hx211_1, hx211_2, hx211_3, hl211_2, hi211_2, hl211_3, hi211_3⟩ := at_T30 HR1_3.out x149_3 p211 q211
       cases e211
       replace hx211_0 := keepc HB.out hx211_0
       replace hx211_1 := keepc HB.out hx211_1
       replace hx211_2 := keepc HB.out hx211_2
       replace hx211_3 := keepc HB.out hx211_3
       have HR211_2 := mk0 hi211_2; have HC211_2 := mk0 hl211_2; clear hi211_2 hl211_2; have HR211_3 := mk0 hi211_3; have HC211_3 := mk0 hl211_3; clear hi211_3 hl211_3; replace p211 := eq_true p211; replace q211 := eq_true q211
       try go_wp2_with ((with_reducible refine box_event rfl (N := 6) rfl (cs := #[.int .i64 0, .int .i64 0, .slice none 0 0, .slice none 0 0]) (t := 30) ?hr ?_); (case hr => first | (go_simp; done) | (go_simp; rfl)); intro gb212 hg w121 hbox hb; have BK212 := mk0 (hbox); have GE212 := bs (be2 HB GE205 GE206) hg; replace HB := kh2 HB GE205 GE206 hb; have NB205_212 := nb1 (bu BK205) hg; have NB212_205 := nb2 (bu BK205) hg; replace BK205 := kb BK205 hb; have NB206_212 := nb1 (bu BK206) hg; have NB212_206 := nb2 (bu BK206) hg; replace BK206 := kb BK206 hb; clear hb hbox hg; have hnb122 := NB212_205.out; have hnc122 := NB205_212.out; have hnb123 := NB212_206.out; have hnc123 := NB206_212.out; have z124 := cells4 BK212.out)
       have n0_ : Aside0 (((((w121.setCell ⟨gb212, 0, none⟩ (.int .i64 ((rd_T30 l1_3 x149_3).f0))).setCell ⟨gb212, 1, none⟩ (.int .i64 ((rd_T30 l1_3 x149_3).f1))).setCell ⟨gb212, 2, none⟩ (.slice A211_2 ((rd_T30 l1_3 x149_3).f2).length c211_2)).setCell ⟨gb212, 3, none⟩ (.slice A211_3 ((rd_T30 l1_3 x149_3).f3).length c211_3)).heap[gb205]? = some (.cells #[.int .i64 a0_0, .int .i64 a0_1, .string a0_2, .slice A0_3 l0_3.length c0_3, .slice A0_4 l0_4.length c0_4] 26 (0, 0))) := ⟨bF NB205_212 BK205⟩
       have n1_ : Aside0 (((((w121.setCell ⟨gb212, 0, none⟩ (.int .i64 ((rd_T30 l1_3 x149_3).f0))).setCell ⟨gb212, 1, none⟩ (.int .i64 ((rd_T30 l1_3 x149_3).f1))).setCell ⟨gb212, 2, none⟩ (.slice A211_2 ((rd_T30 l1_3 x149_3).f2).length c211_2)).setCell ⟨gb212, 3, none⟩ (.slice A211_3 ((rd_T30 l1_3 x149_3).f3).length c211_3)).heap[gb206]? = some (.cells #[.int .i64 a1_0, .int .i64 a1_1, .slice A1_2 l1_2.length c1_2, .slice (some ad211) l1_3.length c1_3] 30 (0, 0))) := ⟨bF NB206_212 BK206⟩
       have n2_ : Aside0 (((((w121.setCell ⟨gb212, 0, none⟩ (.int .i64 ((rd_T30 l1_3 x149_3).f0))).setCell ⟨gb212, 1, none⟩ (.int .i64 ((rd_T30 l1_3 x149_3).f1))).setCell ⟨gb212, 2, none⟩ (.slice A211_2 ((rd_T30 l1_3 x149_3).f2).length c211_2)).setCell ⟨gb212, 3, none⟩ (.slice A211_3 ((rd_T30 l1_3 x149_3).f3).length c211_3)).heap[gb212]? = some (.cells #[.int .i64 ((rd_T30 l1_3 x149_3).f0), .int .i64 ((rd_T30 l1_3 x149_3).f1), .slice A211_2 ((rd_T30 l1_3 x149_3).f2).length c211_2, .slice A211_3 ((rd_T30 l1_3 x149_3).f3).length c211_3] 30 (0, 0))) := ⟨pB BK212⟩
       have n3_ : Aside0 (Below w.heap.size w ((((w121.setCell ⟨gb212, 0, none⟩ (.int .i64 ((rd_T30 l1_3 x149_3).f0))).setCell ⟨gb212, 1, none⟩ (.int .i64 ((rd_T30 l1_3 x149_3).f1))).setCell ⟨gb212, 2, none⟩ (.slice A211_2 ((rd_T30 l1_3 x149_3).f2).length c211_2)).setCell ⟨gb212, 3, none⟩ (.slice A211_3 ((rd_T30 l1_3 x149_3).f3).length c211_3))) := ⟨be3 HB GE205 GE206 GE212⟩
       try clear BK205
       try clear BK206
       try clear BK212
       try clear HB
       generalize ((((w121.setCell ⟨gb212, 0, none⟩ (.int .i64 ((rd_T30 l1_3 x149_3).f0))).setCell ⟨gb212, 1, none⟩ (.int .i64 ((rd_T30 l1_3 x149_3).f1))).setCell ⟨gb212, 2, none⟩ (.slice A211_2 ((rd_T30 l1_3 x149_3).f2).length c211_2)).setCell ⟨gb212, 3, none⟩ (.slice A211_3 ((rd_T30 l1_3 x149_3).f3).length c211_3)) = w125 at n0_ n1_ n2_ n3_ ⊢
       have BK205 := n0_; have BK206 := n1_; have BK212 := n2_; have HB := n3_; clear n0_ n1_ n2_ n3_
       have n0_ := mk0 (blk_drew BK205.out)
       have n1_ := mk0 (blk_drew BK206.out)
       have n2_ := mk0 (blk_drew BK212.out)
       have n3_ := mk0 (below_drew1 HB.out)
       clear BK205; clear BK206; clear BK212; clear HB; have BK205 := n0_; have BK206 := n1_; have BK212 := n2_; have HB := n3_; clear n0_ n1_ n2_ n3_
       have p213 : 0 ≤ (0 : Int) := (by omega)
       have q213 : 0 < (l0_4.length : Int) := od
       obtain ⟨ad213, A213_3, c213_3, A213_4, c213_4, e213, hx213_0, hx213_1, hx213_2, hx213_3, hx213_4, hl213_3, hi213_3, hl213_4, hi213_4⟩ := at_T26 HR0_4.out 0 p213 q213
       have hw213_4 := hx213_4
       (try rw [show ((0 : Int)).toNat = 0 from rfl] at hw213_4)
       (try rw [show 0 * 5 = 0 from rfl] at hw213_4)
       (try rw [Addr.add_zero'] at hw213_4)
       have hw213_3 := hx213_3
       (try rw [show ((0 : Int)).toNat = 0 from rfl] at hw213_3)
       (try rw [show 0 * 5 = 0 from rfl] at hw213_3)
       (try rw [Addr.add_zero'] at hw213_3)
       have hw213_2 := hx213_2
       (try rw [show ((0 : Int)).toNat = 0 from rfl] at hw213_2)
       (try rw [show 0 * 5 = 0 from rfl] at hw213_2)
       (try rw [Addr.add_zero'] at hw213_2)
       have hw213_1 := hx213_1
       (try rw [show ((0 : Int)).toNat = 0 from rfl] at hw213_1)
       (try rw [show 0 * 5 = 0 from rfl] at hw213_1)
       (try rw [Addr.add_zero'] at hw213_1)
       have hw213_0 := hx213_0
       (try rw [show ((0 : Int)).toNat = 0 from rfl] at hw213_0)
       (try rw [show 0 * 5 = 0 from rfl] at hw213_0)
       (try rw [Addr.add_zero'] at hw213_0)
       cases e213
       have qi213 : (0 < l0_4.length) = True := eq_true (by omega)
       (try rw [show ((0 : Int)).toNat = 0 from rfl] at hx213_0)
       (try rw [show 0 * 5 = 0 from rfl] at hx213_0)
       (try rw [Addr.add_zero'] at hx213_0)
       (try rw [show ((0 : Int)).toNat = 0 from rfl] at hx213_1)
       (try rw [show 0 * 5 = 0 from rfl] at hx213_1)
       (try rw [Addr.add_zero'] at hx213_1)
       (try rw [show ((0 : Int)).toNat = 0 from rfl] at hx213_2)
       (try rw [show 0 * 5 = 0 from rfl] at hx213_2)
       (try rw [Addr.add_zero'] at hx213_2)
       (try rw [show ((0 : Int)).toNat = 0 from rfl] at hx213_3)
       (try rw [show 0 * 5 = 0 from rfl] at hx213_3)
       (try rw [Addr.add_zero'] at hx213_3)
       (try rw [show ((0 : Int)).toNat = 0 from rfl] at hx213_4)
       (try rw [show 0 * 5 = 0 from rfl] at hx213_4)
       (try rw [Addr.add_zero'] at hx213_4)
       replace hx213_0 := keepc HB.out hx213_0
       replace hx213_1 := keepc HB.out hx213_1
       replace hx213_2 := keepc HB.out hx213_2
       replace hx213_3 := keepc HB.out hx213_3
       replace hx213_4 := keepc HB.out hx213_4
       have HR213_3 := mk0 hi213_3; have HC213_3 := mk0 hl213_3; clear hi213_3 hl213_3; have HR213_4 := mk0 hi213_4; have HC213_4 := mk0 hl213_4; clear hi213_4 hl213_4; replace p213 := eq_true p213; replace q213 := eq_true q213
       refine start_ (n := 7) (S := fun w' => w'.cell? ⟨gb205, 0, none⟩ = some (.int .i64 a0_0) ∧ w'.cell? ⟨gb205, 1, none⟩ = some (.int .i64 a0_1) ∧ w'.cell? ⟨gb205, 2, none⟩ = some (.string a0_2) ∧ w'.cell? ⟨gb205, 3, none⟩ = some (.slice A0_3 l0_3.length c0_3) ∧ w'.cell? ⟨gb205, 4, none⟩ = some (.slice (some ad213) l0_4.length c0_4) ∧ w'.cell? ⟨gb212, 0, none⟩ = some (.int .i64 ((rd_T30 l1_3 x149_3).f0)) ∧ w'.cell? ⟨gb212, 1, none⟩ = some (.int .i64 ((rd_T30 l1_3 x149_3).f1)) ∧ w'.cell? ⟨gb212, 2, none⟩ = some (.slice A211_2 ((rd_T30 l1_3 x149_3).f2).length c211_2) ∧ w'.cell? ⟨gb212, 3, none⟩ = some (.slice A211_3 ((rd_T30 l1_3 x149_3).f3).length c211_3) ∧ w'.cell? ad213 = some (.int .i64 ((rd_T26 l0_4 0).f0)) ∧ w'.cell? ⟨ad213.block, ad213.off + 1, none⟩ = some (.int .i64 ((rd_T26 l0_4 0).f1)) ∧ w'.cell? ⟨ad213.block, ad213.off + 2, none⟩ = some (.string ((rd_T26 l0_4 0).f2)) ∧ w'.cell? ⟨ad213.block, ad213.off + 3, none⟩ = some (.slice A213_3 ((rd_T26 l0_4 0).f3).length c213_3) ∧ w'.cell? ⟨ad213.block, ad213.off + 4, none⟩ = some (.slice A213_4 ((rd_T26 l0_4 0).f4).length c213_4)) (ds := []) #[false, false, false, false, false, false, false] (by kernel_rfl) rfl rfl ⟨bc BK205 0, bc BK205 1, bc BK205 2, bc BK205 3, bc BK205 4, bc BK212 0, bc BK212 1, bc BK212 2, bc BK212 3, (keepc HB.out hw213_0), (keepc HB.out hw213_1), (keepc HB.out hw213_2), (keepc HB.out hw213_3), (keepc HB.out hw213_4)⟩ (fun hHeld => ?_)
       generalize w125.drew = w126 at BK205 BK206 BK212 HB HR213_3 HR213_4 hx213_0 hx213_1 hx213_2 hx213_3 hx213_4 hHeld ⊢
       refine pure_ (i := 0) (N := some 153) (v := ?_) (a' := ?_) (tf 1 6) rfl rfl (by kernel_rfl) (fun _ _ _ h => h) (Or.inl ⟨by rfl, ?_⟩) ?_ ?_
       rotate_left
       ·intro w'
        go_simp
        with_reducible rfl
       rotate_left
       ·simp only [ps]
        rfl
       refine take_ (i := 1) (N := some 154) (v := ?_) (a' := ?_) (tf 2 5) rfl rfl (by kernel_rfl) (fun _ _ _ h => h) (Or.inl ⟨by rfl, ?_⟩) hHeld ?_ ?_
       rotate_left
       ·rintro w' ⟨s0, s1, s2, s3, s4, s5, s6, s7, s8, s9, s10, s11, s12, s13⟩
        go_simp
        with_reducible rfl
       rotate_left
       ·simp only [ps]
        rfl
       refine pure_ (i := 2) (N := some 155) (v := ?_) (a' := ?_) (tf 3 4) rfl rfl (by kernel_rfl) (fun _ _ _ h => h) (Or.inl ⟨by rfl, ?_⟩) ?_ ?_
       rotate_left
       ·intro w'
        go_simp
        with_reducible rfl
       rotate_left
       ·simp only [ps]
        rfl
       refine take_ (i := 3) (N := some 156) (v := ?_) (a' := ?_) (tf 4 3) rfl rfl (by kernel_rfl) (fun _ _ _ h => h) (Or.inl ⟨by rfl, ?_⟩) hHeld ?_ ?_
       rotate_left
       ·rintro w' ⟨s0, s1, s2, s3, s4, s5, s6, s7, s8, s9, s10, s11, s12, s13⟩
        go_simp
        with_reducible rfl
       rotate_left
       ·simp only [ps]
        rfl
       refine take_ (i := 4) (N := some 157) (v := ?_) (a' := ?_) (tf 5 2) rfl rfl (by kernel_rfl) (fun _ _ _ h => h) (Or.inl ⟨by rfl, ?_⟩) hHeld ?_ ?_
       rotate_left
       ·rintro w' ⟨s0, s1, s2, s3, s4, s5, s6, s7, s8, s9, s10, s11, s12, s13⟩
        go_simp
        with_reducible rfl
       rotate_left
       ·simp only [ps]
        rfl
       refine one_ (i := 5) (N := some 158) (tf 6 1) rfl rfl (by kernel_rfl) (by decide) (fun K hK => ?_)
       refine goes_ Try.func37 (by kernel_rfl) rfl #[.agg #[.int .i64 ((rd_T26 l0_4 0).f0), .int .i64 ((rd_T26 l0_4 0).f1), .string ((rd_T26 l0_4 0).f2), .slice A213_3 ((rd_T26 l0_4 0).f3).length c213_3, .slice A213_4 ((rd_T26 l0_4 0).f4).length c213_4], .agg #[.int .i64 ((rd_T30 l1_3 x149_3).f0), .int .i64 ((rd_T30 l1_3 x149_3).f1), .slice A211_2 ((rd_T30 l1_3 x149_3).f2).length c211_2, .slice A211_3 ((rd_T30 l1_3 x149_3).f3).length c211_3]] (by rfl) rfl rfl (by (try simp only [List.map_toArray, List.map_cons, List.map_nil]); first | done | rfl | (simp only [List.length_drop, List.length_take]; rfl)) ?_
       with_reducible refine (ih k3 (by have := HJ2.out; have := HJ99.out; have := HK3.out; omega) ((rd_T26 l0_4 0).f0) ((rd_T26 l0_4 0).f1) ((rd_T26 l0_4 0).f2) _ _ ((rd_T26 l0_4 0).f3) _ _ ((rd_T26 l0_4 0).f4) ((rd_T30 l1_3 x149_3).f0) ((rd_T30 l1_3 x149_3).f1) _ _ ((rd_T30 l1_3 x149_3).f2) _ _ ((rd_T30 l1_3 x149_3).f3) true _ ?side1 ?side2 ?side3 ?side4 ?side5 ?side6 ?side7 ?side8 A119.out).mono ?_
       (case side1 => exact cu HR213_3 HB)
       (case side2 => exact HC213_3.out)
       (case side3 => exact cu HR213_4 HB)
       (case side4 => exact HC213_4.out)
       (case side5 => exact cu HR211_2 HB)
       (case side6 => exact HC211_2.out)
       (case side7 => exact cu HR211_3 HB)
       (case side8 => exact HC211_3.out)
       rintro e w127 ⟨rfl, hb⟩
       refine ⟨_, rfl, ?_⟩
       have n0_ := kb BK205 hb
       have n1_ := kb BK206 hb
       have n2_ := kb BK212 hb
       have n3_ := kh3 HB GE205 GE206 GE212 hb
       clear BK205; clear BK206; clear BK212; clear HB; have BK205 := n0_; have BK206 := n1_; have BK212 := n2_; have HB := n3_; clear n0_ n1_ n2_ n3_
       try clear hb
       refine hK.out _ _ ⟨bc BK205 0, bc BK205 1, bc BK205 2, bc BK205 3, bc BK205 4, bc BK212 0, bc BK212 1, bc BK212 2, bc BK212 3, (keepc HB.out hw213_0), (keepc HB.out hw213_1), (keepc HB.out hw213_2), (keepc HB.out hw213_3), (keepc HB.out hw213_4)⟩ (fun hHeld => ?_)
       clear hK K
       refine norm_ (a' := ?_) ?_ ?_
       rotate_left
       ·show Act.put _ (some 158) _ = _
        simp only [ps]
        rfl
       refine pure_ (i := 6) (N := some 159) (v := ?_) (a' := ?_) (tf 7 0) rfl rfl (by kernel_rfl) (fun _ _ _ h => h) (Or.inl ⟨by rfl, ?_⟩) ?_ ?_
       rotate_left
       ·intro w'
        go_simp
        with_reducible rfl
       rotate_left
       ·simp only [ps]
        rfl
       refine done_ (by kernel_rfl) ?_
       try go_wp2
       go_roundg k3
       case measure => have := HJ2.out; have := HJ99.out; have := HK3.out; omega
       case rel => exact ⟨(wrap64 (x149_3 + 1)), rfl, H', ⟨by have := HJ2.out; have := HJ99.out; have := HK3.out; omega⟩, ⟨bu BK205⟩, ⟨bu BK206⟩, ⟨be3 HB GE205 GE206 GE212⟩⟩
end Go.Proofs.Ytojankgmedccdaa.PIs
