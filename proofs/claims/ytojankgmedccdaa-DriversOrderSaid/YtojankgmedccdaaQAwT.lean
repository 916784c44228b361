/- Part of the proof of LawDriversOrder: every definition and lemma is one that it names. -/
import Derived.Test.YtojankgmedccdaaQAwA
namespace Go.Proofs.Ytojankgmedccdaa.Aw
open Go.RowKit Own PTy Hand PIs PAw YtojankgmedccdaaW.PrintWords YtojankgmedccdaaW.PrintLast YtojankgmedccdaaW.PrintMore
set_option linter.unusedVariables false
set_option linter.unusedSimpArgs false
theorem nil0 {w : World} {S : Nat → Prop} {A : Option Addr} (h : Kd.C k30 w A ([] : List S30).length []) : Kd.F k30 w S A ([] : List S30).length [] := fun W' _ => ⟨rfl, Nat.zero_le _, fun h => absurd h (Nat.lt_irrefl 0)⟩
theorem e_all : drivers_all.f 6 [tr 7 0] = some [tr 7 0] := by kernel_rfl
theorem put5 {w : World} {g : Nat} {t : TypeId} {x0 x1 x2 x3 x4 : Value} (h : w.heap[g]? = some (.cells #[x0, x1, x2, x3, x4] t (0, 0))) (a b c d e : Value) :
  (((((w.setCell ⟨g, 0, none⟩ a).setCell ⟨g, 1, none⟩ b).setCell ⟨g, 2, none⟩ c).setCell ⟨g, 3, none⟩ d).setCell ⟨g, 4, none⟩ e).heap[g]? = some (.cells #[a, b, c, d, e] t (0, 0)) :=
 blk_put (blk_put (blk_put (blk_put (blk_put h 0 a rfl) 1 b rfl) 2 c rfl) 3 d rfl) 4 e rfl
section
variable {w : World} {S : Nat → Prop} {g : Nat} {b : Int} {l : List S63}
theorem far1 {v u : Value} {j : Nat} (h : PL w (fun k => k ≠ g) b l v) : PL (w.setCell ⟨g, j, none⟩ u) (fun k => k ≠ g) b l v := by
 obtain ⟨A, c, B, d, E, e, h1, h2, h3, h4, h5, h6⟩ := h
 exact ⟨A, c, B, d, E, e, h1, h2, h3, Kd.F_far h4 (fun _ hk => hk) u, Kd.F_far h5 (fun _ hk => hk) u, Kd.F_far h6 (fun _ hk => hk) u⟩
end
def tkT7 : Bool × List (List Nat × List Nat) := (true, [([], []), ([0], [0]), ([1], [1]), ([2], [2]), ([3], [3]), ([4], [4]), ([], []), ([6], [6]), ([7], [7]), ([8, 5], [8]), ([5, 9], [5, 9]), ([10, 9, 0, 1, 2, 3, 4, 5, 6, 7, 8, 9, 10], [10]), ([11, 0, 1, 2, 3, 4, 5, 6, 7, 8, 9, 10, 11], []), ([12, 0, 1, 2, 3, 4, 5, 6, 7, 8, 9, 10, 11, 12], [])])
def tkB7 : List Nat := [0, 1, 3, 7, 15, 31, 0, 64, 192, 511, 1023, 2047, 4095, 8191]
theorem tktab7 : rtab .any (opsOf Try.f28 7) = tkT7 := by kernel_rfl
theorem tkbits7 : waitsOk tkT7.2 tkB7 = true := by kernel_rfl
set_option maxHeartbeats 40000000 in
set_option maxRecDepth 100000 in
theorem takeC (w : World) (hG : Glob w) (v : Value) (hv : PL w (fun _ => True) 0 [tr 5 1, tr 7 0] v) :
  Calls Try.prog 28 #[tv, v, .int .i64 5] w fun e w' => ∃ p, e = .returned (.tuple #[p, .bool true, .int .i64 0]) ∧ PL w' (fun _ => True) 1 [tr 7 0] p ∧ Below w.heap.size w w' := by
 obtain ⟨A, c, B, d, E, e, rfl, l1, l2, h1, h2, h3⟩ := hv
 have hAr0 := Kd.F_cut (m := 1) h3 (by decide) l2
 obtain ⟨ad, A8, c8, B8, d8, rfl, hz5, _⟩ := at_T63 (Kd.F_now h3) 0 (by decide) (by decide)
 obtain ⟨_, A9, c9, B9, d9, hadr, hz0, hz1, hz2, hz3, hz4, hl9, hc9, _, hd9⟩ := at_T63 (Kd.F_now h3) 0 (by decide) (by decide)
 obtain rfl := Option.some.inj hadr
 rw [show ((0 : Int)).toNat * 5 = 0 from rfl, Addr.add_zero'] at hz0 hz1 hz2 hz3 hz4
 clear hz5
 obtain ⟨Ar, hAr⟩ : ∃ Ar, Ar = (if e = 1 then some ad else (some ad).map (·.add (1 * k63.sz))) := ⟨_, rfl⟩
 rw [← hAr] at hAr0
 have hAr1 := Kd.F_mono (Kd.F_bound hAr0) (ok' := fun k => k < w.heap.size) (fun k hk => hk.2)
 have hpl : PL w (fun _ => True) 0 [tr 5 1, tr 7 0] (.agg #[.int .i64 1, .int .i64 0, .slice A 1 c, .slice B 0 d, .slice (some ad) 2 e]) := ⟨A, c, B, d, some ad, e, rfl, l1, l2, h1, h2, h3⟩
 have hcut : (if e = 1 then some ad else some ⟨ad.block, ad.off + 5, none⟩) = Ar := by rw [hAr]; rfl
 have Qhpl := mk0 hpl
 have QhAr1 := mk0 hAr1
 have Qhz0 := mk0 hz0
 have Qhz1 := mk0 hz1
 have Qhz2 := mk0 hz2
 have Qhz3 := mk0 hz3
 have Qhz4 := mk0 hz4
 have Qhl9 := mk0 hl9
 have Qhc9 := mk0 hc9
 have Qhd9 := mk0 hd9
 have HG := mk0 hG; have H1 := mk0 (Kd.F_now h1); have H2 := mk0 (Kd.F_now h2); have H3 := mk0 (Kd.F_now h3); have HCUT := mk0 hcut; have L1 := mk0 l1; have L2 := mk0 l2
 clear hG hpl hAr1 hz0 hz1 hz2 hz3 hz4 hl9 hc9 hd9 h1 h2 h3 hAr0 hAr hcut l1
 have hu26 := Try.underlying26
 have hu30 := Try.underlying30
 have hu31 := Try.underlying31
 have hu33 := Try.underlying33
 have hu63 := Try.underlying63
 have HB := mk0 (Below.refl w.heap.size w)
 go_enter Try.func28, Try.ntmps28
 go_wp2_with (first | ((with_reducible refine box_event rfl (N := 3) rfl (cs := #[.int .i64 1, .int .i64 0, .string ⟨#[]⟩, .slice none 0 0, .slice none 0 0]) (t := 26) ?hr ?_); (case hr => first | (go_simp; done) | (go_simp; rfl)); intro gT hg w1 hbox hb; have HT := mk0 hbox; replace HB := kh HB hb; clear hb hbox hg) | ((with_reducible refine box_event rfl (N := 4) rfl (cs := #[.int .i64 1, .int .i64 0, .slice A 1 c, .slice B 0 d, .slice (some ad) 2 e]) (t := 33) ?hr ?_); (case hr => first | (go_simp; done) | (go_simp; rfl)); intro gP hg w2 hbox hb; have HP := mk0 hbox; replace HT := kb HT hb; replace HB := kh HB hb; clear hb hbox hg) | ((with_reducible refine box_event rfl (N := 6) rfl (cs := #[.int .i64 0, .int .i64 0, .slice none 0 0, .slice none 0 0, .slice none 0 0]) (t := 33) ?hr ?_); (case hr => first | (go_simp; done) | (go_simp; rfl)); intro gO hg w3 hbox hb; have HO := mk0 hbox; have G0 := bs (be HB) hg; replace HP := kb HP hb; replace HT := kb HT hb; replace HB := kh HB hb; clear hb hbox hg; have zT := cells5 HT.out; have zP := cells5 HP.out; have zx := keepc HB.out Qhz0.out) | (go_at_call 19; refine (isC 0 [tr 5 1, tr 7 0] _ (glob_below HG.out HB.out) (PL.up Qhpl.out HB.out) e_is).mono ?_; rintro e4 w4 ⟨rfl, hb⟩; replace HO := kb HO hb; replace HP := kb HP hb; replace HT := kb HT hb; replace HB := kh HB hb; clear hb zT zP zx; have zT := cells5 HT.out; have zP := cells5 HP.out; have zx := keepc HB.out Qhz0.out) | (go_at_call 50; refine (drivers_behind.calls 1 0 A c [0] B d [] (some ad) e [tr 5 1, tr 7 0] 5 false _ (Kd.C_below H1.out HB.out) L1.out (Kd.C_below H2.out HB.out) (Nat.zero_le _) (Kd.C_below H3.out HB.out) L2.out rfl).mono ?_; rintro e5 w5 ⟨rfl, hb⟩; replace HO := kb HO hb; replace HP := kb HP hb; replace HT := kb HT hb; replace HB := kh HB hb; clear hb zT zP zx; have zT := cells5 HT.out; have zP := cells5 HP.out; have zx := keepc HB.out Qhz0.out))
 clear zT zP zx HT
 refine start_ (n := 14) (S := fun w' => True) (ds := []) #[false, false, false, false, false, false, false, false, false, false, false, false, false, false] (by kernel_rfl) rfl rfl trivial (fun hHeld => ?_); refine with_tabW tktab7 tkbits7 (fun HT_ HW_ => ?_)
 have hd : Below w5.heap.size w5 w5.drew := below_drew1 (Below.refl _ _)
 have hO := mk0 (blk_below HO.out hd); have hP := mk0 (blk_below HP.out hd); have hE := mk0 (below_step HB.out hd); have hG0 := G0; have hB0 := mk0 (below_step HB.out hd)
 have hz0 : w5.drew.cell? ad = some (.int .i64 5) := keepc hE.out Qhz0.out
 have hz1 : w5.drew.cell? ⟨ad.block, ad.off + 1, none⟩ = some (.int .i64 1) := keepc hE.out Qhz1.out
 have hz2 : w5.drew.cell? ⟨ad.block, ad.off + 2, none⟩ = some (.int .i64 0) := keepc hE.out Qhz2.out
 have hz3 : w5.drew.cell? ⟨ad.block, ad.off + 3, none⟩ = some (.slice A9 1 c9) := keepc hE.out Qhz3.out
 have hz4 : w5.drew.cell? ⟨ad.block, ad.off + 4, none⟩ = some (.slice B9 0 d9) := keepc hE.out Qhz4.out
 have hc9 := mk0 (Kd.C_below Qhc9.out hE.out); have hd9 := mk0 (Kd.C_below Qhd9.out hE.out); have hl9 := Qhl9; have hAr := QhAr1
 have e2 : 2 ≤ e := L2.out
 clear hd hHeld HO HP HB H1 H2 H3 Qhz0 Qhz1 Qhz2 Qhz3 Qhz4 Qhpl HG Qhc9 Qhd9 Qhl9 QhAr1
 generalize w5.drew = wA at hO hP hE hB0 hz0 hz1 hz2 hz3 hz4 hc9 hd9 ⊢
 have hcut := HCUT.out
 refine inv_at [0, 1, 2, 3, 4, 5, 6, 7, 8, 9, 10, 11, 12, 13] (fun a0_ b a w' => ∃ (Av_ : Option Addr) (cv_ : Nat) (Bv_ : Option Addr) (dv_ : Nat) (AL_ : Option Addr) (cL_ : Nat) (m5_ : Value) (m9_ : Value) (m10_ : Value), a = putSel a0_ b [(0, 46, .pointer (some ⟨gP, 4, none⟩)), (1, 47, .slice (some ad) 2 e), (2, 48, .pointer (some ad)), (3, 49, .pointer (some ⟨ad.block, ad.off + 1, none⟩)), (4, 50, .agg #[.int .i64 1, .int .i64 0, .slice A9 1 c9, .slice B9 0 d9]), (5, 51, m5_), (6, 52, .pointer (some ⟨gP, 4, none⟩)), (7, 53, .slice (some ad) 2 e), (8, 54, .slice Ar 1 (e - 1)), (9, 55, m9_), (10, 56, m10_), (12, 7, .bool true), (13, 8, .int .i64 0)] ∧ (Below w.heap.size w w') ∧ (b 11 = false → Below wA.heap.size wA w') ∧ (b 5 = true → b 11 = false → 1 ≤ cv_ ∧ Kd.F (Kd.int .u8) w' (fun k => k ≠ gO) Av_ 1 [1] ∧ Kd.F k30 w' (fun k => k ≠ gO) Bv_ 0 []) ∧ (b 9 = true → b 11 = false → 1 ≤ cL_ ∧ Kd.F k63 w' (fun k => k ≠ gO) AL_ 1 [tr 7 0]) ∧ (b 11 = true → w'.heap[gO]? = some (.cells #[.int .i64 1, .int .i64 0, .slice Av_ 1 cv_, .slice Bv_ 0 dv_, .slice AL_ 1 cL_] 33 (0, 0)) ∧ PL w' (fun _ => True) 1 [tr 7 0] (.agg #[.int .i64 1, .int .i64 0, .slice Av_ 1 cv_, .slice Bv_ 0 dv_, .slice AL_ 1 cL_])) ∧ (b 5 = true → (m5_ : Value) = .agg #[.int .i64 1, .int .i64 0, .slice Av_ 1 cv_, .slice Bv_ 0 dv_]) ∧ (b 9 = true → (m9_ : Value) = .slice AL_ 1 cL_) ∧ (b 10 = true → (m10_ : Value) = .agg #[.int .i64 1, .int .i64 0, .slice Av_ 1 cv_, .slice Bv_ 0 dv_, .slice AL_ 1 cL_])) HT_.out HW_.out (by kernel_rfl) (by kernel_rfl) ?_ ?_ ?_
 ·exact ⟨none, 0, none, 0, none, 0, .bool false, .bool false, .bool false, by simp only [putSel, Bool.false_eq_true, if_false], hE.out, fun _ => (Below.refl _ _), fun h_ => absurd h_ (by decide), fun h_ => absurd h_ (by decide), fun h_ => absurd h_ (by decide), fun h_ => absurd h_ (by decide), fun h_ => absurd h_ (by decide), fun h_ => absurd h_ (by decide)⟩
 ·skip
  refine steps_cons ?_ ?_
  ·rintro b a w' ⟨Av_, cv_, Bv_, dv_, AL_, cL_, m5_, m9_, m10_, ha, Q_FE, Q_FB, Q_FV, Q_FL, Q_FD, Q_X5_, Q_X9_, Q_X10_⟩ hb_ hon hoff
   refine ⟨_, rfl, fun K hK => ?_⟩
   have e4 : a.tmps[4]? = some (.pointer (some ⟨gP, 0, none⟩)) := by rw [ha]; exact (putSel_off rfl).trans rfl
   replace ha := mk0 ha
   have FE := mk0 Q_FE
   have FB := mk0 (Q_FB (hoff 11 (by kernel_rfl)))
   refine value_ (w1 := w') (v := .pointer (some ⟨gP, 4, none⟩)) (by rfl) rfl ?_ ?_
   ·go_simp
    (try simp only [i64_w])
    try rfl
   refine hK.out _ _ ⟨Av_, cv_, Bv_, dv_, AL_, cL_, m5_, m9_, m10_, (by rw [ha.out]; exact putSel_upk 0 hb_ rfl rfl rfl), Q_FE, Q_FB, fun h0_ _ => absurd ((hoff 5 (by kernel_rfl)).symm.trans h0_) (by decide), fun h0_ _ => absurd ((hoff 9 (by kernel_rfl)).symm.trans h0_) (by decide), fun h0_ => absurd ((hoff 11 (by kernel_rfl)).symm.trans h0_) (by decide), fun h0_ => absurd ((hoff 5 (by kernel_rfl)).symm.trans h0_) (by decide), fun h0_ => absurd ((hoff 9 (by kernel_rfl)).symm.trans h0_) (by decide), fun h0_ => absurd ((hoff 10 (by kernel_rfl)).symm.trans h0_) (by decide)⟩
  refine steps_cons ?_ ?_
  ·rintro b a w' ⟨Av_, cv_, Bv_, dv_, AL_, cL_, m5_, m9_, m10_, ha, Q_FE, Q_FB, Q_FV, Q_FL, Q_FD, Q_X5_, Q_X9_, Q_X10_⟩ hb_ hon hoff
   refine ⟨_, rfl, fun K hK => ?_⟩
   have e46 : a.tmps[46]? = some (.pointer (some ⟨gP, 4, none⟩)) := by rw [ha]; exact putSel_on (e := (0, 46, .pointer (some ⟨gP, 4, none⟩))) 0 rfl rfl (hon 0 (by kernel_rfl)) rfl
   replace ha := mk0 ha
   have FE := mk0 Q_FE
   have FB := mk0 (Q_FB (hoff 11 (by kernel_rfl)))
   have z_ := cells5 (blk_below hP.out FB.out)
   refine value_ (w1 := w') (v := .slice (some ad) 2 e) (by rfl) rfl ?_ ?_
   ·go_simp
    (try simp only [i64_w])
    try rfl
   refine hK.out _ _ ⟨Av_, cv_, Bv_, dv_, AL_, cL_, m5_, m9_, m10_, (by rw [ha.out]; exact putSel_upk 1 hb_ rfl rfl rfl), Q_FE, Q_FB, fun h0_ _ => absurd ((hoff 5 (by kernel_rfl)).symm.trans h0_) (by decide), fun h0_ _ => absurd ((hoff 9 (by kernel_rfl)).symm.trans h0_) (by decide), fun h0_ => absurd ((hoff 11 (by kernel_rfl)).symm.trans h0_) (by decide), fun h0_ => absurd ((hoff 5 (by kernel_rfl)).symm.trans h0_) (by decide), fun h0_ => absurd ((hoff 9 (by kernel_rfl)).symm.trans h0_) (by decide), fun h0_ => absurd ((hoff 10 (by kernel_rfl)).symm.trans h0_) (by decide)⟩
  refine steps_cons ?_ ?_
  ·rintro b a w' ⟨Av_, cv_, Bv_, dv_, AL_, cL_, m5_, m9_, m10_, ha, Q_FE, Q_FB, Q_FV, Q_FL, Q_FD, Q_X5_, Q_X9_, Q_X10_⟩ hb_ hon hoff
   refine ⟨_, rfl, fun K hK => ?_⟩
   have e47 : a.tmps[47]? = some (.slice (some ad) 2 e) := by rw [ha]; exact putSel_on (e := (1, 47, .slice (some ad) 2 e)) 1 rfl rfl (hon 1 (by kernel_rfl)) rfl
   replace ha := mk0 ha
   have FE := mk0 Q_FE
   have FB := mk0 (Q_FB (hoff 11 (by kernel_rfl)))
   have i1 : decide ((0 : Int) < ((2 : Nat) : Int)) = true := rfl
   refine value_ (w1 := w') (v := .pointer (some ad)) (by rfl) rfl ?_ ?_
   ·go_simp
    (try simp only [i64_w])
    try rfl
   refine hK.out _ _ ⟨Av_, cv_, Bv_, dv_, AL_, cL_, m5_, m9_, m10_, (by rw [ha.out]; exact putSel_upk 2 hb_ rfl rfl rfl), Q_FE, Q_FB, fun h0_ _ => absurd ((hoff 5 (by kernel_rfl)).symm.trans h0_) (by decide), fun h0_ _ => absurd ((hoff 9 (by kernel_rfl)).symm.trans h0_) (by decide), fun h0_ => absurd ((hoff 11 (by kernel_rfl)).symm.trans h0_) (by decide), fun h0_ => absurd ((hoff 5 (by kernel_rfl)).symm.trans h0_) (by decide), fun h0_ => absurd ((hoff 9 (by kernel_rfl)).symm.trans h0_) (by decide), fun h0_ => absurd ((hoff 10 (by kernel_rfl)).symm.trans h0_) (by decide)⟩
  refine steps_cons ?_ ?_
  ·rintro b a w' ⟨Av_, cv_, Bv_, dv_, AL_, cL_, m5_, m9_, m10_, ha, Q_FE, Q_FB, Q_FV, Q_FL, Q_FD, Q_X5_, Q_X9_, Q_X10_⟩ hb_ hon hoff
   refine ⟨_, rfl, fun K hK => ?_⟩
   have e48 : a.tmps[48]? = some (.pointer (some ad)) := by rw [ha]; exact putSel_on (e := (2, 48, .pointer (some ad))) 2 rfl rfl (hon 2 (by kernel_rfl)) rfl
   replace ha := mk0 ha
   have FE := mk0 Q_FE
   have FB := mk0 (Q_FB (hoff 11 (by kernel_rfl)))
   refine value_ (w1 := w') (v := .pointer (some ⟨ad.block, ad.off + 1, none⟩)) (by rfl) rfl ?_ ?_
   ·go_simp
    (try simp only [i64_w])
    try rfl
   refine hK.out _ _ ⟨Av_, cv_, Bv_, dv_, AL_, cL_, m5_, m9_, m10_, (by rw [ha.out]; exact putSel_upk 3 hb_ rfl rfl rfl), Q_FE, Q_FB, fun h0_ _ => absurd ((hoff 5 (by kernel_rfl)).symm.trans h0_) (by decide), fun h0_ _ => absurd ((hoff 9 (by kernel_rfl)).symm.trans h0_) (by decide), fun h0_ => absurd ((hoff 11 (by kernel_rfl)).symm.trans h0_) (by decide), fun h0_ => absurd ((hoff 5 (by kernel_rfl)).symm.trans h0_) (by decide), fun h0_ => absurd ((hoff 9 (by kernel_rfl)).symm.trans h0_) (by decide), fun h0_ => absurd ((hoff 10 (by kernel_rfl)).symm.trans h0_) (by decide)⟩
  refine steps_cons ?_ ?_
  ·rintro b a w' ⟨Av_, cv_, Bv_, dv_, AL_, cL_, m5_, m9_, m10_, ha, Q_FE, Q_FB, Q_FV, Q_FL, Q_FD, Q_X5_, Q_X9_, Q_X10_⟩ hb_ hon hoff
   refine ⟨_, rfl, fun K hK => ?_⟩
   have e49 : a.tmps[49]? = some (.pointer (some ⟨ad.block, ad.off + 1, none⟩)) := by rw [ha]; exact putSel_on (e := (3, 49, .pointer (some ⟨ad.block, ad.off + 1, none⟩))) 3 rfl rfl (hon 3 (by kernel_rfl)) rfl
   replace ha := mk0 ha
   have FE := mk0 Q_FE
   have FB := mk0 (Q_FB (hoff 11 (by kernel_rfl)))
   have x0 := keepc FB.out hz0
   have x1 := keepc FB.out hz1
   have x2 := keepc FB.out hz2
   have x3 := keepc FB.out hz3
   have x4 := keepc FB.out hz4
   refine value_ (w1 := w') (v := .agg #[.int .i64 1, .int .i64 0, .slice A9 1 c9, .slice B9 0 d9]) (by rfl) rfl ?_ ?_
   ·go_simp
    (try simp only [i64_w])
    try rfl
   refine hK.out _ _ ⟨Av_, cv_, Bv_, dv_, AL_, cL_, m5_, m9_, m10_, (by rw [ha.out]; exact putSel_upk 4 hb_ rfl rfl rfl), Q_FE, Q_FB, fun h0_ _ => absurd ((hoff 5 (by kernel_rfl)).symm.trans h0_) (by decide), fun h0_ _ => absurd ((hoff 9 (by kernel_rfl)).symm.trans h0_) (by decide), fun h0_ => absurd ((hoff 11 (by kernel_rfl)).symm.trans h0_) (by decide), fun h0_ => absurd ((hoff 5 (by kernel_rfl)).symm.trans h0_) (by decide), fun h0_ => absurd ((hoff 9 (by kernel_rfl)).symm.trans h0_) (by decide), fun h0_ => absurd ((hoff 10 (by kernel_rfl)).symm.trans h0_) (by decide)⟩
  refine steps_cons ?_ ?_
  ·rintro b a w' ⟨Av_, cv_, Bv_, dv_, AL_, cL_, m5_, m9_, m10_, ha, Q_FE, Q_FB, Q_FV, Q_FL, Q_FD, Q_X5_, Q_X9_, Q_X10_⟩ hb_ hon hoff
   refine ⟨_, rfl, fun K hK => ?_⟩
   have e50 : a.tmps[50]? = some (.agg #[.int .i64 1, .int .i64 0, .slice A9 1 c9, .slice B9 0 d9]) := by rw [ha]; exact putSel_on (e := (4, 50, .agg #[.int .i64 1, .int .i64 0, .slice A9 1 c9, .slice B9 0 d9])) 4 rfl rfl (hon 4 (by kernel_rfl)) rfl
   replace ha := mk0 ha
   have FE := mk0 Q_FE
   have FB := mk0 (Q_FB (hoff 11 (by kernel_rfl)))
   refine goes_ Try.func51 (by kernel_rfl) rfl #[.agg #[.int .i64 1, .int .i64 0, .slice A9 1 c9, .slice B9 0 d9]] (by rfl) rfl rfl (by first | (simp only [List.map_toArray, List.map_cons, List.map_nil, Act.eval, Array.getD_eq_getD_getElem?, Option.getD_some, e50]; done) | (simp only [List.map_toArray, List.map_cons, List.map_nil, Act.eval, Array.getD_eq_getD_getElem?, Option.getD_some, e50]; rfl)) ?_
   refine (drivers_copied.calls 1 0 A9 c9 [1] (fun k => k < wA.heap.size ∧ k ≠ gO) B9 d9 [] 1 0 [1] [] _ (Kd.C_below hc9.out FB.out) hl9.out (Kd.V_mk (Nat.zero_le _) (nil0 (Kd.C_below hd9.out FB.out))) rfl).mono ?_
   rintro e2_ w2 ⟨v2, v3, rfl, k2, k3, hb⟩
   obtain ⟨A2, c2, rfl⟩ := Kd.R_slice k2
   obtain ⟨B2, d2, rfl⟩ := Kd.V_slice k3
   refine ⟨_, rfl, ?_⟩
   refine hK.out _ _ ⟨A2, c2, B2, d2, AL_, cL_, (.agg #[.int .i64 1, .int .i64 0, .slice A2 1 c2, .slice B2 0 d2]), m9_, m10_, (by rw [ha.out]; exact putSel_upk 5 hb_ rfl rfl rfl), (below_step FE.out hb), fun _ => (below_step FB.out hb), fun _ _ => ⟨(Kd.R_reads' k2).2.1, Kd.F_mono (Kd.R_F k2) (fun k hk => Nat.ne_of_gt (Nat.lt_of_lt_of_le (blk_lt (blk_below hO.out FB.out)) hk)), nil0 (Kd.V_reads' k3).2.2⟩, fun h0_ _ => absurd ((hoff 9 (by kernel_rfl)).symm.trans h0_) (by decide), fun h0_ => absurd ((hoff 11 (by kernel_rfl)).symm.trans h0_) (by decide), fun _ => rfl, fun h0_ => absurd ((hoff 9 (by kernel_rfl)).symm.trans h0_) (by decide), fun h0_ => absurd ((hoff 10 (by kernel_rfl)).symm.trans h0_) (by decide)⟩
  refine steps_cons ?_ ?_
  ·rintro b a w' ⟨Av_, cv_, Bv_, dv_, AL_, cL_, m5_, m9_, m10_, ha, Q_FE, Q_FB, Q_FV, Q_FL, Q_FD, Q_X5_, Q_X9_, Q_X10_⟩ hb_ hon hoff
   refine ⟨_, rfl, fun K hK => ?_⟩
   have e4 : a.tmps[4]? = some (.pointer (some ⟨gP, 0, none⟩)) := by rw [ha]; exact (putSel_off rfl).trans rfl
   replace ha := mk0 ha
   have FE := mk0 Q_FE
   have FB := mk0 (Q_FB (hoff 11 (by kernel_rfl)))
   refine value_ (w1 := w') (v := .pointer (some ⟨gP, 4, none⟩)) (by rfl) rfl ?_ ?_
   ·go_simp
    (try simp only [i64_w])
    try rfl
   refine hK.out _ _ ⟨Av_, cv_, Bv_, dv_, AL_, cL_, m5_, m9_, m10_, (by rw [ha.out]; exact putSel_upk 6 hb_ rfl rfl rfl), Q_FE, Q_FB, Q_FV, fun h0_ _ => absurd ((hoff 9 (by kernel_rfl)).symm.trans h0_) (by decide), fun h0_ => absurd ((hoff 11 (by kernel_rfl)).symm.trans h0_) (by decide), Q_X5_, fun h0_ => absurd ((hoff 9 (by kernel_rfl)).symm.trans h0_) (by decide), fun h0_ => absurd ((hoff 10 (by kernel_rfl)).symm.trans h0_) (by decide)⟩
  refine steps_cons ?_ ?_
  ·rintro b a w' ⟨Av_, cv_, Bv_, dv_, AL_, cL_, m5_, m9_, m10_, ha, Q_FE, Q_FB, Q_FV, Q_FL, Q_FD, Q_X5_, Q_X9_, Q_X10_⟩ hb_ hon hoff
   refine ⟨_, rfl, fun K hK => ?_⟩
   have e52 : a.tmps[52]? = some (.pointer (some ⟨gP, 4, none⟩)) := by rw [ha]; exact putSel_on (e := (6, 52, .pointer (some ⟨gP, 4, none⟩))) 6 rfl rfl (hon 6 (by kernel_rfl)) rfl
   replace ha := mk0 ha
   have FE := mk0 Q_FE
   have FB := mk0 (Q_FB (hoff 11 (by kernel_rfl)))
   have z_ := cells5 (blk_below hP.out FB.out)
   refine value_ (w1 := w') (v := .slice (some ad) 2 e) (by rfl) rfl ?_ ?_
   ·go_simp
    (try simp only [i64_w])
    try rfl
   refine hK.out _ _ ⟨Av_, cv_, Bv_, dv_, AL_, cL_, m5_, m9_, m10_, (by rw [ha.out]; exact putSel_upk 7 hb_ rfl rfl rfl), Q_FE, Q_FB, Q_FV, fun h0_ _ => absurd ((hoff 9 (by kernel_rfl)).symm.trans h0_) (by decide), fun h0_ => absurd ((hoff 11 (by kernel_rfl)).symm.trans h0_) (by decide), Q_X5_, fun h0_ => absurd ((hoff 9 (by kernel_rfl)).symm.trans h0_) (by decide), fun h0_ => absurd ((hoff 10 (by kernel_rfl)).symm.trans h0_) (by decide)⟩
  refine steps_cons ?_ ?_
  ·rintro b a w' ⟨Av_, cv_, Bv_, dv_, AL_, cL_, m5_, m9_, m10_, ha, Q_FE, Q_FB, Q_FV, Q_FL, Q_FD, Q_X5_, Q_X9_, Q_X10_⟩ hb_ hon hoff
   refine ⟨_, rfl, fun K hK => ?_⟩
   have e53 : a.tmps[53]? = some (.slice (some ad) 2 e) := by rw [ha]; exact putSel_on (e := (7, 53, .slice (some ad) 2 e)) 7 rfl rfl (hon 7 (by kernel_rfl)) rfl
   replace ha := mk0 ha
   have FE := mk0 Q_FE
   have FB := mk0 (Q_FB (hoff 11 (by kernel_rfl)))
   have r_ := hcut
   refine value_ (w1 := w') (v := .slice Ar 1 (e - 1)) (by rfl) rfl ?_ ?_
   ·go_simp
    (try simp only [i64_w])
    try rfl
   refine hK.out _ _ ⟨Av_, cv_, Bv_, dv_, AL_, cL_, m5_, m9_, m10_, (by rw [ha.out]; exact putSel_upk 8 hb_ rfl rfl rfl), Q_FE, Q_FB, Q_FV, fun h0_ _ => absurd ((hoff 9 (by kernel_rfl)).symm.trans h0_) (by decide), fun h0_ => absurd ((hoff 11 (by kernel_rfl)).symm.trans h0_) (by decide), Q_X5_, fun h0_ => absurd ((hoff 9 (by kernel_rfl)).symm.trans h0_) (by decide), fun h0_ => absurd ((hoff 10 (by kernel_rfl)).symm.trans h0_) (by decide)⟩
  refine steps_cons ?_ ?_
  ·rintro b a w' ⟨Av_, cv_, Bv_, dv_, AL_, cL_, m5_, m9_, m10_, ha, Q_FE, Q_FB, Q_FV, Q_FL, Q_FD, Q_X5_, Q_X9_, Q_X10_⟩ hb_ hon hoff
   refine ⟨_, rfl, fun K hK => ?_⟩
   have e54 : a.tmps[54]? = some (.slice Ar 1 (e - 1)) := by rw [ha]; exact putSel_on (e := (8, 54, .slice Ar 1 (e - 1))) 8 rfl rfl (hon 8 (by kernel_rfl)) rfl
   replace ha := mk0 ha
   have FE := mk0 Q_FE
   have FB := mk0 (Q_FB (hoff 11 (by kernel_rfl)))
   have FV := mk0 (Q_FV (hon 5 (by kernel_rfl)) (hoff 11 (by kernel_rfl)))
   refine goes_ Try.func52 (by kernel_rfl) rfl #[.slice Ar 1 (e - 1)] (by rfl) rfl rfl (by first | (simp only [List.map_toArray, List.map_cons, List.map_nil, Act.eval, Array.getD_eq_getD_getElem?, Option.getD_some, e54]; done) | (simp only [List.map_toArray, List.map_cons, List.map_nil, Act.eval, Array.getD_eq_getD_getElem?, Option.getD_some, e54]; rfl)) ?_
   refine (drivers_all.calls 6 (fun k => k < w.heap.size) Ar (e - 1) [tr 7 0] [tr 7 0] _ (Kd.V_mk (by show 1 ≤ e - 1; omega) (Kd.F_below (Kd.F_below hAr.out hB0.out) FB.out)) e_all).mono ?_
   rintro e2_ w2 ⟨v2, rfl, k2, hb⟩
   obtain ⟨A2, c2, rfl⟩ := Kd.N_slice k2
   refine ⟨_, rfl, ?_⟩
   refine hK.out _ _ ⟨Av_, cv_, Bv_, dv_, A2, c2, m5_, (.slice A2 1 c2), m10_, (by rw [ha.out]; exact putSel_upk 9 hb_ rfl rfl rfl), (below_step FE.out hb), fun _ => (below_step FB.out hb), fun _ _ => ⟨FV.out.1, Kd.F_below FV.out.2.1 hb, Kd.F_below FV.out.2.2 hb⟩, fun _ _ => ⟨(Kd.N_reads' k2).2.1, Kd.F_mono (Kd.N_F k2) (fun k hk => hk.elim (fun h => Nat.ne_of_lt (Nat.lt_of_lt_of_le h hG0.out)) ((fun k hk => Nat.ne_of_gt (Nat.lt_of_lt_of_le (blk_lt (blk_below hO.out FB.out)) hk)) k))⟩, fun h0_ => absurd ((hoff 11 (by kernel_rfl)).symm.trans h0_) (by decide), Q_X5_, fun _ => rfl, fun h0_ => absurd ((hoff 10 (by kernel_rfl)).symm.trans h0_) (by decide)⟩
  refine steps_cons ?_ ?_
  ·rintro b a w' ⟨Av_, cv_, Bv_, dv_, AL_, cL_, m5_, m9_, m10_, ha, Q_FE, Q_FB, Q_FV, Q_FL, Q_FD, Q_X5_, Q_X9_, Q_X10_⟩ hb_ hon hoff
   refine ⟨_, rfl, fun K hK => ?_⟩
   have e51 : a.tmps[51]? = some (m5_) := by rw [ha]; exact putSel_on (e := (5, 51, m5_)) 5 rfl rfl (hon 5 (by kernel_rfl)) rfl
   rw [Q_X5_ (hon 5 (by kernel_rfl))] at e51
   have e55 : a.tmps[55]? = some (m9_) := by rw [ha]; exact putSel_on (e := (9, 55, m9_)) 9 rfl rfl (hon 9 (by kernel_rfl)) rfl
   rw [Q_X9_ (hon 9 (by kernel_rfl))] at e55
   replace ha := mk0 ha
   have FE := mk0 Q_FE
   have FB := mk0 (Q_FB (hoff 11 (by kernel_rfl)))
   have FV := mk0 (Q_FV (hon 5 (by kernel_rfl)) (hoff 11 (by kernel_rfl)))
   have FL := mk0 (Q_FL (hon 9 (by kernel_rfl)) (hoff 11 (by kernel_rfl)))
   refine value_ (w1 := w') (v := .agg #[.int .i64 1, .int .i64 0, .slice Av_ 1 cv_, .slice Bv_ 0 dv_, .slice AL_ 1 cL_]) (by rfl) rfl ?_ ?_
   ·go_simp
    (try simp only [i64_w])
    try rfl
   refine hK.out _ _ ⟨Av_, cv_, Bv_, dv_, AL_, cL_, m5_, m9_, (.agg #[.int .i64 1, .int .i64 0, .slice Av_ 1 cv_, .slice Bv_ 0 dv_, .slice AL_ 1 cL_]), (by rw [ha.out]; exact putSel_upk 10 hb_ rfl rfl rfl), Q_FE, Q_FB, Q_FV, Q_FL, fun h0_ => absurd ((hoff 11 (by kernel_rfl)).symm.trans h0_) (by decide), Q_X5_, Q_X9_, fun _ => rfl⟩
  refine steps_cons ?_ ?_
  ·rintro b a w' ⟨Av_, cv_, Bv_, dv_, AL_, cL_, m5_, m9_, m10_, ha, Q_FE, Q_FB, Q_FV, Q_FL, Q_FD, Q_X5_, Q_X9_, Q_X10_⟩ hb_ hon hoff
   refine ⟨_, rfl, fun K hK => ?_⟩
   have e6 : a.tmps[6]? = some (.pointer (some ⟨gO, 0, none⟩)) := by rw [ha]; exact (putSel_off rfl).trans rfl
   have e56 : a.tmps[56]? = some (m10_) := by rw [ha]; exact putSel_on (e := (10, 56, m10_)) 10 rfl rfl (hon 10 (by kernel_rfl)) rfl
   rw [Q_X10_ (hon 10 (by kernel_rfl))] at e56
   replace ha := mk0 ha
   have FE := mk0 Q_FE
   have FB := mk0 (Q_FB hb_)
   have FV := mk0 (Q_FV (hon 5 (by kernel_rfl)) hb_)
   have FL := mk0 (Q_FL (hon 9 (by kernel_rfl)) hb_)
   have z_ := cells5 (blk_below hO.out FB.out)
   refine skip_ (w1 := ?_) (by rfl) rfl ?_ ?_
   rotate_left
   ·go_simp
    rfl
   refine hK.out _ _ ⟨Av_, cv_, Bv_, dv_, AL_, cL_, m5_, m9_, m10_, (by rw [ha.out]; exact putSel_none (v := undef) rfl), (be1 FE hG0), fun h0_ => absurd ((up_self b 11).symm.trans h0_) (by decide), fun _ h1_ => absurd ((up_self b 11).symm.trans h1_) (by decide), fun _ h1_ => absurd ((up_self b 11).symm.trans h1_) (by decide), fun _ => ⟨put5 (blk_below hO.out FB.out) _ _ _ _ _, PL.mono (far1 (far1 (far1 (far1 (far1 ⟨Av_, cv_, Bv_, dv_, AL_, cL_, rfl, FV.out.1, FL.out.1, FV.out.2.1, FV.out.2.2, FL.out.2⟩))))) (fun _ _ _ => trivial)⟩, Q_X5_, Q_X9_, Q_X10_⟩
  refine steps_cons ?_ ?_
  ·rintro b a w' ⟨Av_, cv_, Bv_, dv_, AL_, cL_, m5_, m9_, m10_, ha, Q_FE, Q_FB, Q_FV, Q_FL, Q_FD, Q_X5_, Q_X9_, Q_X10_⟩ hb_ hon hoff
   refine ⟨_, rfl, fun K hK => ?_⟩
   replace ha := mk0 ha
   have FE := mk0 Q_FE
   have FD := mk0 (Q_FD (hon 11 (by kernel_rfl)))
   refine value_ (w1 := w') (v := .bool true) (by rfl) rfl ?_ ?_
   ·go_simp
    (try simp only [i64_w])
    try rfl
   refine hK.out _ _ ⟨Av_, cv_, Bv_, dv_, AL_, cL_, m5_, m9_, m10_, (by rw [ha.out]; exact putSel_upk 11 hb_ rfl rfl rfl), Q_FE, fun h0_ => absurd ((hon 11 (by kernel_rfl)).symm.trans h0_) (by decide), fun _ h1_ => absurd ((hon 11 (by kernel_rfl)).symm.trans h1_) (by decide), fun _ h1_ => absurd ((hon 11 (by kernel_rfl)).symm.trans h1_) (by decide), Q_FD, Q_X5_, Q_X9_, Q_X10_⟩
  refine steps_cons ?_ ?_
  ·rintro b a w' ⟨Av_, cv_, Bv_, dv_, AL_, cL_, m5_, m9_, m10_, ha, Q_FE, Q_FB, Q_FV, Q_FL, Q_FD, Q_X5_, Q_X9_, Q_X10_⟩ hb_ hon hoff
   refine ⟨_, rfl, fun K hK => ?_⟩
   replace ha := mk0 ha
   have FE := mk0 Q_FE
   have FD := mk0 (Q_FD (hon 11 (by kernel_rfl)))
   refine value_ (w1 := w') (v := .int .i64 0) (by rfl) rfl ?_ ?_
   ·go_simp
    (try simp only [i64_w])
    try rfl
   refine hK.out _ _ ⟨Av_, cv_, Bv_, dv_, AL_, cL_, m5_, m9_, m10_, (by rw [ha.out]; exact putSel_upk 12 hb_ rfl rfl rfl), Q_FE, fun h0_ => absurd ((hon 11 (by kernel_rfl)).symm.trans h0_) (by decide), fun _ h1_ => absurd ((hon 11 (by kernel_rfl)).symm.trans h1_) (by decide), fun _ h1_ => absurd ((hon 11 (by kernel_rfl)).symm.trans h1_) (by decide), Q_FD, Q_X5_, Q_X9_, Q_X10_⟩
  exact steps_nil
 rintro b a w' hall ⟨Av_, cv_, Bv_, dv_, AL_, cL_, m5_, m9_, m10_, ha, Q_FE, Q_FB, Q_FV, Q_FL, Q_FD, Q_X5_, Q_X9_, Q_X10_⟩
 have hb0_ := hall 0 (by kernel_rfl)
 have hb1_ := hall 1 (by kernel_rfl)
 have hb2_ := hall 2 (by kernel_rfl)
 have hb3_ := hall 3 (by kernel_rfl)
 have hb4_ := hall 4 (by kernel_rfl)
 have hb5_ := hall 5 (by kernel_rfl)
 have hb6_ := hall 6 (by kernel_rfl)
 have hb7_ := hall 7 (by kernel_rfl)
 have hb8_ := hall 8 (by kernel_rfl)
 have hb9_ := hall 9 (by kernel_rfl)
 have hb10_ := hall 10 (by kernel_rfl)
 have hb11_ := hall 11 (by kernel_rfl)
 have hb12_ := hall 12 (by kernel_rfl)
 have hb13_ := hall 13 (by kernel_rfl)
 subst ha
 obtain rfl := Q_X5_ hb5_
 obtain rfl := Q_X9_ hb9_
 obtain rfl := Q_X10_ hb10_
 simp only [putSel, hb0_, hb1_, hb2_, hb3_, hb4_, hb5_, hb6_, hb7_, hb8_, hb9_, hb10_, hb11_, hb12_, hb13_, if_true, Act.put, List.setIfInBounds_toArray, List.set_cons_zero, List.set_cons_succ]
 have FE := mk0 Q_FE
 clear Q_FE
 clear Q_FB
 clear Q_FV
 clear Q_FL
 have FD := mk0 (Q_FD hb11_)
 clear Q_FD
 clear hall hb0_ hb1_ hb2_ hb3_ hb4_ hb5_ hb6_ hb7_ hb8_ hb9_ hb10_ hb11_ hb12_ hb13_
 have q := FD.out
 try go_wp2
 refine bodyPost_ret (results_ctt rfl _ _ gO 33 #[.int .i64 1, .int .i64 0, .slice Av_ 1 cv_, .slice Bv_ 0 dv_, .slice AL_ 1 cL_] (0, 0) _ rfl q.1 Try.underlying33 rfl (by kernel_rfl)) rfl ?_
 exact ⟨_, rfl, q.2, FE.out⟩
end Go.Proofs.Ytojankgmedccdaa.Aw
