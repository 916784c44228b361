/- Part of the proof of LawDriversResolves: every definition and lemma is one that it names. -/
import Derived.Test.YtojankgmedccdaaZPRsx0
import Derived.Test.YtojankgmedccdaaZPRsx1
import Derived.Test.YtojankgmedccdaaZPRsx2
namespace Go.Proofs.Ytojankgmedccdaa.PRs
open Go.RowKit Own PTy Hand PIs PAw YtojankgmedccdaaW.PrintWords YtojankgmedccdaaW.PrintLast YtojankgmedccdaaW.PrintMore
attribute [local go_sem] max2_int min2_int max_two min_two max_three min_three max_four min_four
set_option linter.unusedVariables false
set_option linter.unusedSimpArgs false
mutual
def r15Resolve.j0 : Nat → List (S30) → Bool → Int → Int → ByteArray → List ByteArray → List (S26) → Option (Int × Int × List Int × (List (S30)) × Int)
 | 0, _, _, _, _, _, _, _ => none
 | k + 1, x1, x18, x149000, x149001, x149002, x149003, x149004 => if x18 = true then (some (0, 0, ([] : List Int), ([] : List (S30)), 2)) else (r15Resolve.l0 k x1 ([] : List Int) x1 (x1.length : Int) 0 x149000 x149001 x149002 x149003 x149004)
def r15Resolve.l0 : Nat → List (S30) → List Int → List (S30) → Int → Int → Int → Int → ByteArray → List ByteArray → List (S26) → Option (Int × Int × List Int × (List (S30)) × Int)
 | 0, _, _, _, _, _, _, _, _, _, _ => none
 | k + 1, x1, x6, x20, x21, x22, x149000, x149001, x149002, x149003, x149004 => if x22 < x21 then (if 0 ≤ x22 then (if x22 < (x20.length : Int) then ((r04Has.f k x149000 x149001 x149002 x149003 x149004 ((rd_T30 x20 x22).f0) ((rd_T30 x20 x22).f1) ((rd_T30 x20 x22).f2) ((rd_T30 x20 x22).f3)).bind fun t153 => (if t153 = true then (if x6.length + ((rd_T30 x20 x22).f2).length < 140737488355328 then (r15Resolve.l0 k x1 (x6 ++ ((rd_T30 x20 x22).f2)) x20 x21 (wrap64 (x22 + 1)) x149000 x149001 x149002 x149003 x149004) else (none)) else (some (0, 0, ([] : List Int), ([] : List (S30)), 2)))) else (none)) else (none)) else (if (x1.length : Int) = 1 then (if 0 < (x1.length : Int) then ((r15own.f ((rd_T30 x1 0).f0) ((rd_T30 x1 0).f1) ((rd_T30 x1 0).f2) ((rd_T30 x1 0).f3)).bind fun bt158 => (some (bt158.1, bt158.2.1, bt158.2.2.1, bt158.2.2.2, 0))) else (none)) else (if x149000 = 1 then ((r01Resolve.f k x6).bind fun bt166 => (some (1, 0, (([bt166.1] : List Int)), ([] : List (S30)), 0))) else (some (0, 0, ([] : List Int), ([] : List (S30)), 22))))
end
def r15Resolve.f (k : Nat) (a0_0 : Int) (a0_1 : Int) (a0_2 : ByteArray) (l0_3 : List ByteArray) (l0_4 : List (S26)) (l1 : List (S30)) : Option (Int × Int × List Int × (List (S30)) × Int) := (r15Scalar.f k a0_0 a0_1 a0_2 l0_3 l0_4).bind fun t150 => (if t150 = true then (r15Resolve.j0 k l1 ((l1.length : Int) == 0) a0_0 a0_1 a0_2 l0_3 l0_4) else (r15Resolve.j0 k l1 true a0_0 a0_1 a0_2 l0_3 l0_4))
theorem r15Resolve.mono_l : ∀ k, (∀ y0 y1 y2 y3 y4 y5 y6, LeO (r15Resolve.j0 k y0 y1 y2 y3 y4 y5 y6) (r15Resolve.j0 (k + 1) y0 y1 y2 y3 y4 y5 y6)) ∧ (∀ y0 y1 y2 y3 y4 y5 y6 y7 y8 y9, LeO (r15Resolve.l0 k y0 y1 y2 y3 y4 y5 y6 y7 y8 y9) (r15Resolve.l0 (k + 1) y0 y1 y2 y3 y4 y5 y6 y7 y8 y9))
 | 0 => ⟨fun _ _ _ _ _ _ _ r h => by simp [r15Resolve.j0] at h, fun _ _ _ _ _ _ _ _ _ _ r h => by simp [r15Resolve.l0] at h⟩
 | k + 1 => by
  obtain ⟨ih0, ih1⟩ := r15Resolve.mono_l k
  refine ⟨?_, ?_⟩ <;> intros <;> (first | unfold r15Resolve.j0 | unfold r15Resolve.l0) <;> repeat' first | (with_reducible first | apply ih0 | apply ih1 | apply r01Resolve.mono | apply r04Has.mono | apply r15Scalar.mono | apply LeO.refl | apply LeO.none | refine LeO.ite ?_ ?_ | refine LeO.bind ?_ (fun _ => ?_)) | apply ih0 | apply ih1 | apply r01Resolve.mono | apply r04Has.mono | apply r15Scalar.mono | apply LeO.none | refine LeO.ite ?_ ?_ | refine LeO.bind ?_ (fun _ => ?_)
theorem r15Resolve.mono : ∀ a0 a1 a2 a3 a4 a5 k, LeO (r15Resolve.f k a0 a1 a2 a3 a4 a5) (r15Resolve.f (k + 1) a0 a1 a2 a3 a4 a5) := by
 intro a0 a1 a2 a3 a4 a5 k
 obtain ⟨ih0, ih1⟩ := r15Resolve.mono_l k
 unfold r15Resolve.f
 repeat' first
   | (with_reducible exact ih0 _ _ _ _ _ _ _)
   | (with_reducible exact ih1 _ _ _ _ _ _ _ _ _ _)
   | (with_reducible exact r01Resolve.mono _ _)
   | (with_reducible exact r04Has.mono _ _ _ _ _ _ _ _ _ _)
   | (with_reducible exact r15Scalar.mono _ _ _ _ _ _)
   | (with_reducible exact LeO.refl _)
   | (with_reducible exact LeO.none _)
   | (with_reducible refine LeO.ite ?_ ?_)
   | (with_reducible refine LeO.bind ?_ (fun _ => ?_))
   | exact ih0 _ _ _ _ _ _ _
   | exact ih1 _ _ _ _ _ _ _ _ _ _
   | exact r01Resolve.mono _ _
   | exact r04Has.mono _ _ _ _ _ _ _ _ _ _
   | exact r15Scalar.mono _ _ _ _ _ _
   | exact LeO.none _
   | refine LeO.ite ?_ ?_
   | refine LeO.bind ?_ (fun _ => ?_)
set_option maxHeartbeats 8000000 in
set_option maxRecDepth 100000 in
theorem r15Resolve.calls (k : Nat) (a0_0 : Int) (a0_1 : Int) (a0_2 : ByteArray) (A0_3 : Option Addr) (c0_3 : Nat) (l0_3 : List ByteArray) (A0_4 : Option Addr) (c0_4 : Nat) (l0_4 : List (S26)) (A1 : Option Addr) (c1 : Nat) (l1 : List (S30)) (r1 : Int) (r2 : Int) (r3 : List Int) (r4 : List (S30)) (r5 : Int) (w : World) (hr0_3 : Kd.C Kd.string w A0_3 l0_3.length l0_3) (hc0_3 : l0_3.length ≤ c0_3) (hr0_4 : Kd.C k26 w A0_4 l0_4.length l0_4) (hc0_4 : l0_4.length ≤ c0_4) (hr1 : Kd.C k30 w A1 l1.length l1) (hc1 : l1.length ≤ c1) (h : r15Resolve.f k a0_0 a0_1 a0_2 l0_3 l0_4 l1 = some (r1, r2, r3, r4, r5)) :
  Calls Try.prog 31 #[.agg #[.int .i64 a0_0, .int .i64 a0_1, .string a0_2, .slice A0_3 l0_3.length c0_3, .slice A0_4 l0_4.length c0_4], .slice A1 l1.length c1] w fun e w' => ∃ v2_ v3_ : Value, e = .returned (.tuple #[.agg #[.int .i64 r1, .int .i64 r2, v2_, v3_], .int .i64 r5]) ∧ Kd.R (Kd.int .u8) 73 w' w.heap.size (fun _ => True) v2_ r3 ∧ Kd.R k30 30 w' w.heap.size (fun k_ => some k_ ≠ (v2_ : Value).ownBlock) v3_ r4 ∧ Below w.heap.size w w' := by
 have hu26 := Try.underlying26
 have hu30 := Try.underlying30
 have HR0_3 := mk0 hr0_3; have HC0_3 := mk0 hc0_3; clear hr0_3 hc0_3; have HR0_4 := mk0 hr0_4; have HC0_4 := mk0 hc0_4; clear hr0_4 hc0_4; have HR1 := mk0 hr1; have HC1 := mk0 hc1; clear hr1 hc1
 have HB := mk0 (Below.refl w.heap.size w)
 have H := h; unfold r15Resolve.f at H
 clear h; have HC3 := mk0 H; clear H
 go_enter Try.func31, Try.ntmps31
 go_upto_region 1 with (first | ((with_reducible refine box_event rfl (N := 2) rfl (cs := #[.int .i64 a0_0, .int .i64 a0_1, .string a0_2, .slice A0_3 l0_3.length c0_3, .slice A0_4 l0_4.length c0_4]) (t := 26) ?hr ?_); (case hr => first | (go_simp; done) | (go_simp; rfl)); intro gb148 hg w4 hbox hb; have BK148 := mk0 (hbox); have GE148 := bs (be HB) hg; replace HB := kh HB hb; clear hb hbox hg) | ((with_reducible refine box_event rfl (N := 4) rfl (cs := #[.int .i64 0, .int .i64 0, .slice none 0 0, .slice none 0 0]) (t := 30) ?hr ?_); (case hr => first | (go_simp; done) | (go_simp; rfl)); intro gb149 hg w5 hbox hb; have BK149 := mk0 (hbox); have GE149 := bs (be1 HB GE148) hg; replace HB := kh1 HB GE148 hb; have NB148_149 := nb1 (bu BK148) hg; have NB149_148 := nb2 (bu BK148) hg; replace BK148 := kb BK148 hb; clear hb hbox hg))
 (try simp only [Act.put, List.setIfInBounds_toArray, List.set_cons_zero, List.set_cons_succ])
 go_cut [18] (fun v18 wc => ∃ (kq : Nat) (x18_2 : Bool), v18 = .bool x18_2 ∧ Aside0 (r15Resolve.j0 kq l1 x18_2 a0_0 a0_1 a0_2 l0_3 l0_4 = some (r1, r2, r3, r4, r5)) ∧ Aside0 (kq ≤ k) ∧ Aside0 (wc.heap[gb148]? = some (.cells #[.int .i64 a0_0, .int .i64 a0_1, .string a0_2, (.slice A0_3 l0_3.length c0_3), (.slice A0_4 l0_4.length c0_4)] 26 (0, 0))) ∧ Aside0 (wc.heap[gb149]? = some (.cells #[.int .i64 0, .int .i64 0, (.slice none 0 0), (.slice none 0 0)] 30 (0, 0))) ∧ Aside0 (Below w.heap.size w wc))
 case first =>
  have H := HC3.out; clear HC3
  replace H := bS H; obtain ⟨t150, A6, H⟩ := H
  replace H := iB H; obtain ⟨rfl, H⟩ | ⟨rfl, H⟩ := H
  ·have H' := mk0 H
   clear H; have hnb8 := NB148_149.out; have hnc8 := NB149_148.out
   have zc9 := cells5 BK148.out
   go_wp2_with ((with_reducible refine gate_callee (f := 18) rfl ?_); refine goB (some 12) rfl rfl Try.func18 (by kernel_rfl) rfl #[.agg #[.int .i64 a0_0, .int .i64 a0_1, .string a0_2, .slice A0_3 l0_3.length c0_3, .slice A0_4 l0_4.length c0_4]] rfl rfl (r15Scalar.calls k a0_0 a0_1 a0_2 _ _ l0_3 _ _ l0_4 true _ (cu HR0_3 HB) HC0_3.out (cu HR0_4 HB) HC0_4.out A6.out) ?_; intro w10 hb; replace BK148 := kb BK148 hb; replace BK149 := kb BK149 hb; replace HB := kh2 HB GE148 GE149 hb)
   go_meet
   case rel => exact ⟨_, (((l1.length : Int) == 0)), rfl, H', ⟨by omega⟩, ⟨bu BK148⟩, ⟨bu BK149⟩, ⟨be2 HB GE148 GE149⟩⟩
  have H' := mk0 H
  clear H; have hnb11 := NB148_149.out; have hnc11 := NB149_148.out
  have zc12 := cells5 BK148.out
  go_wp2_with ((with_reducible refine gate_callee (f := 18) rfl ?_); refine goB (some 12) rfl rfl Try.func18 (by kernel_rfl) rfl #[.agg #[.int .i64 a0_0, .int .i64 a0_1, .string a0_2, .slice A0_3 l0_3.length c0_3, .slice A0_4 l0_4.length c0_4]] rfl rfl (r15Scalar.calls k a0_0 a0_1 a0_2 _ _ l0_3 _ _ l0_4 false _ (cu HR0_3 HB) HC0_3.out (cu HR0_4 HB) HC0_4.out A6.out) ?_; intro w13 hb; replace BK148 := kb BK148 hb; replace BK149 := kb BK149 hb; replace HB := kh2 HB GE148 GE149 hb)
  go_meet
  case rel => exact ⟨_, (true), rfl, H', ⟨by omega⟩, ⟨bu BK148⟩, ⟨bu BK149⟩, ⟨be2 HB GE148 GE149⟩⟩
 case rest =>
  clear HC3; try clear c1
  obtain ⟨kq, x18_2, rfl, HA, HJ2, BK148, BK149, HB⟩ := hcut
  cases kq with
  | zero => exact absurd HA.out (by simp [r15Resolve.j0])
  | succ kj2 =>
   have H := HA.out; clear HA
   simp only [r15Resolve.j0] at H
   replace H := iB H; obtain ⟨rfl, H⟩ | ⟨rfl, H⟩ := H
   ·simp only [Option.some.injEq, Prod.mk.injEq] at H
    obtain ⟨rfl, rfl, rfl, rfl, rfl⟩ := H
    have hnb15 := NB149_148.out; have hnc15 := NB148_149.out
    have zc16 := cells4 BK149.out
    go_wp2
    refine bodyPost_ret (results_ct rfl _ _ gb149 30 #[.int .i64 0, .int .i64 0, .slice none 0 0, .slice none 0 0] (0, 0) _ rfl (pB BK149) Try.underlying30 rfl (by kernel_rfl)) rfl ?_
    exact ⟨_, _, rfl, by first | exact Kd.R_nil _ _ _ _ _ | exact Kd.N_nil _ _ _ _ _ | exact Kd.V_nil _ _ _ _ _ | exact Kd.Q_nil _ _ _ _ _ | exact Kd.S_nil _ _ _ _ _, by first | exact Kd.R_nil _ _ _ _ _ | exact Kd.N_nil _ _ _ _ _ | exact Kd.V_nil _ _ _ _ _ | exact Kd.Q_nil _ _ _ _ _ | exact Kd.S_nil _ _ _ _ _, be2 HB GE148 GE149⟩
   have H' := mk0 H
   clear H
   go_wp2
   go_loopg [6, 22] kj2 (fun kq v6 v22 w' => ∃ (x6_2 : List Int) (x22_2 : Int) (x150000_2 : Int) (x150001_2 : Int), v22 = .int .i64 x22_2 ∧ Aside0 (r15Resolve.l0 kq l1 x6_2 l1 (l1.length : Int) x22_2 a0_0 a0_1 a0_2 l0_3 l0_4 = some (r1, r2, r3, r4, r5)) ∧ Aside0 (kq ≤ kj2) ∧ Aside0 (Kd.R (Kd.int .u8) 73 w' w.heap.size (fun _ => True) v6 x6_2) ∧ Aside0 (w'.heap[gb148]? = some (.cells #[.int .i64 a0_0, .int .i64 a0_1, .string a0_2, (.slice A0_3 l0_3.length c0_3), (.slice A0_4 l0_4.length c0_4)] 26 (0, 0))) ∧ Aside0 (w'.heap[gb149]? = some (.cells #[.int .i64 x150000_2, .int .i64 x150001_2, (.slice none 0 0), (.slice none 0 0)] 30 (0, 0))) ∧ Aside0 (Below w.heap.size w w'))
   case atStart => exact ⟨(([] : List Int)), (0), (0), (0), rfl, H', ⟨Nat.le_refl _⟩, ⟨by first | exact Kd.R_nil _ _ _ _ _ | exact Kd.N_nil _ _ _ _ _ | exact Kd.V_nil _ _ _ _ _ | exact Kd.Q_nil _ _ _ _ _ | exact Kd.S_nil _ _ _ _ _⟩, ⟨bu BK148⟩, ⟨bu BK149⟩, ⟨be2 HB GE148 GE149⟩⟩
   case round =>
    clear H'
    try clear c1
    obtain ⟨x6_2, x22_2, x150000_2, x150001_2, rfl, HA, HK2, HO_6, BK148, BK149, HB⟩ := hrel
    cases gk with
    | zero => exact absurd HA.out (by simp [r15Resolve.l0])
    | succ k2 =>
     have H := HA.out; clear HA
     simp only [r15Resolve.l0] at H
     replace H := iD H; obtain ⟨-, c17b0, H⟩ | ⟨-, c17b0, H⟩ := H
     ·replace H := iN H; obtain ⟨-, c18b0, H⟩ := H
      replace H := iN H; obtain ⟨-, c19b0, H⟩ := H
      replace H := bS H; obtain ⟨t153, A20, H⟩ := H
      replace H := iB' H; obtain ⟨rfl, H⟩ | ⟨rfl, H⟩ := H
      ·simp only [Option.some.injEq, Prod.mk.injEq] at H
       obtain ⟨rfl, rfl, rfl, rfl, rfl⟩ := H
       have p151 : 0 ≤ (x22_2 : Int) := od
       have q151 : x22_2 < (l1.length : Int) := od
       obtain ⟨ad151, A151_2, c151_2, A151_3, c151_3, e151, hx151_0, hx151_1, hx151_2, hx151_3, hl151_2, hi151_2, hl151_3, hi151_3⟩ := at_T30 HR1.out x22_2 p151 q151
       cases e151
       replace hx151_0 := keepc HB.out hx151_0
       replace hx151_1 := keepc HB.out hx151_1
       replace hx151_2 := keepc HB.out hx151_2
       replace hx151_3 := keepc HB.out hx151_3
       have HR151_2 := mk0 hi151_2; have HC151_2 := mk0 hl151_2; clear hi151_2 hl151_2; have HR151_3 := mk0 hi151_3; have HC151_3 := mk0 hl151_3; clear hi151_3 hl151_3; replace p151 := eq_true p151; replace q151 := eq_true q151
       go_wp2_with (first | ((with_reducible refine box_event rfl (N := 8) rfl (cs := #[.int .i64 0, .int .i64 0, .slice none 0 0, .slice none 0 0]) (t := 30) ?hr ?_); (case hr => first | (go_simp; done) | (go_simp; rfl)); intro gb152 hg w32 hbox hb; replace HO_6 := rb HO_6 hb; have BK152 := mk0 (hbox); have GE152 := bs (be2 HB GE148 GE149) hg; replace HB := kh2 HB GE148 GE149 hb; have NB148_152 := nb1 (bu BK148) hg; have NB152_148 := nb2 (bu BK148) hg; replace BK148 := kb BK148 hb; have NB149_152 := nb1 (bu BK149) hg; have NB152_149 := nb2 (bu BK149) hg; replace BK149 := kb BK149 hb; clear hb hbox hg; have hnb33 := NB152_148.out; have hnc33 := NB148_152.out; have hnb34 := NB152_149.out; have hnc34 := NB149_152.out; have zc35 := cells4 BK152.out; have hnb36 := NB148_149.out; have hnc36 := NB149_148.out; have zc37 := cells5 BK148.out) | ((with_reducible refine gate_callee (f := 37) rfl ?_); refine goB (some 28) rfl rfl Try.func37 (by kernel_rfl) rfl #[.agg #[.int .i64 a0_0, .int .i64 a0_1, .string a0_2, .slice A0_3 l0_3.length c0_3, .slice A0_4 l0_4.length c0_4], .agg #[.int .i64 ((rd_T30 l1 x22_2).f0), .int .i64 ((rd_T30 l1 x22_2).f1), .slice A151_2 ((rd_T30 l1 x22_2).f2).length c151_2, .slice A151_3 ((rd_T30 l1 x22_2).f3).length c151_3]] rfl rfl (r04Has.calls k2 a0_0 a0_1 a0_2 _ _ l0_3 _ _ l0_4 ((rd_T30 l1 x22_2).f0) ((rd_T30 l1 x22_2).f1) _ _ ((rd_T30 l1 x22_2).f2) _ _ ((rd_T30 l1 x22_2).f3) false _ (Kd.C_below HR0_3.out (be3 HB GE148 GE149 GE152)) HC0_3.out (Kd.C_below HR0_4.out (be3 HB GE148 GE149 GE152)) HC0_4.out (Kd.C_below HR151_2.out (be3 HB GE148 GE149 GE152)) HC151_2.out (Kd.C_below HR151_3.out (be3 HB GE148 GE149 GE152)) HC151_3.out A20.out) ?_; intro w38 hb; replace HO_6 := mk0 (Kd.R_below (by exact R_pl ((Kd.R_mono (rI (q := gb152) (Kd.R_types HO_6.out BK152.out (by decide)) (fun _ hk => hk.2)) (fun _ h_ => h_.1)))) hb); replace BK148 := kF NB148_152 BK148 hb; replace BK149 := kF NB149_152 BK149 hb; replace BK152 := mk0 (blk_below (g := gb152) (o := .cells #[.int .i64 ((rd_T30 l1 x22_2).f0), .int .i64 ((rd_T30 l1 x22_2).f1), .slice A151_2 ((rd_T30 l1 x22_2).f2).length c151_2, .slice A151_3 ((rd_T30 l1 x22_2).f3).length c151_3] 30 (0, 0)) (pB BK152) hb); replace HB := kh3 HB GE148 GE149 GE152 hb; have zc39 := cells4 BK149.out))
       refine bodyPost_ret (results_ct rfl _ _ gb149 30 #[.int .i64 0, .int .i64 0, .slice none 0 0, .slice none 0 0] (0, 0) _ rfl (pB BK149) Try.underlying30 rfl (by kernel_rfl)) rfl ?_
       exact ⟨_, _, rfl, by first | exact Kd.R_nil _ _ _ _ _ | exact Kd.N_nil _ _ _ _ _ | exact Kd.V_nil _ _ _ _ _ | exact Kd.Q_nil _ _ _ _ _ | exact Kd.S_nil _ _ _ _ _, by first | exact Kd.R_nil _ _ _ _ _ | exact Kd.N_nil _ _ _ _ _ | exact Kd.V_nil _ _ _ _ _ | exact Kd.Q_nil _ _ _ _ _ | exact Kd.S_nil _ _ _ _ _, be3 HB GE148 GE149 GE152⟩
      by_cases c22 : x6_2.length + ((rd_T30 l1 x22_2).f2).length < 140737488355328
      rotate_left
      ·rw [if_neg c22] at H
       exact absurd H (by simp)
      rw [if_pos c22] at H; have LMc22 := mk0 c22; clear c22
      obtain ⟨y154, hy154⟩ : ∃ y_ : List Int, y_ = (x6_2 ++ ((rd_T30 l1 x22_2).f2)) := ⟨_, rfl⟩
      replace H : (r15Resolve.l0 k2 l1 y154 l1 (l1.length : Int) (wrap64 (x22_2 + 1)) a0_0 a0_1 a0_2 l0_3 l0_4) = some (r1, r2, r3, r4, r5) := by first | (rw [hy154]; with_reducible exact H) | (have H2_ := (Option.bind_some _ _).symm.trans H; rw [hy154]; with_reducible exact H2_) | (have H2_ := (Option.bind_some _ _).symm.trans H; with_reducible exact H2_) | with_reducible exact H | (rw [hy154]; exact H) | exact H
      have Ny154 := mk0 hy154; clear hy154
      have H' := mk0 H
      clear H
      have p151 : 0 ≤ (x22_2 : Int) := od
      have q151 : x22_2 < (l1.length : Int) := od
      obtain ⟨ad151, A151_2, c151_2, A151_3, c151_3, e151, hx151_0, hx151_1, hx151_2, hx151_3, hl151_2, hi151_2, hl151_3, hi151_3⟩ := at_T30 HR1.out x22_2 p151 q151
      cases e151
      replace hx151_0 := keepc HB.out hx151_0
      replace hx151_1 := keepc HB.out hx151_1
      replace hx151_2 := keepc HB.out hx151_2
      replace hx151_3 := keepc HB.out hx151_3
      have HR151_2 := mk0 hi151_2; have HC151_2 := mk0 hl151_2; clear hi151_2 hl151_2; have HR151_3 := mk0 hi151_3; have HC151_3 := mk0 hl151_3; clear hi151_3 hl151_3; replace p151 := eq_true p151; replace q151 := eq_true q151
      go_wp2_with (first | ((with_reducible refine box_event rfl (N := 8) rfl (cs := #[.int .i64 0, .int .i64 0, .slice none 0 0, .slice none 0 0]) (t := 30) ?hr ?_); (case hr => first | (go_simp; done) | (go_simp; rfl)); intro gb152 hg w23 hbox hb; replace HO_6 := rb HO_6 hb; have BK152 := mk0 (hbox); have GE152 := bs (be2 HB GE148 GE149) hg; replace HB := kh2 HB GE148 GE149 hb; have NB148_152 := nb1 (bu BK148) hg; have NB152_148 := nb2 (bu BK148) hg; replace BK148 := kb BK148 hb; have NB149_152 := nb1 (bu BK149) hg; have NB152_149 := nb2 (bu BK149) hg; replace BK149 := kb BK149 hb; clear hb hbox hg; have hnb24 := NB152_148.out; have hnc24 := NB148_152.out; have hnb25 := NB152_149.out; have hnc25 := NB149_152.out; have zc26 := cells4 BK152.out; have hnb27 := NB148_149.out; have hnc27 := NB149_148.out; have zc28 := cells5 BK148.out) | ((with_reducible refine gate_callee (f := 37) rfl ?_); refine goB (some 28) rfl rfl Try.func37 (by kernel_rfl) rfl #[.agg #[.int .i64 a0_0, .int .i64 a0_1, .string a0_2, .slice A0_3 l0_3.length c0_3, .slice A0_4 l0_4.length c0_4], .agg #[.int .i64 ((rd_T30 l1 x22_2).f0), .int .i64 ((rd_T30 l1 x22_2).f1), .slice A151_2 ((rd_T30 l1 x22_2).f2).length c151_2, .slice A151_3 ((rd_T30 l1 x22_2).f3).length c151_3]] rfl rfl (r04Has.calls k2 a0_0 a0_1 a0_2 _ _ l0_3 _ _ l0_4 ((rd_T30 l1 x22_2).f0) ((rd_T30 l1 x22_2).f1) _ _ ((rd_T30 l1 x22_2).f2) _ _ ((rd_T30 l1 x22_2).f3) true _ (Kd.C_below HR0_3.out (be3 HB GE148 GE149 GE152)) HC0_3.out (Kd.C_below HR0_4.out (be3 HB GE148 GE149 GE152)) HC0_4.out (Kd.C_below HR151_2.out (be3 HB GE148 GE149 GE152)) HC151_2.out (Kd.C_below HR151_3.out (be3 HB GE148 GE149 GE152)) HC151_3.out A20.out) ?_; intro w29 hb; replace HO_6 := mk0 (Kd.R_below (by exact R_pl ((Kd.R_mono (rI (q := gb152) (Kd.R_types HO_6.out BK152.out (by decide)) (fun _ hk => hk.2)) (fun _ h_ => h_.1)))) hb); replace BK148 := kF NB148_152 BK148 hb; replace BK149 := kF NB149_152 BK149 hb; replace BK152 := mk0 (blk_below (g := gb152) (o := .cells #[.int .i64 ((rd_T30 l1 x22_2).f0), .int .i64 ((rd_T30 l1 x22_2).f1), .slice A151_2 ((rd_T30 l1 x22_2).f2).length c151_2, .slice A151_3 ((rd_T30 l1 x22_2).f3).length c151_3] 30 (0, 0)) (pB BK152) hb); replace HB := kh3 HB GE148 GE149 GE152 hb; have zc30 := cells4 BK152.out) | ((with_reducible refine gate_builtin (b := .append) (xs := #[.tmp 31, .tmp 33]) rfl ?_); (try (refine gate_guard (by rfl) ?_; dsimp only)); at_builtin; refine Kd.R_append_rows (Kd.int .u8) (w0 := w) w.heap.size rfl (.tmp 31) (.tmp 33) 27 73 (.int .u8 0) 1 rfl Try.underlying27 info73 rfl (by decide) (by omega) u6 x6_2 ((rd_T30 l1 x22_2).f2) _ _ _ (fun _ => True) (fun _ => False) rfl rfl ?aO ?aR (fun _ _ h => h) (fun _ h => h.elim) ?aF ?aB ?aS ?aL ?_; (case aR => exact cu HR151_2 HB); (case aB => exact (be3 HB GE148 GE149 GE152)); (case aF => exact (fun _ _ => trivial)); (case aO => exact (R_up HO_6.out)); (case aS => exact (below_size (be3 HB GE148 GE149 GE152))); (case aL => have := LMc22.out; omega); intro v155 w31 ho hb hg hat; rw [← Ny154.out] at ho; replace BK148 := mk0 (blk_grown (g := gb148) (o := .cells #[.int .i64 a0_0, .int .i64 a0_1, .string a0_2, .slice A0_3 l0_3.length c0_3, .slice A0_4 l0_4.length c0_4] 26 (0, 0)) (blk_up BK148.out) hg (Kd.R_ne HO_6.out BK148.out (by decide))); replace BK149 := mk0 (blk_grown (g := gb149) (o := .cells #[.int .i64 x150000_2, .int .i64 x150001_2, .slice none 0 0, .slice none 0 0] 30 (0, 0)) (blk_up BK149.out) hg (Kd.R_ne HO_6.out BK149.out (by decide))); replace BK152 := mk0 (blk_grown (g := gb152) (o := .cells #[.int .i64 ((rd_T30 l1 x22_2).f0), .int .i64 ((rd_T30 l1 x22_2).f1), .slice A151_2 ((rd_T30 l1 x22_2).f2).length c151_2, .slice A151_3 ((rd_T30 l1 x22_2).f3).length c151_3] 30 (0, 0)) (blk_up BK152.out) hg (Kd.R_ne HO_6.out BK152.out (by decide))); replace HB := mk0 (hb); have HO156 := mk0 (ho); clear HO_6; clear ho hb hg hat))
      go_roundg k2
      case measure => have := HJ2.out; have := HK2.out; omega
      case rel => exact ⟨(y154), (wrap64 (x22_2 + 1)), (x150000_2), (x150001_2), rfl, H', ⟨by have := HJ2.out; have := HK2.out; omega⟩, ⟨R_up HO156.out⟩, ⟨bu BK148⟩, ⟨bu BK149⟩, ⟨be3 HB GE148 GE149 GE152⟩⟩
     replace H := iE' H; obtain ⟨c40, c40b0, c40b1, H⟩ | ⟨c40b0, c40b1, H⟩ := H
     ·replace H := iE' H; obtain ⟨c48, c48b0, c48b1, H⟩ | ⟨c48b0, c48b1, H⟩ := H
      ·simp only [Option.some.injEq, Prod.mk.injEq] at H
       obtain ⟨rfl, rfl, rfl, rfl, rfl⟩ := H
       have hnb58 := NB148_149.out; have hnc58 := NB149_148.out
       have zc59 := cells5 BK148.out
       have zc60 := cells4 BK149.out
       go_wp2
       refine bodyPost_ret (results_ct rfl _ _ gb149 30 #[.int .i64 0, .int .i64 0, .slice none 0 0, .slice none 0 0] (0, 0) _ rfl (pB BK149) Try.underlying30 rfl (by kernel_rfl)) rfl ?_
       exact ⟨_, _, rfl, by first | exact Kd.R_nil _ _ _ _ _ | exact Kd.N_nil _ _ _ _ _ | exact Kd.V_nil _ _ _ _ _ | exact Kd.Q_nil _ _ _ _ _ | exact Kd.S_nil _ _ _ _ _, by first | exact Kd.R_nil _ _ _ _ _ | exact Kd.N_nil _ _ _ _ _ | exact Kd.V_nil _ _ _ _ _ | exact Kd.Q_nil _ _ _ _ _ | exact Kd.S_nil _ _ _ _ _, be2 HB GE148 GE149⟩
      replace H := Option.bind_eq_some_iff.mp H
      obtain ⟨⟨t166, t167⟩, A490, H⟩ := H
      replace H : (some (1, 0, (([t166] : List Int)), ([] : List (S30)), 0)) = some (r1, r2, r3, r4, r5) := H
      have A49 := mk0 A490; clear A490
      obtain ⟨y168, hy168⟩ : ∃ y_ : List Int, y_ = (([t166] : List Int)) := ⟨_, rfl⟩
      replace H : (some (1, 0, y168, ([] : List (S30)), 0)) = some (r1, r2, r3, r4, r5) := by first | (rw [hy168]; with_reducible exact H) | (have H2_ := (Option.bind_some _ _).symm.trans H; rw [hy168]; with_reducible exact H2_) | (have H2_ := (Option.bind_some _ _).symm.trans H; with_reducible exact H2_) | with_reducible exact H | (rw [hy168]; exact H) | exact H
      have Ny168 := mk0 hy168; clear hy168
      simp only [Option.some.injEq, Prod.mk.injEq] at H
      obtain ⟨rfl, rfl, rfl, rfl, rfl⟩ := H
      have hnb50 := NB148_149.out; have hnc50 := NB149_148.out
      have zc51 := cells5 BK148.out
      obtain ⟨Ao52, co52, eo52⟩ := Kd.R_slice HO_6.out
      subst eo52
      go_wp2_with (first | ((with_reducible refine gate_callee (f := 54) rfl ?_); refine goesL_ (some 51) rfl rfl Try.func54 (by kernel_rfl) rfl #[.slice Ao52 x6_2.length co52] rfl (by (try simp only [List.map_toArray, List.map_cons, List.map_nil]); first | done | rfl | (simp only [List.length_drop, List.length_take]; rfl)) ?_; (with_reducible refine (r01Resolve.calls k2 _ _ x6_2 t166 t167 _ ?side1 ?side2 A49.out).mono ?_); (case side1 => repeat (first | exact (Kd.R_reads' HO_6.out).2.2 | (with_reducible refine Kd.C_alloc ?_ _) | (with_reducible refine Kd.C_drewN ?_ _) | (with_reducible refine Kd.C_drew ?_))); (case side2 => exact (Kd.R_reads' HO_6.out).2.1); rintro e w53 ⟨rfl, hb⟩; refine ⟨_, rfl, ?_⟩; replace HO_6 := rb HO_6 hb; replace BK148 := kb BK148 hb; replace BK149 := kb BK149 hb; replace HB := kh2 HB GE148 GE149 hb) | ((with_reducible refine gate_dst (N := 55) rfl ?_); (try (refine gate_guard (by rfl) ?_; dsimp only)); refine Kd.R_lit (Kd.int .u8) _ 73 ?hg (N := 55) ?hd (xs := ([t166] : List Int)) (inner := [.int .u8 t166]) (ok := fun _ => True) (okp := fun _ => True) ?hr ?hp (fun _ hk => hk) trivial (Below.refl _ _) (Nat.le_refl _) (by simp) ?_; (case hd => rfl); (case hg => rfl); (case hr => first | (go_simp; done) | (go_simp; rfl)); (case hp => exact (Reps.one (show Kd.M (Kd.int .u8) _ _ _ t166 [.int .u8 t166] from rfl) (Reps.none _ _))); intro v169 w54 ho55 hb hg_ hnew_; clear hg_ hnew_; (first | rw [← Ny168.out] at ho55 | (simp only [Int.reduceToNat] at ho55; rw [← Ny168.out] at ho55)); have HO170 := mk0 (Kd.R_lower (Kd.R_new' ho55 (Kd.R_lt (R_up HO_6.out))) (below_size (be2 HB GE148 GE149))); replace HO_6 := mk0 (Kd.R_elder' (R_up HO_6.out) (Kd.R_base ho55) hb); replace BK148 := kb BK148 hb; replace BK149 := kb BK149 hb; replace HB := kh2 HB GE148 GE149 hb; clear hb ho55; obtain ⟨Ao56, co56, eo56⟩ := Kd.R_slice HO170.out; subst eo56; have zc57 := cells4 BK149.out))
      refine bodyPost_ret (results_ct rfl _ _ gb149 30 #[.int .i64 1, .int .i64 0, .slice Ao56 y168.length co56, .slice none 0 0] (0, 0) _ rfl (pB BK149) Try.underlying30 rfl (by kernel_rfl)) rfl ?_
      exact ⟨_, _, rfl, by exact R_pl (Kd.R_mono (rI (q := gb149) (Kd.R_types HO170.out BK149.out (by decide)) (fun _ hk => hk.2)) (fun _ hk => trivial)), by first | exact Kd.R_nil _ _ _ _ _ | exact Kd.N_nil _ _ _ _ _ | exact Kd.V_nil _ _ _ _ _ | exact Kd.Q_nil _ _ _ _ _ | exact Kd.S_nil _ _ _ _ _, be2 HB GE148 GE149⟩
     replace H := iN H; obtain ⟨c41, c41b0, H⟩ := H
     have c41b1 : decide (0 < l1.length) = true := decide_eq_true (by omega)
     clear c41
     replace H := Option.bind_eq_some_iff.mp H
     obtain ⟨⟨t158, t159, t160, t163⟩, A420, H⟩ := H
     replace H : (some (t158, t159, t160, t163, 0)) = some (r1, r2, r3, r4, r5) := H
     have A42 := mk0 A420; clear A420
     simp only [Option.some.injEq, Prod.mk.injEq] at H
     obtain ⟨rfl, rfl, rfl, rfl, rfl⟩ := H
     have p157 : 0 ≤ (0 : Int) := (by omega)
     have q157 : 0 < (l1.length : Int) := od
     obtain ⟨ad157, A157_2, c157_2, A157_3, c157_3, e157, hx157_0, hx157_1, hx157_2, hx157_3, hl157_2, hi157_2, hl157_3, hi157_3⟩ := at_T30 HR1.out 0 p157 q157
     cases e157
     have qi157 : (0 < l1.length) = True := eq_true (by omega)
     (try rw [show ((0 : Int)).toNat = 0 from rfl] at hx157_0)
     (try rw [show 0 * 4 = 0 from rfl] at hx157_0)
     (try rw [Addr.add_zero'] at hx157_0)
     (try rw [show ((0 : Int)).toNat = 0 from rfl] at hx157_1)
     (try rw [show 0 * 4 = 0 from rfl] at hx157_1)
     (try rw [Addr.add_zero'] at hx157_1)
     (try rw [show ((0 : Int)).toNat = 0 from rfl] at hx157_2)
     (try rw [show 0 * 4 = 0 from rfl] at hx157_2)
     (try rw [Addr.add_zero'] at hx157_2)
     (try rw [show ((0 : Int)).toNat = 0 from rfl] at hx157_3)
     (try rw [show 0 * 4 = 0 from rfl] at hx157_3)
     (try rw [Addr.add_zero'] at hx157_3)
     replace hx157_0 := keepc HB.out hx157_0
     replace hx157_1 := keepc HB.out hx157_1
     replace hx157_2 := keepc HB.out hx157_2
     replace hx157_3 := keepc HB.out hx157_3
     have HR157_2 := mk0 hi157_2; have HC157_2 := mk0 hl157_2; clear hi157_2 hl157_2; have HR157_3 := mk0 hi157_3; have HC157_3 := mk0 hl157_3; clear hi157_3 hl157_3; replace p157 := eq_true p157; replace q157 := eq_true q157
     go_wp2_with ((with_reducible refine gate_callee (f := 49) rfl ?_); refine goesL_ (some 43) rfl rfl Try.func49 (by kernel_rfl) rfl #[.agg #[.int .i64 ((rd_T30 l1 0).f0), .int .i64 ((rd_T30 l1 0).f1), .slice A157_2 ((rd_T30 l1 0).f2).length c157_2, .slice A157_3 ((rd_T30 l1 0).f3).length c157_3]] rfl (by (try simp only [List.map_toArray, List.map_cons, List.map_nil]); first | done | rfl | (simp only [List.length_drop, List.length_take]; rfl)) ?_; (with_reducible refine (r15own.calls ((rd_T30 l1 0).f0) ((rd_T30 l1 0).f1) _ _ ((rd_T30 l1 0).f2) _ _ ((rd_T30 l1 0).f3) t158 t159 t160 t163 _ ?side1 ?side2 ?side3 ?side4 A42.out).mono ?_); (case side1 => exact cu HR157_2 HB); (case side2 => exact HC157_2.out); (case side3 => exact cu HR157_3 HB); (case side4 => exact HC157_3.out); rintro e w43 ⟨v161, v164, rfl, ho0, ho1, hb⟩; refine ⟨_, rfl, ?_⟩; have HO162 := mk0 (Kd.R_lower (Kd.R_new' ho0 (Kd.R_lt (R_up HO_6.out))) (below_size (be2 HB GE148 GE149))); have HO165 := mk0 (Kd.R_lower (Kd.R_newB (Kd.R_new' ho1 (Kd.R_lt (R_up HO_6.out))) (g := gb149) (o := .cells #[.int .i64 x150000_2, .int .i64 x150001_2, .slice none 0 0, .slice none 0 0] 30 (0, 0)) (blk_up BK149.out)) (below_size (be2 HB GE148 GE149))); replace HO_6 := mk0 (Kd.R_elder' (R_up HO_6.out) (Kd.R_base ho0) hb); replace BK148 := kb BK148 hb; replace BK149 := kb BK149 hb; replace HB := kh2 HB GE148 GE149 hb; (try clear ho0); (try clear ho1); have hnb44 := NB149_148.out; have hnc44 := NB148_149.out; have zc45 := cells4 BK149.out; obtain ⟨Ao46, co46, eo46⟩ := Kd.R_slice HO162.out; subst eo46; obtain ⟨Ao47, co47, eo47⟩ := Kd.R_slice HO165.out; subst eo47)
     refine bodyPost_ret (results_ct rfl _ _ gb149 30 #[.int .i64 t158, .int .i64 t159, .slice Ao46 t160.length co46, .slice Ao47 t163.length co47] (0, 0) _ rfl (pB BK149) Try.underlying30 rfl (by kernel_rfl)) rfl ?_
     exact ⟨_, _, rfl, by exact R_pl (Kd.R_mono (rI (q := gb149) (Kd.R_types HO162.out BK149.out (by decide)) (fun _ hk => hk.2)) (fun _ hk => trivial)), by exact R_pl (Kd.R_mono (rI (q := gb149) (Kd.R_mono HO165.out (fun k_ hk => (⟨hk, hk.2⟩ : _ ∧ k_ ≠ gb149))) (fun _ hk => hk.2)) (fun _ hk => hk.1.1.1)), be2 HB GE148 GE149⟩
end Go.Proofs.Ytojankgmedccdaa.PRs
