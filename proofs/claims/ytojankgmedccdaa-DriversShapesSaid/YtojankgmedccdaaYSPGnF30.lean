/- Part of the proof of LawDriversShapes: every definition and lemma is one that it names. -/
import Derived.Test.YtojankgmedccdaaYSPGnx0
import Derived.Test.YtojankgmedccdaaYSPAwx1
namespace Go.Proofs.Ytojankgmedccdaa.PGn
open Go.RowKit Own PTy Hand PIs PAw YtojankgmedccdaaW.PrintWords YtojankgmedccdaaW.PrintLast YtojankgmedccdaaW.PrintMore
attribute [local go_sem] BR BS Bj Bl BH BI BU BX
set_option linter.unusedVariables false
set_option linter.unusedSimpArgs false
mutual
def Av.j0 : Nat → List (S30) → Bool → Int → Int → ByteArray → List ByteArray → List (S26) → Option (Int × Int × List Int × (List (S30)) × Int)
 | 0, _, _, _, _, _, _, _ => none
 | k + 1, x1, l, a, b, c, d, e => if l = true then (some (0, 0, ([] : List Int), ([] : List (S30)), 2)) else (if 0 ≤ (x1.length : Int) then (if ((x1.length : Int) : Int).toNat ≤ 281474976710656 then (Av.l0 k x1 (([] : List Int)) x1 (x1.length : Int) 0 a b c d e) else (none)) else (none))
def Av.l0 : Nat → List (S30) → List Int → List (S30) → Int → Int → Int → Int → ByteArray → List ByteArray → List (S26) → Option (Int × Int × List Int × (List (S30)) × Int)
 | 0, _, _, _, _, _, _, _, _, _, _ => none
 | k + 1, x1, x6, h, x24, x25, a, b, c, d, e => if x25 < x24 then (if 0 ≤ x25 then (if x25 < (h.length : Int) then ((Bo.f k a b c d e ((AB h x25).f0) ((AB h x25).f1) ((AB h x25).f2) ((AB h x25).f3)).bind fun j => (if j = true then (if x6.length + ((AB h x25).f2).length < 140737488355328 then (Av.l0 k x1 (x6 ++ ((AB h x25).f2)) h x24 (wrap64 (x25 + 1)) a b c d e) else (none)) else (some (0, 0, ([] : List Int), ([] : List (S30)), 2)))) else (none)) else (none)) else (if (x1.length : Int) = 1 then (if 0 < (x1.length : Int) then ((drivers_copied.f ((AB x1 0).f0) ((AB x1 0).f1) ((AB x1 0).f2) ((AB x1 0).f3)).bind fun g => (some (g.1, g.2.1, g.2.2.1, g.2.2.2, 0))) else (none)) else (if a = 1 then ((logic_Resolve.f k x6).bind fun i => (some (1, 0, (([i.1] : List Int)), ([] : List (S30)), i.2))) else (some (0, 0, ([] : List Int), ([] : List (S30)), 22))))
end
def Av.f (k : Nat) (a : Int) (b : Int) (c : ByteArray) (d : List ByteArray) (e : List (S26)) (l1 : List (S30)) : Option (Int × Int × List Int × (List (S30)) × Int) := (BZ.f k a b c d e).bind fun g => (if g = true then (Av.j0 k l1 ((l1.length : Int) == 0) a b c d e) else (Av.j0 k l1 true a b c d e))
theorem Av.mono_l : ∀ k, (∀ c d e g i j l, LeO (Av.j0 k c d e g i j l) (Av.j0 (k + 1) c d e g i j l)) ∧ (∀ c d e g i j l m n o, LeO (Av.l0 k c d e g i j l m n o) (Av.l0 (k + 1) c d e g i j l m n o))
 | 0 => ⟨fun _ _ _ _ _ _ _ r h => by simp [Av.j0] at h, fun _ _ _ _ _ _ _ _ _ _ r h => by simp [Av.l0] at h⟩
 | k + 1 => by
  obtain ⟨a, b⟩ := Av.mono_l k
  refine ⟨?_, ?_⟩ <;> intros <;> (first | unfold Av.j0 | unfold Av.l0) <;> repeat' first | (with_reducible first | apply a | apply b | apply BZ.mono | apply logic_Resolve.mono | apply Bo.mono | apply LeO.refl | apply LeO.none | refine LeO.ite ?_ ?_ | refine LeO.bind ?_ (fun _ => ?_)) | apply a | apply b | apply BZ.mono | apply logic_Resolve.mono | apply Bo.mono | apply LeO.none | refine LeO.ite ?_ ?_ | refine LeO.bind ?_ (fun _ => ?_)
theorem Av.mono : ∀ a0 c d a3 a4 a5 k, LeO (Av.f k a0 c d a3 a4 a5) (Av.f (k + 1) a0 c d a3 a4 a5) := by
 intro a0 c d a3 a4 a5 k
 obtain ⟨a, b⟩ := Av.mono_l k
 unfold Av.f
 repeat' first
   | (with_reducible exact a _ _ _ _ _ _ _)
   | (with_reducible exact b _ _ _ _ _ _ _ _ _ _)
   | (with_reducible exact BZ.mono _ _ _ _ _ _)
   | (with_reducible exact logic_Resolve.mono _ _)
   | (with_reducible exact Bo.mono _ _ _ _ _ _ _ _ _ _)
   | (with_reducible exact LeO.refl _)
   | (with_reducible exact LeO.none _)
   | (with_reducible refine LeO.ite ?_ ?_)
   | (with_reducible refine LeO.bind ?_ (fun _ => ?_))
   | exact a _ _ _ _ _ _ _
   | exact b _ _ _ _ _ _ _ _ _ _
   | exact BZ.mono _ _ _ _ _ _
   | exact logic_Resolve.mono _ _
   | exact Bo.mono _ _ _ _ _ _ _ _ _ _
   | exact LeO.none _
   | refine LeO.ite ?_ ?_
   | refine LeO.bind ?_ (fun _ => ?_)
set_option maxHeartbeats 8000000 in
set_option maxRecDepth 100000 in
theorem Av.calls (k : Nat) (Z : Int) (bB : Int) (cB : ByteArray) (aC : Option Addr) (cC : Nat) (T : List ByteArray) (bC : Option Addr) (dC : Nat) (U : List (S26)) (hC : Nat → Prop) (A1 : Option Addr) (c1 : Nat) (l1 : List (S30)) (r1 : Int) (r2 : Int) (r3 : List Int) (r4 : List (S30)) (r5 : Int) (w : World) (hG : D9 w) (qE : Kd.C Kd.string w aC T.length T) (oE : T.length ≤ cC) (rE : Kd.C k26 w bC U.length U) (pE : U.length ≤ dC) (mJ : Kd.V k30 30 w w.heap.size (fun p => hC p) (.slice A1 l1.length c1) l1) (h : Av.f k Z bB cB T U l1 = some (r1, r2, r3, r4, r5)) :
  Calls Try.prog 30 #[.agg #[.int .i64 Z, .int .i64 bB, .string cB, .slice aC T.length cC, .slice bC U.length dC], .slice A1 l1.length c1] w fun e w' => ∃ zG aI : Value, e = .returned (.tuple #[.agg #[.int .i64 r1, .int .i64 r2, zG, aI], .int .i64 r5]) ∧ Kd.R (Kd.int .u8) 73 w' w.heap.size (fun p => (w.heap.size ≤ p)) zG r3 ∧ Kd.V k30 30 w' w.heap.size (fun p => (hC p ∨ w.heap.size ≤ p) ∧ some p ≠ (zG : Value).ownBlock) aI r4 ∧ Below w.heap.size w w' := by
 have HG := mk0 hG; clear hG
 have tJ := Try.underlying26
 have uJ := Try.underlying30
 have kD := mk0 qE; have hD := mk0 oE; clear qE oE; have lD := mk0 rE; have jD := mk0 pE; clear rE pE
 have eD := mk0 (show Kd.V k30 30 w w.heap.size (fun p => (hC p ∨ w.heap.size ≤ p)) (.slice A1 l1.length c1) l1 from Kd.AJ mJ (fun p l => .inl l))
 have G := mk0 (Below.refl w.heap.size w)
 have H := h; unfold Av.f at H
 clear h; have fG := mk0 H; clear H
 go_enter Try.func30, Try.ntmps30
 go_upto_region 1 with (first | ((with_reducible refine AC rfl (N := 2) rfl (cs := #[.int .i64 Z, .int .i64 bB, .string cB, .slice aC T.length cC, .slice bC U.length dC]) (t := 26) ?hr ?_); (case hr => first | (go_simp; done) | (go_simp; rfl)); intro D hg w4 mB y; replace eD := vB eD hg y; have c := mk0 (mB); have d := bs (be G) hg; replace G := kh G y; clear y mB hg) | ((with_reducible refine AC rfl (N := 4) rfl (cs := #[.int .i64 0, .int .i64 0, .slice none 0 0, .slice none 0 0]) (t := 30) ?hr ?_); (case hr => first | (go_simp; done) | (go_simp; rfl)); intro n hg w5 mB y; replace eD := vB eD hg y; have a := mk0 (mB); have i := bs (be1 G d) hg; replace G := kh1 G d y; have ⟨z, B⟩ := nn c hg; replace c := kb c y; clear y mB hg))
 (try simp only [Act.put, List.setIfInBounds_toArray, List.set_cons_zero, List.set_cons_succ])
 go_cut [18] (fun v18 wc => ∃ (kq : Nat) (zD : Bool), v18 = .bool zD ∧ Aside0 (Av.j0 kq l1 zD Z bB cB T U = some (r1, r2, r3, r4, r5)) ∧ Aside0 (kq ≤ k) ∧ Aside0 (Kd.V k30 30 wc w.heap.size (fun p => (hC p ∨ w.heap.size ≤ p) ∧ p ≠ D ∧ p ≠ n) (.slice A1 l1.length c1) l1) ∧ Aside0 (wc.heap[D]? = some (.cells #[.int .i64 Z, .int .i64 bB, .string cB, (.slice aC T.length cC), (.slice bC U.length dC)] 26 (0, 0))) ∧ Aside0 (wc.heap[n]? = some (.cells #[.int .i64 0, .int .i64 0, (.slice none 0 0), (.slice none 0 0)] 30 (0, 0))) ∧ Aside0 (Below w.heap.size w wc))
 case first =>
  have H := fG.out; clear fG
  replace H := bS H; obtain ⟨wJ, A6, H⟩ := H
  replace H := iB H; obtain ⟨rfl, H⟩ | ⟨rfl, H⟩ := H
  ·have H' := mk0 H
   clear H; have ⟨rJ, sJ⟩ := no z B
   have xK := cells5 c.out
   go_wp2_with ((with_reducible refine AO (f := 17) rfl ?_); refine CU Try.func17 (BZ.calls k Z bB cB _ _ T _ _ U true _ (Aj HG.out (be2 G d i)) (cu kD G) hD.out (cu lD G) jD.out A6.out) ?_; intro nK y; replace eD := vb eD y; obtain ⟨c, a⟩ := tb2 y c a; replace G := kh2 G d i y)
   go_meet
   case rel => exact ⟨_, (((l1.length : Int) == 0)), rfl, H', ⟨by omega⟩, ⟨Ay (Kd.AJ eD.out (fun _ l => ⟨l.1.1, ⟨l.1.2, l.2⟩⟩))⟩, ⟨bu c⟩, ⟨bu a⟩, ⟨be2 G d i⟩⟩
  have H' := mk0 H
  clear H; have ⟨mI, bJ⟩ := no z B
  have yJ := cells5 c.out
  go_wp2_with ((with_reducible refine AO (f := 17) rfl ?_); refine CU Try.func17 (BZ.calls k Z bB cB _ _ T _ _ U false _ (Aj HG.out (be2 G d i)) (cu kD G) hD.out (cu lD G) jD.out A6.out) ?_; intro oK y; replace eD := vb eD y; obtain ⟨c, a⟩ := tb2 y c a; replace G := kh2 G d i y)
  go_meet
  case rel => exact ⟨_, (true), rfl, H', ⟨by omega⟩, ⟨Ay (Kd.AJ eD.out (fun _ l => ⟨l.1.1, ⟨l.1.2, l.2⟩⟩))⟩, ⟨bu c⟩, ⟨bu a⟩, ⟨be2 G d i⟩⟩
 case rest =>
  clear fG; try clear c1
  obtain ⟨kq, zD, rfl, HA, fH, v, c, a, G⟩ := hcut
  cases kq with
  | zero => exact absurd HA.out (by simp [Av.j0])
  | succ xG =>
   have H := HA.out; clear HA
   simp only [Av.j0] at H
   replace H := iB H; obtain ⟨rfl, H⟩ | ⟨rfl, H⟩ := H
   ·simp only [Option.some.injEq, Prod.mk.injEq] at H
    obtain ⟨rfl, rfl, rfl, rfl, rfl⟩ := H
    have ⟨oI, cJ⟩ := no B z
    have zJ := AZ a.out
    go_wp2
    refine bodyPost_ret (EW rfl _ _ n 30 #[.int .i64 0, .int .i64 0, .slice none 0 0, .slice none 0 0] (0, 0) _ rfl (pB a) Try.underlying30 rfl (by kernel_rfl)) rfl ?_
    exact ⟨_, _, rfl, by first | exact Kd.EO _ _ _ _ _ | exact Kd.FJ _ _ _ _ _ | exact Kd.D8 _ _ _ _ _ | exact Kd.E5 _ _ _ _ _ | exact Kd.FC _ _ _ _ _, Kd.D8 _ _ _ _ _, be2 G d i⟩
   by_cases c17 : 0 ≤ (l1.length : Int)
   rotate_left
   ·rw [if_neg c17] at H
    exact absurd H (by simp)
   rw [if_pos c17] at H; have mG := eq_true c17; have nG : decide (0 ≤ (l1.length : Int)) = true := decide_eq_true c17; clear c17
   by_cases c18 : ((l1.length : Int) : Int).toNat ≤ 281474976710656
   rotate_left
   ·rw [if_neg c18] at H
    exact absurd H (by simp)
   rw [if_pos c18] at H; have oG := eq_true c18; have pG : decide (((l1.length : Int) : Int).toNat ≤ 281474976710656) = true := decide_eq_true c18; clear c18
   obtain ⟨bG, zC⟩ : ∃ y_ : List Int, y_ = (([] : List Int)) := ⟨_, rfl⟩
   replace H : (Av.l0 xG l1 bG l1 (l1.length : Int) 0 Z bB cB T U) = some (r1, r2, r3, r4, r5) := by first | (rw [zC]; with_reducible exact H) | (have pC := (Option.bind_some _ _).symm.trans H; rw [zC]; with_reducible exact pC) | (have pC := (Option.bind_some _ _).symm.trans H; with_reducible exact pC) | with_reducible exact H | (rw [zC]; exact H) | exact H
   have kE := mk0 zC; clear zC
   have H' := mk0 H
   clear H
   go_wp2_with ((with_reducible refine DJ (N := 22) rfl ?_); (try (refine Ec (by rfl) ?_; dsimp only)); refine Kd.LM (Kd.int .u8) _ 73 rfl (N := 22) rfl 27 _ _ rfl (l1.length : Int) rfl rfl Try.underlying27 (.int .u8 0) 1 Fe rfl (by decide) (by omega) 0 (ok := fun _ => True) (okp := fun _ => True) rfl (fun _ l => l) trivial (of_decide_eq_true (by assumption)) (Nat.le_trans (Nat.mul_le_mul_right _ (of_decide_eq_true (by assumption) : (l1.length : Int).toNat ≤ 281474976710656)) (by omega)) (Below.refl _ _) (Nat.le_refl _) ?_; intro v746 pK fD y wG wD; clear wG wD; (first | rw [← kE.out] at fD | (simp only [Int.reduceToNat] at fD; rw [← kE.out] at fD)); replace v := mk0 (Kd.BN (CK v.out) (Kd.Bf fD) y); have gG := mk0 (Kd.Cj (Kd.Ea (M := fun p => (w.heap.size ≤ p)) fD (AV (be2 G d i)) (fun p h_ => h_)) (AV (be2 G d i))); obtain ⟨c, a⟩ := tb2 y c a; replace G := kh2 G d i y; clear y fD)
   go_loopg [6, 25] xG (fun kq v6 v25 w' => ∃ (uB : List Int) (j : Int) (X : Int) (Y : Int), v25 = .int .i64 j ∧ Aside0 (Av.l0 kq l1 uB l1 (l1.length : Int) j Z bB cB T U = some (r1, r2, r3, r4, r5)) ∧ Aside0 (kq ≤ xG) ∧ Aside0 (Kd.V k30 30 w' w.heap.size (fun p => (hC p ∨ w.heap.size ≤ p) ∧ some p ≠ (v6 : Value).ownBlock ∧ p ≠ D ∧ p ≠ n) (.slice A1 l1.length c1) l1) ∧ Aside0 (Kd.R (Kd.int .u8) 73 w' w.heap.size (fun p => (w.heap.size ≤ p)) v6 uB) ∧ Aside0 (Kd.V k30 30 w' w.heap.size (fun p => (hC p ∨ w.heap.size ≤ p) ∧ some p ≠ (v6 : Value).ownBlock ∧ p ≠ D ∧ p ≠ n) (.slice A1 l1.length c1) l1) ∧ Aside0 (w'.heap[D]? = some (.cells #[.int .i64 Z, .int .i64 bB, .string cB, (.slice aC T.length cC), (.slice bC U.length dC)] 26 (0, 0))) ∧ Aside0 (w'.heap[n]? = some (.cells #[.int .i64 X, .int .i64 Y, (.slice none 0 0), (.slice none 0 0)] 30 (0, 0))) ∧ Aside0 (Below w.heap.size w w'))
   case atStart => exact ⟨(bG), (0), (0), (0), rfl, H', ⟨Nat.le_refl _⟩, ⟨Ay (Kd.AJ v.out (fun _ l => ⟨l.1.1, ⟨l.2, ⟨l.1.2.1, l.1.2.2⟩⟩⟩))⟩, ⟨Df (Kd.BJ gG.out (fun _ l => l.1))⟩, ⟨Ay (Kd.AJ v.out (fun _ l => ⟨l.1.1, ⟨l.2, ⟨l.1.2.1, l.1.2.2⟩⟩⟩))⟩, ⟨bu c⟩, ⟨bu a⟩, ⟨be2 G d i⟩⟩
   case round =>
    clear H'
    try clear c1; try clear c17; try clear mG; try clear nG; try clear c18; try clear oG; try clear pG
    obtain ⟨uB, j, X, Y, rfl, HA, gH, v, x, r, c, a, G⟩ := hrel
    cases gk with
    | zero => exact absurd HA.out (by simp [Av.l0])
    | succ k2 =>
     have H := HA.out; clear HA
     simp only [Av.l0] at H
     replace H := iD' H; obtain ⟨-, qG, H⟩ | ⟨-, qG, H⟩ := H
     ·replace H := iE' H; obtain ⟨lK, rG, sG, H⟩ | ⟨rG, sG, H⟩ := H
      ·replace H := iE' H; obtain ⟨mK, tG, uG, H⟩ | ⟨tG, uG, H⟩ := H
       ·simp only [Option.some.injEq, Prod.mk.injEq] at H
        obtain ⟨rfl, rfl, rfl, rfl, rfl⟩ := H
        have ⟨aJ, lJ⟩ := no z B
        have jK := cells5 c.out
        have kK := AZ a.out
        go_wp2
        refine bodyPost_ret (EW rfl _ _ n 30 #[.int .i64 0, .int .i64 0, .slice none 0 0, .slice none 0 0] (0, 0) _ rfl (pB a) Try.underlying30 rfl (by kernel_rfl)) rfl ?_
        exact ⟨_, _, rfl, by first | exact Kd.EO _ _ _ _ _ | exact Kd.FJ _ _ _ _ _ | exact Kd.D8 _ _ _ _ _ | exact Kd.E5 _ _ _ _ _ | exact Kd.FC _ _ _ _ _, Kd.D8 _ _ _ _ _, be2 G d i⟩
       replace H := Option.bind_eq_some_iff.mp H
       obtain ⟨⟨gD, aG⟩, yF, H⟩ := H
       replace H : (some (1, 0, (([gD] : List Int)), ([] : List (S30)), aG)) = some (r1, r2, r3, r4, r5) := H
       have eI := mk0 yF; clear yF
       obtain ⟨dG, bD⟩ : ∃ y_ : List Int, y_ = (([gD] : List Int)) := ⟨_, rfl⟩
       replace H : (some (1, 0, dG, ([] : List (S30)), aG)) = some (r1, r2, r3, r4, r5) := by first | (rw [bD]; with_reducible exact H) | (have pC := (Option.bind_some _ _).symm.trans H; rw [bD]; with_reducible exact pC) | (have pC := (Option.bind_some _ _).symm.trans H; with_reducible exact pC) | with_reducible exact H | (rw [bD]; exact H) | exact H
       have lE := mk0 bD; clear bD
       simp only [Option.some.injEq, Prod.mk.injEq] at H
       obtain ⟨rfl, rfl, rfl, rfl, rfl⟩ := H
       have ⟨zI, kJ⟩ := no z B
       have hK := cells5 c.out
       obtain ⟨aE, bE, nH⟩ := Kd.CJ x.out
       subst nH
       go_wp2_with (first | ((with_reducible refine AO (f := 53) rfl ?_); refine GR Try.func53 #[.slice aE uB.length bE] ?_; (with_reducible refine (logic_Resolve.calls ?side1 ?side2 eI.out).mono ?_); (case side1 => repeat (first | exact (Kd.Db x.out).2.2 | (with_reducible refine Kd.Cn ?_ _) | (with_reducible refine Kd.Co ?_ _) | (with_reducible refine Kd.Cv ?_))); (case side2 => exact (Kd.Db x.out).2.1); rintro e w' ⟨rfl, ⟨nd, rfl⟩⟩; refine ⟨_, rfl, ?_⟩; (try (rw [Kj wr]; generalize hq_ : World.drewN wr _ = wr; have qH : Aside0 (Kd.V k30 30 wr w.heap.size (fun p => (hC p ∨ w.heap.size ≤ p) ∧ some p ≠ (.slice aE uB.length bE : Value).ownBlock ∧ p ≠ D ∧ p ≠ n) (.slice A1 l1.length c1) l1) := ⟨by rw [← hq_]; exact (CK v.out)⟩; have rH : Aside0 (Kd.V k30 30 wr w.heap.size (fun p => (hC p ∨ w.heap.size ≤ p) ∧ some p ≠ (.slice aE uB.length bE : Value).ownBlock ∧ p ≠ D ∧ p ≠ n) (.slice A1 l1.length c1) l1) := ⟨by rw [← hq_]; exact (CK r.out)⟩; have sH : Aside0 (Kd.R (Kd.int .u8) 73 wr w.heap.size (fun p => (w.heap.size ≤ p)) (.slice aE uB.length bE) uB) := ⟨by rw [← hq_]; exact (DZ x.out)⟩; have tH : Aside0 (wr.heap[D]? = some (.cells #[.int .i64 Z, .int .i64 bB, .string cB, .slice aC T.length cC, .slice bC U.length dC] 26 (0, 0))) := ⟨by rw [← hq_]; exact (Ac c.out)⟩; have uH : Aside0 (wr.heap[n]? = some (.cells #[.int .i64 X, .int .i64 Y, .slice none 0 0, .slice none 0 0] 30 (0, 0))) := ⟨by rw [← hq_]; exact (Ac a.out)⟩; have vH : Aside0 (Below w.heap.size w wr) := ⟨by rw [← hq_]; exact (be2 G d i)⟩; clear v r x c a G hq_; have v := qH; have r := rH; have x := sH; have c := tH; have a := uH; have G := vH; clear qH rH sH tH uH vH))) | ((with_reducible refine DJ (N := 56) rfl ?_); (try (refine Ec (by rfl) ?_; dsimp only)); refine Kd.JM (Kd.int .u8) _ 73 ?hg (N := 56) ?hd (xs := ([gD] : List Int)) (inner := [.int .u8 gD]) (ok := fun _ => True) (okp := fun _ => True) ?hr ?hp (fun _ l => l) trivial (Below.refl _ _) (Nat.le_refl _) (by simp) ?_; (case hd => rfl); (case hg => rfl); (case hr => first | (go_simp; done) | (go_simp; rfl)); (case hp => exact (Bz.one (show Kd.M (Kd.int .u8) _ _ _ gD [.int .u8 gD] from rfl) (Bz.none _ _))); intro v766 wK oC y wG wD; clear wG wD; (first | rw [← lE.out] at oC | (simp only [Int.reduceToNat] at oC; rw [← lE.out] at oC)); replace v := mk0 (Kd.BN (CK v.out) (Kd.Bf oC) y); replace r := mk0 (Kd.BN (CK r.out) (Kd.Bf oC) y); have jE := mk0 (Kd.Cj (Kd.F6 (Kd.Ea (M := fun p => (w.heap.size ≤ p)) oC (AV (be2 G d i)) (fun p h_ => h_)) (Kd.Fj (DZ x.out))) (AV (be2 G d i))); replace x := mk0 (Kd.GL (DZ x.out) (Kd.Bf oC) y); obtain ⟨c, a⟩ := tb2 y c a; replace G := kh2 G d i y; clear y oC; obtain ⟨dH, jH, oH⟩ := Kd.CJ jE.out; subst oH; have iK := AZ a.out))
       refine bodyPost_ret (EW rfl _ _ n 30 #[.int .i64 1, .int .i64 0, .slice dH dG.length jH, .slice none 0 0] (0, 0) _ rfl (pB a) Try.underlying30 rfl (by kernel_rfl)) rfl ?_
       exact ⟨_, _, rfl, by exact Df (Kd.BJ (rI (q := n) (Kd.BF jE.out a.out (by decide)) (fun _ l => l.2)) (fun _ l => l.1.1.1)), Kd.D8 _ _ _ _ _, be2 G d i⟩
      replace H := iN H; obtain ⟨iI, jI, H⟩ := H
      have kI : decide (0 < l1.length) = true := decide_eq_true (by omega)
      clear iI
      replace H := Option.bind_eq_some_iff.mp H
      obtain ⟨⟨uE, vE, wE, xE⟩, xF, H⟩ := H
      replace H : (some (uE, vE, wE, xE, 0)) = some (r1, r2, r3, r4, r5) := H
      have dI := mk0 xF; clear xF
      simp only [Option.some.injEq, Prod.mk.injEq] at H
      obtain ⟨rfl, rfl, rfl, rfl, rfl⟩ := H
      have cE : 0 ≤ (0 : Int) := (by omega)
      have dE : 0 < (l1.length : Int) := od
      obtain ⟨fI, fF, hF, gF, jF, kH, xC, yC, kC, lC, tD, rD, uD, sD⟩ := Dv (Kd.AP v.out).2.2 0 cE dE
      cases kH
      obtain ⟨lI, oF, lF, nD⟩ := Kd.FM v.out z30 0 cE (by first | exact dE | exact of_decide_eq_true (by assumption) | (have e_ := (Kd.AP v.out).1; omega))
      obtain ⟨wH, yH, xH, zH, rfl, cD, tC, dD, uC⟩ := Ew lF
      have iC := nD 2 _ rfl
      rw [Ba _ _ 2 (by omega)] at iC
      replace iC := Option.some.inj (iC.symm.trans kC)
      injection iC with hva_ hvn_ hvc_
      rw [hva_] at tC
      rw [hvc_] at cD
      have pD := mk0 (show Kd.V (Kd.int .u8) 73 _ w.heap.size _ _ ((AB l1 0).f2) from Kd.DN cD tC)
      clear hva_ hvn_ hvc_ tC cD
      have jC := nD 3 _ rfl
      rw [Ba _ _ 3 (by omega)] at jC
      replace jC := Option.some.inj (jC.symm.trans lC)
      injection jC with hva_ hvn_ hvc_
      rw [hva_] at uC
      rw [hvc_] at dD
      have sC := mk0 (show Kd.V k30 30 _ w.heap.size _ _ ((AB l1 0).f3) from Kd.DN dD uC)
      clear hva_ hvn_ hvc_ uC dD; clear nD oF
      have nJ : (0 < l1.length) = True := eq_true (by omega)
      (try rw [show ((0 : Int)).toNat = 0 from rfl] at xC)
      (try rw [show 0 * 4 = 0 from rfl] at xC)
      (try rw [Addr.add_zero'] at xC)
      (try rw [show ((0 : Int)).toNat = 0 from rfl] at yC)
      (try rw [show 0 * 4 = 0 from rfl] at yC)
      (try rw [Addr.add_zero'] at yC)
      (try rw [show ((0 : Int)).toNat = 0 from rfl] at kC)
      (try rw [show 0 * 4 = 0 from rfl] at kC)
      (try rw [Addr.add_zero'] at kC)
      (try rw [show ((0 : Int)).toNat = 0 from rfl] at lC)
      (try rw [show 0 * 4 = 0 from rfl] at lC)
      (try rw [Addr.add_zero'] at lC)
      have gC := mk0 rD; have fE := mk0 tD; clear rD tD; have qD := mk0 sD; have eH := mk0 uD; clear sD uD; replace cE := eq_true cE; replace dE := eq_true dE
      go_wp2_with ((with_reducible refine AO (f := 51) rfl ?_); refine GR Try.func51 #[.agg #[.int .i64 ((AB l1 0).f0), .int .i64 ((AB l1 0).f1), .slice fF ((AB l1 0).f2).length hF, .slice gF ((AB l1 0).f3).length jF]] ?_; (with_reducible refine (drivers_copied.calls ((AB l1 0).f0) ((AB l1 0).f1) _ _ ((AB l1 0).f2) (fun p => ((hC p ∨ w.heap.size ≤ p) ∧ (some p ≠ (u6 : Value).ownBlock ∧ (p ≠ D ∧ p ≠ n)))) _ _ ((AB l1 0).f3) uE vE wE xE _ ?side1 ?side2 ?side3 dI.out).mono ?_); (case side1 => repeat (first | exact (by repeat (first | (with_reducible exact gC.out) | (with_reducible refine Kd.Cn ?_ _) | (with_reducible refine Kd.Co ?_ _) | (with_reducible refine Kd.Cv ?_) | exact gC.out)) | (with_reducible refine Kd.Cn ?_ _) | (with_reducible refine Kd.Co ?_ _) | (with_reducible refine Kd.Cv ?_))); (case side2 => exact fE.out); (case side3 => exact sC.out); rintro e vK ⟨v758, v761, rfl, xD, pH, y⟩; refine ⟨_, rfl, ?_⟩; replace v := mk0 (Kd.BN (CK v.out) (Kd.Bf xD) y); replace r := mk0 (Kd.BN (CK r.out) (Kd.Bf xD) y); replace pD := mk0 (Kd.BN (CK pD.out) (Kd.Bf xD) y); replace sC := mk0 (Kd.BN (CK sC.out) (Kd.Bf xD) y); have gE := mk0 (Kd.Cj (Kd.F6 (Kd.Ea (M := fun p => (w.heap.size ≤ p)) (Kd.BJ (ok' := fun p => True) xD (fun _ eE => trivial)) (AV (be2 G d i)) (fun p h_ => h_)) (Kd.Fj (DZ x.out))) (AV (be2 G d i))); have hE := mk0 (Kd.Gg (Kd.AJ (ok' := fun p => (hC p ∨ w.heap.size ≤ p) ∧ some p ≠ (v758 : Value).ownBlock ∧ some p ≠ (u6 : Value).ownBlock ∧ p ≠ D ∧ p ≠ n) pH (fun p eE => ⟨Or.elim eE.1 (fun yD => yD.1) (fun vD => (.inr (Nat.le_trans (AV (be2 G d i)) vD))), eE.2, Or.elim eE.1 (fun yD => yD.2.1) (fun vD => (Kd.fresh' (Kd.Fj (DZ x.out)) p vD)), Or.elim eE.1 (fun yD => yD.2.2.1) (fun vD => (Kd.BM (g := D) (o := .cells #[.int .i64 Z, .int .i64 bB, .string cB, .slice aC T.length cC, .slice bC U.length dC] 26 (0, 0)) (Ac c.out) p vD)), Or.elim eE.1 (fun yD => yD.2.2.2) (fun vD => (Kd.BM (g := n) (o := .cells #[.int .i64 X, .int .i64 Y, .slice none 0 0, .slice none 0 0] 30 (0, 0)) (Ac a.out) p vD))⟩)) (AV (be2 G d i))); replace x := mk0 (Kd.GL (DZ x.out) (Kd.Bf xD) y); obtain ⟨c, a, gC, qD⟩ := tb4 y c a gC qD; replace G := kh2 G d i y; (try clear xD); (try clear pH); have ⟨yI, jJ⟩ := no B z; have gK := AZ a.out; obtain ⟨bH, hH, lH⟩ := Kd.CJ gE.out; subst lH; obtain ⟨cH, iH, mH⟩ := Kd.DR hE.out; subst mH)
      refine bodyPost_ret (EW rfl _ _ n 30 #[.int .i64 uE, .int .i64 vE, .slice bH wE.length hH, .slice cH xE.length iH] (0, 0) _ rfl (pB a) Try.underlying30 rfl (by kernel_rfl)) rfl ?_
      exact ⟨_, _, rfl, by exact Df (Kd.BJ (rI (q := n) (Kd.BF gE.out a.out (by decide)) (fun _ l => l.2)) (fun _ l => l.1.1.1)), by exact Ay (Kd.AJ (vI (q := n) (Kd.AJ hE.out (fun p l => (⟨l, l.2.2.2.2⟩ : _ ∧ p ≠ n))) (fun _ l => l.2)) (fun _ l => ⟨l.1.1, l.1.2.1⟩)), be2 G d i⟩
     replace H := iN H; obtain ⟨-, gI, H⟩ := H
     replace H := iN H; obtain ⟨-, hI, H⟩ := H
     replace H := bS H; obtain ⟨xJ, aH, H⟩ := H
     replace H := iB' H; obtain ⟨rfl, H⟩ | ⟨rfl, H⟩ := H
     ·simp only [Option.some.injEq, Prod.mk.injEq] at H
      obtain ⟨rfl, rfl, rfl, rfl, rfl⟩ := H
      have mC : 0 ≤ (j : Int) := od
      have nC : j < (l1.length : Int) := od
      obtain ⟨lG, wB, yB, xB, zB, mE, sE, tE, vC, wC, sB, oB, tB, qB⟩ := Dv (Kd.AP r.out).2.2 j mC nC
      cases mE
      obtain ⟨vG, oD, mD, lB⟩ := Kd.FM r.out z30 j mC (by first | exact nC | exact of_decide_eq_true (by assumption) | (have e_ := (Kd.AP r.out).1; omega))
      obtain ⟨yE, cF, zE, dF, rfl, jB, gB, kB, hB⟩ := Ew mD
      have L := lB 2 _ rfl
      rw [Ba _ _ 2 (by omega)] at L
      replace L := Option.some.inj (L.symm.trans vC)
      injection L with hva_ hvn_ hvc_
      rw [hva_] at gB
      rw [hvc_] at jB
      have s := mk0 (show Kd.V (Kd.int .u8) 73 _ w.heap.size _ _ ((AB l1 j).f2) from Kd.DN jB gB)
      clear hva_ hvn_ hvc_ gB jB
      have O := lB 3 _ rfl
      rw [Ba _ _ 3 (by omega)] at O
      replace O := Option.some.inj (O.symm.trans wC)
      injection O with hva_ hvn_ hvc_
      rw [hva_] at hB
      rw [hvc_] at kB
      have u := mk0 (show Kd.V k30 30 _ w.heap.size _ _ ((AB l1 j).f3) from Kd.DN kB hB)
      clear hva_ hvn_ hvc_ hB kB; clear lB oD; have J := mk0 oB; have qC := mk0 sB; clear oB sB; have dB := mk0 qB; have rC := mk0 tB; clear qB tB; replace mC := eq_true mC; replace nC := eq_true nC
      go_wp2_with (first | ((with_reducible refine AC rfl (N := 8) rfl (cs := #[.int .i64 0, .int .i64 0, .slice none 0 0, .slice none 0 0]) (t := 30) ?hr ?_); (case hr => first | (go_simp; done) | (go_simp; rfl)); intro m hg tK mB y; obtain ⟨v, r, s, u⟩ := tg4 hg y v r s u; obtain ⟨x, J, dB⟩ := tb3 y x J dB; have W := mk0 (mB); have I := bs (be2 G d i) hg; replace G := kh2 G d i y; have ⟨eB, eC⟩ := nn c hg; have ⟨fB, fC⟩ := nn a hg; obtain ⟨c, a⟩ := tb2 y c a; clear y mB hg; have ⟨uI, gJ⟩ := no eC eB; have ⟨wI, hJ⟩ := no fC fB; have dK := AZ W.out; have ⟨xI, iJ⟩ := no z B; have eK := cells5 c.out) | ((with_reducible refine AO (f := 45) rfl ?_); refine GR Try.func45 #[.agg #[.int .i64 Z, .int .i64 bB, .string cB, .slice aC T.length cC, .slice bC U.length dC], .agg #[.int .i64 ((AB l1 j).f0), .int .i64 ((AB l1 j).f1), .slice wB ((AB l1 j).f2).length yB, .slice xB ((AB l1 j).f3).length zB]] ?_; (with_reducible refine (Bo.calls ?side9 ?side1 ?side2 ?side3 ?side4 ?side5 ?side6 ?side7 ?side8 aH.out).mono ?_); (case side1 => exact Kd.BA kD.out (be3 G d i I)); (case side2 => exact hD.out); (case side3 => exact Kd.BA lD.out (be3 G d i I)); (case side4 => exact jD.out); (case side5 => exact ((Kd.AP (by exact Ay ((vF (q := m) s (fun _ l => l.2))))).2.2)); (case side6 => exact qC.out); (case side7 => exact ((Kd.AP (by exact Ay ((vF (q := m) u (fun _ l => l.2))))).2.2)); (case side8 => exact rC.out); (case side9 => exact Aj HG.out (be3 G d i I)); rintro e uK ⟨rfl, y⟩; refine ⟨_, rfl, ?_⟩; replace v := mk0 (Kd.BL (Ay ((vF (q := m) v (fun _ l => l.2)))) y); replace x := mk0 (Kd.ED (Df ((Kd.BJ (rI (q := m) (Kd.BF x.out W.out (by decide)) (fun _ l => l.2)) (fun _ h_ => h_.1)))) y); replace r := mk0 (Kd.BL (Ay ((vF (q := m) r (fun _ l => l.2)))) y); replace c := kF eB c y; replace a := kF fB a y; replace J := mk0 (Kd.BA ((Kd.AP (by exact Ay ((vF (q := m) s (fun _ l => l.2))))).2.2) y); replace s := mk0 (Kd.BL (Ay ((vF (q := m) s (fun _ l => l.2)))) y); replace dB := mk0 (Kd.BA ((Kd.AP (by exact Ay ((vF (q := m) u (fun _ l => l.2))))).2.2) y); replace u := mk0 (Kd.BL (Ay ((vF (q := m) u (fun _ l => l.2)))) y); replace W := mk0 (AU (g := m) (o := .cells #[.int .i64 ((AB l1 j).f0), .int .i64 ((AB l1 j).f1), .slice wB ((AB l1 j).f2).length yB, .slice xB ((AB l1 j).f3).length zB] 30 (0, 0)) (pB W) y); replace G := kh3 G d i I y; have fK := AZ a.out))
      refine bodyPost_ret (EW rfl _ _ n 30 #[.int .i64 0, .int .i64 0, .slice none 0 0, .slice none 0 0] (0, 0) _ rfl (pB a) Try.underlying30 rfl (by kernel_rfl)) rfl ?_
      exact ⟨_, _, rfl, by first | exact Kd.EO _ _ _ _ _ | exact Kd.FJ _ _ _ _ _ | exact Kd.D8 _ _ _ _ _ | exact Kd.E5 _ _ _ _ _ | exact Kd.FC _ _ _ _ _, Kd.D8 _ _ _ _ _, be3 G d i I⟩
     by_cases c26 : uB.length + ((AB l1 j).f2).length < 140737488355328
     rotate_left
     ·rw [if_neg c26] at H
      exact absurd H (by simp)
     rw [if_pos c26] at H; have jG := mk0 c26; clear c26
     obtain ⟨cG, aD⟩ : ∃ y_ : List Int, y_ = (uB ++ ((AB l1 j).f2)) := ⟨_, rfl⟩
     replace H : (Av.l0 k2 l1 cG l1 (l1.length : Int) (wrap64 (j + 1)) Z bB cB T U) = some (r1, r2, r3, r4, r5) := by first | (rw [aD]; with_reducible exact H) | (have pC := (Option.bind_some _ _).symm.trans H; rw [aD]; with_reducible exact pC) | (have pC := (Option.bind_some _ _).symm.trans H; with_reducible exact pC) | with_reducible exact H | (rw [aD]; exact H) | exact H
     have kG := mk0 aD; clear aD
     have H' := mk0 H
     clear H
     have mC : 0 ≤ (j : Int) := od
     have nC : j < (l1.length : Int) := od
     obtain ⟨lG, wB, yB, xB, zB, mE, sE, tE, vC, wC, sB, oB, tB, qB⟩ := Dv (Kd.AP r.out).2.2 j mC nC
     cases mE
     obtain ⟨vG, oD, mD, lB⟩ := Kd.FM r.out z30 j mC (by first | exact nC | exact of_decide_eq_true (by assumption) | (have e_ := (Kd.AP r.out).1; omega))
     obtain ⟨yE, cF, zE, dF, rfl, jB, gB, kB, hB⟩ := Ew mD
     have L := lB 2 _ rfl
     rw [Ba _ _ 2 (by omega)] at L
     replace L := Option.some.inj (L.symm.trans vC)
     injection L with hva_ hvn_ hvc_
     rw [hva_] at gB
     rw [hvc_] at jB
     have s := mk0 (show Kd.V (Kd.int .u8) 73 _ w.heap.size _ _ ((AB l1 j).f2) from Kd.DN jB gB)
     clear hva_ hvn_ hvc_ gB jB
     have O := lB 3 _ rfl
     rw [Ba _ _ 3 (by omega)] at O
     replace O := Option.some.inj (O.symm.trans wC)
     injection O with hva_ hvn_ hvc_
     rw [hva_] at hB
     rw [hvc_] at kB
     have u := mk0 (show Kd.V k30 30 _ w.heap.size _ _ ((AB l1 j).f3) from Kd.DN kB hB)
     clear hva_ hvn_ hvc_ hB kB; clear lB oD; have J := mk0 oB; have qC := mk0 sB; clear oB sB; have dB := mk0 qB; have rC := mk0 tB; clear qB tB; replace mC := eq_true mC; replace nC := eq_true nC
     go_wp2_with (first | ((with_reducible refine AC rfl (N := 8) rfl (cs := #[.int .i64 0, .int .i64 0, .slice none 0 0, .slice none 0 0]) (t := 30) ?hr ?_); (case hr => first | (go_simp; done) | (go_simp; rfl)); intro m hg qK mB y; obtain ⟨v, r, s, u⟩ := tg4 hg y v r s u; obtain ⟨x, J, dB⟩ := tb3 y x J dB; have W := mk0 (mB); have I := bs (be2 G d i) hg; replace G := kh2 G d i y; have ⟨eB, eC⟩ := nn c hg; have ⟨fB, fC⟩ := nn a hg; obtain ⟨c, a⟩ := tb2 y c a; clear y mB hg; have ⟨pI, dJ⟩ := no eC eB; have ⟨qI, eJ⟩ := no fC fB; have aK := AZ W.out; have ⟨tI, fJ⟩ := no z B; have bK := cells5 c.out) | ((with_reducible refine AO (f := 45) rfl ?_); refine GR Try.func45 #[.agg #[.int .i64 Z, .int .i64 bB, .string cB, .slice aC T.length cC, .slice bC U.length dC], .agg #[.int .i64 ((AB l1 j).f0), .int .i64 ((AB l1 j).f1), .slice wB ((AB l1 j).f2).length yB, .slice xB ((AB l1 j).f3).length zB]] ?_; (with_reducible refine (Bo.calls ?side9 ?side1 ?side2 ?side3 ?side4 ?side5 ?side6 ?side7 ?side8 aH.out).mono ?_); (case side1 => exact Kd.BA kD.out (be3 G d i I)); (case side2 => exact hD.out); (case side3 => exact Kd.BA lD.out (be3 G d i I)); (case side4 => exact jD.out); (case side5 => exact ((Kd.AP (by exact Ay ((vF (q := m) s (fun _ l => l.2))))).2.2)); (case side6 => exact qC.out); (case side7 => exact ((Kd.AP (by exact Ay ((vF (q := m) u (fun _ l => l.2))))).2.2)); (case side8 => exact rC.out); (case side9 => exact Aj HG.out (be3 G d i I)); rintro e rK ⟨rfl, y⟩; refine ⟨_, rfl, ?_⟩; replace v := mk0 (Kd.BL (Ay ((vF (q := m) v (fun _ l => l.2)))) y); replace x := mk0 (Kd.ED (Df ((Kd.BJ (rI (q := m) (Kd.BF x.out W.out (by decide)) (fun _ l => l.2)) (fun _ h_ => h_.1)))) y); replace r := mk0 (Kd.BL (Ay ((vF (q := m) r (fun _ l => l.2)))) y); replace c := kF eB c y; replace a := kF fB a y; replace J := mk0 (Kd.BA ((Kd.AP (by exact Ay ((vF (q := m) s (fun _ l => l.2))))).2.2) y); replace s := mk0 (Kd.BL (Ay ((vF (q := m) s (fun _ l => l.2)))) y); replace dB := mk0 (Kd.BA ((Kd.AP (by exact Ay ((vF (q := m) u (fun _ l => l.2))))).2.2) y); replace u := mk0 (Kd.BL (Ay ((vF (q := m) u (fun _ l => l.2)))) y); replace W := mk0 (AU (g := m) (o := .cells #[.int .i64 ((AB l1 j).f0), .int .i64 ((AB l1 j).f1), .slice wB ((AB l1 j).f2).length yB, .slice xB ((AB l1 j).f3).length zB] 30 (0, 0)) (pB W) y); replace G := kh3 G d i I y; have cK := AZ W.out) | ((with_reducible refine Et (b := .append) (xs := #[.tmp 34, .tmp 36]) rfl ?_); (try (refine Ec (by rfl) ?_; dsimp only)); at_builtin; refine Kd.Fa (Kd.int .u8) (w0 := w) w.heap.size rfl (.tmp 34) (.tmp 36) 27 73 (.int .u8 0) 1 rfl Try.underlying27 Fe rfl (by decide) (by omega) u6 uB ((AB l1 j).f2) _ _ _ (fun p => (w.heap.size ≤ p)) (fun _ => False) rfl rfl ?aO ?aR (fun _ _ h => h) (fun _ h => h.elim) ?aF ?aB ?aS ?aL ?_; (case aR => repeat (first | exact (by repeat (first | (with_reducible exact J.out) | (with_reducible refine Kd.Cn ?_ _) | (with_reducible refine Kd.Co ?_ _) | (with_reducible refine Kd.Cv ?_) | exact J.out)) | (with_reducible refine Kd.Cn ?_ _) | (with_reducible refine Kd.Co ?_ _) | (with_reducible refine Kd.Cv ?_))); (case aB => exact (be3 G d i I)); (case aF => exact (fun p l => (Nat.le_trans (AV (be3 G d i I)) l))); (case aO => exact (DZ x.out)); (case aS => exact (AV (be3 G d i I))); (case aL => have := jG.out; omega); intro v752 sK ho y hg nE; rw [← kG.out] at ho; replace v := mk0 (Kd.Bh (ok := (fun p => (hC p ∨ w.heap.size ≤ p) ∧ p ≠ D ∧ p ≠ n ∧ p ≠ m)) (Ay (Kd.AJ v.out (fun _ l => ⟨⟨l.1.1, ⟨l.1.2.2.1, ⟨l.1.2.2.2, l.2⟩⟩⟩, l.1.2.1⟩))) hg nE); replace r := mk0 (Kd.Bh (ok := (fun p => (hC p ∨ w.heap.size ≤ p) ∧ p ≠ D ∧ p ≠ n ∧ p ≠ m)) (Ay (Kd.AJ r.out (fun _ l => ⟨⟨l.1.1, ⟨l.1.2.2.1, ⟨l.1.2.2.2, l.2⟩⟩⟩, l.1.2.1⟩))) hg nE); replace c := mk0 (Bd (g := D) (o := .cells #[.int .i64 Z, .int .i64 bB, .string cB, .slice aC T.length cC, .slice bC U.length dC] 26 (0, 0)) (Ac c.out) hg (Kd.GK x.out c.out (by decide))); replace a := mk0 (Bd (g := n) (o := .cells #[.int .i64 X, .int .i64 Y, .slice none 0 0, .slice none 0 0] 30 (0, 0)) (Ac a.out) hg (Kd.GK x.out a.out (by decide))); replace s := mk0 (Kd.Bh (ok := (fun p => (hC p ∨ w.heap.size ≤ p) ∧ p ≠ D ∧ p ≠ n ∧ p ≠ m)) (Ay (Kd.AJ s.out (fun _ l => ⟨⟨l.1.1, ⟨l.1.2.2.1, ⟨l.1.2.2.2, l.2⟩⟩⟩, l.1.2.1⟩))) hg nE); replace u := mk0 (Kd.Bh (ok := (fun p => (hC p ∨ w.heap.size ≤ p) ∧ p ≠ D ∧ p ≠ n ∧ p ≠ m)) (Ay (Kd.AJ u.out (fun _ l => ⟨⟨l.1.1, ⟨l.1.2.2.1, ⟨l.1.2.2.2, l.2⟩⟩⟩, l.1.2.1⟩))) hg nE); replace W := mk0 (Bd (g := m) (o := .cells #[.int .i64 ((AB l1 j).f0), .int .i64 ((AB l1 j).f1), .slice wB ((AB l1 j).f2).length yB, .slice xB ((AB l1 j).f3).length zB] 30 (0, 0)) (Ac W.out) hg (Kd.GK x.out W.out (by decide))); replace G := mk0 (y); have iG := mk0 (ho); clear x; clear ho y hg nE))
     go_roundg k2
     case measure => have := fH.out; have := gH.out; omega
     case rel => exact ⟨(cG), (wrap64 (j + 1)), (X), (Y), rfl, H', ⟨by have := fH.out; have := gH.out; omega⟩, ⟨Ay (Kd.AJ v.out (fun _ l => ⟨l.1.1, ⟨l.2, ⟨l.1.2.1, l.1.2.2.1⟩⟩⟩))⟩, ⟨DZ iG.out⟩, ⟨Ay (Kd.AJ r.out (fun _ l => ⟨l.1.1, ⟨l.2, ⟨l.1.2.1, l.1.2.2.1⟩⟩⟩))⟩, ⟨bu c⟩, ⟨bu a⟩, ⟨be3 G d i I⟩⟩
end Go.Proofs.Ytojankgmedccdaa.PGn
