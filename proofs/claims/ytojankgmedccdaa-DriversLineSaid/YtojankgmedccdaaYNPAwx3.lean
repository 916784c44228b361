/- Lemmas. -/
import Derived.Test.YtojankgmedccdaaYNPAwx2
set_option maxHeartbeats 8000000
set_option maxRecDepth 100000
namespace Go.Proofs.Ytojankgmedccdaa.PAw
open Go.RowKit Own PTy Hand PIs Wo
attribute [local go_sem] BS BU Bf Bg BC BD BX BZ
set_option linter.unusedVariables false
set_option linter.unusedSimpArgs false
def CO.l0 : Nat → List (S30) → List Int → List (S30) → Int → Int → Int → Int → ByteArray → List ByteArray → List (S26) → Option (Int × Int × List Int × (List (S30)) × Int)
 | 0, _, _, _, _, _, _, _, _, _, _ => none
 | k + 1, x1, x6, g, x24, x25, a, b, c, d, e => if x25 < x24 then (if 0 ≤ x25 then (if x25 < (g.length : Int) then ((Ca.f k a b c d e ((AB g x25).f0) ((AB g x25).f1) ((AB g x25).f2) ((AB g x25).f3)).bind fun t162 => (if t162 = true then (if x6.length + ((AB g x25).f2).length < 140737488355328 then (CO.l0 k x1 (x6 ++ ((AB g x25).f2)) g x24 (wrap64 (x25 + 1)) a b c d e) else (none)) else (none))) else (none)) else (none)) else (if (x1.length : Int) = 1 then (none) else (if a = 1 then ((logic_Resolve.f k x6).bind fun h => (some (1, 0, (([h.1] : List Int)), ([] : List (S30)), h.2))) else (none)))
def CO.f (k : Nat) (a : Int) (b : Int) (c : ByteArray) (d : List ByteArray) (e : List (S26)) (l1 : List (S30)) : Option (Int × Int × List Int × (List (S30)) × Int) := (CP.f k a b c d e).bind fun t156 => (if t156 = true then (if (l1.length : Int) = 0 then (none) else (if 0 ≤ (l1.length : Int) then (if ((l1.length : Int) : Int).toNat ≤ 281474976710656 then (CO.l0 k l1 (([] : List Int)) l1 (l1.length : Int) 0 a b c d e) else (none)) else (none))) else (none))
theorem CO.calls (k : Nat) (r : Int) (y : Int) (z : ByteArray) (Z : Option Addr) (cB : Nat) (s : List ByteArray) (bB : Option Addr) (dB : Nat) (u : List (S26)) (A1 : Option Addr) (c1 : Nat) (l1 : List (S30)) (r1 : Int) (r2 : Int) (r3 : List Int) (r4 : List (S30)) (r5 : Int) (w : World) (hG : EP w) (rC : Kd.C Kd.string w Z s.length s) (pC : s.length ≤ cB) (sC : Kd.C k26 w bB u.length u) (qC : u.length ≤ dB) (dE : Kd.C k30 w A1 l1.length l1) (cE : l1.length ≤ c1) (h : CO.f k r y z s u l1 = some (r1, r2, r3, r4, r5)) :
  Calls Try.prog 30 #[.agg #[.int .i64 r, .int .i64 y, .string z, .slice Z s.length cB, .slice bB u.length dB], .slice A1 l1.length c1] w fun e w' => ∃ oD jE : Value, e = .returned (.tuple #[.agg #[.int .i64 r1, .int .i64 r2, oD, jE], .int .i64 r5]) ∧ Kd.R (Kd.int .u8) 73 w' w.heap.size (fun _ => True) oD r3 ∧ Kd.R k30 30 w' w.heap.size (fun k_ => nw oD k_) jE r4 ∧ Below w.heap.size w w' := by
 have HG := mk0 hG; clear hG
 have sF := Try.underlying26
 have tF := Try.underlying30
 have kC := mk0 rC; have fC := mk0 pC; clear rC pC; have lC := mk0 sC; have gC := mk0 qC; clear sC qC; have pE := mk0 dE; have yF := mk0 cE; clear dE cE
 have p := mk0 (Below.refl w.heap.size w)
 have H := h; unfold CO.f at H
 clear h
 replace H := bS H; obtain ⟨t156, A3, H⟩ := H
 replace H := iB' H; obtain ⟨rfl, H⟩ | ⟨rfl, H⟩ := H
 ·exact absurd H (by simp)
 by_cases c5 : (l1.length : Int) = 0
 ·rw [if_pos c5] at H; exact absurd H (by simp)
 rw [if_neg c5] at H
 have rD : ((l1.length : Int) == 0) = false := beq_eq_false_iff_ne.mpr c5
 have sD : ((l1.length : Int) != 0) = true := bne_iff_ne.mpr c5
 have tD : ¬ (l1 = []) := fun h_ => c5 (by rw [h_]; rfl)
 by_cases c6 : 0 ≤ (l1.length : Int)
 rotate_left
 ·rw [if_neg c6] at H; exact absurd H (by simp)
 rw [if_pos c6] at H; have uD := eq_true c6; have vD : decide (0 ≤ (l1.length : Int)) = true := decide_eq_true c6; clear c6
 by_cases c7 : ((l1.length : Int) : Int).toNat ≤ 281474976710656
 rotate_left
 ·rw [if_neg c7] at H; exact absurd H (by simp)
 rw [if_pos c7] at H; have wD := eq_true c7; have xD : decide (((l1.length : Int) : Int).toNat ≤ 281474976710656) = true := decide_eq_true c7; clear c7
 obtain ⟨zC, W⟩ : ∃ y_ : List Int, y_ = (([] : List Int)) := ⟨_, rfl⟩
 replace H : (CO.l0 k l1 zC l1 (l1.length : Int) 0 r y z s u) = some (r1, r2, r3, r4, r5) := by first | (rw [W]; with_reducible exact H) | (have L := (Option.bind_some _ _).symm.trans H; rw [W]; with_reducible exact L) | (have L := (Option.bind_some _ _).symm.trans H; with_reducible exact L) | with_reducible exact H | (rw [W]; exact H) | exact H
 have nC := mk0 W; clear W
 have H' := mk0 H
 clear H
 go_enter Try.func30, Try.ntmps30
 go_wp2_with (first | ((with_reducible refine AQ rfl (N := 2) rfl (cs := #[.int .i64 r, .int .i64 y, .string z, .slice Z s.length cB, .slice bB u.length dB]) (t := 26) ?hr ?_); (case hr => first | (go_simp; done) | (go_simp; rfl)); intro yB hg w8 J B; have a := mk0 (J); have d := bs (be p) hg; replace p := kh p B; clear B J hg) | ((with_reducible refine AQ rfl (N := 4) rfl (cs := #[.int .i64 0, .int .i64 0, .slice none 0 0, .slice none 0 0]) (t := 30) ?hr ?_); (case hr => first | (go_simp; done) | (go_simp; rfl)); intro U hg w9 J B; have c := mk0 (J); have i := bs (be1 p d) hg; replace p := kh1 p d B; have ⟨D, G⟩ := nn a hg; replace a := kb a B; clear B J hg; have ⟨cF, hF⟩ := no D G; have gG := cells5 a.out) | ((with_reducible refine AJ (f := 17) rfl ?_); refine CS Try.func17 (CP.calls k r y z _ _ s _ _ u true _ (Aa HG.out (be2 p d i)) (cu kC p) fC.out (cu lC p) gC.out A3.out) ?_; intro aG B; obtain ⟨a, c⟩ := tb2 B a c; replace p := kh2 p d i B) | ((with_reducible refine FW (N := 22) rfl ?_); (try (refine D7 (by rfl) ?_; dsimp only)); refine Kd.Ll (Kd.int .u8) _ 73 rfl (N := 22) rfl 27 _ _ rfl (l1.length : Int) rfl rfl Try.underlying27 (.int .u8 0) 1 Fz rfl (by decide) (by omega) 0 (ok := fun _ => True) (okp := fun _ => True) rfl (fun _ hk => hk) trivial (of_decide_eq_true (by assumption)) (Nat.le_trans (Nat.mul_le_mul_right _ (of_decide_eq_true (by assumption) : (l1.length : Int).toNat ≤ 281474976710656)) (by omega)) (Below.refl _ _) (Nat.le_refl _) ?_; intro v158 bG mB B hD aC; clear hD aC; (first | rw [← nC.out] at mB | (simp only [Int.reduceToNat] at mB; rw [← nC.out] at mB)); have cD := mk0 (Kd.Cb mB (AU (be2 p d i))); obtain ⟨a, c⟩ := tb2 B a c; replace p := kh2 p d i B; clear B mB))
 go_loopg [6, 25] k (fun kq v6 v25 w' => ∃ (I : List Int) (j : Int) (m : Int) (n : Int), v25 = .int .i64 j ∧ Aside0 (CO.l0 kq l1 I l1 (l1.length : Int) j r y z s u = some (r1, r2, r3, r4, r5)) ∧ Aside0 (kq ≤ k) ∧ Aside0 (Kd.R (Kd.int .u8) 73 w' w.heap.size (fun _ => True) v6 I) ∧ Aside0 (bk w' yB 26 #[.int .i64 r, .int .i64 y, .string z, (.slice Z s.length cB), (.slice bB u.length dB)]) ∧ Aside0 (bk w' U 30 #[.int .i64 m, .int .i64 n, (.slice none 0 0), (.slice none 0 0)]) ∧ Aside0 (Below w.heap.size w w'))
 case atStart => exact ⟨(zC), (0), (0), (0), rfl, H', ⟨Nat.le_refl _⟩, ⟨Dc cD.out⟩, ⟨bu a⟩, ⟨bu c⟩, ⟨be2 p d i⟩⟩
 case round =>
  clear H'; try clear c1; try clear c5; try clear rD; try clear sD; try clear tD; try clear c6; try clear uD; try clear vD; try clear c7; try clear wD; try clear xD
  obtain ⟨I, j, m, n, rfl, HA, qD, l, a, c, p⟩ := hrel; cases gk with
  | zero => exact absurd HA.out (by simp [CO.l0])
  | succ k1 =>
   have H := HA.out; clear HA; simp only [CO.l0] at H; replace H := iD' H; obtain ⟨-, gD, H⟩ | ⟨-, gD, H⟩ := H
   ·by_cases c30 : (l1.length : Int) = 1
    ·rw [if_pos c30] at H; exact absurd H (by simp)
    rw [if_neg c30] at H; have uE : ((l1.length : Int) == 1) = false := beq_eq_false_iff_ne.mpr c30; have vE : ((l1.length : Int) != 1) = true := bne_iff_ne.mpr c30; by_cases c31 : r = 1; rotate_left
    ·rw [if_neg c31] at H; exact absurd H (by simp)
    rw [if_pos c31] at H; have wE : (r == 1) = true := beq_iff_eq.mpr c31; have xE : (r != 1) = false := bne_eq_false_iff_eq.mpr c31; clear c31; replace H := Option.bind_eq_some_iff.mp H; obtain ⟨⟨fB, t167⟩, vC, H⟩ := H; replace H : (some (1, 0, (([fB] : List Int)), ([] : List (S30)), t167)) = some (r1, r2, r3, r4, r5) := H; have nE := mk0 vC; clear vC; obtain ⟨bD, Y⟩ : ∃ y_ : List Int, y_ = (([fB] : List Int)) := ⟨_, rfl⟩; replace H : (some (1, 0, bD, ([] : List (S30)), t167)) = some (r1, r2, r3, r4, r5) := by first | (rw [Y]; with_reducible exact H) | (have L := (Option.bind_some _ _).symm.trans H; rw [Y]; with_reducible exact L) | (have L := (Option.bind_some _ _).symm.trans H; with_reducible exact L) | with_reducible exact H | (rw [Y]; exact H) | exact H
    have oC := mk0 Y; clear Y; simp only [Option.some.injEq, Prod.mk.injEq] at H; obtain ⟨rfl, rfl, rfl, rfl, rfl⟩ := H; have ⟨gF, oF⟩ := no D G; have z34 := cells5 a.out; obtain ⟨wC, xC, aE⟩ := Kd.Bt l.out; subst aE; go_wp2_with (first | ((with_reducible refine AJ (f := 53) rfl ?_); refine FQ Try.func53 #[.slice wC I.length xC] ?_; (with_reducible refine (logic_Resolve.calls ?side1 ?side2 nE.out).mono ?_); (case side1 => repeat (first | exact (Kd.Cg l.out).2.2 | (with_reducible refine Kd.Ce ?_ _) | (with_reducible refine Kd.Cf ?_ _) | (with_reducible refine Kd.Cq ?_))); (case side2 => exact (Kd.Cg l.out).2.1); rintro e w' ⟨rfl, nd, rfl⟩; refine ⟨_, rfl, ?_⟩; (try (rw [K8 wr]; generalize hq_ : World.drewN wr _ = wr; have eE : Aside0 (Kd.R (Kd.int .u8) 73 wr w.heap.size (fun _ => True) (.slice wC I.length xC) I) := ⟨by rw [← hq_]; exact (Dc l.out)⟩; have fE : Aside0 (bk wr yB 26 #[.int .i64 r, .int .i64 y, .string z, .slice Z s.length cB, .slice bB u.length dB]) := ⟨by rw [← hq_]; exact (Au a.out)⟩; have gE : Aside0 (bk wr U 30 #[.int .i64 m, .int .i64 n, .slice none 0 0, .slice none 0 0]) := ⟨by rw [← hq_]; exact (Au c.out)⟩; have hE : Aside0 (Below w.heap.size w wr) := ⟨by rw [← hq_]; exact (be2 p d i)⟩; clear l a c p hq_; have l := eE; have a := fE; have c := gE; have p := hE; clear eE fE gE hE))) | ((with_reducible refine FW (N := 56) rfl ?_); (try (refine D7 (by rfl) ?_; dsimp only)); refine Kd.KM (Kd.int .u8) _ 73 ?hg (N := 56) ?hd (xs := ([fB] : List Int)) (inner := [.int .u8 fB]) (ok := fun _ => True) (okp := fun _ => True) ?hr ?hp (fun _ hk => hk) trivial (Below.refl _ _) (Nat.le_refl _) (by simp) ?_; (case hd => rfl); (case hg => rfl); (case hr => first | (go_simp; done) | (go_simp; rfl)); (case hp => exact (CK.one (show Kd.M (Kd.int .u8) _ _ _ fB [.int .u8 fB] from rfl) (CK.none _ _))); intro v169 fG eB B hD aC; clear hD aC; (first | rw [← oC.out] at eB | (simp only [Int.reduceToNat] at eB; rw [← oC.out] at eB)); have jC := mk0 (Kd.Cb (Kd.GM eB (Kd.G8 (Dc l.out))) (AU (be2 p d i))); replace l := mk0 (Kd.Gb (Dc l.out) (Kd.Az eB) B); obtain ⟨a, c⟩ := tb2 B a c; replace p := kh2 p d i B; clear B eB; obtain ⟨pD, yD, bE⟩ := Kd.Bt jC.out; subst bE; have z39 := Ay c.out)); refine bodyPost_ret (Ej rfl _ _ U 30 #[.int .i64 1, .int .i64 0, .slice pD bD.length yD, .slice none 0 0] (0, 0) _ rfl (pB c) Try.underlying30 rfl (by kernel_rfl)) rfl ?_; exact ⟨_, _, rfl, by exact Dx (Kd.BK (rI (q := U) (Kd.Ai jC.out c.out (by decide)) (fun _ hk => hk.2)) (fun _ hk => trivial)), by first | exact Kd.Dq _ _ _ _ _ | exact Kd.ED _ _ _ _ _ | exact Kd.DZ _ _ _ _ _ | exact Kd.EB _ _ _ _ _ | exact Kd.EC _ _ _ _ _, be2 p d i⟩
   replace H := iN H; obtain ⟨-, sE, H⟩ := H; replace H := iN H; obtain ⟨-, tE, H⟩ := H; replace H := bS H; obtain ⟨t162, mE, H⟩ := H; replace H := iB' H; obtain ⟨rfl, H⟩ | ⟨rfl, H⟩ := H
   ·exact absurd H (by simp)
   by_cases c20 : I.length + ((AB l1 j).f2).length < 140737488355328; rotate_left
   ·rw [if_neg c20] at H; exact absurd H (by simp)
   rw [if_pos c20] at H; have eD := mk0 c20; clear c20; obtain ⟨aD, X⟩ : ∃ y_ : List Int, y_ = (I ++ ((AB l1 j).f2)) := ⟨_, rfl⟩; replace H : (CO.l0 k1 l1 aD l1 (l1.length : Int) (wrap64 (j + 1)) r y z s u) = some (r1, r2, r3, r4, r5) := by first | (rw [X]; with_reducible exact H) | (have L := (Option.bind_some _ _).symm.trans H; rw [X]; with_reducible exact L) | (have L := (Option.bind_some _ _).symm.trans H; with_reducible exact L) | with_reducible exact H | (rw [X]; exact H) | exact H
   have fD := mk0 X; clear X; have H' := mk0 H; clear H; have tC : 0 ≤ (j : Int) := od; have uC : j < (l1.length : Int) := od; obtain ⟨qE, bC, dC, cC, eC, zD, qB, sB, tB, uB, kB, hB, lB, jB⟩ := D8 pE.out j tC uC; cases zD; replace qB := AP p.out qB; replace sB := AP p.out sB; replace tB := AP p.out tB; replace uB := AP p.out uB; have gB := mk0 hB; have hC := mk0 kB; clear hB kB; have mC := mk0 jB; have iC := mk0 lB; clear jB lB; replace tC := eq_true tC; replace uC := eq_true uC; go_wp2_with (first | ((with_reducible refine AQ rfl (N := 8) rfl (cs := #[.int .i64 0, .int .i64 0, .slice none 0 0, .slice none 0 0]) (t := 30) ?hr ?_); (case hr => first | (go_simp; done) | (go_simp; rfl)); intro zB hg cG J B; replace l := rb l B; have x := mk0 (J); have v := bs (be2 p d i) hg; replace p := kh2 p d i B; have ⟨O, wB⟩ := nn a hg; have ⟨T, xB⟩ := nn c hg; obtain ⟨a, c⟩ := tb2 B a c; clear B J hg; have ⟨dF, jF⟩ := no wB O; have ⟨eF, lF⟩ := no xB T; have z24 := Ay x.out; have ⟨fF, mF⟩ := no D G; have z26 := cells5 a.out) | ((with_reducible refine AJ (f := 45) rfl ?_); refine CS Try.func45 (Ca.calls (Aa HG.out (be3 p d i v)) (Kd.Ap kC.out (be3 p d i v)) fC.out (Kd.Ap lC.out (be3 p d i v)) gC.out (Kd.Ap gB.out (be3 p d i v)) hC.out (Kd.Ap mC.out (be3 p d i v)) iC.out mE.out) ?_; intro dG B; replace l := mk0 (Kd.ET (Dx ((Kd.BK (rI (q := zB) (Kd.Ai l.out x.out (by decide)) (fun _ hk => hk.2)) (fun _ h_ => h_.1)))) B); replace a := kF O a B; replace c := kF T c B; replace x := mk0 (AX (g := zB) (o := .cells #[.int .i64 ((AB l1 j).f0), .int .i64 ((AB l1 j).f1), .slice bC ((AB l1 j).f2).length dC, .slice cC ((AB l1 j).f3).length eC] 30 (0, 0)) (pB x) B); replace p := kh3 p d i v B; have z28 := Ay x.out) | ((with_reducible refine Dt (b := .append) (xs := #[.tmp 34, .tmp 36]) rfl ?_); (try (refine D7 (by rfl) ?_; dsimp only)); at_builtin; refine Kd.Fx (Kd.int .u8) (w0 := w) w.heap.size rfl (.tmp 34) (.tmp 36) 27 73 (.int .u8 0) 1 rfl Try.underlying27 Fz rfl (by decide) (by omega) u6 I ((AB l1 j).f2) _ _ _ (fun _ => True) (fun _ => False) rfl rfl ?aO ?aR (fun _ _ h => h) (fun _ h => h.elim) ?aF ?aB ?aS ?aL ?_; (case aR => exact cu gB p); (case aB => exact (be3 p d i v)); (case aF => exact (fun _ _ => trivial)); (case aO => exact (Dc l.out)); (case aS => exact (AU (be3 p d i v))); (case aL => have := eD.out; omega); intro v164 eG ho B hg zE; rw [← fD.out] at ho; replace a := mk0 (BR (g := yB) (o := .cells #[.int .i64 r, .int .i64 y, .string z, .slice Z s.length cB, .slice bB u.length dB] 26 (0, 0)) (Au a.out) hg (Kd.Hl l.out a.out (by decide))); replace c := mk0 (BR (g := U) (o := .cells #[.int .i64 m, .int .i64 n, .slice none 0 0, .slice none 0 0] 30 (0, 0)) (Au c.out) hg (Kd.Hl l.out c.out (by decide))); replace x := mk0 (BR (g := zB) (o := .cells #[.int .i64 ((AB l1 j).f0), .int .i64 ((AB l1 j).f1), .slice bC ((AB l1 j).f2).length dC, .slice cC ((AB l1 j).f3).length eC] 30 (0, 0)) (Au x.out) hg (Kd.Hl l.out x.out (by decide))); replace p := mk0 (B); have dD := mk0 (ho); clear l; clear ho B hg zE)); go_roundg k1
   case measure => have := qD.out; omega
   case rel => exact ⟨(aD), (wrap64 (j + 1)), (m), (n), rfl, H', ⟨by have := qD.out; omega⟩, ⟨Dc dD.out⟩, ⟨bu a⟩, ⟨bu c⟩, ⟨be3 p d i v⟩⟩
def r01Same.l0 : Nat → List Int → List Int → Int → Int → Option (Bool)
 | 0, _, _, _, _ => none
 | k + 1, x0, x1, b, a => if a < b then (if 0 ≤ a then (if a < (x0.length : Int) then (if a < (x1.length : Int) then (if (rd x0 a) = (rd x1 a) then (r01Same.l0 k x0 x1 b (wrap64 (a + 1))) else (some false)) else (none)) else (none)) else (none)) else (some true)
def r01Same.f (k : Nat) (l0 : List Int) (l1 : List Int) : Option (Bool) := if (l0.length : Int) = (l1.length : Int) then (r01Same.l0 k l0 l1 (l0.length : Int) 0) else (some false)
theorem r01Same.calls {k : Nat} {W : Option Addr} {Y : Nat} {l0 : List Int} {X : Option Addr} {U : Nat} {l1 : List Int} {r : Bool} {w : World} (J : Kd.C (Kd.int .u8) w W l0.length l0) (G : l0.length ≤ Y) (L : Kd.C (Kd.int .u8) w X l1.length l1) (I : l1.length ≤ U) (h : r01Same.f k l0 l1 = some r) :
  Calls Try.prog 55 #[.slice W l0.length Y, .slice X l1.length U] w fun e w' => e = .returned (.bool r) ∧ Ar w w' := by
 have x := mk0 J; have dB := mk0 G; clear J G; have y := mk0 L; have eB := mk0 I; clear L I
 have H := h; unfold r01Same.f at H
 clear h
 replace H := iF' H; obtain ⟨u, n, o, H⟩ | ⟨u, n, o, H⟩ := H
 ·have p : (l0.length == l1.length) = false := by first | simpa using u | (simp at u ⊢; omega)
  obtain rfl := sI H; go_enter Try.func55, Try.ntmps55; go_wp2; repeat (go_quiet (fail); try go_wp2)
  go_ret; exact dn
 have p : (l0.length == l1.length) = true := by first | simpa using u | (simp at u ⊢; omega)
 clear u
 have O := mk0 H
 clear H
 go_enter Try.func55, Try.ntmps55
 go_wp2
 repeat (go_quiet (fail); try go_wp2)
 go_loopg [13] k (fun kq v13 w' => ∃ (a : Int), v13 = .int .i64 a ∧ Aside0 (r01Same.l0 kq l0 l1 (l0.length : Int) a = some r) ∧ Aside0 (kq ≤ k) ∧ Ar w w')
 case atStart => exact ⟨(0), rfl, O, ⟨Nat.le_refl _⟩, dr⟩
 case round =>
  clear O; try clear U; try clear u; try clear n; try clear o; try clear p
  obtain ⟨a, rfl, T, v, m1, rfl⟩ := hrel; cases gk with
  | zero => exact absurd T.out (by simp [r01Same.l0])
  | succ k1 =>
   have H := T.out; clear T; simp only [r01Same.l0] at H; replace H := iD' H; obtain ⟨-, z, H⟩ | ⟨-, z, H⟩ := H
   ·obtain rfl := sI H; go_wp2; repeat (go_quiet (fail); try go_wp2)
    go_ret; exact dn
   replace H := iN H; obtain ⟨-, Z, H⟩ := H; replace H := iN H; obtain ⟨-, aB, H⟩ := H; replace H := iN H; obtain ⟨-, bB, H⟩ := H; replace H := iE' H; obtain ⟨c8, B, D, H⟩ | ⟨B, D, H⟩ := H
   ·obtain rfl := sI H; have b : 0 ≤ (a : Int) := od; have d : a < (l0.length : Int) := od; obtain ⟨q, i, l⟩ := Kd.D5 x.out a b d; cases i; replace b := eq_true b; replace d := eq_true d; have c : 0 ≤ (a : Int) := od; have g : a < (l1.length : Int) := od; obtain ⟨s, j, m⟩ := Kd.D5 y.out a c g; cases j; replace c := eq_true c; replace g := eq_true g; go_wp2; repeat (go_quiet (fail); try go_wp2)
    go_ret; exact dn
   have O := mk0 H; clear H; have b : 0 ≤ (a : Int) := od; have d : a < (l0.length : Int) := od; obtain ⟨q, i, l⟩ := Kd.D5 x.out a b d; cases i; replace b := eq_true b; replace d := eq_true d; have c : 0 ≤ (a : Int) := od; have g : a < (l1.length : Int) := od; obtain ⟨s, j, m⟩ := Kd.D5 y.out a c g; cases j; replace c := eq_true c; replace g := eq_true g; go_wp2; repeat (go_quiet (fail); try go_wp2)
   go_roundg k1
   case measure => have := v.out; omega
   case rel => exact ⟨(wrap64 (a + 1)), rfl, O, ⟨by have := v.out; omega⟩, dr⟩
def api_Bit_96.l0 : Nat → List Int → List Int → Int → Int → Option (Bool)
 | 0, _, _, _, _ => none
 | k + 1, x0, x1, b, a => if a < b then (if 0 ≤ a then (if a < (x0.length : Int) then (if a < (x1.length : Int) then (if (rd x0 a) = (rd x1 a) then (api_Bit_96.l0 k x0 x1 b (wrap64 (a + 1))) else (some false)) else (none)) else (none)) else (none)) else (some true)
def api_Bit_96.f (k : Nat) (l0 : List Int) (l1 : List Int) : Option (Bool) := if (l0.length : Int) = (l1.length : Int) then (api_Bit_96.l0 k l0 l1 (l0.length : Int) 0) else (some false)
theorem api_Bit_96.calls {k : Nat} {W : Option Addr} {Y : Nat} {l0 : List Int} {X : Option Addr} {U : Nat} {l1 : List Int} {r : Bool} {w : World} (J : Kd.C (Kd.int .u8) w W l0.length l0) (G : l0.length ≤ Y) (L : Kd.C (Kd.int .u8) w X l1.length l1) (I : l1.length ≤ U) (h : api_Bit_96.f k l0 l1 = some r) :
  Calls Try.prog 96 #[.slice W l0.length Y, .slice X l1.length U] w fun e w' => e = .returned (.bool r) ∧ Ar w w' := by
 have x := mk0 J; have dB := mk0 G; clear J G; have y := mk0 L; have eB := mk0 I; clear L I
 have H := h; unfold api_Bit_96.f at H
 clear h
 replace H := iF' H; obtain ⟨u, n, o, H⟩ | ⟨u, n, o, H⟩ := H
 ·have p : (l0.length == l1.length) = false := by first | simpa using u | (simp at u ⊢; omega)
  obtain rfl := sI H; go_enter Try.func96, Try.ntmps96; go_wp2; repeat (go_quiet (fail); try go_wp2)
  go_ret; exact dn
 have p : (l0.length == l1.length) = true := by first | simpa using u | (simp at u ⊢; omega)
 clear u
 have O := mk0 H
 clear H
 go_enter Try.func96, Try.ntmps96
 go_wp2
 repeat (go_quiet (fail); try go_wp2)
 go_loopg [13] k (fun kq v13 w' => ∃ (a : Int), v13 = .int .i64 a ∧ Aside0 (api_Bit_96.l0 kq l0 l1 (l0.length : Int) a = some r) ∧ Aside0 (kq ≤ k) ∧ Ar w w')
 case atStart => exact ⟨(0), rfl, O, ⟨Nat.le_refl _⟩, dr⟩
 case round =>
  clear O; try clear U; try clear u; try clear n; try clear o; try clear p
  obtain ⟨a, rfl, T, v, m1, rfl⟩ := hrel; cases gk with
  | zero => exact absurd T.out (by simp [api_Bit_96.l0])
  | succ k1 =>
   have H := T.out; clear T; simp only [api_Bit_96.l0] at H; replace H := iD' H; obtain ⟨-, z, H⟩ | ⟨-, z, H⟩ := H
   ·obtain rfl := sI H; go_wp2; repeat (go_quiet (fail); try go_wp2)
    go_ret; exact dn
   replace H := iN H; obtain ⟨-, Z, H⟩ := H; replace H := iN H; obtain ⟨-, aB, H⟩ := H; replace H := iN H; obtain ⟨-, bB, H⟩ := H; replace H := iE' H; obtain ⟨c8, B, D, H⟩ | ⟨B, D, H⟩ := H
   ·obtain rfl := sI H; have b : 0 ≤ (a : Int) := od; have d : a < (l0.length : Int) := od; obtain ⟨q, i, l⟩ := Kd.D5 x.out a b d; cases i; replace b := eq_true b; replace d := eq_true d; have c : 0 ≤ (a : Int) := od; have g : a < (l1.length : Int) := od; obtain ⟨s, j, m⟩ := Kd.D5 y.out a c g; cases j; replace c := eq_true c; replace g := eq_true g; go_wp2; repeat (go_quiet (fail); try go_wp2)
    go_ret; exact dn
   have O := mk0 H; clear H; have b : 0 ≤ (a : Int) := od; have d : a < (l0.length : Int) := od; obtain ⟨q, i, l⟩ := Kd.D5 x.out a b d; cases i; replace b := eq_true b; replace d := eq_true d; have c : 0 ≤ (a : Int) := od; have g : a < (l1.length : Int) := od; obtain ⟨s, j, m⟩ := Kd.D5 y.out a c g; cases j; replace c := eq_true c; replace g := eq_true g; go_wp2; repeat (go_quiet (fail); try go_wp2)
   go_roundg k1
   case measure => have := v.out; omega
   case rel => exact ⟨(wrap64 (a + 1)), rfl, O, ⟨by have := v.out; omega⟩, dr⟩
end Go.Proofs.Ytojankgmedccdaa.PAw
