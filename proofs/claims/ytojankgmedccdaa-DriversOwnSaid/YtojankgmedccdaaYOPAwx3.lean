/- Lemmas. -/
import Derived.Test.YtojankgmedccdaaYOPAwx2
set_option maxHeartbeats 8000000
set_option maxRecDepth 100000
namespace Go.Proofs.Ytojankgmedccdaa.PAw
open Go.RowKit Own PTy Hand PIs Wo
attribute [local go_sem] BI BJ Ba Bc Ao Ap BL BM
set_option linter.unusedVariables false
set_option linter.unusedSimpArgs false
def Ae.l0 : Nat → List (S30) → List Int → List (S30) → Int → Int → Int → Int → ByteArray → List ByteArray → List (S26) → Option (Int × Int × List Int × (List (S30)) × Int)
 | 0, _, _, _, _, _, _, _, _, _, _ => none
 | k + 1, x1, x6, i, x24, x25, a, b, c, e, h => if x25 < x24 then (if 0 ≤ x25 then (if x25 < (i.length : Int) then ((Bz.f k a b c e h ((AB i x25).f0) ((AB i x25).f1) ((AB i x25).f2) ((AB i x25).f3)).bind fun t162 => (if t162 = true then (if x6.length + ((AB i x25).f2).length < 140737488355328 then (Ae.l0 k x1 (x6 ++ ((AB i x25).f2)) i x24 (wrap64 (x25 + 1)) a b c e h) else (none)) else (none))) else (none)) else (none)) else (if (x1.length : Int) = 1 then (none) else (if a = 1 then ((logic_Resolve.f k x6).bind fun j => (some (1, 0, (([j.1] : List Int)), ([] : List (S30)), j.2))) else (none)))
def Ae.f (k : Nat) (a : Int) (b : Int) (c : ByteArray) (e : List ByteArray) (h : List (S26)) (l1 : List (S30)) : Option (Int × Int × List Int × (List (S30)) × Int) := (Bq.f k a b c e h).bind fun t156 => (if t156 = true then (if (l1.length : Int) = 0 then (none) else (if 0 ≤ (l1.length : Int) then (if ((l1.length : Int) : Int).toNat ≤ 281474976710656 then (Ae.l0 k l1 (([] : List Int)) l1 (l1.length : Int) 0 a b c e h) else (none)) else (none))) else (none))
theorem Ae.calls (k : Nat) (z : Int) (J : Int) (L : ByteArray) (gB : Option Addr) (jB : Nat) (B : List ByteArray) (hB : Option Addr) (kB : Nat) (D : List (S26)) (A1 : Option Addr) (c1 : Nat) (l1 : List (S30)) (r1 : Int) (r2 : Int) (r3 : List Int) (r4 : List (S30)) (r5 : Int) (w : World) (hG : Dk w) (xC : Kd.C Kd.string w gB B.length B) (vC : B.length ≤ jB) (yC : Kd.C k26 w hB D.length D) (wC : D.length ≤ kB) (gE : Kd.C k30 w A1 l1.length l1) (fE : l1.length ≤ c1) (h : Ae.f k z J L B D l1 = some (r1, r2, r3, r4, r5)) :
  Calls Try.prog 30 #[.agg #[.int .i64 z, .int .i64 J, .string L, .slice gB B.length jB, .slice hB D.length kB], .slice A1 l1.length c1] w fun e w' => ∃ rD mE : Value, e = .returned (.tuple #[.agg #[.int .i64 r1, .int .i64 r2, rD, mE], .int .i64 r5]) ∧ Kd.R (Kd.int .u8) 73 w' w.heap.size (fun _ => True) rD r3 ∧ Kd.R k30 30 w' w.heap.size (fun k_ => nw rD k_) mE r4 ∧ Below w.heap.size w w' := by
 have HG := mk0 hG; clear hG
 have wF := Try.underlying26
 have xF := Try.underlying30
 have qC := mk0 xC; have lC := mk0 vC; clear xC vC; have rC := mk0 yC; have mC := mk0 wC; clear yC wC; have sE := mk0 gE; have bG := mk0 fE; clear gE fE
 have v := mk0 (Below.refl w.heap.size w)
 have H := h; unfold Ae.f at H
 clear h
 replace H := bS H; obtain ⟨t156, A3, H⟩ := H
 replace H := iB' H; obtain ⟨rfl, H⟩ | ⟨rfl, H⟩ := H
 ·exact absurd H (by simp)
 by_cases c5 : (l1.length : Int) = 0
 ·rw [if_pos c5] at H; exact absurd H (by simp)
 rw [if_neg c5] at H
 have uD : ((l1.length : Int) == 0) = false := beq_eq_false_iff_ne.mpr c5
 have vD : ((l1.length : Int) != 0) = true := bne_iff_ne.mpr c5
 have wD : ¬ (l1 = []) := fun h_ => c5 (by rw [h_]; rfl)
 by_cases c6 : 0 ≤ (l1.length : Int)
 rotate_left
 ·rw [if_neg c6] at H; exact absurd H (by simp)
 rw [if_pos c6] at H; have xD := eq_true c6; have yD : decide (0 ≤ (l1.length : Int)) = true := decide_eq_true c6; clear c6
 by_cases c7 : ((l1.length : Int) : Int).toNat ≤ 281474976710656
 rotate_left
 ·rw [if_neg c7] at H; exact absurd H (by simp)
 rw [if_pos c7] at H; have zD := eq_true c7; have aE : decide (((l1.length : Int) : Int).toNat ≤ 281474976710656) = true := decide_eq_true c7; clear c7
 obtain ⟨fD, dB⟩ : ∃ y_ : List Int, y_ = (([] : List Int)) := ⟨_, rfl⟩
 replace H : (Ae.l0 k l1 fD l1 (l1.length : Int) 0 z J L B D) = some (r1, r2, r3, r4, r5) := by first | (rw [dB]; with_reducible exact H) | (have Y := (Option.bind_some _ _).symm.trans H; rw [dB]; with_reducible exact Y) | (have Y := (Option.bind_some _ _).symm.trans H; with_reducible exact Y) | with_reducible exact H | (rw [dB]; exact H) | exact H
 have tC := mk0 dB; clear dB
 have H' := mk0 H
 clear H
 go_enter Try.func30, Try.ntmps30
 go_wp2_with (first | ((with_reducible refine AU rfl (N := 2) rfl (cs := #[.int .i64 z, .int .i64 J, .string L, .slice gB B.length jB, .slice hB D.length kB]) (t := 26) ?hr ?_); (case hr => first | (go_simp; done) | (go_simp; rfl)); intro eC hg w8 X O; have a := mk0 (X); have i := bs (be v) hg; replace v := kh v O; clear O X hg) | ((with_reducible refine AU rfl (N := 4) rfl (cs := #[.int .i64 0, .int .i64 0, .slice none 0 0, .slice none 0 0]) (t := 30) ?hr ?_); (case hr => first | (go_simp; done) | (go_simp; rfl)); intro cB hg w9 X O; have c := mk0 (X); have j := bs (be1 v i) hg; replace v := kh1 v i O; have ⟨T, U⟩ := nn a hg; replace a := kb a O; clear O X hg; have ⟨fF, mF⟩ := no T U; have kG := cells5 a.out) | ((with_reducible refine AP (f := 17) rfl ?_); refine CS Try.func17 (Bq.calls k z J L _ _ B _ _ D true _ (Ad HG.out (be2 v i j)) (cu qC v) lC.out (cu rC v) mC.out A3.out) ?_; intro dG O; obtain ⟨a, c⟩ := tb2 O a c; replace v := kh2 v i j O) | ((with_reducible refine D6 (N := 22) rfl ?_); (try (refine Df (by rfl) ?_; dsimp only)); refine Kd.Js (Kd.int .u8) _ 73 rfl (N := 22) rfl 27 _ _ rfl (l1.length : Int) rfl rfl Try.underlying27 (.int .u8 0) 1 Ei rfl (by decide) (by omega) 0 (ok := fun _ => True) (okp := fun _ => True) rfl (fun _ hk => hk) trivial (of_decide_eq_true (by assumption)) (Nat.le_trans (Nat.mul_le_mul_right _ (of_decide_eq_true (by assumption) : (l1.length : Int).toNat ≤ 281474976710656)) (by omega)) (Below.refl _ _) (Nat.le_refl _) ?_; intro v158 eG xB O oD gC; clear oD gC; (first | rw [← tC.out] at xB | (simp only [Int.reduceToNat] at xB; rw [← tC.out] at xB)); have jD := mk0 (Kd.Cc xB (AX (be2 v i j))); obtain ⟨a, c⟩ := tb2 O a c; replace v := kh2 v i j O; clear O xB))
 go_loopg [6, 25] k (fun kq v6 v25 w' => ∃ (W : List Int) (l : Int) (s : Int) (u : Int), v25 = .int .i64 l ∧ Aside0 (Ae.l0 kq l1 W l1 (l1.length : Int) l z J L B D = some (r1, r2, r3, r4, r5)) ∧ Aside0 (kq ≤ k) ∧ Aside0 (Kd.R (Kd.int .u8) 73 w' w.heap.size (fun _ => True) v6 W) ∧ Aside0 (bk w' eC 26 #[.int .i64 z, .int .i64 J, .string L, (.slice gB B.length jB), (.slice hB D.length kB)]) ∧ Aside0 (bk w' cB 30 #[.int .i64 s, .int .i64 u, (.slice none 0 0), (.slice none 0 0)]) ∧ Aside0 (Below w.heap.size w w'))
 case atStart => exact ⟨(fD), (0), (0), (0), rfl, H', ⟨Nat.le_refl _⟩, ⟨DR jD.out⟩, ⟨bu a⟩, ⟨bu c⟩, ⟨be2 v i j⟩⟩
 case round =>
  clear H'; try clear c1; try clear c5; try clear uD; try clear vD; try clear wD; try clear c6; try clear xD; try clear yD; try clear c7; try clear zD; try clear aE
  obtain ⟨W, l, s, u, rfl, HA, tD, r, a, c, v⟩ := hrel; cases gk with
  | zero => exact absurd HA.out (by simp [Ae.l0])
  | succ k1 =>
   have H := HA.out; clear HA; simp only [Ae.l0] at H; replace H := iD' H; obtain ⟨-, nD, H⟩ | ⟨-, nD, H⟩ := H
   ·by_cases c30 : (l1.length : Int) = 1
    ·rw [if_pos c30] at H; exact absurd H (by simp)
    rw [if_neg c30] at H; have xE : ((l1.length : Int) == 1) = false := beq_eq_false_iff_ne.mpr c30; have yE : ((l1.length : Int) != 1) = true := bne_iff_ne.mpr c30; by_cases c31 : z = 1; rotate_left
    ·rw [if_neg c31] at H; exact absurd H (by simp)
    rw [if_pos c31] at H; have zE : (z == 1) = true := beq_iff_eq.mpr c31; have cF : (z != 1) = false := bne_eq_false_iff_eq.mpr c31; clear c31; replace H := Option.bind_eq_some_iff.mp H; obtain ⟨⟨mB, t167⟩, bD, H⟩ := H; replace H : (some (1, 0, (([mB] : List Int)), ([] : List (S30)), t167)) = some (r1, r2, r3, r4, r5) := H; have qE := mk0 bD; clear bD; obtain ⟨hD, fB⟩ : ∃ y_ : List Int, y_ = (([mB] : List Int)) := ⟨_, rfl⟩; replace H : (some (1, 0, hD, ([] : List (S30)), t167)) = some (r1, r2, r3, r4, r5) := by first | (rw [fB]; with_reducible exact H) | (have Y := (Option.bind_some _ _).symm.trans H; rw [fB]; with_reducible exact Y) | (have Y := (Option.bind_some _ _).symm.trans H; with_reducible exact Y) | with_reducible exact H | (rw [fB]; exact H) | exact H
    have uC := mk0 fB; clear fB; simp only [Option.some.injEq, Prod.mk.injEq] at H; obtain ⟨rfl, rfl, rfl, rfl, rfl⟩ := H; have ⟨lF, rF⟩ := no T U; have z34 := cells5 a.out; obtain ⟨cD, dD, dE⟩ := Kd.Bo r.out; subst dE; go_wp2_with (first | ((with_reducible refine AP (f := 53) rfl ?_); refine Hu Try.func53 #[.slice cD W.length dD] ?_; (with_reducible refine (logic_Resolve.calls ?side1 ?side2 qE.out).mono ?_); (case side1 => repeat (first | exact (Kd.CE r.out).2.2 | (with_reducible refine Kd.CL ?_ _) | (with_reducible refine Kd.CO ?_ _) | (with_reducible refine Kd.CR ?_))); (case side2 => exact (Kd.CE r.out).2.1); rintro e w' ⟨rfl, nd, rfl⟩; refine ⟨_, rfl, ?_⟩; (try (rw [Io wr]; generalize hq_ : World.drewN wr _ = wr; have hE : Aside0 (Kd.R (Kd.int .u8) 73 wr w.heap.size (fun _ => True) (.slice cD W.length dD) W) := ⟨by rw [← hq_]; exact (DR r.out)⟩; have jE : Aside0 (bk wr eC 26 #[.int .i64 z, .int .i64 J, .string L, .slice gB B.length jB, .slice hB D.length kB]) := ⟨by rw [← hq_]; exact (BA a.out)⟩; have kE : Aside0 (bk wr cB 30 #[.int .i64 s, .int .i64 u, .slice none 0 0, .slice none 0 0]) := ⟨by rw [← hq_]; exact (BA c.out)⟩; have lE : Aside0 (Below w.heap.size w wr) := ⟨by rw [← hq_]; exact (be2 v i j)⟩; clear r a c v hq_; have r := hE; have a := jE; have c := kE; have v := lE; clear hE jE kE lE))) | ((with_reducible refine D6 (N := 56) rfl ?_); (try (refine Df (by rfl) ?_; dsimp only)); refine Kd.Ib (Kd.int .u8) _ 73 ?hg (N := 56) ?hd (xs := ([mB] : List Int)) (inner := [.int .u8 mB]) (ok := fun _ => True) (okp := fun _ => True) ?hr ?hp (fun _ hk => hk) trivial (Below.refl _ _) (Nat.le_refl _) (by simp) ?_; (case hd => rfl); (case hg => rfl); (case hr => first | (go_simp; done) | (go_simp; rfl)); (case hp => exact (Cu.one (show Kd.M (Kd.int .u8) _ _ _ mB [.int .u8 mB] from rfl) (Cu.none _ _))); intro v169 jG lB O oD gC; clear oD gC; (first | rw [← uC.out] at lB | (simp only [Int.reduceToNat] at lB; rw [← uC.out] at lB)); have pC := mk0 (Kd.Cc (Kd.Ed lB (Kd.F9 (DR r.out))) (AX (be2 v i j))); replace r := mk0 (Kd.Fe (DR r.out) (Kd.Bp lB) O); obtain ⟨a, c⟩ := tb2 O a c; replace v := kh2 v i j O; clear O lB; obtain ⟨sD, bE, eE⟩ := Kd.Bo pC.out; subst eE; have z39 := Ar c.out)); refine bodyPost_ret (DD rfl _ _ cB 30 #[.int .i64 1, .int .i64 0, .slice sD hD.length bE, .slice none 0 0] (0, 0) _ rfl (pB c) Try.underlying30 rfl (by kernel_rfl)) rfl ?_; exact ⟨_, _, rfl, by exact DZ (Kd.BS (rI (q := cB) (Kd.Bf pC.out c.out (by decide)) (fun _ hk => hk.2)) (fun _ hk => trivial)), by first | exact Kd.Da _ _ _ _ _ | exact Kd.Dw _ _ _ _ _ | exact Kd.C9 _ _ _ _ _ | exact Kd.Du _ _ _ _ _ | exact Kd.Dv _ _ _ _ _, be2 v i j⟩
   replace H := iN H; obtain ⟨-, vE, H⟩ := H; replace H := iN H; obtain ⟨-, wE, H⟩ := H; replace H := bS H; obtain ⟨t162, pE, H⟩ := H; replace H := iB' H; obtain ⟨rfl, H⟩ | ⟨rfl, H⟩ := H
   ·exact absurd H (by simp)
   by_cases c20 : W.length + ((AB l1 l).f2).length < 140737488355328; rotate_left
   ·rw [if_neg c20] at H; exact absurd H (by simp)
   rw [if_pos c20] at H; have lD := mk0 c20; clear c20; obtain ⟨gD, eB⟩ : ∃ y_ : List Int, y_ = (W ++ ((AB l1 l).f2)) := ⟨_, rfl⟩; replace H : (Ae.l0 k1 l1 gD l1 (l1.length : Int) (wrap64 (l + 1)) z J L B D) = some (r1, r2, r3, r4, r5) := by first | (rw [eB]; with_reducible exact H) | (have Y := (Option.bind_some _ _).symm.trans H; rw [eB]; with_reducible exact Y) | (have Y := (Option.bind_some _ _).symm.trans H; with_reducible exact Y) | with_reducible exact H | (rw [eB]; exact H) | exact H
   have mD := mk0 eB; clear eB; have H' := mk0 H; clear H; have zC : 0 ≤ (l : Int) := od; have aD : l < (l1.length : Int) := od; obtain ⟨tE, hC, jC, iC, kC, cE, yB, zB, aC, bC, uB, sB, wB, tB⟩ := DV sE.out l zC aD; cases cE; replace yB := AY v.out yB; replace zB := AY v.out zB; replace aC := AY v.out aC; replace bC := AY v.out bC; have qB := mk0 sB; have nC := mk0 uB; clear sB uB; have sC := mk0 tB; have oC := mk0 wB; clear tB wB; replace zC := eq_true zC; replace aD := eq_true aD; go_wp2_with (first | ((with_reducible refine AU rfl (N := 8) rfl (cs := #[.int .i64 0, .int .i64 0, .slice none 0 0, .slice none 0 0]) (t := 30) ?hr ?_); (case hr => first | (go_simp; done) | (go_simp; rfl)); intro fC hg fG X O; replace r := rb r O; have I := mk0 (X); have G := bs (be2 v i j) hg; replace v := kh2 v i j O; have ⟨Z, cC⟩ := nn a hg; have ⟨bB, dC⟩ := nn c hg; obtain ⟨a, c⟩ := tb2 O a c; clear O X hg; have ⟨gF, oF⟩ := no cC Z; have ⟨hF, pF⟩ := no dC bB; have z24 := Ar I.out; have ⟨jF, qF⟩ := no T U; have z26 := cells5 a.out) | ((with_reducible refine AP (f := 45) rfl ?_); refine CS Try.func45 (Bz.calls (Ad HG.out (be3 v i j G)) (Kd.Ak qC.out (be3 v i j G)) lC.out (Kd.Ak rC.out (be3 v i j G)) mC.out (Kd.Ak qB.out (be3 v i j G)) nC.out (Kd.Ak sC.out (be3 v i j G)) oC.out pE.out) ?_; intro gG O; replace r := mk0 (Kd.Db (DZ ((Kd.BS (rI (q := fC) (Kd.Bf r.out I.out (by decide)) (fun _ hk => hk.2)) (fun _ h_ => h_.1)))) O); replace a := kF Z a O; replace c := kF bB c O; replace I := mk0 (AL (g := fC) (o := .cells #[.int .i64 ((AB l1 l).f0), .int .i64 ((AB l1 l).f1), .slice hC ((AB l1 l).f2).length jC, .slice iC ((AB l1 l).f3).length kC] 30 (0, 0)) (pB I) O); replace v := kh3 v i j G O; have z28 := Ar I.out) | ((with_reducible refine De (b := .append) (xs := #[.tmp 34, .tmp 36]) rfl ?_); (try (refine Df (by rfl) ?_; dsimp only)); at_builtin; refine Kd.D5 (Kd.int .u8) (w0 := w) w.heap.size rfl (.tmp 34) (.tmp 36) 27 73 (.int .u8 0) 1 rfl Try.underlying27 Ei rfl (by decide) (by omega) u6 W ((AB l1 l).f2) _ _ _ (fun _ => True) (fun _ => False) rfl rfl ?aO ?aR (fun _ _ h => h) (fun _ h => h.elim) ?aF ?aB ?aS ?aL ?_; (case aR => exact cu qB v); (case aB => exact (be3 v i j G)); (case aF => exact (fun _ _ => trivial)); (case aO => exact (DR r.out)); (case aS => exact (AX (be3 v i j G))); (case aL => have := lD.out; omega); intro v164 iG ho O hg eF; rw [← mD.out] at ho; replace a := mk0 (Bg (g := eC) (o := .cells #[.int .i64 z, .int .i64 J, .string L, .slice gB B.length jB, .slice hB D.length kB] 26 (0, 0)) (BA a.out) hg (Kd.Fu r.out a.out (by decide))); replace c := mk0 (Bg (g := cB) (o := .cells #[.int .i64 s, .int .i64 u, .slice none 0 0, .slice none 0 0] 30 (0, 0)) (BA c.out) hg (Kd.Fu r.out c.out (by decide))); replace I := mk0 (Bg (g := fC) (o := .cells #[.int .i64 ((AB l1 l).f0), .int .i64 ((AB l1 l).f1), .slice hC ((AB l1 l).f2).length jC, .slice iC ((AB l1 l).f3).length kC] 30 (0, 0)) (BA I.out) hg (Kd.Fu r.out I.out (by decide))); replace v := mk0 (O); have kD := mk0 (ho); clear r; clear ho O hg eF)); go_roundg k1
   case measure => have := tD.out; omega
   case rel => exact ⟨(gD), (wrap64 (l + 1)), (s), (u), rfl, H', ⟨by have := tD.out; omega⟩, ⟨DR kD.out⟩, ⟨bu a⟩, ⟨bu c⟩, ⟨be3 v i j G⟩⟩
def r01Same.l0 : Nat → List Int → List Int → Int → Int → Option (Bool)
 | 0, _, _, _, _ => none
 | k + 1, x0, x1, b, a => if a < b then (if 0 ≤ a then (if a < (x0.length : Int) then (if a < (x1.length : Int) then (if (rd x0 a) = (rd x1 a) then (r01Same.l0 k x0 x1 b (wrap64 (a + 1))) else (some false)) else (none)) else (none)) else (none)) else (some true)
def r01Same.f (k : Nat) (l0 : List Int) (l1 : List Int) : Option (Bool) := if (l0.length : Int) = (l1.length : Int) then (r01Same.l0 k l0 l1 (l0.length : Int) 0) else (some false)
theorem r01Same.calls {k : Nat} {A0 : Option Addr} {c0 : Nat} {l0 : List Int} {A1 : Option Addr} {c1 : Nat} {l1 : List Int} {r : Bool} {w : World} (Y : Kd.C (Kd.int .u8) w A0 l0.length l0) (W : l0.length ≤ c0) (Z : Kd.C (Kd.int .u8) w A1 l1.length l1) (X : l1.length ≤ c1) (h : r01Same.f k l0 l1 = some r) :
  Calls Try.prog 55 #[.slice A0 l0.length c0, .slice A1 l1.length c1] w fun e w' => e = .returned (.bool r) ∧ Aq w w' := by
 have J := mk0 Y; have lB := mk0 W; clear Y W; have L := mk0 Z; have mB := mk0 X; clear Z X
 have H := h; unfold r01Same.f at H
 clear h
 replace H := iF' H; obtain ⟨G, u, v, H⟩ | ⟨G, u, v, H⟩ := H
 ·have z : (l0.length == l1.length) = false := by first | simpa using G | (simp at G ⊢; omega)
  obtain rfl := sI H; go_enter Try.func55, Try.ntmps55; go_wp2; repeat (go_quiet (fail); try go_wp2)
  go_ret; exact dn
 have z : (l0.length == l1.length) = true := by first | simpa using G | (simp at G ⊢; omega)
 clear G
 have H' := mk0 H
 clear H
 go_enter Try.func55, Try.ntmps55
 go_wp2
 repeat (go_quiet (fail); try go_wp2)
 go_loopg [13] k (fun kq v13 w' => ∃ (a : Int), v13 = .int .i64 a ∧ Aside0 (r01Same.l0 kq l0 l1 (l0.length : Int) a = some r) ∧ Aside0 (kq ≤ k) ∧ Aq w w')
 case atStart => exact ⟨(0), rfl, H', ⟨Nat.le_refl _⟩, dr⟩
 case round =>
  clear H'; try clear c1; try clear G; try clear u; try clear v; try clear z
  obtain ⟨a, rfl, HA, I, m1, rfl⟩ := hrel; cases gk with
  | zero => exact absurd HA.out (by simp [r01Same.l0])
  | succ k1 =>
   have H := HA.out; clear HA; simp only [r01Same.l0] at H; replace H := iD' H; obtain ⟨-, O, H⟩ | ⟨-, O, H⟩ := H
   ·obtain rfl := sI H; go_wp2; repeat (go_quiet (fail); try go_wp2)
    go_ret; exact dn
   replace H := iN H; obtain ⟨-, gB, H⟩ := H; replace H := iN H; obtain ⟨-, hB, H⟩ := H; replace H := iN H; obtain ⟨-, jB, H⟩ := H; replace H := iE' H; obtain ⟨c8, T, U, H⟩ | ⟨T, U, H⟩ := H
   ·obtain rfl := sI H; have b : 0 ≤ (a : Int) := od; have i : a < (l0.length : Int) := od; obtain ⟨B, l, q⟩ := Kd.DX J.out a b i; cases l; replace b := eq_true b; replace i := eq_true i; have c : 0 ≤ (a : Int) := od; have j : a < (l1.length : Int) := od; obtain ⟨D, o, s⟩ := Kd.DX L.out a c j; cases o; replace c := eq_true c; replace j := eq_true j; go_wp2; repeat (go_quiet (fail); try go_wp2)
    go_ret; exact dn
   have H' := mk0 H; clear H; have b : 0 ≤ (a : Int) := od; have i : a < (l0.length : Int) := od; obtain ⟨B, l, q⟩ := Kd.DX J.out a b i; cases l; replace b := eq_true b; replace i := eq_true i; have c : 0 ≤ (a : Int) := od; have j : a < (l1.length : Int) := od; obtain ⟨D, o, s⟩ := Kd.DX L.out a c j; cases o; replace c := eq_true c; replace j := eq_true j; go_wp2; repeat (go_quiet (fail); try go_wp2)
   go_roundg k1
   case measure => have := I.out; omega
   case rel => exact ⟨(wrap64 (a + 1)), rfl, H', ⟨by have := I.out; omega⟩, dr⟩
mutual
def BH.l0 : Nat → Int → Int → Option (Bool)
 | 0, _, _ => none
 | k + 1, o, x38 => if x38 < o then (none) else (some true)
def BH.f : Nat → Int → Int → List Int → List (S30) → Int → Int → List Int → List (S30) → Option (Bool)
 | 0, _, _, _, _, _, _, _, _ => none
 | k + 1, b, c, i, a, e, h, j, l => if b = e then (if c = h then ((r01Same.f k i j).bind fun t175 => (if t175 = true then (if (a.length : Int) = (l.length : Int) then (BH.l0 k (a.length : Int) 0) else (none)) else (none))) else (none)) else (none)
end
theorem BH.calls (k : Nat) : ∀ (i : Int) (j : Int) (z : Option Addr) (I : Nat) (q : List Int) (B : Option Addr) (J : Nat) (a : List (S30)) (l : Int) (o : Int) (D : Option Addr) (L : Nat) (s : List Int) (G : Option Addr) (O : Nat) (b : List (S30)) (r : Bool) (w : World) (cB : Kd.C (Kd.int .u8) w z q.length q) (Y : q.length ≤ I) (dB : Kd.C k30 w B a.length a) (Z : a.length ≤ J) (eB : Kd.C (Kd.int .u8) w D s.length s) (aB : s.length ≤ L) (fB : Kd.C k30 w G b.length b) (bB : b.length ≤ O) (h : BH.f k i j q a l o s b = some r),
  Calls Try.prog 32 #[.agg #[.int .i64 i, .int .i64 j, .slice z q.length I, .slice B a.length J], .agg #[.int .i64 l, .int .i64 o, .slice D s.length L, .slice G b.length O]] w fun e w' => e = .returned (.bool r) ∧ Below w.heap.size w w' := by
 induction k using Nat.strongRecOn with
 | _ k ih =>
 intro i j z I q B J a l o D L s G O b r w cB Y dB Z eB aB fB bB h
 cases k with
 | zero => exact absurd h (by simp [BH.f])
 | succ k =>
 simp only [BH.f] at h
 have lC := Try.underlying30
 have lB := mk0 cB; have jB := mk0 Y; clear cB Y; have fC := mk0 dB; have dC := mk0 Z; clear dB Z; have mB := mk0 eB; have kB := mk0 aB; clear eB aB; have gC := mk0 fB; have eC := mk0 bB; clear fB bB
 have HB := mk0 (Below.refl w.heap.size w)
 have H := h; unfold BH.f at H
 clear h
 by_cases c3 : i = l
 rotate_left
 ·rw [if_neg c3] at H; exact absurd H (by simp)
 rw [if_pos c3] at H
 have uB : (i == l) = true := beq_iff_eq.mpr c3
 have wB : (i != l) = false := bne_eq_false_iff_eq.mpr c3
 clear c3
 by_cases c4 : j = o
 rotate_left
 ·rw [if_neg c4] at H; exact absurd H (by simp)
 rw [if_pos c4] at H
 have xB : (j == o) = true := beq_iff_eq.mpr c4
 have yB : (j != o) = false := bne_eq_false_iff_eq.mpr c4
 clear c4
 replace H := bS H; obtain ⟨t175, A5, H⟩ := H
 replace H := iB' H; obtain ⟨rfl, H⟩ | ⟨rfl, H⟩ := H
 ·exact absurd H (by simp)
 by_cases c7 : (a.length : Int) = (b.length : Int)
 rotate_left
 ·rw [if_neg c7] at H; exact absurd H (by simp)
 rw [if_pos c7] at H
 have zB : ((a.length : Int) == (b.length : Int)) = true := beq_iff_eq.mpr c7
 have aC : ((a.length : Int) != (b.length : Int)) = false := bne_eq_false_iff_eq.mpr c7
 have bC : (a.length == b.length) = true := by first | simpa using c7 | (simp at c7 ⊢; omega)
 clear c7
 have H' := mk0 H
 clear H
 go_enter Try.func32, Try.ntmps32
 go_wp2_with (first | ((with_reducible refine AU rfl (N := 2) rfl (cs := #[.int .i64 i, .int .i64 j, .slice z q.length I, .slice B a.length J]) (t := 30) ?hr ?_); (case hr => first | (go_simp; done) | (go_simp; rfl)); intro qB hg w8 T hb; have c := mk0 (T); have v := bs (be HB) hg; replace HB := kh HB hb; clear hb T hg) | ((with_reducible refine AU rfl (N := 3) rfl (cs := #[.int .i64 l, .int .i64 o, .slice D s.length L, .slice G b.length O]) (t := 30) ?hr ?_); (case hr => first | (go_simp; done) | (go_simp; rfl)); intro sB hg w9 T hb; have U := mk0 (T); have gB := bs (be1 HB v) hg; replace HB := kh1 HB v hb; have ⟨W, X⟩ := nn c hg; replace c := kb c hb; clear hb T hg; have ⟨iC, jC⟩ := no W X; have pC := Ar c.out; have z12 := Ar U.out) | (go_at_call 55; refine (r01Same.calls (cu lB HB) jB.out (cu mB HB) kB.out A5.out).mono ?_; rintro e w' ⟨rfl, nd, rfl⟩))
 go_loopg [38] k (fun kq v38 w' => ∃ (u : Int), v38 = .int .i64 u ∧ Aside0 (BH.l0 kq (a.length : Int) u = some r) ∧ Aside0 (kq ≤ k) ∧ Aside0 (bk w' qB 30 #[.int .i64 i, .int .i64 j, (.slice z q.length I), (.slice B a.length J)]) ∧ Aside0 (bk w' sB 30 #[.int .i64 l, .int .i64 o, (.slice D s.length L), (.slice G b.length O)]) ∧ Aside0 (Below w.heap.size w w'))
 case atStart => exact ⟨(0), rfl, H', ⟨Nat.le_refl _⟩, ⟨bu c⟩, ⟨bu U⟩, ⟨be2 HB v gB⟩⟩
 case round =>
  clear H'; try clear c3; try clear uB; try clear wB; try clear c4; try clear xB; try clear yB; try clear c7; try clear zB; try clear aC; try clear bC
  obtain ⟨u, rfl, HA, oC, c, U, HB⟩ := hrel; cases gk with
  | zero => exact absurd HA.out (by simp [BH.l0])
  | succ k1 =>
   have H := HA.out; clear HA; simp only [BH.l0] at H; by_cases c13 : u < (a.length : Int)
   ·rw [if_pos c13] at H; exact absurd H (by simp)
   rw [if_neg c13] at H; have hC : decide (u < (a.length : Int)) = false := decide_eq_false c13; clear c13; obtain rfl := sI H; go_wp2; go_ret; exact ⟨rfl, be2 HB v gB⟩
def api_Bit_96.l0 : Nat → List Int → List Int → Int → Int → Option (Bool)
 | 0, _, _, _, _ => none
 | k + 1, x0, x1, b, a => if a < b then (if 0 ≤ a then (if a < (x0.length : Int) then (if a < (x1.length : Int) then (if (rd x0 a) = (rd x1 a) then (api_Bit_96.l0 k x0 x1 b (wrap64 (a + 1))) else (some false)) else (none)) else (none)) else (none)) else (some true)
def api_Bit_96.f (k : Nat) (l0 : List Int) (l1 : List Int) : Option (Bool) := if (l0.length : Int) = (l1.length : Int) then (api_Bit_96.l0 k l0 l1 (l0.length : Int) 0) else (some false)
theorem api_Bit_96.calls {k : Nat} {A0 : Option Addr} {c0 : Nat} {l0 : List Int} {A1 : Option Addr} {c1 : Nat} {l1 : List Int} {r : Bool} {w : World} (Y : Kd.C (Kd.int .u8) w A0 l0.length l0) (W : l0.length ≤ c0) (Z : Kd.C (Kd.int .u8) w A1 l1.length l1) (X : l1.length ≤ c1) (h : api_Bit_96.f k l0 l1 = some r) :
  Calls Try.prog 96 #[.slice A0 l0.length c0, .slice A1 l1.length c1] w fun e w' => e = .returned (.bool r) ∧ Aq w w' := by
 have J := mk0 Y; have lB := mk0 W; clear Y W; have L := mk0 Z; have mB := mk0 X; clear Z X
 have H := h; unfold api_Bit_96.f at H
 clear h
 replace H := iF' H; obtain ⟨G, u, v, H⟩ | ⟨G, u, v, H⟩ := H
 ·have z : (l0.length == l1.length) = false := by first | simpa using G | (simp at G ⊢; omega)
  obtain rfl := sI H; go_enter Try.func96, Try.ntmps96; go_wp2; repeat (go_quiet (fail); try go_wp2)
  go_ret; exact dn
 have z : (l0.length == l1.length) = true := by first | simpa using G | (simp at G ⊢; omega)
 clear G
 have H' := mk0 H
 clear H
 go_enter Try.func96, Try.ntmps96
 go_wp2
 repeat (go_quiet (fail); try go_wp2)
 go_loopg [13] k (fun kq v13 w' => ∃ (a : Int), v13 = .int .i64 a ∧ Aside0 (api_Bit_96.l0 kq l0 l1 (l0.length : Int) a = some r) ∧ Aside0 (kq ≤ k) ∧ Aq w w')
 case atStart => exact ⟨(0), rfl, H', ⟨Nat.le_refl _⟩, dr⟩
 case round =>
  clear H'; try clear c1; try clear G; try clear u; try clear v; try clear z
  obtain ⟨a, rfl, HA, I, m1, rfl⟩ := hrel; cases gk with
  | zero => exact absurd HA.out (by simp [api_Bit_96.l0])
  | succ k1 =>
   have H := HA.out; clear HA; simp only [api_Bit_96.l0] at H; replace H := iD' H; obtain ⟨-, O, H⟩ | ⟨-, O, H⟩ := H
   ·obtain rfl := sI H; go_wp2; repeat (go_quiet (fail); try go_wp2)
    go_ret; exact dn
   replace H := iN H; obtain ⟨-, gB, H⟩ := H; replace H := iN H; obtain ⟨-, hB, H⟩ := H; replace H := iN H; obtain ⟨-, jB, H⟩ := H; replace H := iE' H; obtain ⟨c8, T, U, H⟩ | ⟨T, U, H⟩ := H
   ·obtain rfl := sI H; have b : 0 ≤ (a : Int) := od; have i : a < (l0.length : Int) := od; obtain ⟨B, l, q⟩ := Kd.DX J.out a b i; cases l; replace b := eq_true b; replace i := eq_true i; have c : 0 ≤ (a : Int) := od; have j : a < (l1.length : Int) := od; obtain ⟨D, o, s⟩ := Kd.DX L.out a c j; cases o; replace c := eq_true c; replace j := eq_true j; go_wp2; repeat (go_quiet (fail); try go_wp2)
    go_ret; exact dn
   have H' := mk0 H; clear H; have b : 0 ≤ (a : Int) := od; have i : a < (l0.length : Int) := od; obtain ⟨B, l, q⟩ := Kd.DX J.out a b i; cases l; replace b := eq_true b; replace i := eq_true i; have c : 0 ≤ (a : Int) := od; have j : a < (l1.length : Int) := od; obtain ⟨D, o, s⟩ := Kd.DX L.out a c j; cases o; replace c := eq_true c; replace j := eq_true j; go_wp2; repeat (go_quiet (fail); try go_wp2)
   go_roundg k1
   case measure => have := I.out; omega
   case rel => exact ⟨(wrap64 (a + 1)), rfl, H', ⟨by have := I.out; omega⟩, dr⟩
def Ca.f : Nat → Int → Int → List Int → List (S30) → Int → Int → List Int → List (S30) → Option (Bool)
 | 0, _, _, _, _, _, _, _, _ => none
 | k + 1, i, a, c, l, j, b, e, o => if a = b then ((api_Bit_96.f k c e).bind fun h => (if h = true then (none) else (some false))) else (none)
theorem Ca.calls (k : Nat) : ∀ (Y : Int) (a : Int) (T : Option Addr) (aB : Nat) (c : List Int) (U : Option Addr) (bB : Nat) (i : List (S30)) (Z : Int) (b : Int) (W : Option Addr) (cB : Nat) (j : List Int) (X : Option Addr) (dB : Nat) (l : List (S30)) (r : Bool) (w : World) (I : Kd.C (Kd.int .u8) w T c.length c) (z : c.length ≤ aB) (J : Kd.C k30 w U i.length i) (B : i.length ≤ bB) (L : Kd.C (Kd.int .u8) w W j.length j) (D : j.length ≤ cB) (O : Kd.C k30 w X l.length l) (G : l.length ≤ dB) (h : Ca.f k Y a c i Z b j l = some r),
  Calls Try.prog 84 #[.agg #[.int .i64 Y, .int .i64 a, .slice T c.length aB, .slice U i.length bB], .agg #[.int .i64 Z, .int .i64 b, .slice W j.length cB, .slice X l.length dB]] w fun e w' => e = .returned (.bool r) ∧ Below w.heap.size w w' := by
 induction k using Nat.strongRecOn with
 | _ k ih =>
 intro Y a T aB c U bB i Z b W cB j X dB l r w I z J B L D O G h
 cases k with
 | zero => exact absurd h (by simp [Ca.f])
 | succ k =>
 simp only [Ca.f] at h
 have cC := Try.underlying30
 have kB := mk0 I; have hB := mk0 z; clear I z; have tB := mk0 J; have qB := mk0 B; clear J B; have lB := mk0 L; have jB := mk0 D; clear L D; have uB := mk0 O; have sB := mk0 G; clear O G
 have HB := mk0 (Below.refl w.heap.size w)
 have H := h; unfold Ca.f at H
 clear h
 by_cases c3 : a = b
 rotate_left
 ·rw [if_neg c3] at H; exact absurd H (by simp)
 rw [if_pos c3] at H
 have yB : (a == b) = true := beq_iff_eq.mpr c3
 have zB : (a != b) = false := bne_eq_false_iff_eq.mpr c3
 clear c3
 replace H := bS H; obtain ⟨dC, A4, H⟩ := H
 replace H := iB H; obtain ⟨rfl, H⟩ | ⟨rfl, H⟩ := H
 ·exact absurd H (by simp)
 obtain rfl := sI H
 go_enter Try.func84, Try.ntmps84
 go_wp2_with (first | ((with_reducible refine AU rfl (N := 2) rfl (cs := #[.int .i64 Y, .int .i64 a, .slice T c.length aB, .slice U i.length bB]) (t := 30) ?hr ?_); (case hr => first | (go_simp; done) | (go_simp; rfl)); intro wB hg w6 q hb; have o := mk0 (q); have s := bs (be HB) hg; replace HB := kh HB hb; clear hb q hg) | ((with_reducible refine AU rfl (N := 3) rfl (cs := #[.int .i64 Z, .int .i64 b, .slice W j.length cB, .slice X l.length dB]) (t := 30) ?hr ?_); (case hr => first | (go_simp; done) | (go_simp; rfl)); intro xB hg w7 q hb; have fB := mk0 (q); have gB := bs (be1 HB s) hg; replace HB := kh1 HB s hb; have ⟨u, v⟩ := nn o hg; replace o := kb o hb; clear hb q hg; have ⟨aC, bC⟩ := no u v; have z9 := Ar o.out; have fC := Ar fB.out) | (go_at_call 96; refine (api_Bit_96.calls (cu kB HB) hB.out (cu lB HB) jB.out A4.out).mono ?_; rintro e w' ⟨rfl, nd, rfl⟩))
 go_ret
 exact ⟨rfl, be2 HB s gB⟩
end Go.Proofs.Ytojankgmedccdaa.PAw
