/- Lemmas. -/
import Derived.Test.YtojankgmedccdaaYAAwA
namespace Go.Proofs.Ytojankgmedccdaa.Aw
open Go.RowKit Own PTy Hand PIs PAw Wo
set_option linter.unusedVariables false
set_option linter.unusedSimpArgs false
theorem QL {w : World} {S : Nat → Prop} {A : Option Addr} (h : Kd.C k30 w A ([] : List S30).length []) : Kd.F k30 w S A ([] : List S30).length [] := fun a _ => ⟨rfl, Nat.zero_le _, fun h => absurd h (Nat.lt_irrefl 0)⟩
theorem QM : drivers_all.f 6 [tr 7 0] = some [tr 7 0] := by kernel_rfl
theorem Pd {w : World} {g : Nat} {t : TypeId} {i j k l m : Value} (h : w.heap[g]? = some (.cells #[i, j, k, l, m] t (0, 0))) (a b c d e : Value) :
  (((((w.setCell ⟨g, 0, none⟩ a).setCell ⟨g, 1, none⟩ b).setCell ⟨g, 2, none⟩ c).setCell ⟨g, 3, none⟩ d).setCell ⟨g, 4, none⟩ e).heap[g]? = some (.cells #[a, b, c, d, e] t (0, 0)) :=
 CE (CE (CE (CE (CE h 0 a rfl) 1 b rfl) 2 c rfl) 3 d rfl) 4 e rfl
section
variable {w : World} {S : Nat → Prop} {g : Nat} {b : Int} {l : List S63}
theorem JP {v u : Value} {j : Nat} (h : PL w (fun k => k ≠ g) b l v) : PL (w.setCell ⟨g, j, none⟩ u) (fun k => k ≠ g) b l v := by
 obtain ⟨A, c, B, d, E, e, h1, i, m, n, o, p⟩ := h; exact ⟨A, c, B, d, E, e, h1, i, m, Kd.JZ n (fun _ a => a) u, Kd.JZ o (fun _ a => a) u, Kd.JZ p (fun _ a => a) u⟩
end
def QN : Bool × List (List Nat × List Nat) := (true, [([], []), ([0], [0]), ([1], [1]), ([2], [2]), ([3], [3]), ([4], [4]), ([], []), ([6], [6]), ([7], [7]), ([8, 5], [8]), ([5, 9], [5, 9]), ([10, 9, 0, 1, 2, 3, 4, 5, 6, 7, 8, 9, 10], [10]), ([11, 0, 1, 2, 3, 4, 5, 6, 7, 8, 9, 10, 11], []), ([12, 0, 1, 2, 3, 4, 5, 6, 7, 8, 9, 10, 11, 12], [])])
def RL : List Nat := [0, 1, 3, 7, 15, 31, 0, 64, 192, 511, 1023, 2047, 4095, 8191]
theorem Pe : Cv .any (opsOf Try.f28 7) = QN := by kernel_rfl
theorem Oq : CS QN.2 RL = true := by kernel_rfl
set_option maxHeartbeats 40000000 in
set_option maxRecDepth 100000 in
theorem takeC (w : World) (hG : EN w) (v : Value) (hv : PL w (fun _ => True) 0 [tr 5 1, tr 7 0] v) :
  Calls Try.prog 28 #[tv, v, .int .i64 5] w fun e w' => ∃ p, e = .returned (.tuple #[p, .bool true, .int .i64 0]) ∧ PL w' (fun _ => True) 1 [tr 7 0] p ∧ Below w.heap.size w w' := by
 obtain ⟨A, c, B, d, E, e, rfl, l1, l2, h1, h2, h3⟩ := hv
 have aC := Kd.P5 (m := 1) h3 (by decide) l2
 obtain ⟨Z, A8, c8, B8, d8, rfl, qE, _⟩ := CU (Kd.EI h3) 0 (by decide) (by decide)
 obtain ⟨_, A9, c9, B9, d9, yD, mB, qB, sB, tB, uB, lC, gC, _, hC⟩ := CU (Kd.EI h3) 0 (by decide) (by decide)
 obtain rfl := Option.some.inj yD
 rw [show ((0 : Int)).toNat * 5 = 0 from rfl, Addr.add_zero'] at mB qB sB tB uB
 clear qE
 obtain ⟨Ar, zB⟩ : ∃ Ar, Ar = (if e = 1 then some Z else (some Z).map (·.add (1 * k63.sz))) := ⟨_, rfl⟩
 rw [← zB] at aC
 have wC := Kd.Cx (Kd.Dk aC) (ok' := fun k => k < w.heap.size) (fun k hk => hk.2)
 have zD : PL w (fun _ => True) 0 [tr 5 1, tr 7 0] (.agg #[.int .i64 1, .int .i64 0, .slice A 1 c, .slice B 0 d, .slice (some Z) 2 e]) := ⟨A, c, B, d, some Z, e, rfl, l1, l2, h1, h2, h3⟩
 have lB : (if e = 1 then some Z else some ⟨Z.block, Z.off + 5, none⟩) = Ar := by rw [zB]; rfl
 have rC := mk0 zD
 have yB := mk0 wC
 have hB := mk0 mB
 have sC := mk0 qB
 have tC := mk0 sB
 have uC := mk0 tB
 have vC := mk0 uB
 have qC := mk0 lC
 have oC := mk0 gC
 have pC := mk0 hC
 have HG := mk0 hG; have H1 := mk0 (Kd.EI h1); have H2 := mk0 (Kd.EI h2); have H3 := mk0 (Kd.EI h3); have rD := mk0 lB; have L1 := mk0 l1; have L2 := mk0 l2
 clear hG zD wC mB qB sB tB uB lC gC hC h1 h2 h3 aC zB lB l1
 have cF := Try.underlying26
 have dF := Try.underlying30
 have eF := Try.underlying31
 have fF := Try.underlying33
 have gF := Try.underlying63
 have HB := mk0 (Below.refl w.heap.size w)
 go_enter Try.func28, Try.ntmps28
 go_wp2_with (first | ((with_reducible refine AO rfl (N := 3) rfl (cs := #[.int .i64 1, .int .i64 0, .string ⟨#[]⟩, .slice none 0 0, .slice none 0 0]) (t := 26) ?hr ?_); (case hr => first | (go_simp; done) | (go_simp; rfl)); intro gT hg w1 dB hb; have HT := mk0 dB; replace HB := kh HB hb; clear hb dB hg) | ((with_reducible refine AO rfl (N := 4) rfl (cs := #[.int .i64 1, .int .i64 0, .slice A 1 c, .slice B 0 d, .slice (some Z) 2 e]) (t := 33) ?hr ?_); (case hr => first | (go_simp; done) | (go_simp; rfl)); intro gP hg w2 dB hb; have HP := mk0 dB; replace HT := kb HT hb; replace HB := kh HB hb; clear hb dB hg) | ((with_reducible refine AO rfl (N := 6) rfl (cs := #[.int .i64 0, .int .i64 0, .slice none 0 0, .slice none 0 0, .slice none 0 0]) (t := 33) ?hr ?_); (case hr => first | (go_simp; done) | (go_simp; rfl)); intro gO hg w3 dB hb; have HO := mk0 dB; have G0 := bs (be HB) hg; obtain ⟨HP, HT⟩ := tb2 hb HP HT; replace HB := kh HB hb; clear hb dB hg; have zT := cells5 HT.out; have zP := cells5 HP.out; have zx := AC HB.out hB.out) | (go_at_call 19; refine (isC 0 [tr 5 1, tr 7 0] _ (Ah HG.out HB.out) (PL.up rC.out HB.out) QK).mono ?_; rintro e4 w4 ⟨rfl, hb⟩; obtain ⟨HO, HP, HT⟩ := tb3 hb HO HP HT; replace HB := kh HB hb; clear hb zT zP zx; have zT := cells5 HT.out; have zP := cells5 HP.out; have zx := AC HB.out hB.out) | (go_at_call 50; refine (drivers_behind.calls 1 0 A c [0] B d [] (some Z) e [tr 5 1, tr 7 0] 5 false _ (Kd.Ap H1.out HB.out) L1.out (Kd.Ap H2.out HB.out) (Nat.zero_le _) (Kd.Ap H3.out HB.out) L2.out rfl).mono ?_; rintro e5 w5 ⟨rfl, hb⟩; obtain ⟨HO, HP, HT⟩ := tb3 hb HO HP HT; replace HB := kh HB hb; clear hb zT zP zx; have zT := cells5 HT.out; have zP := cells5 HP.out; have zx := AC HB.out hB.out))
 clear zT zP zx HT
 refine Ci (n := 14) (S := fun w' => True) (ds := []) (tf 0 14) (by kernel_rfl) rfl rfl trivial (fun lD => ?_); refine Bo Pe Oq (fun fE gE => ?_)
 have hd : Below w5.heap.size w5 w5.drew := Ac (Below.refl _ _)
 have hO := mk0 (AZ HO.out hd); have hP := mk0 (AZ HP.out hd); have hE := mk0 (Am HB.out hd); have wD := G0; have vD := mk0 (Am HB.out hd)
 have mB : w5.drew.cell? Z = some (.int .i64 5) := AC hE.out hB.out
 have qB : w5.drew.cell? ⟨Z.block, Z.off + 1, none⟩ = some (.int .i64 1) := AC hE.out sC.out
 have sB : w5.drew.cell? ⟨Z.block, Z.off + 2, none⟩ = some (.int .i64 0) := AC hE.out tC.out
 have tB : w5.drew.cell? ⟨Z.block, Z.off + 3, none⟩ = some (.slice A9 1 c9) := AC hE.out uC.out
 have uB : w5.drew.cell? ⟨Z.block, Z.off + 4, none⟩ = some (.slice B9 0 d9) := AC hE.out vC.out
 have gC := mk0 (Kd.Ap oC.out hE.out); have hC := mk0 (Kd.Ap pC.out hE.out); have lC := qC; have zB := yB
 have e2 : 2 ≤ e := L2.out
 clear hd lD HO HP HB H1 H2 H3 hB sC tC uC vC rC HG oC pC qC yB
 generalize w5.drew = wA at hO hP hE vD mB qB sB tB uB gC hC ⊢
 have lB := rD.out
 refine I7 [0, 1, 2, 3, 4, 5, 6, 7, 8, 9, 10, 11, 12, 13] (fun jE b a w' => ∃ (z : Option Addr) (I : Nat) (D : Option Addr) (J : Nat) (y : Option Addr) (G : Nat) (T : Value) (U : Value) (s : Value), a = Ca jE b [(0, 46, .pointer (some ⟨gP, 4, none⟩)), (1, 47, .slice (some Z) 2 e), (2, 48, .pointer (some Z)), (3, 49, .pointer (some ⟨Z.block, Z.off + 1, none⟩)), (4, 50, .agg #[.int .i64 1, .int .i64 0, .slice A9 1 c9, .slice B9 0 d9]), (5, 51, T), (6, 52, .pointer (some ⟨gP, 4, none⟩)), (7, 53, .slice (some Z) 2 e), (8, 54, .slice Ar 1 (e - 1)), (9, 55, U), (10, 56, s), (12, 7, .bool true), (13, 8, .int .i64 0)] ∧ (Below w.heap.size w w') ∧ (b 11 = false → Below wA.heap.size wA w') ∧ (b 5 = true → b 11 = false → 1 ≤ I ∧ Kd.F (Kd.int .u8) w' (fun k => k ≠ gO) z 1 [1] ∧ Kd.F k30 w' (fun k => k ≠ gO) D 0 []) ∧ (b 9 = true → b 11 = false → 1 ≤ G ∧ Kd.F k63 w' (fun k => k ≠ gO) y 1 [tr 7 0]) ∧ (b 11 = true → bk w' gO 33 #[.int .i64 1, .int .i64 0, .slice z 1 I, .slice D 0 J, .slice y 1 G] ∧ PL w' (fun _ => True) 1 [tr 7 0] (.agg #[.int .i64 1, .int .i64 0, .slice z 1 I, .slice D 0 J, .slice y 1 G])) ∧ (b 5 = true → (T : Value) = .agg #[.int .i64 1, .int .i64 0, .slice z 1 I, .slice D 0 J]) ∧ (b 9 = true → (U : Value) = .slice y 1 G) ∧ (b 10 = true → (s : Value) = .agg #[.int .i64 1, .int .i64 0, .slice z 1 I, .slice D 0 J, .slice y 1 G])) fE.out gE.out (by kernel_rfl) (by kernel_rfl) ?_ ?_ ?_
 ·exact ⟨none, 0, none, 0, none, 0, .bool false, .bool false, .bool false, by simp only [Ca, Bool.false_eq_true, if_false], hE.out, fun _ => (Below.refl _ _), fun h_ => absurd h_ (by decide), fun h_ => absurd h_ (by decide), fun h_ => absurd h_ (by decide), fun h_ => absurd h_ (by decide), fun h_ => absurd h_ (by decide), fun h_ => absurd h_ (by decide)⟩
 ·skip
  refine Ao ?_ ?_
  ·rintro b a w' ⟨z, I, D, J, y, G, T, U, s, L, j, l, O, X, W, r, u, o⟩ hb_ x g; refine ⟨_, rfl, fun K hK => ?_⟩; have e4 : a.tmps[4]? = some (.pointer (some ⟨gP, 0, none⟩)) := by rw [L]; exact (DN rfl).trans rfl
   replace L := mk0 L; have FE := mk0 j; have FB := mk0 (l (g 11 (by kernel_rfl))); refine Bt (w1 := w') (v := .pointer (some ⟨gP, 4, none⟩)) (by rfl) rfl ?_ ?_
   ·go_simp; (try simp only [Bj]); try rfl
   refine hK.out _ _ ⟨z, I, D, J, y, G, T, U, s, (by rw [L.out]; exact Aq 0 hb_ rfl rfl rfl), j, l, fun i _ => absurd ((g 5 (by kernel_rfl)).symm.trans i) (by decide), fun i _ => absurd ((g 9 (by kernel_rfl)).symm.trans i) (by decide), fun i => absurd ((g 11 (by kernel_rfl)).symm.trans i) (by decide), fun i => absurd ((g 5 (by kernel_rfl)).symm.trans i) (by decide), fun i => absurd ((g 9 (by kernel_rfl)).symm.trans i) (by decide), fun i => absurd ((g 10 (by kernel_rfl)).symm.trans i) (by decide)⟩
  refine Ao ?_ ?_
  ·rintro b a w' ⟨z, I, D, J, y, G, T, U, s, L, j, l, O, X, W, r, u, o⟩ hb_ x g; refine ⟨_, rfl, fun K hK => ?_⟩; have pF : a.tmps[46]? = some (.pointer (some ⟨gP, 4, none⟩)) := by rw [L]; exact Az (e := (0, 46, .pointer (some ⟨gP, 4, none⟩))) 0 rfl rfl (x 0 (by kernel_rfl)) rfl
   replace L := mk0 L; have FE := mk0 j; have FB := mk0 (l (g 11 (by kernel_rfl))); have z_ := cells5 (AZ hP.out FB.out); refine Bt (w1 := w') (v := .slice (some Z) 2 e) (by rfl) rfl ?_ ?_
   ·go_simp; (try simp only [Bj]); try rfl
   refine hK.out _ _ ⟨z, I, D, J, y, G, T, U, s, (by rw [L.out]; exact Aq 1 hb_ rfl rfl rfl), j, l, fun i _ => absurd ((g 5 (by kernel_rfl)).symm.trans i) (by decide), fun i _ => absurd ((g 9 (by kernel_rfl)).symm.trans i) (by decide), fun i => absurd ((g 11 (by kernel_rfl)).symm.trans i) (by decide), fun i => absurd ((g 5 (by kernel_rfl)).symm.trans i) (by decide), fun i => absurd ((g 9 (by kernel_rfl)).symm.trans i) (by decide), fun i => absurd ((g 10 (by kernel_rfl)).symm.trans i) (by decide)⟩
  refine Ao ?_ ?_
  ·rintro b a w' ⟨z, I, D, J, y, G, T, U, s, L, j, l, O, X, W, r, u, o⟩ hb_ x g; refine ⟨_, rfl, fun K hK => ?_⟩; have qF : a.tmps[47]? = some (.slice (some Z) 2 e) := by rw [L]; exact Az (e := (1, 47, .slice (some Z) 2 e)) 1 rfl rfl (x 1 (by kernel_rfl)) rfl
   replace L := mk0 L; have FE := mk0 j; have FB := mk0 (l (g 11 (by kernel_rfl))); have i1 : decide ((0 : Int) < ((2 : Nat) : Int)) = true := rfl; refine Bt (w1 := w') (v := .pointer (some Z)) (by rfl) rfl ?_ ?_
   ·go_simp; (try simp only [Bj]); try rfl
   refine hK.out _ _ ⟨z, I, D, J, y, G, T, U, s, (by rw [L.out]; exact Aq 2 hb_ rfl rfl rfl), j, l, fun i _ => absurd ((g 5 (by kernel_rfl)).symm.trans i) (by decide), fun i _ => absurd ((g 9 (by kernel_rfl)).symm.trans i) (by decide), fun i => absurd ((g 11 (by kernel_rfl)).symm.trans i) (by decide), fun i => absurd ((g 5 (by kernel_rfl)).symm.trans i) (by decide), fun i => absurd ((g 9 (by kernel_rfl)).symm.trans i) (by decide), fun i => absurd ((g 10 (by kernel_rfl)).symm.trans i) (by decide)⟩
  refine Ao ?_ ?_
  ·rintro b a w' ⟨z, I, D, J, y, G, T, U, s, L, j, l, O, X, W, r, u, o⟩ hb_ x g; refine ⟨_, rfl, fun K hK => ?_⟩; have rF : a.tmps[48]? = some (.pointer (some Z)) := by rw [L]; exact Az (e := (2, 48, .pointer (some Z))) 2 rfl rfl (x 2 (by kernel_rfl)) rfl
   replace L := mk0 L; have FE := mk0 j; have FB := mk0 (l (g 11 (by kernel_rfl))); refine Bt (w1 := w') (v := .pointer (some ⟨Z.block, Z.off + 1, none⟩)) (by rfl) rfl ?_ ?_
   ·go_simp; (try simp only [Bj]); try rfl
   refine hK.out _ _ ⟨z, I, D, J, y, G, T, U, s, (by rw [L.out]; exact Aq 3 hb_ rfl rfl rfl), j, l, fun i _ => absurd ((g 5 (by kernel_rfl)).symm.trans i) (by decide), fun i _ => absurd ((g 9 (by kernel_rfl)).symm.trans i) (by decide), fun i => absurd ((g 11 (by kernel_rfl)).symm.trans i) (by decide), fun i => absurd ((g 5 (by kernel_rfl)).symm.trans i) (by decide), fun i => absurd ((g 9 (by kernel_rfl)).symm.trans i) (by decide), fun i => absurd ((g 10 (by kernel_rfl)).symm.trans i) (by decide)⟩
  refine Ao ?_ ?_
  ·rintro b a w' ⟨z, I, D, J, y, G, T, U, s, L, j, l, O, X, W, r, u, o⟩ hb_ x g; refine ⟨_, rfl, fun K hK => ?_⟩; have sF : a.tmps[49]? = some (.pointer (some ⟨Z.block, Z.off + 1, none⟩)) := by rw [L]; exact Az (e := (3, 49, .pointer (some ⟨Z.block, Z.off + 1, none⟩))) 3 rfl rfl (x 3 (by kernel_rfl)) rfl
   replace L := mk0 L; have FE := mk0 j; have FB := mk0 (l (g 11 (by kernel_rfl))); have x0 := AC FB.out mB; have x1 := AC FB.out qB; have x2 := AC FB.out sB; have x3 := AC FB.out tB; have x4 := AC FB.out uB; refine Bt (w1 := w') (v := .agg #[.int .i64 1, .int .i64 0, .slice A9 1 c9, .slice B9 0 d9]) (by rfl) rfl ?_ ?_
   ·go_simp; (try simp only [Bj]); try rfl
   refine hK.out _ _ ⟨z, I, D, J, y, G, T, U, s, (by rw [L.out]; exact Aq 4 hb_ rfl rfl rfl), j, l, fun i _ => absurd ((g 5 (by kernel_rfl)).symm.trans i) (by decide), fun i _ => absurd ((g 9 (by kernel_rfl)).symm.trans i) (by decide), fun i => absurd ((g 11 (by kernel_rfl)).symm.trans i) (by decide), fun i => absurd ((g 5 (by kernel_rfl)).symm.trans i) (by decide), fun i => absurd ((g 9 (by kernel_rfl)).symm.trans i) (by decide), fun i => absurd ((g 10 (by kernel_rfl)).symm.trans i) (by decide)⟩
  refine Ao ?_ ?_
  ·rintro b a w' ⟨z, I, D, J, y, G, T, U, s, L, j, l, O, X, W, r, u, o⟩ hb_ x g; refine ⟨_, rfl, fun K hK => ?_⟩; have tD : a.tmps[50]? = some (.agg #[.int .i64 1, .int .i64 0, .slice A9 1 c9, .slice B9 0 d9]) := by rw [L]; exact Az (e := (4, 50, .agg #[.int .i64 1, .int .i64 0, .slice A9 1 c9, .slice B9 0 d9])) 4 rfl rfl (x 4 (by kernel_rfl)) rfl
   replace L := mk0 L; have FE := mk0 j; have FB := mk0 (l (g 11 (by kernel_rfl))); refine Cr Try.func51 (by kernel_rfl) rfl #[.agg #[.int .i64 1, .int .i64 0, .slice A9 1 c9, .slice B9 0 d9]] (by rfl) rfl rfl (by first | (simp only [List.map_toArray, List.map_cons, List.map_nil, Act.eval, Array.getD_eq_getD_getElem?, Option.getD_some, tD]; done) | (simp only [List.map_toArray, List.map_cons, List.map_nil, Act.eval, Array.getD_eq_getD_getElem?, Option.getD_some, tD]; rfl)) ?_; refine (drivers_copied.calls 1 0 A9 c9 [1] (fun k => k < wA.heap.size ∧ k ≠ gO) B9 d9 [] 1 0 [1] [] _ (Kd.Ap gC.out FB.out) lC.out (Kd.Dq (Nat.zero_le _) (QL (Kd.Ap hC.out FB.out))) rfl).mono ?_; rintro kE w2 ⟨v2, v3, rfl, k2, k3, hb⟩; obtain ⟨A2, c2, rfl⟩ := Kd.Be k2; obtain ⟨B2, d2, rfl⟩ := Kd.ED k3; refine ⟨_, rfl, ?_⟩; refine hK.out _ _ ⟨A2, c2, B2, d2, y, G, (.agg #[.int .i64 1, .int .i64 0, .slice A2 1 c2, .slice B2 0 d2]), U, s, (by rw [L.out]; exact Aq 5 hb_ rfl rfl rfl), (Am FE.out hb), fun _ => (Am FB.out hb), fun _ _ => ⟨(Kd.Cw k2).2.1, Kd.Cx (Kd.R_F k2) (fun k hk => Nat.ne_of_gt (Nat.lt_of_lt_of_le (EF (AZ hO.out FB.out)) hk)), QL (Kd.Aa k3).2.2⟩, fun i _ => absurd ((g 9 (by kernel_rfl)).symm.trans i) (by decide), fun i => absurd ((g 11 (by kernel_rfl)).symm.trans i) (by decide), fun _ => rfl, fun i => absurd ((g 9 (by kernel_rfl)).symm.trans i) (by decide), fun i => absurd ((g 10 (by kernel_rfl)).symm.trans i) (by decide)⟩
  refine Ao ?_ ?_
  ·rintro b a w' ⟨z, I, D, J, y, G, T, U, s, L, j, l, O, X, W, r, u, o⟩ hb_ x g; refine ⟨_, rfl, fun K hK => ?_⟩; have e4 : a.tmps[4]? = some (.pointer (some ⟨gP, 0, none⟩)) := by rw [L]; exact (DN rfl).trans rfl
   replace L := mk0 L; have FE := mk0 j; have FB := mk0 (l (g 11 (by kernel_rfl))); refine Bt (w1 := w') (v := .pointer (some ⟨gP, 4, none⟩)) (by rfl) rfl ?_ ?_
   ·go_simp; (try simp only [Bj]); try rfl
   refine hK.out _ _ ⟨z, I, D, J, y, G, T, U, s, (by rw [L.out]; exact Aq 6 hb_ rfl rfl rfl), j, l, O, fun i _ => absurd ((g 9 (by kernel_rfl)).symm.trans i) (by decide), fun i => absurd ((g 11 (by kernel_rfl)).symm.trans i) (by decide), r, fun i => absurd ((g 9 (by kernel_rfl)).symm.trans i) (by decide), fun i => absurd ((g 10 (by kernel_rfl)).symm.trans i) (by decide)⟩
  refine Ao ?_ ?_
  ·rintro b a w' ⟨z, I, D, J, y, G, T, U, s, L, j, l, O, X, W, r, u, o⟩ hb_ x g; refine ⟨_, rfl, fun K hK => ?_⟩; have tF : a.tmps[52]? = some (.pointer (some ⟨gP, 4, none⟩)) := by rw [L]; exact Az (e := (6, 52, .pointer (some ⟨gP, 4, none⟩))) 6 rfl rfl (x 6 (by kernel_rfl)) rfl
   replace L := mk0 L; have FE := mk0 j; have FB := mk0 (l (g 11 (by kernel_rfl))); have z_ := cells5 (AZ hP.out FB.out); refine Bt (w1 := w') (v := .slice (some Z) 2 e) (by rfl) rfl ?_ ?_
   ·go_simp; (try simp only [Bj]); try rfl
   refine hK.out _ _ ⟨z, I, D, J, y, G, T, U, s, (by rw [L.out]; exact Aq 7 hb_ rfl rfl rfl), j, l, O, fun i _ => absurd ((g 9 (by kernel_rfl)).symm.trans i) (by decide), fun i => absurd ((g 11 (by kernel_rfl)).symm.trans i) (by decide), r, fun i => absurd ((g 9 (by kernel_rfl)).symm.trans i) (by decide), fun i => absurd ((g 10 (by kernel_rfl)).symm.trans i) (by decide)⟩
  refine Ao ?_ ?_
  ·rintro b a w' ⟨z, I, D, J, y, G, T, U, s, L, j, l, O, X, W, r, u, o⟩ hb_ x g; refine ⟨_, rfl, fun K hK => ?_⟩; have uF : a.tmps[53]? = some (.slice (some Z) 2 e) := by rw [L]; exact Az (e := (7, 53, .slice (some Z) 2 e)) 7 rfl rfl (x 7 (by kernel_rfl)) rfl
   replace L := mk0 L; have FE := mk0 j; have FB := mk0 (l (g 11 (by kernel_rfl))); have r_ := lB; refine Bt (w1 := w') (v := .slice Ar 1 (e - 1)) (by rfl) rfl ?_ ?_
   ·go_simp; (try simp only [Bj]); try rfl
   refine hK.out _ _ ⟨z, I, D, J, y, G, T, U, s, (by rw [L.out]; exact Aq 8 hb_ rfl rfl rfl), j, l, O, fun i _ => absurd ((g 9 (by kernel_rfl)).symm.trans i) (by decide), fun i => absurd ((g 11 (by kernel_rfl)).symm.trans i) (by decide), r, fun i => absurd ((g 9 (by kernel_rfl)).symm.trans i) (by decide), fun i => absurd ((g 10 (by kernel_rfl)).symm.trans i) (by decide)⟩
  refine Ao ?_ ?_
  ·rintro b a w' ⟨z, I, D, J, y, G, T, U, s, L, j, l, O, X, W, r, u, o⟩ hb_ x g; refine ⟨_, rfl, fun K hK => ?_⟩; have uD : a.tmps[54]? = some (.slice Ar 1 (e - 1)) := by rw [L]; exact Az (e := (8, 54, .slice Ar 1 (e - 1))) 8 rfl rfl (x 8 (by kernel_rfl)) rfl
   replace L := mk0 L; have FE := mk0 j; have FB := mk0 (l (g 11 (by kernel_rfl))); have FV := mk0 (O (x 5 (by kernel_rfl)) (g 11 (by kernel_rfl))); refine Cr Try.func52 (by kernel_rfl) rfl #[.slice Ar 1 (e - 1)] (by rfl) rfl rfl (by first | (simp only [List.map_toArray, List.map_cons, List.map_nil, Act.eval, Array.getD_eq_getD_getElem?, Option.getD_some, uD]; done) | (simp only [List.map_toArray, List.map_cons, List.map_nil, Act.eval, Array.getD_eq_getD_getElem?, Option.getD_some, uD]; rfl)) ?_; refine (drivers_all.calls 6 (fun k => k < w.heap.size) Ar (e - 1) [tr 7 0] [tr 7 0] _ (Kd.Dq (by show 1 ≤ e - 1; omega) (Kd.CV (Kd.CV zB.out vD.out) FB.out)) QM).mono ?_; rintro kE w2 ⟨v2, rfl, k2, hb⟩; obtain ⟨A2, c2, rfl⟩ := Kd.Dl k2; refine ⟨_, rfl, ?_⟩; refine hK.out _ _ ⟨z, I, D, J, A2, c2, T, (.slice A2 1 c2), s, (by rw [L.out]; exact Aq 9 hb_ rfl rfl rfl), (Am FE.out hb), fun _ => (Am FB.out hb), fun _ _ => ⟨FV.out.1, Kd.CV FV.out.2.1 hb, Kd.CV FV.out.2.2 hb⟩, fun _ _ => ⟨(Kd.Dy k2).2.1, Kd.Cx (Kd.N_F k2) (fun k hk => hk.elim (fun h => Nat.ne_of_lt (Nat.lt_of_lt_of_le h wD.out)) ((fun k hk => Nat.ne_of_gt (Nat.lt_of_lt_of_le (EF (AZ hO.out FB.out)) hk)) k))⟩, fun i => absurd ((g 11 (by kernel_rfl)).symm.trans i) (by decide), r, fun _ => rfl, fun i => absurd ((g 10 (by kernel_rfl)).symm.trans i) (by decide)⟩
  refine Ao ?_ ?_
  ·rintro b a w' ⟨z, I, D, J, y, G, T, U, s, L, j, l, O, X, W, r, u, o⟩ hb_ x g; refine ⟨_, rfl, fun K hK => ?_⟩; have lE : a.tmps[51]? = some (T) := by rw [L]; exact Az (e := (5, 51, T)) 5 rfl rfl (x 5 (by kernel_rfl)) rfl
   rw [r (x 5 (by kernel_rfl))] at lE; have mE : a.tmps[55]? = some (U) := by rw [L]; exact Az (e := (9, 55, U)) 9 rfl rfl (x 9 (by kernel_rfl)) rfl
   rw [u (x 9 (by kernel_rfl))] at mE; replace L := mk0 L; have FE := mk0 j; have FB := mk0 (l (g 11 (by kernel_rfl))); have FV := mk0 (O (x 5 (by kernel_rfl)) (g 11 (by kernel_rfl))); have FL := mk0 (X (x 9 (by kernel_rfl)) (g 11 (by kernel_rfl))); refine Bt (w1 := w') (v := .agg #[.int .i64 1, .int .i64 0, .slice z 1 I, .slice D 0 J, .slice y 1 G]) (by rfl) rfl ?_ ?_
   ·go_simp; (try simp only [Bj]); try rfl
   refine hK.out _ _ ⟨z, I, D, J, y, G, T, U, (.agg #[.int .i64 1, .int .i64 0, .slice z 1 I, .slice D 0 J, .slice y 1 G]), (by rw [L.out]; exact Aq 10 hb_ rfl rfl rfl), j, l, O, X, fun i => absurd ((g 11 (by kernel_rfl)).symm.trans i) (by decide), r, u, fun _ => rfl⟩
  refine Ao ?_ ?_
  ·rintro b a w' ⟨z, I, D, J, y, G, T, U, s, L, j, l, O, X, W, r, u, o⟩ hb_ x g; refine ⟨_, rfl, fun K hK => ?_⟩; have e6 : a.tmps[6]? = some (.pointer (some ⟨gO, 0, none⟩)) := by rw [L]; exact (DN rfl).trans rfl
   have nE : a.tmps[56]? = some (s) := by rw [L]; exact Az (e := (10, 56, s)) 10 rfl rfl (x 10 (by kernel_rfl)) rfl
   rw [o (x 10 (by kernel_rfl))] at nE; replace L := mk0 L; have FE := mk0 j; have FB := mk0 (l hb_); have FV := mk0 (O (x 5 (by kernel_rfl)) hb_); have FL := mk0 (X (x 9 (by kernel_rfl)) hb_); have z_ := cells5 (AZ hO.out FB.out); refine Fw (w1 := ?_) (by rfl) rfl ?_ ?_; rotate_left
   ·go_simp; rfl
   refine hK.out _ _ ⟨z, I, D, J, y, G, T, U, s, (by rw [L.out]; exact En (v := undef) rfl), (be1 FE wD), fun i => absurd ((CR b 11).symm.trans i) (by decide), fun _ eB => absurd ((CR b 11).symm.trans eB) (by decide), fun _ eB => absurd ((CR b 11).symm.trans eB) (by decide), fun _ => ⟨Pd (AZ hO.out FB.out) _ _ _ _ _, PL.mono (JP (JP (JP (JP (JP ⟨z, I, D, J, y, G, rfl, FV.out.1, FL.out.1, FV.out.2.1, FV.out.2.2, FL.out.2⟩))))) (fun _ _ _ => trivial)⟩, r, u, o⟩
  refine Ao ?_ ?_
  ·rintro b a w' ⟨z, I, D, J, y, G, T, U, s, L, j, l, O, X, W, r, u, o⟩ hb_ x g; refine ⟨_, rfl, fun K hK => ?_⟩; replace L := mk0 L; have FE := mk0 j; have FD := mk0 (W (x 11 (by kernel_rfl))); refine Bt (w1 := w') (v := .bool true) (by rfl) rfl ?_ ?_
   ·go_simp; (try simp only [Bj]); try rfl
   refine hK.out _ _ ⟨z, I, D, J, y, G, T, U, s, (by rw [L.out]; exact Aq 11 hb_ rfl rfl rfl), j, fun i => absurd ((x 11 (by kernel_rfl)).symm.trans i) (by decide), fun _ eB => absurd ((x 11 (by kernel_rfl)).symm.trans eB) (by decide), fun _ eB => absurd ((x 11 (by kernel_rfl)).symm.trans eB) (by decide), W, r, u, o⟩
  refine Ao ?_ ?_
  ·rintro b a w' ⟨z, I, D, J, y, G, T, U, s, L, j, l, O, X, W, r, u, o⟩ hb_ x g; refine ⟨_, rfl, fun K hK => ?_⟩; replace L := mk0 L; have FE := mk0 j; have FD := mk0 (W (x 11 (by kernel_rfl))); refine Bt (w1 := w') (v := .int .i64 0) (by rfl) rfl ?_ ?_
   ·go_simp; (try simp only [Bj]); try rfl
   refine hK.out _ _ ⟨z, I, D, J, y, G, T, U, s, (by rw [L.out]; exact Aq 12 hb_ rfl rfl rfl), j, fun i => absurd ((x 11 (by kernel_rfl)).symm.trans i) (by decide), fun _ eB => absurd ((x 11 (by kernel_rfl)).symm.trans eB) (by decide), fun _ eB => absurd ((x 11 (by kernel_rfl)).symm.trans eB) (by decide), W, r, u, o⟩
  exact Fy
 rintro b a w' Y ⟨z, I, D, J, y, G, T, U, s, L, j, l, O, X, W, r, u, o⟩
 have xC := Y 0 (by kernel_rfl)
 have yC := Y 1 (by kernel_rfl)
 have zC := Y 2 (by kernel_rfl)
 have aD := Y 3 (by kernel_rfl)
 have bD := Y 4 (by kernel_rfl)
 have eC := Y 5 (by kernel_rfl)
 have cD := Y 6 (by kernel_rfl)
 have dD := Y 7 (by kernel_rfl)
 have eD := Y 8 (by kernel_rfl)
 have fC := Y 9 (by kernel_rfl)
 have jB := Y 10 (by kernel_rfl)
 have kB := Y 11 (by kernel_rfl)
 have cC := Y 12 (by kernel_rfl)
 have dC := Y 13 (by kernel_rfl)
 subst L
 obtain rfl := r eC
 obtain rfl := u fC
 obtain rfl := o jB
 simp only [Ca, xC, yC, zC, aD, bD, eC, cD, dD, eD, fC, jB, kB, cC, dC, if_true, Act.put, List.setIfInBounds_toArray, List.set_cons_zero, List.set_cons_succ]
 have FE := mk0 j
 clear j
 clear l
 clear O
 clear X
 have FD := mk0 (W kB)
 clear W
 clear Y xC yC zC aD bD eC cD dD eD fC jB kB cC dC
 have q := FD.out
 try go_wp2
 refine bodyPost_ret (J8 rfl _ _ gO 33 #[.int .i64 1, .int .i64 0, .slice z 1 I, .slice D 0 J, .slice y 1 G] (0, 0) _ rfl q.1 Try.underlying33 rfl (by kernel_rfl)) rfl ?_
 exact ⟨_, rfl, q.2, FE.out⟩
end Go.Proofs.Ytojankgmedccdaa.Aw
