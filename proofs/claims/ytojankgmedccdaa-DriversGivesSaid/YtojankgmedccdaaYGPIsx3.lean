/- Lemmas for LawDriversGives. -/
import Derived.Test.YtojankgmedccdaaYGPIsx2
namespace Go.Proofs.Ytojankgmedccdaa.PIs
open Go.RowKit Own PTy Hand YtojankgmedccdaaW.PrintWords YtojankgmedccdaaW.PrintLast YtojankgmedccdaaW.PrintMore
attribute [local go_sem] BI BJ Be Bf Ar Au BK BL
set_option linter.unusedVariables false
set_option linter.unusedSimpArgs false
mutual
def Cq.j0 : Nat → List (S30) → Bool → Int → Int → ByteArray → List ByteArray → List (S26) → Int → Int → List Int → List (S30) → List (S63) → Option (Bool)
 | 0, _, _, _, _, _, _, _, _, _, _, _, _ => none
 | k + 1, x2, p, a, b, c, d, e, h, i, j, l, g => if p = true then (some false) else ((some (([(⟨h, i, j, l⟩ : S30)] : List (S30)) : List (S30))).bind fun m => (if m.length + x2.length < 2199023255552 then (Cq.l0 k (m ++ x2) g (g.length : Int) 0 a b c d e) else (none)))
def Cq.l0 : Nat → List (S30) → List (S63) → Int → Int → Int → Int → ByteArray → List ByteArray → List (S26) → Option (Bool)
 | 0, _, _, _, _, _, _, _, _, _ => none
 | k + 1, x7, x25, o, x27, a, b, c, d, e => if x27 < o then (if 0 ≤ x27 then (if x27 < (x25.length : Int) then (if x7.length < 2199023255552 then (Cq.l0 k (x7 ++ [(⟨(AA x25 x27).f1.f0, (AA x25 x27).f1.f1, (AA x25 x27).f1.f2, (AA x25 x27).f1.f3⟩ : S30)]) x25 o (wrap64 (x27 + 1)) a b c d e) else (none)) else (none)) else (none)) else ((BB.f k a b c d e x7).bind fun n => (some n))
end
def Cq.f (k : Nat) (b : Int) (c : Int) (d : ByteArray) (h : List ByteArray) (i : List (S26)) (e : Int) (g : Int) (j : List Int) (l : List (S30)) (a : List (S63)) (l2 : List (S30)) : Option (Bool) := if (a.length : Int) > 80 then (Cq.j0 k l2 true b c d h i e g j l a) else (Cq.j0 k l2 (decide ((l2.length : Int) > 80)) b c d h i e g j l a)
set_option maxHeartbeats 8000000 in
set_option maxRecDepth 100000 in
theorem Cq.calls {k : Nat} {W X : Int} {Y : ByteArray} {jB : Option Addr} {lB : Nat} {O : List ByteArray} {kB : Option Addr} {mB : Nat} {T : List (S26)} {Z bB : Int} (s : Nat → Prop) {cB : Option Addr} {eB : Nat} {G : List Int} (u : Nat → Prop) {dB : Option Addr} {fB : Nat} {I : List (S30)} (x : Nat → Prop) {tB : Option Addr} {gB : Nat} {d : List (S63)} (L : Nat → Prop) {A2 : Option Addr} {c2 : Nat} {l2 : List (S30)} {r : Bool} {w : World} (sE : Kd.C Kd.string w jB O.length O) (vD : O.length ≤ lB) (tE : Kd.C k26 w kB T.length T) (wD : T.length ≤ mB) (bG : Kd.V (Kd.int .u8) 73 w w.heap.size (fun a => s a) (.slice cB G.length eB) G) (cG : Kd.V k30 30 w w.heap.size (fun a => u a) (.slice dB I.length fB) I) (dG : Kd.V k63 63 w w.heap.size (fun a => x a) (.slice tB d.length gB) d) (zJ : Kd.V k30 30 w w.heap.size (fun a => L a) (.slice A2 l2.length c2) l2) (h : Cq.f k W X Y O T Z bB G I d l2 = some r) :
  Calls Try.prog 15 #[.agg #[.int .i64 W, .int .i64 X, .string Y, .slice jB O.length lB, .slice kB T.length mB], .agg #[.int .i64 Z, .int .i64 bB, .slice cB G.length eB, .slice dB I.length fB, .slice tB d.length gB], .slice A2 l2.length c2] w fun e w' => e = .returned (.bool r) ∧ Below w.heap.size w w' := by
 have dK := Try.underlying26
 have fK := Try.underlying33
 have eK := Try.underlying30
 have gK := Try.underlying63
 have sF := mk0 sE
 have mF := mk0 vD
 clear sE vD
 have tF := mk0 tE
 have oF := mk0 wD
 clear tE wD
 have mC := mk0 (show Kd.V (Kd.int .u8) 73 w w.heap.size (fun a => ((s a ∨ u a ∨ x a ∨ L a) ∨ w.heap.size ≤ a)) (.slice cB G.length eB) G from Kd.AL bG (fun a m => .inl (.inl m)))
 have nC := mk0 (show Kd.V k30 30 w w.heap.size (fun a => ((s a ∨ u a ∨ x a ∨ L a) ∨ w.heap.size ≤ a)) (.slice dB I.length fB) I from Kd.AL cG (fun a m => .inl (.inr (.inl m))))
 have oC := mk0 (show Kd.V k63 63 w w.heap.size (fun a => ((s a ∨ u a ∨ x a ∨ L a) ∨ w.heap.size ≤ a)) (.slice tB d.length gB) d from Kd.AL dG (fun a m => .inl (.inr (.inr (.inl m)))))
 have rD := mk0 (show Kd.V k30 30 w w.heap.size (fun a => ((s a ∨ u a ∨ x a ∨ L a) ∨ w.heap.size ≤ a)) (.slice A2 l2.length c2) l2 from Kd.AL zJ (fun a m => .inl (.inr (.inr (.inr m)))))
 have HB := mk0 (Below.refl w.heap.size w)
 have H := h; unfold Cq.f at H
 clear h
 have pF := mk0 H
 clear H
 go_enter Try.func15, Try.ntmps15
 go_upto_region 1 with (first | ((with_reducible refine AP rfl (N := 3) rfl (cs := #[.int .i64 W, .int .i64 X, .string Y, .slice jB O.length lB, .slice kB T.length mB]) (t := 26) ?hr ?_); (case hr => first | (go_simp; done) | (go_simp; rfl)); intro i hg w5 qC hb; replace mC := mk0 (Kd.Bw (Kd.DU (Bj mC.out) i (Nat.le_of_eq hg.symm)) hb); replace nC := mk0 (Kd.Bw (Kd.DU (Bj nC.out) i (Nat.le_of_eq hg.symm)) hb); replace oC := mk0 (Kd.Bw (Kd.DU (Bj oC.out) i (Nat.le_of_eq hg.symm)) hb); replace rD := mk0 (Kd.Bw (Kd.DU (Bj rD.out) i (Nat.le_of_eq hg.symm)) hb); have y := mk0 (qC); have U := mk0 ((by rw [hg]; exact (AQ (by repeat (first | (with_reducible first | exact HB.out | apply AU | apply Ag | apply Ad) | exact HB.out))) : w.heap.size ≤ i)); replace HB := mk0 (Am (by repeat (first | (with_reducible first | exact HB.out | apply AU | apply Ag | apply Ad) | exact HB.out)) hb); clear hb qC hg) | ((with_reducible refine AP rfl (N := 4) rfl (cs := #[.int .i64 Z, .int .i64 bB, .slice cB G.length eB, .slice dB I.length fB, .slice tB d.length gB]) (t := 33) ?hr ?_); (case hr => first | (go_simp; done) | (go_simp; rfl)); intro c hg w6 qC hb; replace mC := mk0 (Kd.Bw (Kd.DU (Bj mC.out) c (Nat.le_of_eq hg.symm)) hb); replace nC := mk0 (Kd.Bw (Kd.DU (Bj nC.out) c (Nat.le_of_eq hg.symm)) hb); replace oC := mk0 (Kd.Bw (Kd.DU (Bj oC.out) c (Nat.le_of_eq hg.symm)) hb); replace rD := mk0 (Kd.Bw (Kd.DU (Bj rD.out) c (Nat.le_of_eq hg.symm)) hb); have l := mk0 (qC); have hB := mk0 ((by rw [hg]; exact (AQ (by repeat (first | (with_reducible first | exact HB.out | apply AU | apply Ag | apply Ad | refine Af ?_ U.out) | exact HB.out))) : w.heap.size ≤ c)); replace HB := mk0 (Am (by repeat (first | (with_reducible first | exact HB.out | apply AU | apply Ag | apply Ad | refine Af ?_ U.out) | exact HB.out)) hb); have dC := mk0 ((by rw [hg]; exact Nat.ne_of_lt (EG (g := i) (o := .cells #[.int .i64 W, .int .i64 X, .string Y, .slice jB O.length lB, .slice kB T.length mB] 26 (0, 0)) (by (with_reducible repeat (first | refine BH ?_ _ | refine AX ?_ | refine Ac ?_ _)); exact y.out)) : i ≠ c)); have eC := mk0 ((by rw [hg]; exact Nat.ne_of_gt (EG (g := i) (o := .cells #[.int .i64 W, .int .i64 X, .string Y, .slice jB O.length lB, .slice kB T.length mB] 26 (0, 0)) (by (with_reducible repeat (first | refine BH ?_ _ | refine AX ?_ | refine Ac ?_ _)); exact y.out)) : c ≠ i)); replace y := mk0 (Aa (g := i) (o := .cells #[.int .i64 W, .int .i64 X, .string Y, .slice jB O.length lB, .slice kB T.length mB] 26 (0, 0)) (by (with_reducible repeat (first | refine BH ?_ _ | refine AX ?_ | refine Ac ?_ _)); exact y.out) hb); clear hb qC hg))
 (try simp only [Act.put, List.setIfInBounds_toArray, List.set_cons_zero, List.set_cons_succ])
 go_cut [18] (fun v18 wc => ∃ (kq : Nat) (oD : Bool), v18 = .bool oD ∧ Aside0 (Cq.j0 kq l2 oD W X Y O T Z bB G I d = some r) ∧ Aside0 (kq ≤ k) ∧ Aside0 (Kd.V k30 30 wc w.heap.size (fun a => ((s a ∨ u a ∨ x a ∨ L a) ∨ w.heap.size ≤ a) ∧ a ≠ i ∧ a ≠ c) (.slice A2 l2.length c2) l2) ∧ Aside0 (Kd.V (Kd.int .u8) 73 wc w.heap.size (fun a => ((s a ∨ u a ∨ x a ∨ L a) ∨ w.heap.size ≤ a) ∧ a ≠ i ∧ a ≠ c) (.slice cB G.length eB) G) ∧ Aside0 (Kd.V k30 30 wc w.heap.size (fun a => ((s a ∨ u a ∨ x a ∨ L a) ∨ w.heap.size ≤ a) ∧ a ≠ i ∧ a ≠ c) (.slice dB I.length fB) I) ∧ Aside0 (Kd.V k63 63 wc w.heap.size (fun a => ((s a ∨ u a ∨ x a ∨ L a) ∨ w.heap.size ≤ a) ∧ a ≠ i ∧ a ≠ c) (.slice tB d.length gB) d) ∧ Aside0 (wc.heap[i]? = some (.cells #[.int .i64 W, .int .i64 X, .string Y, (.slice jB O.length lB), (.slice kB T.length mB)] 26 (0, 0))) ∧ Aside0 (wc.heap[c]? = some (.cells #[.int .i64 Z, .int .i64 bB, (.slice cB G.length eB), (.slice dB I.length fB), (.slice tB d.length gB)] 33 (0, 0))) ∧ Aside0 (Below w.heap.size w wc))
 case first =>
  have H := pF.out
  clear pF
  by_cases c7 : (d.length : Int) > 80
  ·rw [if_pos c7] at H
   have fD : decide (80 < (d.length : Int)) = true := decide_eq_true c7
   have lG : decide (80 < d.length) = true := decide_eq_true (by omega)
   clear c7
   (first | rw [fD] | (simp only [CP, Dj]; rw [fD]) | skip)
   have H' := mk0 H
   clear H
   have bK := eC.out
   have cK := dC.out
   have aJ : w6.cell? ⟨c, 0, none⟩ = some (.int .i64 Z) := bc l 0
   have bJ : w6.cell? ⟨c, 1, none⟩ = some (.int .i64 bB) := bc l 1
   have cJ : w6.cell? ⟨c, 2, none⟩ = some (.slice cB G.length eB) := bc l 2
   have dJ : w6.cell? ⟨c, 3, none⟩ = some (.slice dB I.length fB) := bc l 3
   have eJ : w6.cell? ⟨c, 4, none⟩ = some (.slice tB d.length gB) := bc l 4
   have fJ := AB l.out 0
   have gJ := AB l.out 1
   have hJ := AB l.out 2
   have iJ := AB l.out 3
   have jJ := AB l.out 4
   go_wp2
   go_meet
   case rel => exact ⟨_, (true), rfl, H', ⟨by omega⟩, ⟨by (with_reducible repeat (first | apply Kd.CX | apply Kd.CY | apply Kd.BU)); exact Kd.AL rD.out (fun _ m => ⟨m.1.1, ⟨m.1.2, m.2⟩⟩)⟩, ⟨by (with_reducible repeat (first | apply Kd.CX | apply Kd.CY | apply Kd.BU)); exact Kd.AL mC.out (fun _ m => ⟨m.1.1, ⟨m.1.2, m.2⟩⟩)⟩, ⟨by (with_reducible repeat (first | apply Kd.CX | apply Kd.CY | apply Kd.BU)); exact Kd.AL nC.out (fun _ m => ⟨m.1.1, ⟨m.1.2, m.2⟩⟩)⟩, ⟨by (with_reducible repeat (first | apply Kd.CX | apply Kd.CY | apply Kd.BU)); exact Kd.AL oC.out (fun _ m => ⟨m.1.1, ⟨m.1.2, m.2⟩⟩)⟩, ⟨by (with_reducible repeat (first | refine BH ?_ _ | refine AX ?_ | refine Ac ?_ _)); exact y.out⟩, ⟨by (with_reducible repeat (first | refine BH ?_ _ | refine AX ?_ | refine Ac ?_ _)); exact l.out⟩, ⟨by repeat (first | (with_reducible first | exact HB.out | apply AU | apply Ag | apply Ad | refine Af ?_ U.out | refine Af ?_ hB.out) | exact HB.out)⟩⟩
  ·rw [if_neg c7] at H
   have fD : decide (80 < (d.length : Int)) = false := decide_eq_false c7
   have lG : decide (80 < d.length) = false := decide_eq_false (by omega)
   clear c7
   (first | rw [fD] | (simp only [CP, Dj]; rw [fD]) | skip)
   have H' := mk0 H
   clear H
   have pJ := eC.out
   have uJ := dC.out
   have pG : w6.cell? ⟨c, 0, none⟩ = some (.int .i64 Z) := bc l 0
   have qG : w6.cell? ⟨c, 1, none⟩ = some (.int .i64 bB) := bc l 1
   have rG : w6.cell? ⟨c, 2, none⟩ = some (.slice cB G.length eB) := bc l 2
   have sG : w6.cell? ⟨c, 3, none⟩ = some (.slice dB I.length fB) := bc l 3
   have tG : w6.cell? ⟨c, 4, none⟩ = some (.slice tB d.length gB) := bc l 4
   have jH := AB l.out 0
   have kH := AB l.out 1
   have lH := AB l.out 2
   have mH := AB l.out 3
   have nH := AB l.out 4
   go_wp2
   go_meet
   case rel => exact ⟨_, (decide ((l2.length : Int) > 80)), rfl, H', ⟨by omega⟩, ⟨by (with_reducible repeat (first | apply Kd.CX | apply Kd.CY | apply Kd.BU)); exact Kd.AL rD.out (fun _ m => ⟨m.1.1, ⟨m.1.2, m.2⟩⟩)⟩, ⟨by (with_reducible repeat (first | apply Kd.CX | apply Kd.CY | apply Kd.BU)); exact Kd.AL mC.out (fun _ m => ⟨m.1.1, ⟨m.1.2, m.2⟩⟩)⟩, ⟨by (with_reducible repeat (first | apply Kd.CX | apply Kd.CY | apply Kd.BU)); exact Kd.AL nC.out (fun _ m => ⟨m.1.1, ⟨m.1.2, m.2⟩⟩)⟩, ⟨by (with_reducible repeat (first | apply Kd.CX | apply Kd.CY | apply Kd.BU)); exact Kd.AL oC.out (fun _ m => ⟨m.1.1, ⟨m.1.2, m.2⟩⟩)⟩, ⟨by (with_reducible repeat (first | refine BH ?_ _ | refine AX ?_ | refine Ac ?_ _)); exact y.out⟩, ⟨by (with_reducible repeat (first | refine BH ?_ _ | refine AX ?_ | refine Ac ?_ _)); exact l.out⟩, ⟨by repeat (first | (with_reducible first | exact HB.out | apply AU | apply Ag | apply Ad | refine Af ?_ U.out | refine Af ?_ hB.out) | exact HB.out)⟩⟩
 case rest =>
  clear pF
  try clear c2
  obtain ⟨kq, oD, rfl, HA, jG, eD, z, B, D, y, l, HB⟩ := hcut
  cases kq with
  | zero => exact absurd HA.out (by simp [Cq.j0])
  | succ cF =>
   have H := HA.out
   clear HA
   simp only [Cq.j0] at H
   replace H := iB H; obtain ⟨rfl, H⟩ | ⟨rfl, H⟩ := H
   ·obtain rfl := sI H
    go_wp2
    go_ret
    exact ⟨rfl, by repeat (first | (with_reducible first | exact HB.out | apply AU | apply Ag | apply Ad | refine Af ?_ U.out | refine Af ?_ hB.out) | exact HB.out)⟩
   ·obtain ⟨lD, xC⟩ : ∃ y_ : List (S30), y_ = (([(⟨Z, bB, G, I⟩ : S30)] : List (S30))) := ⟨_, rfl⟩
    replace H : (if lD.length + l2.length < 2199023255552 then (Cq.l0 cF (lD ++ l2) d (d.length : Int) 0 W X Y O T) else (none)) = some r := by first | (rw [xC]; with_reducible exact H) | (have sC := (Option.bind_some _ _).symm.trans H; rw [xC]; with_reducible exact sC) | (have sC := (Option.bind_some _ _).symm.trans H; with_reducible exact sC) | with_reducible exact H | (rw [xC]; exact H) | exact H
    have uD := mk0 xC
    clear xC
    by_cases c13 : lD.length + l2.length < 2199023255552
    ·rw [if_pos c13] at H
     have uF := mk0 c13
     clear c13
     obtain ⟨hF, yC⟩ : ∃ y_ : List (S30), y_ = (lD ++ l2) := ⟨_, rfl⟩
     replace H : (Cq.l0 cF hF d (d.length : Int) 0 W X Y O T) = some r := by first | (rw [yC]; with_reducible exact H) | (have sC := (Option.bind_some _ _).symm.trans H; rw [yC]; with_reducible exact sC) | (have sC := (Option.bind_some _ _).symm.trans H; with_reducible exact sC) | with_reducible exact H | (rw [yC]; exact H) | exact H
     have xF := mk0 yC
     clear yC
     have H' := mk0 H
     clear H
     have qJ := eC.out
     have vJ := dC.out
     have xD : wc.cell? ⟨c, 0, none⟩ = some (.int .i64 Z) := bc l 0
     have yD : wc.cell? ⟨c, 1, none⟩ = some (.int .i64 bB) := bc l 1
     have zD : wc.cell? ⟨c, 2, none⟩ = some (.slice cB G.length eB) := bc l 2
     have aE : wc.cell? ⟨c, 3, none⟩ = some (.slice dB I.length fB) := bc l 3
     have bE : wc.cell? ⟨c, 4, none⟩ = some (.slice tB d.length gB) := bc l 4
     have hE := AB l.out 0
     have jE := AB l.out 1
     have kE := AB l.out 2
     have lE := AB l.out 3
     have mE := AB l.out 4
     go_wp2_with (first | ((with_reducible refine FJ (N := 21) rfl ?_); (try (refine EP (by rfl) ?_; dsimp only)); refine Kd.PS k30 _ 30 ?hg (N' := 21) ?hd (xs := ([(⟨Z, bB, G, I⟩ : S30)] : List (S30))) (inner := [.int .i64 Z, .int .i64 bB, .slice cB G.length eB, .slice dB I.length fB]) (ok := (fun a => ((s a ∨ u a ∨ x a ∨ L a) ∨ w.heap.size ≤ a) ∧ a ≠ i ∧ a ≠ c)) (okp := (fun a => ((s a ∨ u a ∨ x a ∨ L a) ∨ w.heap.size ≤ a) ∧ a ≠ i ∧ a ≠ c)) ?hr ?hp (fun _ m => m) ((show ∀ a, wc.heap.size ≤ a → (fun a => ((s a ∨ u a ∨ x a ∨ L a) ∨ w.heap.size ≤ a) ∧ a ≠ i ∧ a ≠ c) a from fun a m => ⟨(.inr (Nat.le_trans (AQ (by repeat (first | (with_reducible first | exact HB.out | apply AU | apply Ag | apply Ad | refine Af ?_ U.out | refine Af ?_ hB.out) | exact HB.out))) m)), Kd.Al (g := i) (o := .cells #[.int .i64 W, .int .i64 X, .string Y, .slice jB O.length lB, .slice kB T.length mB] 26 (0, 0)) (by (with_reducible repeat (first | refine BH ?_ _ | refine AX ?_ | refine Ac ?_ _)); exact y.out) a m, Kd.Al (g := c) (o := .cells #[.int .i64 Z, .int .i64 bB, .slice cB G.length eB, .slice dB I.length fB, .slice tB d.length gB] 33 (0, 0)) (by (with_reducible repeat (first | refine BH ?_ _ | refine AX ?_ | refine Ac ?_ _)); exact l.out) a m⟩) _ (Nat.le_refl _)) (Below.refl _ _) (Nat.le_refl _) (by simp) ?_; (case hd => rfl); (case hg => rfl); (case hr => first | (go_simp; done) | (go_simp; rfl)); (case hp => exact (DK.c4 (show Kd.FK k30 _ _ (⟨Z, bB, G, I⟩ : S30) [.int .i64 Z, .int .i64 bB, .slice cB G.length eB, .slice dB I.length fB] from (K9 _ _ (⟨Z, bB, G, I⟩ : S30) (Kd.AO (Kd.AL (ok' := (fun a => ((s a ∨ u a ∨ x a ∨ L a) ∨ w.heap.size ≤ a) ∧ a ≠ i ∧ a ≠ c)) (z.out) (fun a m => ⟨m.1, ⟨m.2.1, m.2.2⟩⟩))).2.1 (Kd.V_F (Kd.AL (ok' := (fun a => ((s a ∨ u a ∨ x a ∨ L a) ∨ w.heap.size ≤ a) ∧ a ≠ i ∧ a ≠ c)) (z.out) (fun a m => ⟨m.1, ⟨m.2.1, m.2.2⟩⟩))) (Kd.AO (Kd.AL (ok' := (fun a => ((s a ∨ u a ∨ x a ∨ L a) ∨ w.heap.size ≤ a) ∧ a ≠ i ∧ a ≠ c)) (B.out) (fun a m => ⟨m.1, ⟨m.2.1, m.2.2⟩⟩))).2.1 (Kd.V_F (Kd.AL (ok' := (fun a => ((s a ∨ u a ∨ x a ∨ L a) ∨ w.heap.size ≤ a) ∧ a ≠ i ∧ a ≠ c)) (B.out) (fun a m => ⟨m.1, ⟨m.2.1, m.2.2⟩⟩))))) (DK.none _ _))); intro v116 hK iC hb oJ aG; clear oJ aG; (first | rw [← uD.out] at iC | (simp only [Int.reduceToNat] at iC; rw [← uD.out] at iC)); replace eD := mk0 (Kd.Az (Bj eD.out) (Kd.Bp iC) hb); replace z := mk0 (Kd.Az (Bj z.out) (Kd.Bp iC) hb); replace B := mk0 (Kd.Az (Bj B.out) (Kd.Bp iC) hb); replace D := mk0 (Kd.Az (Bj D.out) (Kd.Bp iC) hb); have cD := mk0 (Kd.DF iC (AQ (by repeat (first | (with_reducible first | exact HB.out | apply AU | apply Ag | apply Ad | refine Af ?_ U.out | refine Af ?_ hB.out) | exact HB.out)))); replace y := mk0 (Aa (g := i) (o := .cells #[.int .i64 W, .int .i64 X, .string Y, .slice jB O.length lB, .slice kB T.length mB] 26 (0, 0)) (by (with_reducible repeat (first | refine BH ?_ _ | refine AX ?_ | refine Ac ?_ _)); exact y.out) hb); replace l := mk0 (Aa (g := c) (o := .cells #[.int .i64 Z, .int .i64 bB, .slice cB G.length eB, .slice dB I.length fB, .slice tB d.length gB] 33 (0, 0)) (by (with_reducible repeat (first | refine BH ?_ _ | refine AX ?_ | refine Ac ?_ _)); exact l.out) hb); replace HB := mk0 (Am (by repeat (first | (with_reducible first | exact HB.out | apply AU | apply Ag | apply Ad | refine Af ?_ U.out | refine Af ?_ hB.out) | exact HB.out)) hb); clear hb iC) | ((with_reducible refine EI (b := .append) (xs := #[.tmp 21, .tmp 22]) rfl ?_); (try (refine EP (by rfl) ?_; dsimp only)); at_builtin; refine Kd.Ik k30 (w0 := w) w.heap.size rfl (.tmp 21) (.tmp 22) 28 30 (.agg #[(.int .i64 0), (.int .i64 0), (.slice none 0 0), (.slice none 0 0)]) 64 rfl Try.underlying28 G6 rfl (by decide) (by omega) v116 lD l2 _ _ _ (fun a => ((s a ∨ u a ∨ x a ∨ L a) ∨ w.heap.size ≤ a) ∧ a ≠ i ∧ a ≠ c) (fun a => ((fun a => ((s a ∨ u a ∨ x a ∨ L a) ∨ w.heap.size ≤ a) ∧ a ≠ i ∧ a ≠ c)) a ∧ some a ≠ (v116 : Value).ownBlock) rfl rfl ?aO ?aR (fun _ m => m) ?aF ?aB ?aS ?aL ?_; (case aR => exact (by skip; exact Kd.V_F (Kd.AL (ok' := (fun a => ((fun a => ((s a ∨ u a ∨ x a ∨ L a) ∨ w.heap.size ≤ a) ∧ a ≠ i ∧ a ≠ c)) a ∧ some a ≠ (v116 : Value).ownBlock)) (eD.out) (fun a m => ⟨⟨m.1.1, ⟨m.1.2.1, m.1.2.2⟩⟩, m.2⟩)))); (case aB => exact (by repeat (first | (with_reducible first | exact HB.out | apply AU | apply Ag | apply Ad | refine Af ?_ U.out | refine Af ?_ hB.out) | exact HB.out))); (case aF => exact (fun a m => ⟨(.inr (Nat.le_trans (AQ (by repeat (first | (with_reducible first | exact HB.out | apply AU | apply Ag | apply Ad | refine Af ?_ U.out | refine Af ?_ hB.out) | exact HB.out))) m)), Kd.Al (g := i) (o := .cells #[.int .i64 W, .int .i64 X, .string Y, .slice jB O.length lB, .slice kB T.length mB] 26 (0, 0)) (by (with_reducible repeat (first | refine BH ?_ _ | refine AX ?_ | refine Ac ?_ _)); exact y.out) a m, Kd.Al (g := c) (o := .cells #[.int .i64 Z, .int .i64 bB, .slice cB G.length eB, .slice dB I.length fB, .slice tB d.length gB] 33 (0, 0)) (by (with_reducible repeat (first | refine BH ?_ _ | refine AX ?_ | refine Ac ?_ _)); exact l.out) a m⟩)); (case aO => exact (D9 cD.out)); (case aS => exact (AQ (by repeat (first | (with_reducible first | exact HB.out | apply AU | apply Ag | apply Ad | refine Af ?_ U.out | refine Af ?_ hB.out) | exact HB.out)))); (case aL => have := uF.out; omega); intro v119 wE ho hb hg pC; rw [← xF.out] at ho; replace eD := mk0 (Kd.Bt (ok := (fun a => ((s a ∨ u a ∨ x a ∨ L a) ∨ w.heap.size ≤ a) ∧ a ≠ i ∧ a ≠ c)) (Bj eD.out) hg pC); replace z := mk0 (Kd.Bt (ok := (fun a => ((s a ∨ u a ∨ x a ∨ L a) ∨ w.heap.size ≤ a) ∧ a ≠ i ∧ a ≠ c)) (Bj z.out) hg pC); replace B := mk0 (Kd.Bt (ok := (fun a => ((s a ∨ u a ∨ x a ∨ L a) ∨ w.heap.size ≤ a) ∧ a ≠ i ∧ a ≠ c)) (Bj B.out) hg pC); replace D := mk0 (Kd.Bt (ok := (fun a => ((s a ∨ u a ∨ x a ∨ L a) ∨ w.heap.size ≤ a) ∧ a ≠ i ∧ a ≠ c)) (Bj D.out) hg pC); replace y := mk0 (Bg (g := i) (o := .cells #[.int .i64 W, .int .i64 X, .string Y, .slice jB O.length lB, .slice kB T.length mB] 26 (0, 0)) (by (with_reducible repeat (first | refine BH ?_ _ | refine AX ?_ | refine Ac ?_ _)); exact y.out) hg (Kd.Fx cD.out y.out (by decide))); replace l := mk0 (Bg (g := c) (o := .cells #[.int .i64 Z, .int .i64 bB, .slice cB G.length eB, .slice dB I.length fB, .slice tB d.length gB] 33 (0, 0)) (by (with_reducible repeat (first | refine BH ?_ _ | refine AX ?_ | refine Ac ?_ _)); exact l.out) hg (Kd.Fx cD.out l.out (by decide))); replace HB := mk0 (hb); have qF := mk0 (ho); clear cD; clear ho hb hg pC; have cE : wE.cell? ⟨c, 0, none⟩ = some (.int .i64 Z) := bc l 0; have dE : wE.cell? ⟨c, 1, none⟩ = some (.int .i64 bB) := bc l 1; have eE : wE.cell? ⟨c, 2, none⟩ = some (.slice cB G.length eB) := bc l 2; have fE : wE.cell? ⟨c, 3, none⟩ = some (.slice dB I.length fB) := bc l 3; have gE : wE.cell? ⟨c, 4, none⟩ = some (.slice tB d.length gB) := bc l 4; have nE := AB l.out 0; have oE := AB l.out 1; have pE := AB l.out 2; have qE := AB l.out 3; have rE := AB l.out 4))
     go_loopg [7, 27] cF (fun kq v7 v27 w' => ∃ (lC : List (S30)) (j : Int), v27 = .int .i64 j ∧ Aside0 (Cq.l0 kq lC d (d.length : Int) j W X Y O T = some r) ∧ Aside0 (kq ≤ cF) ∧ Aside0 (Kd.N k30 30 w' w.heap.size (fun a => ((s a ∨ u a ∨ x a ∨ L a) ∨ w.heap.size ≤ a) ∧ a ≠ i ∧ a ≠ c) v7 lC) ∧ Aside0 (Kd.V k63 63 w' w.heap.size (fun a => ((s a ∨ u a ∨ x a ∨ L a) ∨ w.heap.size ≤ a) ∧ some a ≠ (v7 : Value).ownBlock ∧ a ≠ i ∧ a ≠ c) (.slice tB d.length gB) d) ∧ Aside0 (Kd.V (Kd.int .u8) 73 w' w.heap.size (fun a => ((s a ∨ u a ∨ x a ∨ L a) ∨ w.heap.size ≤ a) ∧ some a ≠ (v7 : Value).ownBlock ∧ a ≠ i ∧ a ≠ c) (.slice cB G.length eB) G) ∧ Aside0 (Kd.V k30 30 w' w.heap.size (fun a => ((s a ∨ u a ∨ x a ∨ L a) ∨ w.heap.size ≤ a) ∧ some a ≠ (v7 : Value).ownBlock ∧ a ≠ i ∧ a ≠ c) (.slice dB I.length fB) I) ∧ Aside0 (Kd.V k63 63 w' w.heap.size (fun a => ((s a ∨ u a ∨ x a ∨ L a) ∨ w.heap.size ≤ a) ∧ some a ≠ (v7 : Value).ownBlock ∧ a ≠ i ∧ a ≠ c) (.slice tB d.length gB) d) ∧ Aside0 (w'.heap[i]? = some (.cells #[.int .i64 W, .int .i64 X, .string Y, (.slice jB O.length lB), (.slice kB T.length mB)] 26 (0, 0))) ∧ Aside0 (w'.heap[c]? = some (.cells #[.int .i64 Z, .int .i64 bB, (.slice cB G.length eB), (.slice dB I.length fB), (.slice tB d.length gB)] 33 (0, 0))) ∧ Aside0 (Below w.heap.size w w'))
     case atStart => exact ⟨(hF), (0), rfl, H', ⟨Nat.le_refl _⟩, ⟨D9 qF.out⟩, ⟨by (with_reducible repeat (first | apply Kd.CX | apply Kd.CY | apply Kd.BU)); exact Kd.AL D.out (fun _ m => ⟨m.1.1, ⟨m.2, ⟨m.1.2.1, m.1.2.2⟩⟩⟩)⟩, ⟨by (with_reducible repeat (first | apply Kd.CX | apply Kd.CY | apply Kd.BU)); exact Kd.AL z.out (fun _ m => ⟨m.1.1, ⟨m.2, ⟨m.1.2.1, m.1.2.2⟩⟩⟩)⟩, ⟨by (with_reducible repeat (first | apply Kd.CX | apply Kd.CY | apply Kd.BU)); exact Kd.AL B.out (fun _ m => ⟨m.1.1, ⟨m.2, ⟨m.1.2.1, m.1.2.2⟩⟩⟩)⟩, ⟨by (with_reducible repeat (first | apply Kd.CX | apply Kd.CY | apply Kd.BU)); exact Kd.AL D.out (fun _ m => ⟨m.1.1, ⟨m.2, ⟨m.1.2.1, m.1.2.2⟩⟩⟩)⟩, ⟨by (with_reducible repeat (first | refine BH ?_ _ | refine AX ?_ | refine Ac ?_ _)); exact y.out⟩, ⟨by (with_reducible repeat (first | refine BH ?_ _ | refine AX ?_ | refine Ac ?_ _)); exact l.out⟩, ⟨by repeat (first | (with_reducible first | exact HB.out | apply AU | apply Ag | apply Ad | refine Af ?_ U.out | refine Af ?_ hB.out) | exact HB.out)⟩⟩
     case round =>
      clear H'
      try clear c2
      try clear c4
      try clear c13
      try clear xD
      try clear yD
      try clear zD
      try clear aE
      try clear bE
      try clear cE
      try clear dE
      try clear eE
      try clear fE
      try clear gE
      try clear hE
      try clear jE
      try clear kE
      try clear lE
      try clear mE
      try clear nE
      try clear oE
      try clear pE
      try clear qE
      try clear rE
      obtain ⟨lC, j, rfl, HA, kG, zB, uB, z, B, D, y, l, HB⟩ := hrel
      cases gk with
      | zero => exact absurd HA.out (by simp [Cq.l0])
      | succ k2 =>
       have H := HA.out
       clear HA
       simp only [Cq.l0] at H
       replace H := iD H; obtain ⟨-, zF, H⟩ | ⟨-, zF, H⟩ := H
       ·by_cases c21 : 0 ≤ j
        ·rw [if_pos c21] at H
         have lJ : decide (0 ≤ j) = true := decide_eq_true c21
         clear c21
         by_cases c22 : j < (d.length : Int)
         ·rw [if_pos c22] at H
          have mJ : decide (j < (d.length : Int)) = true := decide_eq_true c22
          clear c22
          by_cases c23 : lC.length < 2199023255552
          ·rw [if_pos c23] at H
           have wF := mk0 c23
           clear c23
           obtain ⟨jF, zC⟩ : ∃ y_ : List (S30), y_ = (lC ++ [(⟨(AA d j).f1.f0, (AA d j).f1.f1, (AA d j).f1.f2, (AA d j).f1.f3⟩ : S30)]) := ⟨_, rfl⟩
           replace H : (Cq.l0 k2 jF d (d.length : Int) (wrap64 (j + 1)) W X Y O T) = some r := by first | (rw [zC]; with_reducible exact H) | (have sC := (Option.bind_some _ _).symm.trans H; rw [zC]; with_reducible exact sC) | (have sC := (Option.bind_some _ _).symm.trans H; with_reducible exact sC) | with_reducible exact H | (rw [zC]; exact H) | exact H
           have yF := mk0 zC
           clear zC
           have H' := mk0 H
           clear H
           have pD : 0 ≤ (j : Int) := od
           have qD : j < (d.length : Int) := od
           obtain ⟨gC, aC, bC, cC, fC, nG, dI, eI, fI, uE, vE, jD, gD, kD, hD⟩ := DV (Kd.AO uB.out).2.2 j pD qD
           cases nG
           obtain ⟨nJ, zE, yE, dD⟩ := Kd.FQ uB.out z63 j pD (by first | exact qD | exact of_decide_eq_true (by assumption) | (have e_ := (Kd.AO uB.out).1; omega))
           obtain ⟨tI, wI, uI, xI, rfl, aD, vC, bD, wC⟩ := DX yE
           have jC := dD 3 _ rfl
           rw [BZ _ _ 3 (by omega)] at jC
           replace jC := Option.some.inj (jC.symm.trans uE)
           injection jC with hva_ hvn_ hvc_
           rw [hva_] at vC
           rw [hvc_] at aD
           have qB := mk0 (show Kd.V (Kd.int .u8) 73 _ w.heap.size _ _ ((AA d j).f1.f2) from Kd.C8 aD vC)
           clear hva_ hvn_ hvc_ vC aD
           have kC := dD 4 _ rfl
           rw [BZ _ _ 4 (by omega)] at kC
           replace kC := Option.some.inj (kC.symm.trans vE)
           injection kC with hva_ hvn_ hvc_
           rw [hva_] at wC
           rw [hvc_] at bD
           have sB := mk0 (show Kd.V k30 30 _ w.heap.size _ _ ((AA d j).f1.f3) from Kd.C8 bD wC)
           clear hva_ hvn_ hvc_ wC bD
           clear dD zE
           have tC := mk0 gD
           have hG := mk0 jD
           clear gD jD
           have uC := mk0 hD
           have iG := mk0 kD
           clear hD kD
           replace pD := eq_true pD
           replace qD := eq_true qD
           go_wp2_with (first | ((with_reducible refine AP rfl (N := 9) rfl (cs := #[.int .i64 0, .int .i64 0, .int .i64 0, .slice none 0 0, .slice none 0 0]) (t := 63) ?hr ?_); (case hr => first | (go_simp; done) | (go_simp; rfl)); intro n hg sD qC hb; replace zB := mk0 (Kd.D7 (Kd.Jf (D9 zB.out) n (Nat.le_of_eq hg.symm)) hb); replace uB := mk0 (Kd.Bw (Kd.DU (Bj uB.out) n (Nat.le_of_eq hg.symm)) hb); replace z := mk0 (Kd.Bw (Kd.DU (Bj z.out) n (Nat.le_of_eq hg.symm)) hb); replace B := mk0 (Kd.Bw (Kd.DU (Bj B.out) n (Nat.le_of_eq hg.symm)) hb); replace D := mk0 (Kd.Bw (Kd.DU (Bj D.out) n (Nat.le_of_eq hg.symm)) hb); replace qB := mk0 (Kd.Bw (Kd.DU (Bj qB.out) n (Nat.le_of_eq hg.symm)) hb); replace sB := mk0 (Kd.Bw (Kd.DU (Bj sB.out) n (Nat.le_of_eq hg.symm)) hb); replace tC := mk0 (Kd.BR (by repeat (first | (with_reducible exact tC.out) | (with_reducible refine Kd.Ch ?_ _) | (with_reducible refine Kd.Ci ?_ _) | (with_reducible refine Kd.Cy ?_) | exact tC.out)) hb); replace uC := mk0 (Kd.BR (by repeat (first | (with_reducible exact uC.out) | (with_reducible refine Kd.Ch ?_ _) | (with_reducible refine Kd.Ci ?_ _) | (with_reducible refine Kd.Cy ?_) | exact uC.out)) hb); have J := mk0 (qC); have rC := mk0 ((by rw [hg]; exact (AQ (by repeat (first | (with_reducible first | exact HB.out | apply AU | apply Ag | apply Ad | refine Af ?_ U.out | refine Af ?_ hB.out) | exact HB.out))) : w.heap.size ≤ n)); replace HB := mk0 (Am (by repeat (first | (with_reducible first | exact HB.out | apply AU | apply Ag | apply Ad | refine Af ?_ U.out | refine Af ?_ hB.out) | exact HB.out)) hb); have wB := mk0 ((by rw [hg]; exact Nat.ne_of_lt (EG (g := i) (o := .cells #[.int .i64 W, .int .i64 X, .string Y, .slice jB O.length lB, .slice kB T.length mB] 26 (0, 0)) (by (with_reducible repeat (first | refine BH ?_ _ | refine AX ?_ | refine Ac ?_ _)); exact y.out)) : i ≠ n)); have mD := mk0 ((by rw [hg]; exact Nat.ne_of_gt (EG (g := i) (o := .cells #[.int .i64 W, .int .i64 X, .string Y, .slice jB O.length lB, .slice kB T.length mB] 26 (0, 0)) (by (with_reducible repeat (first | refine BH ?_ _ | refine AX ?_ | refine Ac ?_ _)); exact y.out)) : n ≠ i)); replace y := mk0 (Aa (g := i) (o := .cells #[.int .i64 W, .int .i64 X, .string Y, .slice jB O.length lB, .slice kB T.length mB] 26 (0, 0)) (by (with_reducible repeat (first | refine BH ?_ _ | refine AX ?_ | refine Ac ?_ _)); exact y.out) hb); have xB := mk0 ((by rw [hg]; exact Nat.ne_of_lt (EG (g := c) (o := .cells #[.int .i64 Z, .int .i64 bB, .slice cB G.length eB, .slice dB I.length fB, .slice (some gC) d.length gB] 33 (0, 0)) (by (with_reducible repeat (first | refine BH ?_ _ | refine AX ?_ | refine Ac ?_ _)); exact l.out)) : c ≠ n)); have nD := mk0 ((by rw [hg]; exact Nat.ne_of_gt (EG (g := c) (o := .cells #[.int .i64 Z, .int .i64 bB, .slice cB G.length eB, .slice dB I.length fB, .slice (some gC) d.length gB] 33 (0, 0)) (by (with_reducible repeat (first | refine BH ?_ _ | refine AX ?_ | refine Ac ?_ _)); exact l.out)) : n ≠ c)); replace l := mk0 (Aa (g := c) (o := .cells #[.int .i64 Z, .int .i64 bB, .slice cB G.length eB, .slice dB I.length fB, .slice (some gC) d.length gB] 33 (0, 0)) (by (with_reducible repeat (first | refine BH ?_ _ | refine AX ?_ | refine Ac ?_ _)); exact l.out) hb); clear hb qC hg; have ⟨rJ, wJ⟩ := no mD wB; have ⟨sJ, xJ⟩ := no nD xB; have uG : sD.cell? ⟨n, 0, none⟩ = some (.int .i64 0) := bc J 0; have vG : sD.cell? ⟨n, 1, none⟩ = some (.int .i64 0) := bc J 1; have wG : sD.cell? ⟨n, 2, none⟩ = some (.int .i64 0) := bc J 2; have xG : sD.cell? ⟨n, 3, none⟩ = some (.slice none 0 0) := bc J 3; have yG : sD.cell? ⟨n, 4, none⟩ = some (.slice none 0 0) := bc J 4; have oH := AB J.out 0; have pH := AB J.out 1; have qH := AB J.out 2; have rH := AB J.out 3; have sH := AB J.out 4) | ((with_reducible refine Fg (t := 63) (p := 9) rfl ?_); refine Ep (t := 63) (p := 9) (v := ?vo_w28) (w1 := (((((sD.setCell ⟨n, 0, none⟩ (.int .i64 ((AA d j).f0))).setCell ⟨n, 1, none⟩ (.int .i64 ((AA d j).f1.f0))).setCell ⟨n, 2, none⟩ (.int .i64 ((AA d j).f1.f1))).setCell ⟨n, 3, none⟩ (.slice aC ((AA d j).f1.f2).length bC)).setCell ⟨n, 4, none⟩ (.slice cC ((AA d j).f1.f3).length fC))) ?hg ?ho ?hn ?hr ?_; (case ho => rfl); (case hg => rfl); (case hn => rfl); (case hr => first | (go_simp; done) | (go_simp; rfl)); intro hC hw; have gI : Aside0 (Kd.N k30 30 hC w.heap.size (fun a => ((s a ∨ u a ∨ x a ∨ L a) ∨ w.heap.size ≤ a) ∧ a ≠ i ∧ a ≠ c ∧ a ≠ n) u7 lC) := ⟨(by rw [hw]; exact (by (with_reducible repeat (first | apply Kd.K4 | apply Kd.K5 | apply Kd.DR)); exact Kd.Av (nI (q := n) (Kd.Av zB.out (fun a m => (⟨m, m.2⟩ : _ ∧ a ≠ n))) (fun _ m => m.2)) (fun _ m => ⟨m.1.1.1, ⟨m.1.1.2.1, ⟨m.1.1.2.2, m.1.2⟩⟩⟩)))⟩; have hI : Aside0 (Kd.V k63 63 hC w.heap.size (fun a => ((s a ∨ u a ∨ x a ∨ L a) ∨ w.heap.size ≤ a) ∧ some a ≠ (u7 : Value).ownBlock ∧ a ≠ i ∧ a ≠ c ∧ a ≠ n) (.slice (some gC) d.length gB) d) := ⟨(by rw [hw]; exact (by (with_reducible repeat (first | apply Kd.CX | apply Kd.CY | apply Kd.BU)); exact Kd.AL (vI (q := n) (Kd.AL uB.out (fun a m => (⟨m, m.2⟩ : _ ∧ a ≠ n))) (fun _ m => m.2)) (fun _ m => ⟨m.1.1.1, ⟨m.1.1.2.1, ⟨m.1.1.2.2.1, ⟨m.1.1.2.2.2, m.1.2⟩⟩⟩⟩)))⟩; have iI : Aside0 (Kd.V (Kd.int .u8) 73 hC w.heap.size (fun a => ((s a ∨ u a ∨ x a ∨ L a) ∨ w.heap.size ≤ a) ∧ some a ≠ (u7 : Value).ownBlock ∧ a ≠ i ∧ a ≠ c ∧ a ≠ n) (.slice cB G.length eB) G) := ⟨(by rw [hw]; exact (by (with_reducible repeat (first | apply Kd.CX | apply Kd.CY | apply Kd.BU)); exact Kd.AL (vI (q := n) (Kd.AL z.out (fun a m => (⟨m, m.2⟩ : _ ∧ a ≠ n))) (fun _ m => m.2)) (fun _ m => ⟨m.1.1.1, ⟨m.1.1.2.1, ⟨m.1.1.2.2.1, ⟨m.1.1.2.2.2, m.1.2⟩⟩⟩⟩)))⟩; have jI : Aside0 (Kd.V k30 30 hC w.heap.size (fun a => ((s a ∨ u a ∨ x a ∨ L a) ∨ w.heap.size ≤ a) ∧ some a ≠ (u7 : Value).ownBlock ∧ a ≠ i ∧ a ≠ c ∧ a ≠ n) (.slice dB I.length fB) I) := ⟨(by rw [hw]; exact (by (with_reducible repeat (first | apply Kd.CX | apply Kd.CY | apply Kd.BU)); exact Kd.AL (vI (q := n) (Kd.AL B.out (fun a m => (⟨m, m.2⟩ : _ ∧ a ≠ n))) (fun _ m => m.2)) (fun _ m => ⟨m.1.1.1, ⟨m.1.1.2.1, ⟨m.1.1.2.2.1, ⟨m.1.1.2.2.2, m.1.2⟩⟩⟩⟩)))⟩; have kI : Aside0 (Kd.V k63 63 hC w.heap.size (fun a => ((s a ∨ u a ∨ x a ∨ L a) ∨ w.heap.size ≤ a) ∧ some a ≠ (u7 : Value).ownBlock ∧ a ≠ i ∧ a ≠ c ∧ a ≠ n) (.slice (some gC) d.length gB) d) := ⟨(by rw [hw]; exact (by (with_reducible repeat (first | apply Kd.CX | apply Kd.CY | apply Kd.BU)); exact Kd.AL (vI (q := n) (Kd.AL D.out (fun a m => (⟨m, m.2⟩ : _ ∧ a ≠ n))) (fun _ m => m.2)) (fun _ m => ⟨m.1.1.1, ⟨m.1.1.2.1, ⟨m.1.1.2.2.1, ⟨m.1.1.2.2.2, m.1.2⟩⟩⟩⟩)))⟩; have lI : Aside0 (Kd.V (Kd.int .u8) 73 hC w.heap.size (fun a => ((s a ∨ u a ∨ x a ∨ L a) ∨ w.heap.size ≤ a) ∧ some a ≠ (u7 : Value).ownBlock ∧ a ≠ i ∧ a ≠ c ∧ a ≠ n) (.slice aC ((AA d j).f1.f2).length bC) ((AA d j).f1.f2)) := ⟨(by rw [hw]; exact (by (with_reducible repeat (first | apply Kd.CX | apply Kd.CY | apply Kd.BU)); exact Kd.AL (vI (q := n) (Kd.AL qB.out (fun a m => (⟨m, m.2⟩ : _ ∧ a ≠ n))) (fun _ m => m.2)) (fun _ m => ⟨m.1.1.1, ⟨m.1.1.2.1, ⟨m.1.1.2.2.1, ⟨m.1.1.2.2.2, m.1.2⟩⟩⟩⟩)))⟩; have mI : Aside0 (Kd.V k30 30 hC w.heap.size (fun a => ((s a ∨ u a ∨ x a ∨ L a) ∨ w.heap.size ≤ a) ∧ some a ≠ (u7 : Value).ownBlock ∧ a ≠ i ∧ a ≠ c ∧ a ≠ n) (.slice cC ((AA d j).f1.f3).length fC) ((AA d j).f1.f3)) := ⟨(by rw [hw]; exact (by (with_reducible repeat (first | apply Kd.CX | apply Kd.CY | apply Kd.BU)); exact Kd.AL (vI (q := n) (Kd.AL sB.out (fun a m => (⟨m, m.2⟩ : _ ∧ a ≠ n))) (fun _ m => m.2)) (fun _ m => ⟨m.1.1.1, ⟨m.1.1.2.1, ⟨m.1.1.2.2.1, ⟨m.1.1.2.2.2, m.1.2⟩⟩⟩⟩)))⟩; have oI : Aside0 (hC.heap[i]? = some (.cells #[.int .i64 W, .int .i64 X, .string Y, .slice jB O.length lB, .slice kB T.length mB] 26 (0, 0))) := ⟨(by rw [hw]; exact (by (with_reducible repeat (first | refine BH ?_ _ | refine AX ?_ | refine Ac ?_ _)); refine EF ?_ wB.out _; (with_reducible repeat (first | refine BH ?_ _ | refine AX ?_ | refine Ac ?_ _)); refine EF ?_ wB.out _; (with_reducible repeat (first | refine BH ?_ _ | refine AX ?_ | refine Ac ?_ _)); refine EF ?_ wB.out _; (with_reducible repeat (first | refine BH ?_ _ | refine AX ?_ | refine Ac ?_ _)); refine EF ?_ wB.out _; (with_reducible repeat (first | refine BH ?_ _ | refine AX ?_ | refine Ac ?_ _)); refine EF ?_ wB.out _; (with_reducible repeat (first | refine BH ?_ _ | refine AX ?_ | refine Ac ?_ _)); exact y.out))⟩; have pI : Aside0 (hC.heap[c]? = some (.cells #[.int .i64 Z, .int .i64 bB, .slice cB G.length eB, .slice dB I.length fB, .slice (some gC) d.length gB] 33 (0, 0))) := ⟨(by rw [hw]; exact (by (with_reducible repeat (first | refine BH ?_ _ | refine AX ?_ | refine Ac ?_ _)); refine EF ?_ xB.out _; (with_reducible repeat (first | refine BH ?_ _ | refine AX ?_ | refine Ac ?_ _)); refine EF ?_ xB.out _; (with_reducible repeat (first | refine BH ?_ _ | refine AX ?_ | refine Ac ?_ _)); refine EF ?_ xB.out _; (with_reducible repeat (first | refine BH ?_ _ | refine AX ?_ | refine Ac ?_ _)); refine EF ?_ xB.out _; (with_reducible repeat (first | refine BH ?_ _ | refine AX ?_ | refine Ac ?_ _)); refine EF ?_ xB.out _; (with_reducible repeat (first | refine BH ?_ _ | refine AX ?_ | refine Ac ?_ _)); exact l.out))⟩; have qI : Aside0 (hC.heap[n]? = some (.cells #[.int .i64 ((AA d j).f0), .int .i64 ((AA d j).f1.f0), .int .i64 ((AA d j).f1.f1), .slice aC ((AA d j).f1.f2).length bC, .slice cC ((AA d j).f1.f3).length fC] 63 (0, 0))) := ⟨(by rw [hw]; exact (by (with_reducible repeat (first | refine BH ?_ _ | refine AX ?_ | refine Ac ?_ _)); refine CV (cs := #[.int .i64 ((AA d j).f0), .int .i64 ((AA d j).f1.f0), .int .i64 ((AA d j).f1.f1), .slice aC ((AA d j).f1.f2).length bC, .slice none 0 0]) ?_ 4 _ rfl; (with_reducible repeat (first | refine BH ?_ _ | refine AX ?_ | refine Ac ?_ _)); refine CV (cs := #[.int .i64 ((AA d j).f0), .int .i64 ((AA d j).f1.f0), .int .i64 ((AA d j).f1.f1), .slice none 0 0, .slice none 0 0]) ?_ 3 _ rfl; (with_reducible repeat (first | refine BH ?_ _ | refine AX ?_ | refine Ac ?_ _)); refine CV (cs := #[.int .i64 ((AA d j).f0), .int .i64 ((AA d j).f1.f0), .int .i64 0, .slice none 0 0, .slice none 0 0]) ?_ 2 _ rfl; (with_reducible repeat (first | refine BH ?_ _ | refine AX ?_ | refine Ac ?_ _)); refine CV (cs := #[.int .i64 ((AA d j).f0), .int .i64 0, .int .i64 0, .slice none 0 0, .slice none 0 0]) ?_ 1 _ rfl; (with_reducible repeat (first | refine BH ?_ _ | refine AX ?_ | refine Ac ?_ _)); refine CV (cs := #[.int .i64 0, .int .i64 0, .int .i64 0, .slice none 0 0, .slice none 0 0]) ?_ 0 _ rfl; (with_reducible repeat (first | refine BH ?_ _ | refine AX ?_ | refine Ac ?_ _)); exact J.out))⟩; have fF : Aside0 (Below w.heap.size w hC) := ⟨(by rw [hw]; exact (by repeat (first | (with_reducible first | exact HB.out | apply AU | apply Ag | apply Ad | refine Af ?_ U.out | refine Af ?_ hB.out | refine Af ?_ rC.out) | exact HB.out)))⟩; clear hw; clear zB; clear uB; clear z; clear B; clear D; clear qB; clear sB; clear y; clear l; clear J; clear HB; have zB := gI; have uB := hI; have z := iI; have B := jI; have D := kI; have qB := lI; have sB := mI; have y := oI; have l := pI; have J := qI; have HB := fF; clear gI hI iI jI kI lI mI oI pI qI fF; have zG : hC.cell? ⟨n, 0, none⟩ = some (.int .i64 ((AA d j).f0)) := bc J 0; have aH : hC.cell? ⟨n, 1, none⟩ = some (.int .i64 ((AA d j).f1.f0)) := bc J 1; have bH : hC.cell? ⟨n, 2, none⟩ = some (.int .i64 ((AA d j).f1.f1)) := bc J 2; have cH : hC.cell? ⟨n, 3, none⟩ = some (.slice aC ((AA d j).f1.f2).length bC) := bc J 3; have dH : hC.cell? ⟨n, 4, none⟩ = some (.slice cC ((AA d j).f1.f3).length fC) := bc J 4; have tH := AB J.out 0; have uH := AB J.out 1; have vH := AB J.out 2; have wH := AB J.out 3; have xH := AB J.out 4) | ((with_reducible refine EI (b := .append) (xs := #[.tmp 31, .tmp 34]) rfl ?_); (try (refine EP (by rfl) ?_; dsimp only)); at_builtin; refine Kd.Jg k30 (w0 := w) w.heap.size rfl (.tmp 31) (.tmp 34) 28 30 (.agg #[(.int .i64 0), (.int .i64 0), (.slice none 0 0), (.slice none 0 0)]) 64 rfl Try.underlying28 G6 rfl (by decide) (by omega) u7 lC (⟨(AA d j).f1.f0, (AA d j).f1.f1, (AA d j).f1.f2, (AA d j).f1.f3⟩ : S30) [.int .i64 ((AA d j).f1.f0), .int .i64 ((AA d j).f1.f1), .slice aC ((AA d j).f1.f2).length bC, .slice cC ((AA d j).f1.f3).length fC] (fun a => ((s a ∨ u a ∨ x a ∨ L a) ∨ w.heap.size ≤ a) ∧ a ≠ i ∧ a ≠ c ∧ a ≠ n) (fun a => ((fun a => ((s a ∨ u a ∨ x a ∨ L a) ∨ w.heap.size ≤ a) ∧ a ≠ i ∧ a ≠ c ∧ a ≠ n)) a ∧ some a ≠ (u7 : Value).ownBlock) rfl rfl ?aP (fun _ m => m) ?aF ?aO ?aB ?aS ?aL ?_; (case aP => exact (K9 _ _ (⟨(AA d j).f1.f0, (AA d j).f1.f1, (AA d j).f1.f2, (AA d j).f1.f3⟩ : S30) (Kd.AO (Kd.AL (ok' := (fun a => ((fun a => ((s a ∨ u a ∨ x a ∨ L a) ∨ w.heap.size ≤ a) ∧ a ≠ i ∧ a ≠ c ∧ a ≠ n)) a ∧ some a ≠ (u7 : Value).ownBlock)) (qB.out) (fun a m => ⟨⟨m.1, ⟨m.2.2.1, ⟨m.2.2.2.1, m.2.2.2.2⟩⟩⟩, m.2.1⟩))).2.1 (Kd.V_F (Kd.AL (ok' := (fun a => ((fun a => ((s a ∨ u a ∨ x a ∨ L a) ∨ w.heap.size ≤ a) ∧ a ≠ i ∧ a ≠ c ∧ a ≠ n)) a ∧ some a ≠ (u7 : Value).ownBlock)) (qB.out) (fun a m => ⟨⟨m.1, ⟨m.2.2.1, ⟨m.2.2.2.1, m.2.2.2.2⟩⟩⟩, m.2.1⟩))) (Kd.AO (Kd.AL (ok' := (fun a => ((fun a => ((s a ∨ u a ∨ x a ∨ L a) ∨ w.heap.size ≤ a) ∧ a ≠ i ∧ a ≠ c ∧ a ≠ n)) a ∧ some a ≠ (u7 : Value).ownBlock)) (sB.out) (fun a m => ⟨⟨m.1, ⟨m.2.2.1, ⟨m.2.2.2.1, m.2.2.2.2⟩⟩⟩, m.2.1⟩))).2.1 (Kd.V_F (Kd.AL (ok' := (fun a => ((fun a => ((s a ∨ u a ∨ x a ∨ L a) ∨ w.heap.size ≤ a) ∧ a ≠ i ∧ a ≠ c ∧ a ≠ n)) a ∧ some a ≠ (u7 : Value).ownBlock)) (sB.out) (fun a m => ⟨⟨m.1, ⟨m.2.2.1, ⟨m.2.2.2.1, m.2.2.2.2⟩⟩⟩, m.2.1⟩))))); (case aB => exact (by repeat (first | (with_reducible first | exact HB.out | apply AU | apply Ag | apply Ad | refine Af ?_ U.out | refine Af ?_ hB.out | refine Af ?_ rC.out) | exact HB.out))); (case aF => exact (fun a m => ⟨(.inr (Nat.le_trans (AQ (by repeat (first | (with_reducible first | exact HB.out | apply AU | apply Ag | apply Ad | refine Af ?_ U.out | refine Af ?_ hB.out | refine Af ?_ rC.out) | exact HB.out))) m)), Kd.Al (g := i) (o := .cells #[.int .i64 W, .int .i64 X, .string Y, .slice jB O.length lB, .slice kB T.length mB] 26 (0, 0)) (by (with_reducible repeat (first | refine BH ?_ _ | refine AX ?_ | refine Ac ?_ _)); exact y.out) a m, Kd.Al (g := c) (o := .cells #[.int .i64 Z, .int .i64 bB, .slice cB G.length eB, .slice dB I.length fB, .slice (some gC) d.length gB] 33 (0, 0)) (by (with_reducible repeat (first | refine BH ?_ _ | refine AX ?_ | refine Ac ?_ _)); exact l.out) a m, Kd.Al (g := n) (o := .cells #[.int .i64 ((AA d j).f0), .int .i64 ((AA d j).f1.f0), .int .i64 ((AA d j).f1.f1), .slice aC ((AA d j).f1.f2).length bC, .slice cC ((AA d j).f1.f3).length fC] 63 (0, 0)) (by (with_reducible repeat (first | refine BH ?_ _ | refine AX ?_ | refine Ac ?_ _)); exact J.out) a m⟩)); (case aO => exact (D9 zB.out)); (case aS => exact (AQ (by repeat (first | (with_reducible first | exact HB.out | apply AU | apply Ag | apply Ad | refine Af ?_ U.out | refine Af ?_ hB.out | refine Af ?_ rC.out) | exact HB.out)))); (case aL => have := wF.out; omega); intro v124 iK ho hb hg pC; rw [← yF.out] at ho; replace uB := mk0 (Kd.Bt (ok := (fun a => ((s a ∨ u a ∨ x a ∨ L a) ∨ w.heap.size ≤ a) ∧ a ≠ i ∧ a ≠ c ∧ a ≠ n)) (by (with_reducible repeat (first | apply Kd.CX | apply Kd.CY | apply Kd.BU)); exact Kd.AL uB.out (fun _ m => ⟨⟨m.1, ⟨m.2.2.1, ⟨m.2.2.2.1, m.2.2.2.2⟩⟩⟩, m.2.1⟩)) hg pC); replace z := mk0 (Kd.Bt (ok := (fun a => ((s a ∨ u a ∨ x a ∨ L a) ∨ w.heap.size ≤ a) ∧ a ≠ i ∧ a ≠ c ∧ a ≠ n)) (by (with_reducible repeat (first | apply Kd.CX | apply Kd.CY | apply Kd.BU)); exact Kd.AL z.out (fun _ m => ⟨⟨m.1, ⟨m.2.2.1, ⟨m.2.2.2.1, m.2.2.2.2⟩⟩⟩, m.2.1⟩)) hg pC); replace B := mk0 (Kd.Bt (ok := (fun a => ((s a ∨ u a ∨ x a ∨ L a) ∨ w.heap.size ≤ a) ∧ a ≠ i ∧ a ≠ c ∧ a ≠ n)) (by (with_reducible repeat (first | apply Kd.CX | apply Kd.CY | apply Kd.BU)); exact Kd.AL B.out (fun _ m => ⟨⟨m.1, ⟨m.2.2.1, ⟨m.2.2.2.1, m.2.2.2.2⟩⟩⟩, m.2.1⟩)) hg pC); replace D := mk0 (Kd.Bt (ok := (fun a => ((s a ∨ u a ∨ x a ∨ L a) ∨ w.heap.size ≤ a) ∧ a ≠ i ∧ a ≠ c ∧ a ≠ n)) (by (with_reducible repeat (first | apply Kd.CX | apply Kd.CY | apply Kd.BU)); exact Kd.AL D.out (fun _ m => ⟨⟨m.1, ⟨m.2.2.1, ⟨m.2.2.2.1, m.2.2.2.2⟩⟩⟩, m.2.1⟩)) hg pC); replace y := mk0 (Bg (g := i) (o := .cells #[.int .i64 W, .int .i64 X, .string Y, .slice jB O.length lB, .slice kB T.length mB] 26 (0, 0)) (by (with_reducible repeat (first | refine BH ?_ _ | refine AX ?_ | refine Ac ?_ _)); exact y.out) hg (Kd.Fx zB.out y.out (by decide))); replace l := mk0 (Bg (g := c) (o := .cells #[.int .i64 Z, .int .i64 bB, .slice cB G.length eB, .slice dB I.length fB, .slice (some gC) d.length gB] 33 (0, 0)) (by (with_reducible repeat (first | refine BH ?_ _ | refine AX ?_ | refine Ac ?_ _)); exact l.out) hg (Kd.Fx zB.out l.out (by decide))); replace qB := mk0 (Kd.Bt (ok := (fun a => ((s a ∨ u a ∨ x a ∨ L a) ∨ w.heap.size ≤ a) ∧ a ≠ i ∧ a ≠ c ∧ a ≠ n)) (by (with_reducible repeat (first | apply Kd.CX | apply Kd.CY | apply Kd.BU)); exact Kd.AL qB.out (fun _ m => ⟨⟨m.1, ⟨m.2.2.1, ⟨m.2.2.2.1, m.2.2.2.2⟩⟩⟩, m.2.1⟩)) hg pC); replace sB := mk0 (Kd.Bt (ok := (fun a => ((s a ∨ u a ∨ x a ∨ L a) ∨ w.heap.size ≤ a) ∧ a ≠ i ∧ a ≠ c ∧ a ≠ n)) (by (with_reducible repeat (first | apply Kd.CX | apply Kd.CY | apply Kd.BU)); exact Kd.AL sB.out (fun _ m => ⟨⟨m.1, ⟨m.2.2.1, ⟨m.2.2.2.1, m.2.2.2.2⟩⟩⟩, m.2.1⟩)) hg pC); replace J := mk0 (Bg (g := n) (o := .cells #[.int .i64 ((AA d j).f0), .int .i64 ((AA d j).f1.f0), .int .i64 ((AA d j).f1.f1), .slice aC ((AA d j).f1.f2).length bC, .slice cC ((AA d j).f1.f3).length fC] 63 (0, 0)) (by (with_reducible repeat (first | refine BH ?_ _ | refine AX ?_ | refine Ac ?_ _)); exact J.out) hg (Kd.Fx zB.out J.out (by decide))); replace HB := mk0 (hb); have rF := mk0 (ho); clear zB; clear ho hb hg pC))
           go_roundg k2
           case measure => have := jG.out; have := kG.out; omega
           case rel => exact ⟨(jF), (wrap64 (j + 1)), rfl, H', ⟨by have := jG.out; have := kG.out; omega⟩, ⟨by (with_reducible repeat (first | apply Kd.K4 | apply Kd.K5 | apply Kd.DR)); exact Kd.Av rF.out (fun _ m => ⟨m.1, ⟨m.2.1, m.2.2.1⟩⟩)⟩, ⟨by (with_reducible repeat (first | apply Kd.CX | apply Kd.CY | apply Kd.BU)); exact Kd.AL uB.out (fun _ m => ⟨m.1.1, ⟨m.2, ⟨m.1.2.1, m.1.2.2.1⟩⟩⟩)⟩, ⟨by (with_reducible repeat (first | apply Kd.CX | apply Kd.CY | apply Kd.BU)); exact Kd.AL z.out (fun _ m => ⟨m.1.1, ⟨m.2, ⟨m.1.2.1, m.1.2.2.1⟩⟩⟩)⟩, ⟨by (with_reducible repeat (first | apply Kd.CX | apply Kd.CY | apply Kd.BU)); exact Kd.AL B.out (fun _ m => ⟨m.1.1, ⟨m.2, ⟨m.1.2.1, m.1.2.2.1⟩⟩⟩)⟩, ⟨by (with_reducible repeat (first | apply Kd.CX | apply Kd.CY | apply Kd.BU)); exact Kd.AL D.out (fun _ m => ⟨m.1.1, ⟨m.2, ⟨m.1.2.1, m.1.2.2.1⟩⟩⟩)⟩, ⟨by (with_reducible repeat (first | refine BH ?_ _ | refine AX ?_ | refine Ac ?_ _)); exact y.out⟩, ⟨by (with_reducible repeat (first | refine BH ?_ _ | refine AX ?_ | refine Ac ?_ _)); exact l.out⟩, ⟨by repeat (first | (with_reducible first | exact HB.out | apply AU | apply Ag | apply Ad | refine Af ?_ U.out | refine Af ?_ hB.out | refine Af ?_ rC.out) | exact HB.out)⟩⟩
          ·rw [if_neg c23] at H
           exact absurd H (by simp)
         ·rw [if_neg c22] at H
          exact absurd H (by simp)
        ·rw [if_neg c21] at H
         exact absurd H (by simp)
       ·replace H := Option.bind_eq_some_iff.mp H
        obtain ⟨gF, dF, H⟩ := H
        replace H : (some gF) = some r := H
        have kJ := mk0 dF
        clear dF
        obtain rfl := sI H
        have tJ := dC.out
        have yJ := eC.out
        have eH : wr.cell? ⟨i, 0, none⟩ = some (.int .i64 W) := bc y 0
        have fH : wr.cell? ⟨i, 1, none⟩ = some (.int .i64 X) := bc y 1
        have gH : wr.cell? ⟨i, 2, none⟩ = some (.string Y) := bc y 2
        have hH : wr.cell? ⟨i, 3, none⟩ = some (.slice jB O.length lB) := bc y 3
        have iH : wr.cell? ⟨i, 4, none⟩ = some (.slice kB T.length mB) := bc y 4
        have yH := AB y.out 0
        have zH := AB y.out 1
        have aI := AB y.out 2
        have bI := AB y.out 3
        have cI := AB y.out 4
        obtain ⟨gG, mG, oG⟩ := Kd.Ce zB.out
        subst oG
        go_wp2_with ((with_reducible refine AR (f := 42) rfl ?_); refine Gd Try.func42 #[.agg #[.int .i64 W, .int .i64 X, .string Y, .slice jB O.length lB, .slice kB T.length mB], .slice gG lC.length mG] ?_; (with_reducible refine (BB.calls k2 W X Y _ _ O _ _ T _ _ lC gF _ ?side1 ?side2 ?side3 ?side4 ?side5 ?side6 kJ.out).mono ?_); (case side1 => exact Cg (Kd.BR sF.out HB.out)); (case side2 => exact mF.out); (case side3 => exact Cg (Kd.BR tF.out HB.out)); (case side4 => exact oF.out); (case side5 => repeat (first | exact (Kd.DY zB.out).2.2 | (with_reducible refine Kd.Ch ?_ _) | (with_reducible refine Kd.Ci ?_ _) | (with_reducible refine Kd.Cy ?_))); (case side6 => exact (Kd.DY zB.out).2.1); rintro e jK ⟨rfl, hb⟩; refine ⟨_, rfl, ?_⟩; replace zB := nb_ zB hb; replace uB := vb uB hb; replace z := vb z hb; replace B := vb B hb; replace D := vb D hb; replace y := mk0 (Aa (g := i) (o := .cells #[.int .i64 W, .int .i64 X, .string Y, .slice jB O.length lB, .slice kB T.length mB] 26 (0, 0)) (by (with_reducible repeat (first | refine BH ?_ _ | refine AX ?_ | refine Ac ?_ _)); exact y.out) hb); replace l := mk0 (Aa (g := c) (o := .cells #[.int .i64 Z, .int .i64 bB, .slice cB G.length eB, .slice dB I.length fB, .slice tB d.length gB] 33 (0, 0)) (by (with_reducible repeat (first | refine BH ?_ _ | refine AX ?_ | refine Ac ?_ _)); exact l.out) hb); replace HB := mk0 (Am (by repeat (first | (with_reducible first | exact HB.out | apply AU | apply Ag | apply Ad | refine Af ?_ U.out | refine Af ?_ hB.out) | exact HB.out)) hb))
        go_ret
        exact ⟨rfl, by repeat (first | (with_reducible first | exact HB.out | apply AU | apply Ag | apply Ad | refine Af ?_ U.out | refine Af ?_ hB.out) | exact HB.out)⟩
    ·rw [if_neg c13] at H
     exact absurd H (by simp)
def Bq.f (e : Int) (d : Int) (b : ByteArray) (c : List ByteArray) (a : List (S26)) (h : Bool) (g : Bool) (a3 : Bool) : Option (Bool) := if h = true then (if g = true then (if a3 = true then (some true) else (some ((a.length : Int) == 0))) else (if b.toList = ([] : List UInt8) then (if (c.length : Int) = 0 then (if a3 = true then (some true) else (some ((a.length : Int) == 0))) else (some false)) else (some false))) else (if d = 0 then (if g = true then (if a3 = true then (some true) else (some ((a.length : Int) == 0))) else (if b.toList = ([] : List UInt8) then (if (c.length : Int) = 0 then (if a3 = true then (some true) else (some ((a.length : Int) == 0))) else (some false)) else (some false))) else (some false))
set_option maxHeartbeats 8000000 in
set_option maxRecDepth 100000 in
theorem Bq.calls {m n : Int} {o : ByteArray} {k : Option Addr} {p : Nat} {d : List ByteArray} {l : Option Addr} {q : Nat} {g : List (S26)} {a1 a2 a3 r : Bool} {w : World} (x : Kd.C Kd.string w k d.length d) (u : d.length ≤ p) (y : Kd.C k26 w l g.length g) (v : g.length ≤ q) (h : Bq.f m n o d g a1 a2 a3 = some r) :
  Calls Try.prog 63 #[.agg #[.int .i64 m, .int .i64 n, .string o, .slice k d.length p, .slice l g.length q], .bool a1, .bool a2, .bool a3] w fun e w' => e = .returned (.bool r) ∧ Below w.heap.size w w' := by
 have gB := Try.underlying26
 have Y := mk0 x; have W := mk0 u; clear x u; have Z := mk0 y; have X := mk0 v; clear y v
 have i := mk0 (Below.refl w.heap.size w)
 have H := h; unfold Bq.f at H
 clear h
 replace H := iB H; obtain ⟨rfl, H⟩ | ⟨rfl, H⟩ := H
 ·replace H := iB H; obtain ⟨rfl, H⟩ | ⟨rfl, H⟩ := H
  ·replace H := iB H; obtain ⟨rfl, H⟩ | ⟨rfl, H⟩ := H
   ·obtain rfl := sI H
    go_enter Try.func63, Try.ntmps63
    go_wp2_with ((with_reducible refine AP rfl (N := 4) rfl (cs := #[.int .i64 m, .int .i64 n, .string o, .slice k d.length p, .slice l g.length q]) (t := 26) ?hr ?_); (case hr => first | (go_simp; done) | (go_simp; rfl)); intro j hg w8 a s; have c := mk0 (a); have b := bs (be i) hg; replace i := kh i s; clear s a hg)
    go_ret
    exact ⟨rfl, be1 i b⟩
   obtain rfl := sI H
   go_enter Try.func63, Try.ntmps63
   go_wp2_with ((with_reducible refine AP rfl (N := 4) rfl (cs := #[.int .i64 m, .int .i64 n, .string o, .slice k d.length p, .slice l g.length q]) (t := 26) ?hr ?_); (case hr => first | (go_simp; done) | (go_simp; rfl)); intro j hg w9 a s; have c := mk0 (a); have b := bs (be i) hg; replace i := kh i s; clear s a hg; have aC := cells5 c.out)
   go_ret
   exact ⟨rfl, be1 i b⟩
  replace H := iE' H; obtain ⟨hB, z, B, H⟩ | ⟨z, B, H⟩ := H
  ·obtain rfl := sI H
   go_enter Try.func63, Try.ntmps63
   go_wp2_with ((with_reducible refine AP rfl (N := 4) rfl (cs := #[.int .i64 m, .int .i64 n, .string o, .slice k d.length p, .slice l g.length q]) (t := 26) ?hr ?_); (case hr => first | (go_simp; done) | (go_simp; rfl)); intro j hg qB a s; have c := mk0 (a); have b := bs (be i) hg; replace i := kh i s; clear s a hg; have z21 := cells5 c.out)
   go_ret
   exact ⟨rfl, be1 i b⟩
  replace H := iE' H; obtain ⟨c12, D, G, H⟩ | ⟨D, G, H⟩ := H
  ·have aB : ¬ (d = []) := fun h_ => c12 (by rw [h_]; rfl)
   obtain rfl := sI H
   go_enter Try.func63, Try.ntmps63
   go_wp2_with ((with_reducible refine AP rfl (N := 4) rfl (cs := #[.int .i64 m, .int .i64 n, .string o, .slice k d.length p, .slice l g.length q]) (t := 26) ?hr ?_); (case hr => first | (go_simp; done) | (go_simp; rfl)); intro j hg oB a s; have c := mk0 (a); have b := bs (be i) hg; replace i := kh i s; clear s a hg; have cC := cells5 c.out)
   go_ret
   exact ⟨rfl, be1 i b⟩
  replace H := iB H; obtain ⟨rfl, H⟩ | ⟨rfl, H⟩ := H
  ·obtain rfl := sI H
   go_enter Try.func63, Try.ntmps63
   go_wp2_with ((with_reducible refine AP rfl (N := 4) rfl (cs := #[.int .i64 m, .int .i64 n, .string o, .slice k d.length p, .slice l g.length q]) (t := 26) ?hr ?_); (case hr => first | (go_simp; done) | (go_simp; rfl)); intro j hg lB a s; have c := mk0 (a); have b := bs (be i) hg; replace i := kh i s; clear s a hg; have bC := cells5 c.out)
   go_ret
   exact ⟨rfl, be1 i b⟩
  obtain rfl := sI H
  go_enter Try.func63, Try.ntmps63
  go_wp2_with ((with_reducible refine AP rfl (N := 4) rfl (cs := #[.int .i64 m, .int .i64 n, .string o, .slice k d.length p, .slice l g.length q]) (t := 26) ?hr ?_); (case hr => first | (go_simp; done) | (go_simp; rfl)); intro j hg mB a s; have c := mk0 (a); have b := bs (be i) hg; replace i := kh i s; clear s a hg; have z17 := cells5 c.out)
  go_ret
  exact ⟨rfl, be1 i b⟩
 replace H := iE' H; obtain ⟨jB, I, J, H⟩ | ⟨I, J, H⟩ := H
 ·obtain rfl := sI H
  go_enter Try.func63, Try.ntmps63
  go_wp2_with ((with_reducible refine AP rfl (N := 4) rfl (cs := #[.int .i64 m, .int .i64 n, .string o, .slice k d.length p, .slice l g.length q]) (t := 26) ?hr ?_); (case hr => first | (go_simp; done) | (go_simp; rfl)); intro j hg zB a s; have c := mk0 (a); have b := bs (be i) hg; replace i := kh i s; clear s a hg; have z41 := cells5 c.out)
  go_ret
  exact ⟨rfl, be1 i b⟩
 replace H := iB H; obtain ⟨rfl, H⟩ | ⟨rfl, H⟩ := H
 ·replace H := iB H; obtain ⟨rfl, H⟩ | ⟨rfl, H⟩ := H
  ·obtain rfl := sI H
   go_enter Try.func63, Try.ntmps63
   go_wp2_with ((with_reducible refine AP rfl (N := 4) rfl (cs := #[.int .i64 m, .int .i64 n, .string o, .slice k d.length p, .slice l g.length q]) (t := 26) ?hr ?_); (case hr => first | (go_simp; done) | (go_simp; rfl)); intro j hg sB a s; have c := mk0 (a); have b := bs (be i) hg; replace i := kh i s; clear s a hg; have z26 := cells5 c.out)
   go_ret
   exact ⟨rfl, be1 i b⟩
  obtain rfl := sI H
  go_enter Try.func63, Try.ntmps63
  go_wp2_with ((with_reducible refine AP rfl (N := 4) rfl (cs := #[.int .i64 m, .int .i64 n, .string o, .slice k d.length p, .slice l g.length q]) (t := 26) ?hr ?_); (case hr => first | (go_simp; done) | (go_simp; rfl)); intro j hg tB a s; have c := mk0 (a); have b := bs (be i) hg; replace i := kh i s; clear s a hg; have z28 := cells5 c.out)
  go_ret
  exact ⟨rfl, be1 i b⟩
 replace H := iE' H; obtain ⟨kB, L, O, H⟩ | ⟨L, O, H⟩ := H
 ·obtain rfl := sI H
  go_enter Try.func63, Try.ntmps63
  go_wp2_with ((with_reducible refine AP rfl (N := 4) rfl (cs := #[.int .i64 m, .int .i64 n, .string o, .slice k d.length p, .slice l g.length q]) (t := 26) ?hr ?_); (case hr => first | (go_simp; done) | (go_simp; rfl)); intro j hg yB a s; have c := mk0 (a); have b := bs (be i) hg; replace i := kh i s; clear s a hg; have z39 := cells5 c.out)
  go_ret
  exact ⟨rfl, be1 i b⟩
 replace H := iE' H; obtain ⟨bB, T, U, H⟩ | ⟨T, U, H⟩ := H
 ·have cB : ¬ (d = []) := fun h_ => bB (by rw [h_]; rfl)
  obtain rfl := sI H
  go_enter Try.func63, Try.ntmps63
  go_wp2_with ((with_reducible refine AP rfl (N := 4) rfl (cs := #[.int .i64 m, .int .i64 n, .string o, .slice k d.length p, .slice l g.length q]) (t := 26) ?hr ?_); (case hr => first | (go_simp; done) | (go_simp; rfl)); intro j hg xB a s; have c := mk0 (a); have b := bs (be i) hg; replace i := kh i s; clear s a hg; have z37 := cells5 c.out)
  go_ret
  exact ⟨rfl, be1 i b⟩
 replace H := iB H; obtain ⟨rfl, H⟩ | ⟨rfl, H⟩ := H
 ·obtain rfl := sI H
  go_enter Try.func63, Try.ntmps63
  go_wp2_with ((with_reducible refine AP rfl (N := 4) rfl (cs := #[.int .i64 m, .int .i64 n, .string o, .slice k d.length p, .slice l g.length q]) (t := 26) ?hr ?_); (case hr => first | (go_simp; done) | (go_simp; rfl)); intro j hg uB a s; have c := mk0 (a); have b := bs (be i) hg; replace i := kh i s; clear s a hg; have z33 := cells5 c.out)
  go_ret
  exact ⟨rfl, be1 i b⟩
 obtain rfl := sI H
 go_enter Try.func63, Try.ntmps63
 go_wp2_with ((with_reducible refine AP rfl (N := 4) rfl (cs := #[.int .i64 m, .int .i64 n, .string o, .slice k d.length p, .slice l g.length q]) (t := 26) ?hr ?_); (case hr => first | (go_simp; done) | (go_simp; rfl)); intro j hg wB a s; have c := mk0 (a); have b := bs (be i) hg; replace i := kh i s; clear s a hg; have z35 := cells5 c.out)
 go_ret
 exact ⟨rfl, be1 i b⟩
def Cb.f (a0 : Int) : Option (Bool) := if a0 ≥ 97 then (if a0 ≤ 122 then (some true) else (if a0 ≥ 65 then (some (decide (a0 ≤ 90))) else (some false))) else (if a0 ≥ 65 then (some (decide (a0 ≤ 90))) else (some false))
set_option maxHeartbeats 8000000 in
set_option maxRecDepth 100000 in
theorem Cb.calls {a0 : Int} {r : Bool} {w : World} (h : Cb.f a0 = some r) :
  Calls Try.prog 86 #[.int .u8 a0] w fun e w' => e = .returned (.bool r) ∧ Ap w w' := by
 have H := h; unfold Cb.f at H
 clear h
 by_cases c2 : a0 ≥ 97
 rotate_left
 ·rw [if_neg c2] at H
  have a : decide (97 ≤ a0) = false := decide_eq_false c2; clear c2
  by_cases c5 : a0 ≥ 65
  ·rw [if_pos c5] at H
   have d : decide (65 ≤ a0) = true := decide_eq_true c5; clear c5; obtain rfl := sI H
   go_enter Try.func86, Try.ntmps86
   go_wp2
   go_ret
   exact dn
  rw [if_neg c5] at H; have d : decide (65 ≤ a0) = false := decide_eq_false c5; clear c5; obtain rfl := sI H
  go_enter Try.func86, Try.ntmps86
  go_wp2
  go_ret
  exact dn
 rw [if_pos c2] at H; have a : decide (97 ≤ a0) = true := decide_eq_true c2; clear c2
 replace H := iD H; obtain ⟨-, b, H⟩ | ⟨-, b, H⟩ := H
 ·obtain rfl := sI H
  go_enter Try.func86, Try.ntmps86
  go_wp2
  go_ret
  exact dn
 by_cases c4 : a0 ≥ 65
 rotate_left
 ·rw [if_neg c4] at H
  have c : decide (65 ≤ a0) = false := decide_eq_false c4; clear c4; obtain rfl := sI H
  go_enter Try.func86, Try.ntmps86
  go_wp2
  go_ret
  exact dn
 rw [if_pos c4] at H; have c : decide (65 ≤ a0) = true := decide_eq_true c4; clear c4; obtain rfl := sI H
 go_enter Try.func86, Try.ntmps86
 go_wp2
 go_ret
 exact dn
def Dq.f (a0 : Int) : Option (Bool) := if a0 ≥ 48 then (some (decide (a0 ≤ 57))) else (some false)
set_option maxHeartbeats 8000000 in
set_option maxRecDepth 100000 in
theorem Dq.calls {a0 : Int} {r : Bool} {w : World} (h : Dq.f a0 = some r) :
  Calls Try.prog 100 #[.int .u8 a0] w fun e w' => e = .returned (.bool r) ∧ Ap w w' := by
 have H := h; unfold Dq.f at H
 clear h
 by_cases c2 : a0 ≥ 48
 ·rw [if_pos c2] at H
  have a : decide (48 ≤ a0) = true := decide_eq_true c2; clear c2; obtain rfl := sI H
  go_enter Try.func100, Try.ntmps100
  go_wp2
  go_ret
  exact dn
 rw [if_neg c2] at H; have a : decide (48 ≤ a0) = false := decide_eq_false c2; clear c2; obtain rfl := sI H
 go_enter Try.func100, Try.ntmps100
 go_wp2
 go_ret
 exact dn
def Dp.f (a0 : Int) : Option (Bool) := (Cb.f a0).bind fun a => (if a = true then (some true) else ((Dq.f a0).bind fun b => (if b = true then (some true) else (some (a0 == 95)))))
set_option maxHeartbeats 8000000 in
set_option maxRecDepth 100000 in
theorem Dp.calls {a0 : Int} {r : Bool} {w : World} (h : Dp.f a0 = some r) :
  Calls Try.prog 88 #[.int .u8 a0] w fun e w' => e = .returned (.bool r) ∧ Ap w w' := by
 have H := h; unfold Dp.f at H
 clear h
 replace H := bS H; obtain ⟨d, b, H⟩ := H
 replace H := iB H; obtain ⟨rfl, H⟩ | ⟨rfl, H⟩ := H
 ·obtain rfl := sI H
  go_enter Try.func88, Try.ntmps88
  go_wp2_with ((with_reducible refine AR (f := 86) rfl ?_); refine Hr Try.func86 (Cb.calls b.out) ?_; intro a)
  go_ret
  exact dn
 replace H := bS H; obtain ⟨g, c, H⟩ := H
 replace H := iB H; obtain ⟨rfl, H⟩ | ⟨rfl, H⟩ := H
 ·obtain rfl := sI H
  go_enter Try.func88, Try.ntmps88
  go_wp2_with (first | ((with_reducible refine AR (f := 86) rfl ?_); refine Hr Try.func86 (Cb.calls b.out) ?_; intro a) | (go_at_call 100; refine (Dq.calls c.out).mono ?_; rintro e w' ⟨rfl, ⟨a, rfl⟩⟩))
  go_ret
  exact dn
 obtain rfl := sI H
 go_enter Try.func88, Try.ntmps88
 go_wp2_with (first | ((with_reducible refine AR (f := 86) rfl ?_); refine Hr Try.func86 (Cb.calls b.out) ?_; intro a) | (go_at_call 100; refine (Dq.calls c.out).mono ?_; rintro e w' ⟨rfl, ⟨a, rfl⟩⟩))
 go_ret
 exact dn
end Go.Proofs.Ytojankgmedccdaa.PIs
