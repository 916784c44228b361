/- Lemmas for LawDriversInertial. -/
import Derived.Test.YtojankgmedccdaaYIHandE
import Derived.Test.YtojankgmedccdaaYIPGnF56
import Derived.Test.YtojankgmedccdaaYIPAwx5
namespace Go.Proofs.Ytojankgmedccdaa.PGn
open Go.RowKit Own PTy Hand PIs PAw YtojankgmedccdaaW.PrintWords YtojankgmedccdaaW.PrintLast YtojankgmedccdaaW.PrintMore
attribute [local go_sem] BI BJ Bc Bd Av Ay BK BL
set_option linter.unusedVariables false
set_option linter.unusedSimpArgs false
mutual
def AJ.j0 : Nat → Int → List (S30) → List Int → Bool → Bool → Int → Int → ByteArray → List ByteArray → List (S26) → Int → Int → List Int → List (S30) → List (S63) → Int → List Int → Option (Int × Int × List Int × (List (S30)) × (List (S63)) × Int)
 | 0, _, _, _, _, _, _, _, _, _, _, _, _, _, _, _, _, _ => none
 | k + 1, x2, x3, x4, x5, x54, i, j, l, m, n, d, e, g, h, a, b, c => if x54 = true then (some (0, 0, ([] : List Int), ([] : List (S30)), ([] : List (S63)), 2)) else (AJ.l0 k x2 x3 x4 x5 x3 (x3.length : Int) 0 i j l m n d e g h a b c)
def AJ.l0 : Nat → Int → List (S30) → List Int → Bool → List (S30) → Int → Int → Int → Int → ByteArray → List ByteArray → List (S26) → Int → Int → List Int → List (S30) → List (S63) → Int → List Int → Option (Int × Int × List Int × (List (S30)) × (List (S63)) × Int)
 | 0, _, _, _, _, _, _, _, _, _, _, _, _, _, _, _, _, _, _, _ => none
 | k + 1, x2, x3, x4, x5, D, U, B, i, j, l, m, n, d, e, g, h, a, b, c => if B < U then (if 0 ≤ B then (if B < (D.length : Int) then ((CJ.f k i j l m n ((AC D B).f0) ((AC D B).f1) ((AC D B).f2) ((AC D B).f3)).bind fun J => (if J = true then (AJ.l0 k x2 x3 x4 x5 D U (wrap64 (B + 1)) i j l m n d e g h a b c) else (some (0, 0, ([] : List Int), ([] : List (S30)), ([] : List (S63)), 2)))) else (none)) else (none)) else ((drivers_behind.f d e g h a b).bind fun L => (if L = true then (some (0, 0, ([] : List Int), ([] : List (S30)), ([] : List (S63)), 5)) else ((EY.f a x2 x4).bind fun G => (if G < 0 then (AJ.j2 k x3 x5 (a.length : Int) i j l m n d e g h a b c) else (AJ.j2 k x3 x5 G i j l m n d e g h a b c)))))
def AJ.j2 : Nat → List (S30) → Bool → Int → Int → Int → ByteArray → List ByteArray → List (S26) → Int → Int → List Int → List (S30) → List (S63) → Int → List Int → Option (Int × Int × List Int × (List (S30)) × (List (S63)) × Int)
 | 0, _, _, _, _, _, _, _, _, _, _, _, _, _, _, _ => none
 | k + 1, x3, x5, q, i, j, l, m, n, d, e, g, h, a, b, c => if x5 = true then (AJ.j4 k x3 q 0 d e g h a b c) else (AJ.l1 k x3 q q i j l m n d e g h a b c)
def AJ.j4 : Nat → List (S30) → Int → Int → Int → Int → List Int → List (S30) → List (S63) → Int → List Int → Option (Int × Int × List Int × (List (S30)) × (List (S63)) × Int)
 | 0, _, _, _, _, _, _, _, _, _, _ => none
 | k + 1, x3, q, p, d, e, g, h, a, b, c => if (wrap64 ((wrap64 (q - p)) + (x3.length : Int))) > 64 then (some (0, 0, ([] : List Int), ([] : List (S30)), ([] : List (S63)), 3)) else ((drivers_copied.f d e g h).bind fun u => (if 0 ≤ p then (if p ≤ q then (if q ≤ (a.length : Int) then ((drivers_all.f k ((a.take (q : Int).toNat).drop (p : Int).toNat)).bind fun T => (AJ.l2 k x3 (x3.length : Int) 0 b c u.1 u.2.1 u.2.2.1 u.2.2.2 T)) else (none)) else (none)) else (none)))
def AJ.l2 : Nat → List (S30) → Int → Int → Int → List Int → Int → Int → List Int → List (S30) → List (S63) → Option (Int × Int × List Int × (List (S30)) × (List (S63)) × Int)
 | 0, _, _, _, _, _, _, _, _, _, _ => none
 | k + 1, s, I, o, b, c, w, x, y, z, r => if o < I then (if 0 ≤ o then (if o < (s.length : Int) then (if o < (c.length : Int) then ((drivers_copied.f ((AC s o).f0) ((AC s o).f1) ((AC s o).f2) ((AC s o).f3)).bind fun v => (if r.length < 1954687338268 then (AJ.l2 k s I (wrap64 (o + 1)) b c w x y z (r ++ [(⟨wrap64 (b + (rd c o)), (⟨v.1, v.2.1, v.2.2.1, v.2.2.2⟩ : S30)⟩ : S63)])) else (none))) else (none)) else (none)) else (none)) else (some (w, x, y, z, r, 0))
def AJ.l1 : Nat → List (S30) → Int → Int → Int → Int → ByteArray → List ByteArray → List (S26) → Int → Int → List Int → List (S30) → List (S63) → Int → List Int → Option (Int × Int × List Int × (List (S30)) × (List (S63)) × Int)
 | 0, _, _, _, _, _, _, _, _, _, _, _, _, _, _, _ => none
 | k + 1, x3, q, p, i, j, l, m, n, d, e, g, h, a, b, c => if p > 0 then (if 0 ≤ (wrap64 (p - 1)) then (if (wrap64 (p - 1)) < (a.length : Int) then (if 0 < (x3.length : Int) then ((Ca.f k i j l m n ((AA a (wrap64 (p - 1))).f1.f0) ((AA a (wrap64 (p - 1))).f1.f1) ((AA a (wrap64 (p - 1))).f1.f2) ((AA a (wrap64 (p - 1))).f1.f3) ((AC x3 0).f0) ((AC x3 0).f1) ((AC x3 0).f2) ((AC x3 0).f3)).bind fun O => (if O = true then (AJ.l1 k x3 q (wrap64 (p - 1)) i j l m n d e g h a b c) else (AJ.j4 k x3 q p d e g h a b c))) else (none)) else (none)) else (none)) else (AJ.j4 k x3 q p d e g h a b c)
end
def AJ.f (k : Nat) (a : Int) (b : Int) (c : ByteArray) (g : List ByteArray) (h : List (S26)) (d : Int) (e : Int) (i : List Int) (j : List (S30)) (l : List (S63)) (m : Int) (o : List (S30)) (n : List Int) (a5 : Bool) : Option (Int × Int × List Int × (List (S30)) × (List (S63)) × Int) := (BD.f k a b c g h d e i j l).bind fun p => (if p = true then (if m < 0 then (AJ.j0 k m o n a5 true a b c g h d e i j l m n) else (if m > 1000000 then (AJ.j0 k m o n a5 true a b c g h d e i j l m n) else (if (o.length : Int) < 1 then (AJ.j0 k m o n a5 true a b c g h d e i j l m n) else (if (o.length : Int) > 64 then (AJ.j0 k m o n a5 true a b c g h d e i j l m n) else (if (n.length : Int) = (o.length : Int) then ((drivers_rising.f k n).bind fun q => (AJ.j0 k m o n a5 (!q) a b c g h d e i j l m n)) else (AJ.j0 k m o n a5 true a b c g h d e i j l m n)))))) else (AJ.j0 k m o n a5 true a b c g h d e i j l m n))
def AJ.T17 : Bool × List (List Nat × List Nat) := (true, [([], []), ([0], [0]), ([1], [1]), ([2], [2]), ([2], [2]), ([4, 2], [2, 4]), ([2], [2]), ([6, 2], [2, 6]), ([5, 7, 2], [2, 5, 7]), ([8, 2], [2, 8]), ([9, 2], [2, 9]), ([2], [2]), ([11, 2], [2, 11]), ([12, 2], [2, 12]), ([3, 10, 13, 2, 2], [2, 3, 10, 13]), ([2, 14], [2, 14])])
def AJ.B17 : List Nat := [0, 1, 3, 7, 7, 23, 7, 71, 247, 503, 1015, 7, 2055, 6151, 16383, 32767]
theorem AJ.NA : Cs .any (opsOf Try.f38 17) = AJ.T17 := by kernel_rfl
theorem AJ.Km : CX AJ.T17.2 AJ.B17 = true := by kernel_rfl
def AJ.T21 : Bool × List (List Nat × List Nat) := (true, [([], []), ([0], [0]), ([1], [1]), ([], []), ([3], [3]), ([], []), ([], []), ([4, 5, 6], [4, 5, 6]), ([7, 2], [7]), ([2, 8], [2, 8]), ([], []), ([10, 9, 8, 0, 1, 2, 3, 4, 5, 6, 7, 8, 9, 10], [9, 10])])
def AJ.B21 : List Nat := [0, 1, 3, 0, 8, 0, 0, 120, 255, 511, 0, 2047]
theorem AJ.Pi : Cs .any (opsOf Try.f38 21) = AJ.T21 := by kernel_rfl
theorem AJ.Ow : CX AJ.T21.2 AJ.B21 = true := by kernel_rfl
def AJ.T25 : Bool × List (List Nat × List Nat) := (true, [([], []), ([0], [0]), ([], []), ([], []), ([], []), ([3, 4], [3, 4]), ([5], [5]), ([2, 6], [2, 6]), ([], []), ([8], [8]), ([7, 9], [7, 9]), ([10], [10]), ([1, 11, 9], [1, 11]), ([0, 1, 2, 3, 4, 5, 6, 7, 8, 9, 10, 11, 12], []), ([13, 12, 12, 0, 1, 2, 3, 4, 5, 6, 7, 8, 9, 10, 11, 12], [12, 13])])
def AJ.B25 : List Nat := [0, 1, 0, 0, 0, 24, 56, 124, 0, 256, 1020, 2044, 4095, 8191, 16383]
theorem AJ.Pj : Cs .any (opsOf Try.f38 25) = AJ.T25 := by kernel_rfl
theorem AJ.Ox : CX AJ.T25.2 AJ.B25 = true := by kernel_rfl
set_option maxHeartbeats 8000000 in
set_option maxRecDepth 100000 in
theorem AJ.calls (k : Nat) (dD : Int) (eD : Int) (fD : ByteArray) (qF : Option Addr) (sF : Nat) (pC : List ByteArray) (rF : Option Addr) (tF : Nat) (qC : List (S26)) (jC : Int) (kC : Int) (dF : Option Addr) (mF : Nat) (eC : List Int) (eB : Nat → Prop) (sD : Option Addr) (uD : Nat) (mB : List (S30)) (fB : Nat → Prop) (tD : Option Addr) (aD : Nat) (cB : List (S63)) (a2 : Int) (gC : Nat → Prop) (A3 : Option Addr) (c3 : Nat) (l3 : List (S30)) (A4 : Option Addr) (c4 : Nat) (l4 : List Int) (a5 : Bool) (r1 : Int) (r2 : Int) (r3 : List Int) (r4 : List (S30)) (r5 : List (S63)) (r6 : Int) (w : World) (hG : D5 w) (vQ : Kd.C Kd.string w qF pC.length pC) (rQ : pC.length ≤ sF) (wQ : Kd.C k26 w rF qC.length qC) (sQ : qC.length ≤ tF) (xQ : Kd.C (Kd.int .u8) w dF eC.length eC) (tQ : eC.length ≤ mF) (aU : Kd.V k30 30 w w.heap.size (fun a => eB a) (.slice sD mB.length uD) mB) (bU : Kd.V k63 63 w w.heap.size (fun a => fB a) (.slice tD cB.length aD) cB) (hs3 : Kd.V k30 30 w w.heap.size (fun a => gC a) (.slice A3 l3.length c3) l3) (eY : Kd.C (Kd.int .i64) w A4 l4.length l4) (qX : l4.length ≤ c4) (h : AJ.f k dD eD fD pC qC jC kC eC mB cB a2 l3 l4 a5 = some (r1, r2, r3, r4, r5, r6)) :
  Calls Try.prog 38 #[.agg #[.int .i64 dD, .int .i64 eD, .string fD, .slice qF pC.length sF, .slice rF qC.length tF], .agg #[.int .i64 jC, .int .i64 kC, .slice dF eC.length mF, .slice sD mB.length uD, .slice tD cB.length aD], .int .i64 a2, .slice A3 l3.length c3, .slice A4 l4.length c4, .bool a5] w fun e w' => ∃ yR nY fU : Value, e = .returned (.tuple #[.agg #[.int .i64 r1, .int .i64 r2, yR, nY, fU], .int .i64 r6]) ∧ Kd.R (Kd.int .u8) 73 w' w.heap.size (fun a => (w.heap.size ≤ a)) yR r3 ∧ Kd.V k30 30 w' w.heap.size (fun a => ((eB a ∨ fB a ∨ gC a) ∨ w.heap.size ≤ a) ∧ some a ≠ (yR : Value).ownBlock ∧ some a ≠ (fU : Value).ownBlock) nY r4 ∧ Kd.N k63 63 w' w.heap.size (fun a => ((eB a ∨ fB a ∨ gC a) ∨ w.heap.size ≤ a) ∧ some a ≠ (yR : Value).ownBlock) fU r5 ∧ Below w.heap.size w w' := by
 have HG := mk0 hG; clear hG
 have aES := Try.underlying26
 have aEU := Try.underlying33
 have aET := Try.underlying30
 have aEV := Try.underlying63
 have gH := mk0 vQ; have dH := mk0 rQ; clear vQ rQ; have hH := mk0 wQ; have eH := mk0 sQ; clear wQ sQ; have iH := mk0 xQ; have fH := mk0 tQ; clear xQ tQ
 have oB := mk0 (show Kd.V k30 30 w w.heap.size (fun a => ((eB a ∨ fB a ∨ gC a) ∨ w.heap.size ≤ a)) (.slice sD mB.length uD) mB from Kd.AO aU (fun a l => .inl (.inl l)))
 have qB := mk0 (show Kd.V k63 63 w w.heap.size (fun a => ((eB a ∨ fB a ∨ gC a) ∨ w.heap.size ≤ a)) (.slice tD cB.length aD) cB from Kd.AO bU (fun a l => .inl (.inr (.inl l))))
 have eG := mk0 (show Kd.V k30 30 w w.heap.size (fun a => ((eB a ∨ fB a ∨ gC a) ∨ w.heap.size ≤ a)) (.slice A3 l3.length c3) l3 from Kd.AO hs3 (fun a l => .inl (.inr (.inr l))))
 have eT := mk0 eY; have zW := mk0 qX; clear eY qX
 have HB := mk0 (Below.refl w.heap.size w)
 have H := h; unfold AJ.f at H
 clear h; have dT := mk0 H; clear H
 go_enter Try.func38, Try.ntmps38
 go_upto_region 1 with (first | ((with_reducible refine AP rfl (N := 6) rfl (cs := #[.int .i64 dD, .int .i64 eD, .string fD, .slice qF pC.length sF, .slice rF qC.length tF]) (t := 26) ?hr ?_); (case hr => first | (go_simp; done) | (go_simp; rfl)); intro T hg w8 mE hb; obtain ⟨oB, qB, eG⟩ := tg3 hg hb oB qB eG; have r := mk0 (mE); have G := bs (be HB) hg; replace HB := kh HB hb; clear hb mE hg) | ((with_reducible refine AP rfl (N := 7) rfl (cs := #[.int .i64 jC, .int .i64 kC, .slice dF eC.length mF, .slice sD mB.length uD, .slice tD cB.length aD]) (t := 33) ?hr ?_); (case hr => first | (go_simp; done) | (go_simp; rfl)); intro D hg w9 mE hb; obtain ⟨oB, qB, eG⟩ := tg3 hg hb oB qB eG; have b := mk0 (mE); have I := bs (be1 HB G) hg; replace HB := kh1 HB G hb; have ⟨eE, fE⟩ := nn r hg; replace r := kb r hb; clear hb mE hg) | ((with_reducible refine AP rfl (N := 8) rfl (cs := #[.int .i64 a2]) (t := 3) ?hr ?_); (case hr => first | (go_simp; done) | (go_simp; rfl)); intro U hg w10 mE hb; obtain ⟨oB, qB, eG⟩ := tg3 hg hb oB qB eG; have s := mk0 (mE); have J := bs (be2 HB G I) hg; replace HB := kh2 HB G I hb; have ⟨oE, pE⟩ := nn r hg; have ⟨vE, xE⟩ := nn b hg; obtain ⟨r, b⟩ := tb2 hb r b; clear hb mE hg) | ((with_reducible refine AP rfl (N := 10) rfl (cs := #[.slice A4 l4.length c4]) (t := 38) ?hr ?_); (case hr => first | (go_simp; done) | (go_simp; rfl)); intro X hg w11 mE hb; obtain ⟨oB, qB, eG⟩ := tg3 hg hb oB qB eG; have x := mk0 (mE); have L := bs (be3 HB G I J) hg; replace HB := kh3 HB G I J hb; have ⟨uF, wF⟩ := nn r hg; have ⟨wE, yE⟩ := nn b hg; have ⟨yF, zF⟩ := nn s hg; obtain ⟨r, b, s⟩ := tb3 hb r b s; clear hb mE hg) | ((with_reducible refine AP rfl (N := 12) rfl (cs := #[.int .i64 0, .int .i64 0, .slice none 0 0, .slice none 0 0, .slice none 0 0]) (t := 33) ?hr ?_); (case hr => first | (go_simp; done) | (go_simp; rfl)); intro W hg w12 mE hb; obtain ⟨oB, qB, eG⟩ := tg3 hg hb oB qB eG; have y := mk0 (mE); have O := bs (be4 HB G I J L) hg; replace HB := kh4 HB G I J L hb; have ⟨vD, wD⟩ := nn r hg; have ⟨bD, cD⟩ := nn b hg; have ⟨gE, hE⟩ := nn s hg; have ⟨fG, gG⟩ := nn x hg; obtain ⟨r, b, s, x⟩ := tb4 hb r b s x; clear hb mE hg))
 (try simp only [Act.put, List.setIfInBounds_toArray, List.set_cons_zero, List.set_cons_succ])
 go_cut [54] (fun v54 wc => ∃ (kq : Nat) (bP : Bool), v54 = .bool bP ∧ Aside0 (AJ.j0 kq a2 l3 l4 a5 bP dD eD fD pC qC jC kC eC mB cB a2 l4 = some (r1, r2, r3, r4, r5, r6)) ∧ Aside0 (kq ≤ k) ∧ Aside0 (Kd.V k30 30 wc w.heap.size (fun a => ((eB a ∨ fB a ∨ gC a) ∨ w.heap.size ≤ a) ∧ a ≠ T ∧ a ≠ D ∧ a ≠ U ∧ a ≠ X ∧ a ≠ W) (.slice A3 l3.length c3) l3) ∧ Aside0 (Kd.V k30 30 wc w.heap.size (fun a => ((eB a ∨ fB a ∨ gC a) ∨ w.heap.size ≤ a) ∧ a ≠ T ∧ a ≠ D ∧ a ≠ U ∧ a ≠ X ∧ a ≠ W) (.slice sD mB.length uD) mB) ∧ Aside0 (Kd.V k63 63 wc w.heap.size (fun a => ((eB a ∨ fB a ∨ gC a) ∨ w.heap.size ≤ a) ∧ a ≠ T ∧ a ≠ D ∧ a ≠ U ∧ a ≠ X ∧ a ≠ W) (.slice tD cB.length aD) cB) ∧ Aside0 (wc.heap[T]? = some (.cells #[.int .i64 dD, .int .i64 eD, .string fD, (.slice qF pC.length sF), (.slice rF qC.length tF)] 26 (0, 0))) ∧ Aside0 (wc.heap[D]? = some (.cells #[.int .i64 jC, .int .i64 kC, (.slice dF eC.length mF), (.slice sD mB.length uD), (.slice tD cB.length aD)] 33 (0, 0))) ∧ Aside0 (wc.heap[U]? = some (.cells #[.int .i64 a2] 3 (0, 0))) ∧ Aside0 (wc.heap[X]? = some (.cells #[(.slice A4 l4.length c4)] 38 (0, 0))) ∧ Aside0 (wc.heap[W]? = some (.cells #[.int .i64 0, .int .i64 0, (.slice none 0 0), (.slice none 0 0), (.slice none 0 0)] 33 (0, 0))) ∧ Aside0 (Below w.heap.size w wc))
 case first =>
  have H := dT.out; clear dT
  replace H := bS H; obtain ⟨aEX, wN, H⟩ := H
  replace H := iB' H; obtain ⟨rfl, H⟩ | ⟨rfl, H⟩ := H
  ·have H' := mk0 H
   clear H; have ⟨qZ, b3⟩ := no eE fE; have ⟨rZ, d3⟩ := no oE pE; have ⟨sZ, e3⟩ := no uF wF; have ⟨tZ, g3⟩ := no vD wD
   have aDZ := cells5 r.out
   have ⟨uZ, j3⟩ := no vE xE; have ⟨vZ, m3⟩ := no wE yE; have ⟨wZ, n3⟩ := no bD cD
   have aEA := cells5 b.out
   go_wp2_with ((with_reducible refine AR (f := 19) rfl ?_); refine Cb Try.func19 (BD.calls k dD eD fD _ _ pC _ _ qC jC kC _ _ eC _ _ mB _ _ cB false _ (Ad HG.out (be5 HB G I J L O)) (cu gH HB) dH.out (cu hH HB) eH.out (cu iH HB) fH.out (De (Kd.AU oB.out).2.2) ((Kd.AU oB.out).2.1) (De (Kd.AU qB.out).2.2) ((Kd.AU qB.out).2.1) wN.out) ?_; intro aFA hb; replace oB := vb oB hb; replace qB := vb qB hb; replace eG := vb eG hb; obtain ⟨r, b, s, x, y⟩ := tb5 hb r b s x y; replace HB := kh5 HB G I J L O hb)
   go_meet
   case rel => exact ⟨_, (true), rfl, H', ⟨by omega⟩, ⟨BH (Kd.AO eG.out (fun _ l => ⟨l.1.1.1.1.1, ⟨l.1.1.1.1.2, ⟨l.1.1.1.2, ⟨l.1.1.2, ⟨l.1.2, l.2⟩⟩⟩⟩⟩))⟩, ⟨BH (Kd.AO oB.out (fun _ l => ⟨l.1.1.1.1.1, ⟨l.1.1.1.1.2, ⟨l.1.1.1.2, ⟨l.1.1.2, ⟨l.1.2, l.2⟩⟩⟩⟩⟩))⟩, ⟨BH (Kd.AO qB.out (fun _ l => ⟨l.1.1.1.1.1, ⟨l.1.1.1.1.2, ⟨l.1.1.1.2, ⟨l.1.1.2, ⟨l.1.2, l.2⟩⟩⟩⟩⟩))⟩, ⟨bu r⟩, ⟨bu b⟩, ⟨bu s⟩, ⟨bu x⟩, ⟨bu y⟩, ⟨be5 HB G I J L O⟩⟩
  replace H := iD H; obtain ⟨-, fM, H⟩ | ⟨-, fM, H⟩ := H
  ·(first | rw [fM] | (simp only [CE, Dc]; rw [fM]) | skip)
   have H' := mk0 H
   clear H; have ⟨n8, aBI⟩ := no eE fE; have ⟨o8, aBJ⟩ := no oE pE; have ⟨p8, aBK⟩ := no uF wF; have ⟨q8, aBL⟩ := no vD wD
   have aFR := cells5 r.out
   have ⟨r8, aBM⟩ := no vE xE; have ⟨y8, aBN⟩ := no wE yE; have ⟨z8, aBO⟩ := no bD cD
   have aFS := cells5 b.out
   go_wp2_with ((with_reducible refine AR (f := 19) rfl ?_); refine Cb Try.func19 (BD.calls k dD eD fD _ _ pC _ _ qC jC kC _ _ eC _ _ mB _ _ cB true _ (Ad HG.out (be5 HB G I J L O)) (cu gH HB) dH.out (cu hH HB) eH.out (cu iH HB) fH.out (De (Kd.AU oB.out).2.2) ((Kd.AU oB.out).2.1) (De (Kd.AU qB.out).2.2) ((Kd.AU qB.out).2.1) wN.out) ?_; intro w25 hb; replace oB := vb oB hb; replace qB := vb qB hb; replace eG := vb eG hb; obtain ⟨r, b, s, x, y⟩ := tb5 hb r b s x y; replace HB := kh5 HB G I J L O hb; have ⟨b9, aBP⟩ := no yF zF; have ⟨d9, aBQ⟩ := no gE hE; have rX : w25.cell? ⟨U, 0, none⟩ = some (.int .i64 a2) := bc s 0; have xX := AB s.out 0)
   go_meet
   case rel => exact ⟨_, (true), rfl, H', ⟨by omega⟩, ⟨BH (Kd.AO eG.out (fun _ l => ⟨l.1.1.1.1.1, ⟨l.1.1.1.1.2, ⟨l.1.1.1.2, ⟨l.1.1.2, ⟨l.1.2, l.2⟩⟩⟩⟩⟩))⟩, ⟨BH (Kd.AO oB.out (fun _ l => ⟨l.1.1.1.1.1, ⟨l.1.1.1.1.2, ⟨l.1.1.1.2, ⟨l.1.1.2, ⟨l.1.2, l.2⟩⟩⟩⟩⟩))⟩, ⟨BH (Kd.AO qB.out (fun _ l => ⟨l.1.1.1.1.1, ⟨l.1.1.1.1.2, ⟨l.1.1.1.2, ⟨l.1.1.2, ⟨l.1.2, l.2⟩⟩⟩⟩⟩))⟩, ⟨bu r⟩, ⟨bu b⟩, ⟨bu s⟩, ⟨bu x⟩, ⟨bu y⟩, ⟨be5 HB G I J L O⟩⟩
  (first | rw [fM] | (simp only [CE, Dc]; rw [fM]) | skip)
  by_cases c29 : a2 > 1000000
  ·rw [if_pos c29] at H
   have iT : decide (1000000 < a2) = true := decide_eq_true c29; clear c29
   have H' := mk0 H
   clear H; have ⟨e9, aBR⟩ := no eE fE; have ⟨f9, aBS⟩ := no oE pE; have ⟨g9, aBT⟩ := no uF wF; have ⟨j9, aBU⟩ := no vD wD
   have aFT := cells5 r.out
   have ⟨l9, aBV⟩ := no vE xE; have ⟨m9, aBW⟩ := no wE yE; have ⟨n9, aBX⟩ := no bD cD
   have aFU := cells5 b.out
   go_wp2_with ((with_reducible refine AR (f := 19) rfl ?_); refine Cb Try.func19 (BD.calls k dD eD fD _ _ pC _ _ qC jC kC _ _ eC _ _ mB _ _ cB true _ (Ad HG.out (be5 HB G I J L O)) (cu gH HB) dH.out (cu hH HB) eH.out (cu iH HB) fH.out (De (Kd.AU oB.out).2.2) ((Kd.AU oB.out).2.1) (De (Kd.AU qB.out).2.2) ((Kd.AU qB.out).2.1) wN.out) ?_; intro w39 hb; replace oB := vb oB hb; replace qB := vb qB hb; replace eG := vb eG hb; obtain ⟨r, b, s, x, y⟩ := tb5 hb r b s x y; replace HB := kh5 HB G I J L O hb; have ⟨o9, aBY⟩ := no yF zF; have ⟨p9, aBZ⟩ := no gE hE; have sX : w39.cell? ⟨U, 0, none⟩ = some (.int .i64 a2) := bc s 0; have yX := AB s.out 0)
   go_meet
   case rel => exact ⟨_, (true), rfl, H', ⟨by omega⟩, ⟨BH (Kd.AO eG.out (fun _ l => ⟨l.1.1.1.1.1, ⟨l.1.1.1.1.2, ⟨l.1.1.1.2, ⟨l.1.1.2, ⟨l.1.2, l.2⟩⟩⟩⟩⟩))⟩, ⟨BH (Kd.AO oB.out (fun _ l => ⟨l.1.1.1.1.1, ⟨l.1.1.1.1.2, ⟨l.1.1.1.2, ⟨l.1.1.2, ⟨l.1.2, l.2⟩⟩⟩⟩⟩))⟩, ⟨BH (Kd.AO qB.out (fun _ l => ⟨l.1.1.1.1.1, ⟨l.1.1.1.1.2, ⟨l.1.1.1.2, ⟨l.1.1.2, ⟨l.1.2, l.2⟩⟩⟩⟩⟩))⟩, ⟨bu r⟩, ⟨bu b⟩, ⟨bu s⟩, ⟨bu x⟩, ⟨bu y⟩, ⟨be5 HB G I J L O⟩⟩
  rw [if_neg c29] at H; have iT : decide (1000000 < a2) = false := decide_eq_false c29; clear c29
  replace H := iD H; obtain ⟨jT, kT, H⟩ | ⟨jT, kT, H⟩ := H
  ·have lT : decide (l3.length < 1) = true := decide_eq_true (by omega); clear jT
   have H' := mk0 H
   clear H; have ⟨q9, aCA⟩ := no eE fE; have ⟨r9, aCB⟩ := no oE pE; have ⟨y9, aCC⟩ := no uF wF; have ⟨aAA, aCD⟩ := no vD wD
   have aFV := cells5 r.out
   have ⟨aAB, aCE⟩ := no vE xE; have ⟨aAC, aCF⟩ := no wE yE; have ⟨aAD, aCG⟩ := no bD cD
   have aFW := cells5 b.out
   go_wp2_with ((with_reducible refine AR (f := 19) rfl ?_); refine Cb Try.func19 (BD.calls k dD eD fD _ _ pC _ _ qC jC kC _ _ eC _ _ mB _ _ cB true _ (Ad HG.out (be5 HB G I J L O)) (cu gH HB) dH.out (cu hH HB) eH.out (cu iH HB) fH.out (De (Kd.AU oB.out).2.2) ((Kd.AU oB.out).2.1) (De (Kd.AU qB.out).2.2) ((Kd.AU qB.out).2.1) wN.out) ?_; intro w53 hb; replace oB := vb oB hb; replace qB := vb qB hb; replace eG := vb eG hb; obtain ⟨r, b, s, x, y⟩ := tb5 hb r b s x y; replace HB := kh5 HB G I J L O hb; have ⟨aAE, aCH⟩ := no yF zF; have ⟨aAF, aCI⟩ := no gE hE; have tX : w53.cell? ⟨U, 0, none⟩ = some (.int .i64 a2) := bc s 0; have zX := AB s.out 0)
   go_meet
   case rel => exact ⟨_, (true), rfl, H', ⟨by omega⟩, ⟨BH (Kd.AO eG.out (fun _ l => ⟨l.1.1.1.1.1, ⟨l.1.1.1.1.2, ⟨l.1.1.1.2, ⟨l.1.1.2, ⟨l.1.2, l.2⟩⟩⟩⟩⟩))⟩, ⟨BH (Kd.AO oB.out (fun _ l => ⟨l.1.1.1.1.1, ⟨l.1.1.1.1.2, ⟨l.1.1.1.2, ⟨l.1.1.2, ⟨l.1.2, l.2⟩⟩⟩⟩⟩))⟩, ⟨BH (Kd.AO qB.out (fun _ l => ⟨l.1.1.1.1.1, ⟨l.1.1.1.1.2, ⟨l.1.1.1.2, ⟨l.1.1.2, ⟨l.1.2, l.2⟩⟩⟩⟩⟩))⟩, ⟨bu r⟩, ⟨bu b⟩, ⟨bu s⟩, ⟨bu x⟩, ⟨bu y⟩, ⟨be5 HB G I J L O⟩⟩
  have lT : decide (l3.length < 1) = false := decide_eq_false (by omega)
  clear jT
  by_cases c57 : (l3.length : Int) > 64
  ·rw [if_pos c57] at H
   have mT : decide (64 < (l3.length : Int)) = true := decide_eq_true c57
   have nT : decide (64 < l3.length) = true := decide_eq_true (by omega)
   clear c57
   have H' := mk0 H
   clear H; have ⟨aAG, aCJ⟩ := no eE fE; have ⟨aAH, aCK⟩ := no oE pE; have ⟨aAI, aCL⟩ := no uF wF; have ⟨aAJ, aCM⟩ := no vD wD
   have aFX := cells5 r.out
   have ⟨aAK, aCN⟩ := no vE xE; have ⟨aAL, aCO⟩ := no wE yE; have ⟨aAM, aCP⟩ := no bD cD
   have aFY := cells5 b.out
   go_wp2_with ((with_reducible refine AR (f := 19) rfl ?_); refine Cb Try.func19 (BD.calls k dD eD fD _ _ pC _ _ qC jC kC _ _ eC _ _ mB _ _ cB true _ (Ad HG.out (be5 HB G I J L O)) (cu gH HB) dH.out (cu hH HB) eH.out (cu iH HB) fH.out (De (Kd.AU oB.out).2.2) ((Kd.AU oB.out).2.1) (De (Kd.AU qB.out).2.2) ((Kd.AU qB.out).2.1) wN.out) ?_; intro w67 hb; replace oB := vb oB hb; replace qB := vb qB hb; replace eG := vb eG hb; obtain ⟨r, b, s, x, y⟩ := tb5 hb r b s x y; replace HB := kh5 HB G I J L O hb; have ⟨aAN, aCQ⟩ := no yF zF; have ⟨aAO, aCR⟩ := no gE hE; have uX : w67.cell? ⟨U, 0, none⟩ = some (.int .i64 a2) := bc s 0; have aY := AB s.out 0)
   go_meet
   case rel => exact ⟨_, (true), rfl, H', ⟨by omega⟩, ⟨BH (Kd.AO eG.out (fun _ l => ⟨l.1.1.1.1.1, ⟨l.1.1.1.1.2, ⟨l.1.1.1.2, ⟨l.1.1.2, ⟨l.1.2, l.2⟩⟩⟩⟩⟩))⟩, ⟨BH (Kd.AO oB.out (fun _ l => ⟨l.1.1.1.1.1, ⟨l.1.1.1.1.2, ⟨l.1.1.1.2, ⟨l.1.1.2, ⟨l.1.2, l.2⟩⟩⟩⟩⟩))⟩, ⟨BH (Kd.AO qB.out (fun _ l => ⟨l.1.1.1.1.1, ⟨l.1.1.1.1.2, ⟨l.1.1.1.2, ⟨l.1.1.2, ⟨l.1.2, l.2⟩⟩⟩⟩⟩))⟩, ⟨bu r⟩, ⟨bu b⟩, ⟨bu s⟩, ⟨bu x⟩, ⟨bu y⟩, ⟨be5 HB G I J L O⟩⟩
  rw [if_neg c57] at H; have mT : decide (64 < (l3.length : Int)) = false := decide_eq_false c57
  have nT : decide (64 < l3.length) = false := decide_eq_false (by omega)
  clear c57
  replace H := iF' H; obtain ⟨lP, oT, pT, H⟩ | ⟨lP, oT, pT, H⟩ := H
  ·have qT : (l4.length == l3.length) = false := by first | simpa using lP | (simp at lP ⊢; omega)
   have H' := mk0 H
   clear H; have ⟨aAZ, aDC⟩ := no eE fE; have ⟨aBA, aDD⟩ := no oE pE; have ⟨aBB, aDE⟩ := no uF wF; have ⟨aBC, aDF⟩ := no vD wD
   have aGB := cells5 r.out
   have ⟨aBD, aDG⟩ := no vE xE; have ⟨aBE, aDH⟩ := no wE yE; have ⟨aBF, aDI⟩ := no bD cD
   have aGC := cells5 b.out
   go_wp2_with ((with_reducible refine AR (f := 19) rfl ?_); refine Cb Try.func19 (BD.calls k dD eD fD _ _ pC _ _ qC jC kC _ _ eC _ _ mB _ _ cB true _ (Ad HG.out (be5 HB G I J L O)) (cu gH HB) dH.out (cu hH HB) eH.out (cu iH HB) fH.out (De (Kd.AU oB.out).2.2) ((Kd.AU oB.out).2.1) (De (Kd.AU qB.out).2.2) ((Kd.AU qB.out).2.1) wN.out) ?_; intro tY hb; replace oB := vb oB hb; replace qB := vb qB hb; replace eG := vb eG hb; obtain ⟨r, b, s, x, y⟩ := tb5 hb r b s x y; replace HB := kh5 HB G I J L O hb; have ⟨aBG, aDJ⟩ := no yF zF; have ⟨aBH, aDK⟩ := no gE hE; have hU : tY.cell? ⟨U, 0, none⟩ = some (.int .i64 a2) := bc s 0; have kU := AB s.out 0; have ⟨pZ, z2⟩ := no fG gG; have iU : tY.cell? ⟨X, 0, none⟩ = some (.slice A4 l4.length c4) := bc x 0; have lU := AB x.out 0)
   go_meet
   case rel => exact ⟨_, (true), rfl, H', ⟨by omega⟩, ⟨BH (Kd.AO eG.out (fun _ l => ⟨l.1.1.1.1.1, ⟨l.1.1.1.1.2, ⟨l.1.1.1.2, ⟨l.1.1.2, ⟨l.1.2, l.2⟩⟩⟩⟩⟩))⟩, ⟨BH (Kd.AO oB.out (fun _ l => ⟨l.1.1.1.1.1, ⟨l.1.1.1.1.2, ⟨l.1.1.1.2, ⟨l.1.1.2, ⟨l.1.2, l.2⟩⟩⟩⟩⟩))⟩, ⟨BH (Kd.AO qB.out (fun _ l => ⟨l.1.1.1.1.1, ⟨l.1.1.1.1.2, ⟨l.1.1.1.2, ⟨l.1.1.2, ⟨l.1.2, l.2⟩⟩⟩⟩⟩))⟩, ⟨bu r⟩, ⟨bu b⟩, ⟨bu s⟩, ⟨bu x⟩, ⟨bu y⟩, ⟨be5 HB G I J L O⟩⟩
  have qT : (l4.length == l3.length) = true := by first | simpa using lP | (simp at lP ⊢; omega)
  clear lP
  replace H := bS H; obtain ⟨iY, f8, H⟩ := H
  have H' := mk0 H
  clear H; have ⟨aAP, aCS⟩ := no eE fE; have ⟨aAQ, aCT⟩ := no oE pE; have ⟨aAR, aCU⟩ := no uF wF; have ⟨aAS, aCV⟩ := no vD wD
  have aFZ := cells5 r.out
  have ⟨aAT, aCW⟩ := no vE xE; have ⟨aAU, aCX⟩ := no wE yE; have ⟨aAV, aCY⟩ := no bD cD
  have aGA := cells5 b.out
  go_wp2_with (first | ((with_reducible refine AR (f := 19) rfl ?_); refine Cb Try.func19 (BD.calls k dD eD fD _ _ pC _ _ qC jC kC _ _ eC _ _ mB _ _ cB true _ (Ad HG.out (be5 HB G I J L O)) (cu gH HB) dH.out (cu hH HB) eH.out (cu iH HB) fH.out (De (Kd.AU oB.out).2.2) ((Kd.AU oB.out).2.1) (De (Kd.AU qB.out).2.2) ((Kd.AU qB.out).2.1) wN.out) ?_; intro sY hb; replace oB := vb oB hb; replace qB := vb qB hb; replace eG := vb eG hb; obtain ⟨r, b, s, x, y⟩ := tb5 hb r b s x y; replace HB := kh5 HB G I J L O hb; have ⟨aAW, aCZ⟩ := no yF zF; have ⟨aAX, aDA⟩ := no gE hE; have vX : sY.cell? ⟨U, 0, none⟩ = some (.int .i64 a2) := bc s 0; have bY := AB s.out 0; have ⟨aAY, aDB⟩ := no fG gG; have wX : sY.cell? ⟨X, 0, none⟩ = some (.slice A4 l4.length c4) := bc x 0; have cY := AB x.out 0) | (go_at_call 59; refine (drivers_rising.calls (cu eT HB) zW.out f8.out).mono ?_; rintro e w' ⟨rfl, ⟨nd, rfl⟩⟩))
  go_meet
  case rel => exact ⟨_, (!iY), rfl, H', ⟨by omega⟩, ⟨BH (Kd.AO eG.out (fun _ l => ⟨l.1.1.1.1.1, ⟨l.1.1.1.1.2, ⟨l.1.1.1.2, ⟨l.1.1.2, ⟨l.1.2, l.2⟩⟩⟩⟩⟩))⟩, ⟨BH (Kd.AO oB.out (fun _ l => ⟨l.1.1.1.1.1, ⟨l.1.1.1.1.2, ⟨l.1.1.1.2, ⟨l.1.1.2, ⟨l.1.2, l.2⟩⟩⟩⟩⟩))⟩, ⟨BH (Kd.AO qB.out (fun _ l => ⟨l.1.1.1.1.1, ⟨l.1.1.1.1.2, ⟨l.1.1.1.2, ⟨l.1.1.2, ⟨l.1.2, l.2⟩⟩⟩⟩⟩))⟩, ⟨bu r⟩, ⟨bu b⟩, ⟨bu s⟩, ⟨bu x⟩, ⟨bu y⟩, ⟨be5 HB G I J L O⟩⟩
 case rest =>
  clear dT; try clear c3; try clear c4
  obtain ⟨kq, bP, rfl, HA, wL, gB, m, d, r, b, s, x, y, HB⟩ := hcut
  cases kq with
  | zero => exact absurd HA.out (by simp [AJ.j0])
  | succ hY =>
   have H := HA.out; clear HA
   simp only [AJ.j0] at H
   replace H := iB H; obtain ⟨rfl, H⟩ | ⟨rfl, H⟩ := H
   ·simp only [Option.some.injEq, Prod.mk.injEq] at H
    obtain ⟨rfl, rfl, rfl, rfl, rfl, rfl⟩ := H
    have ⟨xZ, o3⟩ := no wD vD; have ⟨yZ, p3⟩ := no cD bD; have ⟨zZ, q3⟩ := no hE gE; have ⟨aA, y3⟩ := no gG fG
    have aEB := cells5 y.out
    go_wp2
    refine bodyPost_ret (Dx rfl _ _ W 33 #[.int .i64 0, .int .i64 0, .slice none 0 0, .slice none 0 0, .slice none 0 0] (0, 0) _ rfl (pB y) Try.underlying33 rfl (by kernel_rfl)) rfl ?_
    exact ⟨_, _, _, rfl, by first | exact Kd.D8 _ _ _ _ _ | exact Kd.Ee _ _ _ _ _ | exact Kd.D9 _ _ _ _ _ | exact Kd.Ea _ _ _ _ _ | exact Kd.Ec _ _ _ _ _, Kd.D9 _ _ _ _ _, by first | exact Kd.D8 _ _ _ _ _ | exact Kd.Ee _ _ _ _ _ | exact Kd.D9 _ _ _ _ _ | exact Kd.Ea _ _ _ _ _ | exact Kd.Ec _ _ _ _ _, be5 HB G I J L O⟩
   have H' := mk0 H
   clear H
   go_wp2
   go_loopg [58] hY (fun kq v58 w' => ∃ (oC : Int) (zB : Int) (aC : Int), v58 = .int .i64 oC ∧ Aside0 (AJ.l0 kq a2 l3 l4 a5 l3 (l3.length : Int) oC dD eD fD pC qC jC kC eC mB cB a2 l4 = some (r1, r2, r3, r4, r5, r6)) ∧ Aside0 (kq ≤ hY) ∧ Aside0 (Kd.V k30 30 w' w.heap.size (fun a => ((eB a ∨ fB a ∨ gC a) ∨ w.heap.size ≤ a) ∧ a ≠ T ∧ a ≠ D ∧ a ≠ U ∧ a ≠ X ∧ a ≠ W) (.slice A3 l3.length c3) l3) ∧ Aside0 (Kd.V k30 30 w' w.heap.size (fun a => ((eB a ∨ fB a ∨ gC a) ∨ w.heap.size ≤ a) ∧ a ≠ T ∧ a ≠ D ∧ a ≠ U ∧ a ≠ X ∧ a ≠ W) (.slice A3 l3.length c3) l3) ∧ Aside0 (Kd.V k30 30 w' w.heap.size (fun a => ((eB a ∨ fB a ∨ gC a) ∨ w.heap.size ≤ a) ∧ a ≠ T ∧ a ≠ D ∧ a ≠ U ∧ a ≠ X ∧ a ≠ W) (.slice sD mB.length uD) mB) ∧ Aside0 (Kd.V k63 63 w' w.heap.size (fun a => ((eB a ∨ fB a ∨ gC a) ∨ w.heap.size ≤ a) ∧ a ≠ T ∧ a ≠ D ∧ a ≠ U ∧ a ≠ X ∧ a ≠ W) (.slice tD cB.length aD) cB) ∧ Aside0 (w'.heap[T]? = some (.cells #[.int .i64 dD, .int .i64 eD, .string fD, (.slice qF pC.length sF), (.slice rF qC.length tF)] 26 (0, 0))) ∧ Aside0 (w'.heap[D]? = some (.cells #[.int .i64 jC, .int .i64 kC, (.slice dF eC.length mF), (.slice sD mB.length uD), (.slice tD cB.length aD)] 33 (0, 0))) ∧ Aside0 (w'.heap[U]? = some (.cells #[.int .i64 a2] 3 (0, 0))) ∧ Aside0 (w'.heap[X]? = some (.cells #[(.slice A4 l4.length c4)] 38 (0, 0))) ∧ Aside0 (w'.heap[W]? = some (.cells #[.int .i64 zB, .int .i64 aC, (.slice none 0 0), (.slice none 0 0), (.slice none 0 0)] 33 (0, 0))) ∧ Aside0 (Below w.heap.size w w'))
   case atStart => exact ⟨(0), (0), (0), rfl, H', ⟨Nat.le_refl _⟩, ⟨Br gB.out⟩, ⟨Br gB.out⟩, ⟨Br m.out⟩, ⟨Br d.out⟩, ⟨bu r⟩, ⟨bu b⟩, ⟨bu s⟩, ⟨bu x⟩, ⟨bu y⟩, ⟨be5 HB G I J L O⟩⟩
   case round =>
    clear H'
    try clear c3; try clear c4
    obtain ⟨oC, zB, aC, rfl, HA, xL, gB, uE, m, d, r, b, s, x, y, HB⟩ := hrel
    cases gk with
    | zero => exact absurd HA.out (by simp [AJ.l0])
    | succ k2 =>
     have H := HA.out; clear HA
     simp only [AJ.l0] at H
     replace H := iD H; obtain ⟨-, bN, H⟩ | ⟨-, bN, H⟩ := H
     ·replace H := iN H; obtain ⟨-, uY, H⟩ := H
      replace H := iN H; obtain ⟨-, vY, H⟩ := H
      replace H := bS H; obtain ⟨aEY, zR, H⟩ := H
      replace H := iB' H; obtain ⟨rfl, H⟩ | ⟨rfl, H⟩ := H
      ·simp only [Option.some.injEq, Prod.mk.injEq] at H
       obtain ⟨rfl, rfl, rfl, rfl, rfl, rfl⟩ := H
       have yK : 0 ≤ (oC : Int) := od
       have cL : oC < (l3.length : Int) := od
       obtain ⟨gT, gK, pK, iK, qK, gQ, yQ, zQ, mM, nM, iJ, cJ, jJ, dJ⟩ := Da (Kd.AU uE.out).2.2 oC yK cL
       cases gQ
       obtain ⟨rT, kN, eN, qI⟩ := Kd.Fe uE.out z30 oC yK (by first | exact cL | exact of_decide_eq_true (by assumption) | (have e_ := (Kd.AU uE.out).1; omega))
       obtain ⟨fR, lR, gR, mR, rfl, yH, qH, zH, rH⟩ := FC eN
       have qG := qI 2 _ rfl
       rw [BO _ _ 2 (by omega)] at qG
       replace qG := Option.some.inj (qG.symm.trans mM)
       injection qG with hva_ hvn_ hvc_
       rw [hva_] at qH
       rw [hvc_] at yH
       have eF := mk0 (show Kd.V (Kd.int .u8) 73 _ w.heap.size _ _ ((AC l3 oC).f2) from Kd.Cu yH qH)
       clear hva_ hvn_ hvc_ qH yH
       have rG := qI 3 _ rfl
       rw [BO _ _ 3 (by omega)] at rG
       replace rG := Option.some.inj (rG.symm.trans nM)
       injection rG with hva_ hvn_ hvc_
       rw [hva_] at rH
       rw [hvc_] at zH
       have fF := mk0 (show Kd.V k30 30 _ w.heap.size _ _ ((AC l3 oC).f3) from Kd.Cu zH rH)
       clear hva_ hvn_ hvc_ rH zH; clear qI kN; have jH := mk0 cJ; have qL := mk0 iJ; clear cJ iJ; have kH := mk0 dJ; have rL := mk0 jJ; clear dJ jJ; replace yK := eq_true yK; replace cL := eq_true cL
       go_wp2_with (first | ((with_reducible refine AP rfl (N := 15) rfl (cs := #[.int .i64 0, .int .i64 0, .slice none 0 0, .slice none 0 0]) (t := 30) ?hr ?_); (case hr => first | (go_simp; done) | (go_simp; rfl)); intro qE hg aFD mE hb; obtain ⟨gB, uE, m, d, eF, fF⟩ := tg6 hg hb gB uE m d eF fF; obtain ⟨jH, kH⟩ := tb2 hb jH kH; have yJ := mk0 (mE); have cH := bs (be5 HB G I J L O) hg; replace HB := kh5 HB G I J L O hb; have ⟨lH, aK⟩ := nn r hg; have ⟨mH, bK⟩ := nn b hg; have ⟨nH, cK⟩ := nn s hg; have ⟨oH, dK⟩ := nn x hg; have ⟨pH, eK⟩ := nn y hg; obtain ⟨r, b, s, x, y⟩ := tb5 hb r b s x y; clear hb mE hg; have ⟨kA, y4⟩ := no aK lH; have ⟨lA, b5⟩ := no bK mH; have ⟨mA, d5⟩ := no cK nH; have ⟨nA, e5⟩ := no dK oH; have ⟨oA, f5⟩ := no eK pH; have aEE := BF yJ.out; have ⟨pA, g5⟩ := no eE fE; have ⟨qA, i5⟩ := no oE pE; have ⟨rA, j5⟩ := no uF wF; have ⟨sA, l5⟩ := no vD wD; have aEF := cells5 r.out) | ((with_reducible refine AR (f := 45) rfl ?_); refine Ii Try.func45 #[.agg #[.int .i64 dD, .int .i64 eD, .string fD, .slice qF pC.length sF, .slice rF qC.length tF], .agg #[.int .i64 ((AC l3 oC).f0), .int .i64 ((AC l3 oC).f1), .slice gK ((AC l3 oC).f2).length pK, .slice iK ((AC l3 oC).f3).length qK]] ?_; (with_reducible refine (CJ.calls ?side9 ?side1 ?side2 ?side3 ?side4 ?side5 ?side6 ?side7 ?side8 zR.out).mono ?_); (case side1 => exact Kd.Au gH.out (be6 HB G I J L O cH)); (case side2 => exact dH.out); (case side3 => exact Kd.Au hH.out (be6 HB G I J L O cH)); (case side4 => exact eH.out); (case side5 => exact ((Kd.AU (by exact BH ((vF (q := qE) eF (fun _ l => l.2))))).2.2)); (case side6 => exact qL.out); (case side7 => exact ((Kd.AU (by exact BH ((vF (q := qE) fF (fun _ l => l.2))))).2.2)); (case side8 => exact rL.out); (case side9 => exact Ad HG.out (be6 HB G I J L O cH)); rintro e aFE ⟨rfl, hb⟩; refine ⟨_, rfl, ?_⟩; replace gB := mk0 (Kd.Bj (BH ((vF (q := qE) gB (fun _ l => l.2)))) hb); replace uE := mk0 (Kd.Bj (BH ((vF (q := qE) uE (fun _ l => l.2)))) hb); replace m := mk0 (Kd.Bj (BH ((vF (q := qE) m (fun _ l => l.2)))) hb); replace d := mk0 (Kd.Bj (BH ((vF (q := qE) d (fun _ l => l.2)))) hb); replace r := kF lH r hb; replace b := kF mH b hb; replace s := kF nH s hb; replace x := kF oH x hb; replace y := kF pH y hb; replace jH := mk0 (Kd.Au ((Kd.AU (by exact BH ((vF (q := qE) eF (fun _ l => l.2))))).2.2) hb); replace eF := mk0 (Kd.Bj (BH ((vF (q := qE) eF (fun _ l => l.2)))) hb); replace kH := mk0 (Kd.Au ((Kd.AU (by exact BH ((vF (q := qE) fF (fun _ l => l.2))))).2.2) hb); replace fF := mk0 (Kd.Bj (BH ((vF (q := qE) fF (fun _ l => l.2)))) hb); replace yJ := mk0 (AY (g := qE) (o := .cells #[.int .i64 ((AC l3 oC).f0), .int .i64 ((AC l3 oC).f1), .slice gK ((AC l3 oC).f2).length pK, .slice iK ((AC l3 oC).f3).length qK] 30 (0, 0)) (pB yJ) hb); replace HB := kh6 HB G I J L O cH hb; have ⟨tA, m5⟩ := no cD bD; have ⟨uA, n5⟩ := no hE gE; have ⟨vA, o5⟩ := no gG fG; have aEG := cells5 y.out))
       refine bodyPost_ret (Dx rfl _ _ W 33 #[.int .i64 0, .int .i64 0, .slice none 0 0, .slice none 0 0, .slice none 0 0] (0, 0) _ rfl (pB y) Try.underlying33 rfl (by kernel_rfl)) rfl ?_
       exact ⟨_, _, _, rfl, by first | exact Kd.D8 _ _ _ _ _ | exact Kd.Ee _ _ _ _ _ | exact Kd.D9 _ _ _ _ _ | exact Kd.Ea _ _ _ _ _ | exact Kd.Ec _ _ _ _ _, Kd.D9 _ _ _ _ _, by first | exact Kd.D8 _ _ _ _ _ | exact Kd.Ee _ _ _ _ _ | exact Kd.D9 _ _ _ _ _ | exact Kd.Ea _ _ _ _ _ | exact Kd.Ec _ _ _ _ _, be6 HB G I J L O cH⟩
      have H' := mk0 H
      clear H
      have yK : 0 ≤ (oC : Int) := od
      have cL : oC < (l3.length : Int) := od
      obtain ⟨gT, gK, pK, iK, qK, gQ, yQ, zQ, mM, nM, iJ, cJ, jJ, dJ⟩ := Da (Kd.AU uE.out).2.2 oC yK cL
      cases gQ
      obtain ⟨rT, kN, eN, qI⟩ := Kd.Fe uE.out z30 oC yK (by first | exact cL | exact of_decide_eq_true (by assumption) | (have e_ := (Kd.AU uE.out).1; omega))
      obtain ⟨fR, lR, gR, mR, rfl, yH, qH, zH, rH⟩ := FC eN
      have qG := qI 2 _ rfl
      rw [BO _ _ 2 (by omega)] at qG
      replace qG := Option.some.inj (qG.symm.trans mM)
      injection qG with hva_ hvn_ hvc_
      rw [hva_] at qH
      rw [hvc_] at yH
      have eF := mk0 (show Kd.V (Kd.int .u8) 73 _ w.heap.size _ _ ((AC l3 oC).f2) from Kd.Cu yH qH)
      clear hva_ hvn_ hvc_ qH yH
      have rG := qI 3 _ rfl
      rw [BO _ _ 3 (by omega)] at rG
      replace rG := Option.some.inj (rG.symm.trans nM)
      injection rG with hva_ hvn_ hvc_
      rw [hva_] at rH
      rw [hvc_] at zH
      have fF := mk0 (show Kd.V k30 30 _ w.heap.size _ _ ((AC l3 oC).f3) from Kd.Cu zH rH)
      clear hva_ hvn_ hvc_ rH zH; clear qI kN; have jH := mk0 cJ; have qL := mk0 iJ; clear cJ iJ; have kH := mk0 dJ; have rL := mk0 jJ; clear dJ jJ; replace yK := eq_true yK; replace cL := eq_true cL
      go_wp2_with (first | ((with_reducible refine AP rfl (N := 15) rfl (cs := #[.int .i64 0, .int .i64 0, .slice none 0 0, .slice none 0 0]) (t := 30) ?hr ?_); (case hr => first | (go_simp; done) | (go_simp; rfl)); intro qE hg aFB mE hb; obtain ⟨gB, uE, m, d, eF, fF⟩ := tg6 hg hb gB uE m d eF fF; obtain ⟨jH, kH⟩ := tb2 hb jH kH; have yJ := mk0 (mE); have cH := bs (be5 HB G I J L O) hg; replace HB := kh5 HB G I J L O hb; have ⟨lH, aK⟩ := nn r hg; have ⟨mH, bK⟩ := nn b hg; have ⟨nH, cK⟩ := nn s hg; have ⟨oH, dK⟩ := nn x hg; have ⟨pH, eK⟩ := nn y hg; obtain ⟨r, b, s, x, y⟩ := tb5 hb r b s x y; clear hb mE hg; have ⟨bA, b4⟩ := no aK lH; have ⟨cA, d4⟩ := no bK mH; have ⟨dA, e4⟩ := no cK nH; have ⟨eA, g4⟩ := no dK oH; have ⟨fA, m4⟩ := no eK pH; have aEC := BF yJ.out; have ⟨gA, n4⟩ := no eE fE; have ⟨hA, o4⟩ := no oE pE; have ⟨iA, p4⟩ := no uF wF; have ⟨jA, q4⟩ := no vD wD; have aED := cells5 r.out) | ((with_reducible refine AR (f := 45) rfl ?_); refine Ii Try.func45 #[.agg #[.int .i64 dD, .int .i64 eD, .string fD, .slice qF pC.length sF, .slice rF qC.length tF], .agg #[.int .i64 ((AC l3 oC).f0), .int .i64 ((AC l3 oC).f1), .slice gK ((AC l3 oC).f2).length pK, .slice iK ((AC l3 oC).f3).length qK]] ?_; (with_reducible refine (CJ.calls ?side9 ?side1 ?side2 ?side3 ?side4 ?side5 ?side6 ?side7 ?side8 zR.out).mono ?_); (case side1 => exact Kd.Au gH.out (be6 HB G I J L O cH)); (case side2 => exact dH.out); (case side3 => exact Kd.Au hH.out (be6 HB G I J L O cH)); (case side4 => exact eH.out); (case side5 => exact ((Kd.AU (by exact BH ((vF (q := qE) eF (fun _ l => l.2))))).2.2)); (case side6 => exact qL.out); (case side7 => exact ((Kd.AU (by exact BH ((vF (q := qE) fF (fun _ l => l.2))))).2.2)); (case side8 => exact rL.out); (case side9 => exact Ad HG.out (be6 HB G I J L O cH)); rintro e aFC ⟨rfl, hb⟩; refine ⟨_, rfl, ?_⟩; replace gB := mk0 (Kd.Bj (BH ((vF (q := qE) gB (fun _ l => l.2)))) hb); replace uE := mk0 (Kd.Bj (BH ((vF (q := qE) uE (fun _ l => l.2)))) hb); replace m := mk0 (Kd.Bj (BH ((vF (q := qE) m (fun _ l => l.2)))) hb); replace d := mk0 (Kd.Bj (BH ((vF (q := qE) d (fun _ l => l.2)))) hb); replace r := kF lH r hb; replace b := kF mH b hb; replace s := kF nH s hb; replace x := kF oH x hb; replace y := kF pH y hb; replace jH := mk0 (Kd.Au ((Kd.AU (by exact BH ((vF (q := qE) eF (fun _ l => l.2))))).2.2) hb); replace eF := mk0 (Kd.Bj (BH ((vF (q := qE) eF (fun _ l => l.2)))) hb); replace kH := mk0 (Kd.Au ((Kd.AU (by exact BH ((vF (q := qE) fF (fun _ l => l.2))))).2.2) hb); replace fF := mk0 (Kd.Bj (BH ((vF (q := qE) fF (fun _ l => l.2)))) hb); replace yJ := mk0 (AY (g := qE) (o := .cells #[.int .i64 ((AC l3 oC).f0), .int .i64 ((AC l3 oC).f1), .slice gK ((AC l3 oC).f2).length pK, .slice iK ((AC l3 oC).f3).length qK] 30 (0, 0)) (pB yJ) hb); replace HB := kh6 HB G I J L O cH hb))
      go_roundg k2
      case measure => have := wL.out; have := xL.out; omega
      case rel => exact ⟨(wrap64 (oC + 1)), (zB), (aC), rfl, H', ⟨by have := wL.out; have := xL.out; omega⟩, ⟨BH (Kd.AO gB.out (fun _ l => ⟨l.1.1, ⟨l.1.2.1, ⟨l.1.2.2.1, ⟨l.1.2.2.2.1, ⟨l.1.2.2.2.2.1, l.1.2.2.2.2.2⟩⟩⟩⟩⟩))⟩, ⟨BH (Kd.AO uE.out (fun _ l => ⟨l.1.1, ⟨l.1.2.1, ⟨l.1.2.2.1, ⟨l.1.2.2.2.1, ⟨l.1.2.2.2.2.1, l.1.2.2.2.2.2⟩⟩⟩⟩⟩))⟩, ⟨BH (Kd.AO m.out (fun _ l => ⟨l.1.1, ⟨l.1.2.1, ⟨l.1.2.2.1, ⟨l.1.2.2.2.1, ⟨l.1.2.2.2.2.1, l.1.2.2.2.2.2⟩⟩⟩⟩⟩))⟩, ⟨BH (Kd.AO d.out (fun _ l => ⟨l.1.1, ⟨l.1.2.1, ⟨l.1.2.2.1, ⟨l.1.2.2.2.1, ⟨l.1.2.2.2.2.1, l.1.2.2.2.2.2⟩⟩⟩⟩⟩))⟩, ⟨bu r⟩, ⟨bu b⟩, ⟨bu s⟩, ⟨bu x⟩, ⟨bu y⟩, ⟨be6 HB G I J L O cH⟩⟩
     replace H := bS H; obtain ⟨aEZ, cS, H⟩ := H
     replace H := iB H; obtain ⟨rfl, H⟩ | ⟨rfl, H⟩ := H
     ·simp only [Option.some.injEq, Prod.mk.injEq] at H
      obtain ⟨rfl, rfl, rfl, rfl, rfl, rfl⟩ := H
      have ⟨wA, p5⟩ := no fE eE; have ⟨xA, q5⟩ := no vE xE; have ⟨yA, y5⟩ := no wE yE; have ⟨zA, a6⟩ := no bD cD
      have aEH := cells5 b.out
      have ⟨b0, b6⟩ := no pE oE; have ⟨d0, d6⟩ := no yF zF; have ⟨e0, e6⟩ := no gE hE
      have jU : wr.cell? ⟨U, 0, none⟩ = some (.int .i64 a2) := bc s 0
      have mU := AB s.out 0
      go_wp2_with ((with_reducible refine AR (f := 50) rfl ?_); refine Cb Try.func50 (drivers_behind.calls jC kC _ _ eC _ _ mB _ _ cB a2 true _ (cu iH HB) fH.out (De (Kd.AU m.out).2.2) ((Kd.AU m.out).2.1) (De (Kd.AU d.out).2.2) ((Kd.AU d.out).2.1) cS.out) ?_; intro aFF hb; replace gB := vb gB hb; replace uE := vb uE hb; replace m := vb m hb; replace d := vb d hb; obtain ⟨r, b, s, x, y⟩ := tb5 hb r b s x y; replace HB := kh5 HB G I J L O hb; have ⟨g0, f6⟩ := no wD vD; have ⟨m0, g6⟩ := no gG fG; have aEI := cells5 y.out)
      refine bodyPost_ret (Dx rfl _ _ W 33 #[.int .i64 0, .int .i64 0, .slice none 0 0, .slice none 0 0, .slice none 0 0] (0, 0) _ rfl (pB y) Try.underlying33 rfl (by kernel_rfl)) rfl ?_
      exact ⟨_, _, _, rfl, by first | exact Kd.D8 _ _ _ _ _ | exact Kd.Ee _ _ _ _ _ | exact Kd.D9 _ _ _ _ _ | exact Kd.Ea _ _ _ _ _ | exact Kd.Ec _ _ _ _ _, Kd.D9 _ _ _ _ _, by first | exact Kd.D8 _ _ _ _ _ | exact Kd.Ee _ _ _ _ _ | exact Kd.D9 _ _ _ _ _ | exact Kd.Ea _ _ _ _ _ | exact Kd.Ec _ _ _ _ _, be5 HB G I J L O⟩
     replace H := bS H; obtain ⟨vS, xW, H⟩ := H; have zN := mk0 H; clear H; have ⟨n0, i6⟩ := no fE eE; have ⟨o0, j6⟩ := no vE xE; have ⟨p0, l6⟩ := no wE yE; have ⟨q0, m6⟩ := no bD cD
     have aEJ := cells5 b.out
     have ⟨r0, n6⟩ := no pE oE; have ⟨y0, o6⟩ := no yF zF; have ⟨a1, p6⟩ := no gE hE
     have uM : wr.cell? ⟨U, 0, none⟩ = some (.int .i64 a2) := bc s 0
     have vM := AB s.out 0
     go_upto_if 77 with (first | ((with_reducible refine AR (f := 50) rfl ?_); refine Cb Try.func50 (drivers_behind.calls jC kC _ _ eC _ _ mB _ _ cB a2 false _ (cu iH HB) fH.out (De (Kd.AU m.out).2.2) ((Kd.AU m.out).2.1) (De (Kd.AU d.out).2.2) ((Kd.AU d.out).2.1) cS.out) ?_; intro aFG hb; replace gB := vb gB hb; replace uE := vb uE hb; replace m := vb m hb; replace d := vb d hb; obtain ⟨r, b, s, x, y⟩ := tb5 hb r b s x y; replace HB := kh5 HB G I J L O hb; have aEK := cells5 b.out) | ((with_reducible refine AR (f := 60) rfl ?_); refine Cb Try.func60 (EY.calls _ _ cB a2 _ _ l4 vS U X _ (De (Kd.AU d.out).2.2) ((Kd.AU d.out).2.1) (cu eT HB) zW.out (bu s) (bu x) xW.out) ?_; intro aFH hb; replace gB := vb gB hb; replace uE := vb uE hb; replace m := vb m hb; replace d := vb d hb; obtain ⟨r, b, s, x, y⟩ := tb5 hb r b s x y; replace HB := kh5 HB G I J L O hb))
     (try simp only [Act.put, List.setIfInBounds_toArray, List.set_cons_zero, List.set_cons_succ])
     go_cut [16] (fun v16 wc => ∃ (kq : Nat) (xB : Int), v16 = .int .i64 xB ∧ Aside0 (AJ.j2 kq l3 a5 xB dD eD fD pC qC jC kC eC mB cB a2 l4 = some (r1, r2, r3, r4, r5, r6)) ∧ Aside0 (kq ≤ k2) ∧ Aside0 (Kd.V k30 30 wc w.heap.size (fun a => ((eB a ∨ fB a ∨ gC a) ∨ w.heap.size ≤ a) ∧ a ≠ T ∧ a ≠ D ∧ a ≠ U ∧ a ≠ X ∧ a ≠ W) (.slice A3 l3.length c3) l3) ∧ Aside0 (Kd.V k30 30 wc w.heap.size (fun a => ((eB a ∨ fB a ∨ gC a) ∨ w.heap.size ≤ a) ∧ a ≠ T ∧ a ≠ D ∧ a ≠ U ∧ a ≠ X ∧ a ≠ W) (.slice sD mB.length uD) mB) ∧ Aside0 (Kd.V k63 63 wc w.heap.size (fun a => ((eB a ∨ fB a ∨ gC a) ∨ w.heap.size ≤ a) ∧ a ≠ T ∧ a ≠ D ∧ a ≠ U ∧ a ≠ X ∧ a ≠ W) (.slice tD cB.length aD) cB) ∧ Aside0 (wc.heap[T]? = some (.cells #[.int .i64 dD, .int .i64 eD, .string fD, (.slice qF pC.length sF), (.slice rF qC.length tF)] 26 (0, 0))) ∧ Aside0 (wc.heap[D]? = some (.cells #[.int .i64 jC, .int .i64 kC, (.slice dF eC.length mF), (.slice sD mB.length uD), (.slice tD cB.length aD)] 33 (0, 0))) ∧ Aside0 (wc.heap[U]? = some (.cells #[.int .i64 a2] 3 (0, 0))) ∧ Aside0 (wc.heap[X]? = some (.cells #[(.slice A4 l4.length c4)] 38 (0, 0))) ∧ Aside0 (wc.heap[W]? = some (.cells #[.int .i64 zB, .int .i64 aC, (.slice none 0 0), (.slice none 0 0), (.slice none 0 0)] 33 (0, 0))) ∧ Aside0 (Below w.heap.size w wc))
     case first =>
      have H := zN.out; clear zN
      replace H := iD' H; obtain ⟨-, nK, H⟩ | ⟨-, nK, H⟩ := H
      ·(first | rw [nK] | (simp only [CE, Dc]; rw [nK]) | skip)
       have H' := mk0 H
       clear H
       go_wp2
       go_meet
       case rel => exact ⟨_, (vS), rfl, H', ⟨by have := wL.out; have := xL.out; first | omega | exact Nat.le_refl _⟩, ⟨Br gB.out⟩, ⟨Br m.out⟩, ⟨Br d.out⟩, ⟨bu r⟩, ⟨bu b⟩, ⟨bu s⟩, ⟨bu x⟩, ⟨bu y⟩, ⟨be5 HB G I J L O⟩⟩
      (first | rw [nK] | (simp only [CE, Dc]; rw [nK]) | skip)
      have H' := mk0 H
      clear H; have ⟨b1, q6⟩ := no fE eE; have ⟨d1, y6⟩ := no vE xE; have ⟨e1, z6⟩ := no wE yE; have ⟨i1, a7⟩ := no bD cD
      have aEL := cells5 b.out
      go_wp2
      go_meet
      case rel => exact ⟨_, ((cB.length : Int)), rfl, H', ⟨by have := wL.out; have := xL.out; first | omega | exact Nat.le_refl _⟩, ⟨Br gB.out⟩, ⟨Br m.out⟩, ⟨Br d.out⟩, ⟨bu r⟩, ⟨bu b⟩, ⟨bu s⟩, ⟨bu x⟩, ⟨bu y⟩, ⟨be5 HB G I J L O⟩⟩
     case rest =>
      clear zN; try clear c3; try clear c4; try clear bN; try clear uM; try clear vM
      obtain ⟨kq, xB, rfl, HA, zJ, gB, m, d, r, b, s, x, y, HB⟩ := hcut
      cases kq with
      | zero => exact absurd HA.out (by simp [AJ.j2])
      | succ sO =>
       have H := HA.out; clear HA
       simp only [AJ.j2] at H
       have bO := mk0 H; clear H
       go_upto_if 82 with (fail)
       go_cut [17] (fun v17 wc => ∃ (kq : Nat) (hC : Int), v17 = .int .i64 hC ∧ Aside0 (AJ.j4 kq l3 xB hC jC kC eC mB cB a2 l4 = some (r1, r2, r3, r4, r5, r6)) ∧ Aside0 (kq ≤ sO) ∧ Aside0 (Kd.V k30 30 wc w.heap.size (fun a => ((eB a ∨ fB a ∨ gC a) ∨ w.heap.size ≤ a) ∧ a ≠ T ∧ a ≠ D ∧ a ≠ U ∧ a ≠ X ∧ a ≠ W) (.slice A3 l3.length c3) l3) ∧ Aside0 (Kd.V k30 30 wc w.heap.size (fun a => ((eB a ∨ fB a ∨ gC a) ∨ w.heap.size ≤ a) ∧ a ≠ T ∧ a ≠ D ∧ a ≠ U ∧ a ≠ X ∧ a ≠ W) (.slice sD mB.length uD) mB) ∧ Aside0 (Kd.V k63 63 wc w.heap.size (fun a => ((eB a ∨ fB a ∨ gC a) ∨ w.heap.size ≤ a) ∧ a ≠ T ∧ a ≠ D ∧ a ≠ U ∧ a ≠ X ∧ a ≠ W) (.slice tD cB.length aD) cB) ∧ Aside0 (wc.heap[T]? = some (.cells #[.int .i64 dD, .int .i64 eD, .string fD, (.slice qF pC.length sF), (.slice rF qC.length tF)] 26 (0, 0))) ∧ Aside0 (wc.heap[D]? = some (.cells #[.int .i64 jC, .int .i64 kC, (.slice dF eC.length mF), (.slice sD mB.length uD), (.slice tD cB.length aD)] 33 (0, 0))) ∧ Aside0 (wc.heap[U]? = some (.cells #[.int .i64 a2] 3 (0, 0))) ∧ Aside0 (wc.heap[X]? = some (.cells #[(.slice A4 l4.length c4)] 38 (0, 0))) ∧ Aside0 (wc.heap[W]? = some (.cells #[.int .i64 zB, .int .i64 aC, (.slice none 0 0), (.slice none 0 0), (.slice none 0 0)] 33 (0, 0))) ∧ Aside0 (Below w.heap.size w wc))
       case first =>
        have H := bO.out; clear bO
        replace H := iB H; obtain ⟨rfl, H⟩ | ⟨rfl, H⟩ := H
        ·have H' := mk0 H
         clear H
         go_wp2
         go_meet
         case rel => exact ⟨_, (0), rfl, H', ⟨by have := wL.out; have := xL.out; have := zJ.out; first | omega | exact Nat.le_refl _⟩, ⟨Br gB.out⟩, ⟨Br m.out⟩, ⟨Br d.out⟩, ⟨bu r⟩, ⟨bu b⟩, ⟨bu s⟩, ⟨bu x⟩, ⟨bu y⟩, ⟨be5 HB G I J L O⟩⟩
        have H' := mk0 H
        clear H
        go_wp2
        go_loopg [17] sO (fun kq v17 w' => ∃ (eI : Int), v17 = .int .i64 eI ∧ Aside0 (AJ.l1 kq l3 xB eI dD eD fD pC qC jC kC eC mB cB a2 l4 = some (r1, r2, r3, r4, r5, r6)) ∧ Aside0 (kq ≤ sO) ∧ Aside0 (Kd.V k30 30 w' w.heap.size (fun a => ((eB a ∨ fB a ∨ gC a) ∨ w.heap.size ≤ a) ∧ a ≠ T ∧ a ≠ D ∧ a ≠ U ∧ a ≠ X ∧ a ≠ W) (.slice A3 l3.length c3) l3) ∧ Aside0 (Kd.V k30 30 w' w.heap.size (fun a => ((eB a ∨ fB a ∨ gC a) ∨ w.heap.size ≤ a) ∧ a ≠ T ∧ a ≠ D ∧ a ≠ U ∧ a ≠ X ∧ a ≠ W) (.slice sD mB.length uD) mB) ∧ Aside0 (Kd.V k63 63 w' w.heap.size (fun a => ((eB a ∨ fB a ∨ gC a) ∨ w.heap.size ≤ a) ∧ a ≠ T ∧ a ≠ D ∧ a ≠ U ∧ a ≠ X ∧ a ≠ W) (.slice tD cB.length aD) cB) ∧ Aside0 (w'.heap[T]? = some (.cells #[.int .i64 dD, .int .i64 eD, .string fD, (.slice qF pC.length sF), (.slice rF qC.length tF)] 26 (0, 0))) ∧ Aside0 (w'.heap[D]? = some (.cells #[.int .i64 jC, .int .i64 kC, (.slice dF eC.length mF), (.slice sD mB.length uD), (.slice tD cB.length aD)] 33 (0, 0))) ∧ Aside0 (w'.heap[U]? = some (.cells #[.int .i64 a2] 3 (0, 0))) ∧ Aside0 (w'.heap[X]? = some (.cells #[(.slice A4 l4.length c4)] 38 (0, 0))) ∧ Aside0 (w'.heap[W]? = some (.cells #[.int .i64 zB, .int .i64 aC, (.slice none 0 0), (.slice none 0 0), (.slice none 0 0)] 33 (0, 0))) ∧ Aside0 (Below w.heap.size w w'))
        case atStart => exact ⟨(xB), rfl, H', ⟨Nat.le_refl _⟩, ⟨Br gB.out⟩, ⟨Br m.out⟩, ⟨Br d.out⟩, ⟨bu r⟩, ⟨bu b⟩, ⟨bu s⟩, ⟨bu x⟩, ⟨bu y⟩, ⟨be5 HB G I J L O⟩⟩
        case round =>
         clear H'
         try clear c3; try clear c4; try clear bN; try clear uM; try clear vM
         obtain ⟨eI, rfl, HA, sR, gB, m, d, r, b, s, x, y, HB⟩ := hrel
         cases gk with
         | zero => exact absurd HA.out (by simp [AJ.l1])
         | succ k4 =>
          have H := HA.out; clear HA
          simp only [AJ.l1] at H
          by_cases c191 : eI > 0
          rotate_left
          ·rw [if_neg c191] at H
           have oK : decide (0 < eI) = false := decide_eq_false c191; clear c191
           (first | rw [oK] | (simp only [CE, Dc]; rw [oK]) | skip)
           have H' := mk0 H
           clear H
           try go_wp2
           have jD := mk0 (Kd.BU gB.out)
           have kD := mk0 (Kd.BU m.out)
           have lD := mk0 (Kd.BU d.out)
           have mD := mk0 (AV r.out)
           have nD := mk0 (AV b.out)
           have oD := mk0 (AV s.out)
           have pD := mk0 (AV x.out)
           have qD := mk0 (AV y.out)
           have rD := mk0 (Aa HB.out)
           clear gB; clear m; clear d; clear r; clear b; clear s; clear x; clear y; clear HB; have gB := jD; have m := kD; have d := lD; have r := mD; have b := nD; have s := oD; have x := pD; have y := qD; have HB := rD; clear jD kD lD mD nD oD pD qD rD
           refine Ch (n := 16) (S := fun w' => True) (ds := []) (tf 0 16) (by kernel_rfl) rfl rfl trivial (fun Y => ?_); refine Bl AJ.NA AJ.Km (fun uB oI => ?_)
           generalize wr.drew = aFM at gB m d r b s x y HB Y ⊢
           refine pv 0 84 (tf 1 15) uB ?_
           refine pv 1 85 (tf 2 14) uB ?_
           refine pv 2 86 (tf 3 13) uB ?_
           refine pw 3 87 (tf 4 12) uB ?_
           refine pw 4 88 (tf 5 11) uB ?_
           refine pw 5 89 (tf 6 10) uB ?_
           refine pw 6 90 (tf 7 9) uB ?_
           refine pw 7 91 (tf 8 8) uB ?_
           refine pw 8 92 (tf 9 7) uB ?_
           refine pw 9 93 (tf 10 6) uB ?_
           refine pw 10 94 (tf 11 5) uB ?_
           refine pw 11 95 (tf 12 4) uB ?_
           refine pw 12 96 (tf 13 3) uB ?_
           refine pw 13 97 (tf 14 2) uB ?_
           refine pw 14 98 (tf 15 1) uB ?_
           refine pv 15 99 (tf 16 0) uB ?_
           refine DV (Ce uB.out (by kernel_rfl)) ?_
           try go_wp2
           go_meet
           case rel => exact ⟨_, (eI), rfl, H', ⟨by have := wL.out; have := xL.out; have := zJ.out; have := sR.out; first | omega | exact Nat.le_refl _⟩, ⟨Br gB.out⟩, ⟨Br m.out⟩, ⟨Br d.out⟩, ⟨bu r⟩, ⟨bu b⟩, ⟨bu s⟩, ⟨bu x⟩, ⟨bu y⟩, ⟨be5 HB G I J L O⟩⟩
          rw [if_pos c191] at H; have oK : decide (0 < eI) = true := decide_eq_true c191; clear c191
          (first | rw [oK] | (simp only [CE, Dc]; rw [oK]) | skip)
          obtain ⟨hB, xJ⟩ : ∃ j_ : Int, (wrap64 (eI - 1)) = j_ := ⟨_, rfl⟩
          replace H : (if 0 ≤ (hB) then (if (hB) < (cB.length : Int) then (if 0 < (l3.length : Int) then ((Ca.f k4 dD eD fD pC qC ((AA cB (hB)).f1.f0) ((AA cB (hB)).f1.f1) ((AA cB (hB)).f1.f2) ((AA cB (hB)).f1.f3) ((AC l3 0).f0) ((AC l3 0).f1) ((AC l3 0).f2) ((AC l3 0).f3)).bind fun wS => (if wS = true then (AJ.l1 k4 l3 xB hB dD eD fD pC qC jC kC eC mB cB a2 l4) else (AJ.j4 k4 l3 xB eI jC kC eC mB cB a2 l4))) else (none)) else (none)) else (none)) = some (r1, r2, r3, r4, r5, r6) := by first | (rw [xJ] at H; exact H) | (simp only [xJ] at H ⊢; exact H)
          have dY : (IntKind.i64.wrap (eI - 1)) = hB := (CE _).trans xJ
          replace H := iN H; obtain ⟨-, wY, H⟩ := H
          replace H := iN H; obtain ⟨-, xY, H⟩ := H
          replace H := iN H; obtain ⟨cX, yY, H⟩ := H
          have zY : decide (0 < l3.length) = true := decide_eq_true (by omega)
          clear cX
          replace H := bS H; obtain ⟨wS, dS, H⟩ := H
          replace H := iB' H; obtain ⟨rfl, H⟩ | ⟨rfl, H⟩ := H
          ·have H' := mk0 H
           clear H
           try go_wp2
           have jD := mk0 (Kd.BU gB.out)
           have kD := mk0 (Kd.BU m.out)
           have lD := mk0 (Kd.BU d.out)
           have mD := mk0 (AV r.out)
           have nD := mk0 (AV b.out)
           have oD := mk0 (AV s.out)
           have pD := mk0 (AV x.out)
           have qD := mk0 (AV y.out)
           have rD := mk0 (Aa HB.out)
           clear gB; clear m; clear d; clear r; clear b; clear s; clear x; clear y; clear HB; have gB := jD; have m := kD; have d := lD; have r := mD; have b := nD; have s := oD; have x := pD; have y := qD; have HB := rD; clear jD kD lD mD nD oD pD qD rD
           have zK : 0 ≤ ((hB) : Int) := od
           have dL : (hB) < (cB.length : Int) := od
           obtain ⟨zE, jK, rK, kK, sK, hQ, pJ, qJ, rJ, wH, xH, kJ, eJ, lJ, fJ⟩ := DF (Kd.AU d.out).2.2 (hB) zK dL
           cases hQ
           obtain ⟨sT, lN, fN, tI⟩ := Kd.Fe d.out z63 (hB) zK (by first | exact dL | exact of_decide_eq_true (by assumption) | (have e_ := (Kd.AU d.out).1; omega))
           obtain ⟨hR, nR, iR, oR, rfl, aI, sH, bI, tH⟩ := DK fN
           have sG := tI 3 _ rfl
           rw [BO _ _ 3 (by omega)] at sG
           replace sG := Option.some.inj (sG.symm.trans wH)
           injection sG with hva_ hvn_ hvc_
           rw [hva_] at sH
           rw [hvc_] at aI
           have jG := mk0 (show Kd.V (Kd.int .u8) 73 _ w.heap.size _ _ ((AA cB (hB)).f1.f2) from Kd.Cu aI sH)
           clear hva_ hvn_ hvc_ sH aI
           have tG := tI 4 _ rfl
           rw [BO _ _ 4 (by omega)] at tG
           replace tG := Option.some.inj (tG.symm.trans xH)
           injection tG with hva_ hvn_ hvc_
           rw [hva_] at tH
           rw [hvc_] at bI
           have kG := mk0 (show Kd.V k30 30 _ w.heap.size _ _ ((AA cB (hB)).f1.f3) from Kd.Cu bI tH)
           clear hva_ hvn_ hvc_ tH bI; clear tI lN; have gF := mk0 eJ; have sL := mk0 kJ; clear eJ kJ; have hF := mk0 fJ; have tL := mk0 lJ; clear fJ lJ; replace zK := eq_true zK; replace dL := eq_true dL
           have bL : 0 ≤ (0 : Int) := (by omega)
           have eL : 0 < (l3.length : Int) := od
           obtain ⟨iG, lK, tK, mK, uK, iQ, aG, bG, oF, pF, mJ, gJ, nJ, hJ⟩ := Da (Kd.AU gB.out).2.2 0 bL eL
           cases iQ
           obtain ⟨tT, mN, gN, uI⟩ := Kd.Fe gB.out z30 0 bL (by first | exact eL | exact of_decide_eq_true (by assumption) | (have e_ := (Kd.AU gB.out).1; omega))
           obtain ⟨jR, pR, kR, qR, rfl, cI, uH, dI, vH⟩ := FC gN
           have uG := uI 2 _ rfl
           rw [BO _ _ 2 (by omega)] at uG
           replace uG := Option.some.inj (uG.symm.trans oF)
           injection uG with hva_ hvn_ hvc_
           rw [hva_] at uH
           rw [hvc_] at cI
           have lG := mk0 (show Kd.V (Kd.int .u8) 73 _ w.heap.size _ _ ((AC l3 0).f2) from Kd.Cu cI uH)
           clear hva_ hvn_ hvc_ uH cI
           have vG := uI 3 _ rfl
           rw [BO _ _ 3 (by omega)] at vG
           replace vG := Option.some.inj (vG.symm.trans pF)
           injection vG with hva_ hvn_ hvc_
           rw [hva_] at vH
           rw [hvc_] at dI
           have mG := mk0 (show Kd.V k30 30 _ w.heap.size _ _ ((AC l3 0).f3) from Kd.Cu dI vH)
           clear hva_ hvn_ hvc_ vH dI; clear uI mN
           have dU : (0 < l3.length) = True := eq_true (by omega)
           (try rw [show ((0 : Int)).toNat = 0 from rfl] at aG)
           (try rw [show 0 * 4 = 0 from rfl] at aG)
           (try rw [Addr.add_zero'] at aG)
           (try rw [show ((0 : Int)).toNat = 0 from rfl] at bG)
           (try rw [show 0 * 4 = 0 from rfl] at bG)
           (try rw [Addr.add_zero'] at bG)
           (try rw [show ((0 : Int)).toNat = 0 from rfl] at oF)
           (try rw [show 0 * 4 = 0 from rfl] at oF)
           (try rw [Addr.add_zero'] at oF)
           (try rw [show ((0 : Int)).toNat = 0 from rfl] at pF)
           (try rw [show 0 * 4 = 0 from rfl] at pF)
           (try rw [Addr.add_zero'] at pF)
           have jF := mk0 gJ; have uL := mk0 mJ; clear gJ mJ; have lF := mk0 hJ; have vL := mk0 nJ; clear hJ nJ; replace bL := eq_true bL; replace eL := eq_true eL
           refine Ch (n := 16) (S := fun w' => w'.cell? ⟨T, 0, none⟩ = some (.int .i64 dD) ∧ w'.cell? ⟨T, 1, none⟩ = some (.int .i64 eD) ∧ w'.cell? ⟨T, 2, none⟩ = some (.string fD) ∧ w'.cell? ⟨T, 3, none⟩ = some (.slice qF pC.length sF) ∧ w'.cell? ⟨T, 4, none⟩ = some (.slice rF qC.length tF) ∧ w'.cell? ⟨D, 0, none⟩ = some (.int .i64 jC) ∧ w'.cell? ⟨D, 1, none⟩ = some (.int .i64 kC) ∧ w'.cell? ⟨D, 2, none⟩ = some (.slice dF eC.length mF) ∧ w'.cell? ⟨D, 3, none⟩ = some (.slice sD mB.length uD) ∧ w'.cell? ⟨D, 4, none⟩ = some (.slice (some zE) cB.length aD) ∧ w'.cell? (zE.add (((hB)).toNat * 5)) = some (.int .i64 ((AA cB (hB)).f0)) ∧ w'.cell? ⟨(zE.add (((hB)).toNat * 5)).block, (zE.add (((hB)).toNat * 5)).off + 1, none⟩ = some (.int .i64 ((AA cB (hB)).f1.f0)) ∧ w'.cell? ⟨(zE.add (((hB)).toNat * 5)).block, (zE.add (((hB)).toNat * 5)).off + 2, none⟩ = some (.int .i64 ((AA cB (hB)).f1.f1)) ∧ w'.cell? ⟨(zE.add (((hB)).toNat * 5)).block, (zE.add (((hB)).toNat * 5)).off + 3, none⟩ = some (.slice jK ((AA cB (hB)).f1.f2).length rK) ∧ w'.cell? ⟨(zE.add (((hB)).toNat * 5)).block, (zE.add (((hB)).toNat * 5)).off + 4, none⟩ = some (.slice kK ((AA cB (hB)).f1.f3).length sK) ∧ w'.cell? iG = some (.int .i64 ((AC l3 0).f0)) ∧ w'.cell? ⟨iG.block, iG.off + 1, none⟩ = some (.int .i64 ((AC l3 0).f1)) ∧ w'.cell? ⟨iG.block, iG.off + 2, none⟩ = some (.slice lK ((AC l3 0).f2).length tK) ∧ w'.cell? ⟨iG.block, iG.off + 3, none⟩ = some (.slice mK ((AC l3 0).f3).length uK)) (ds := []) (tf 0 16) (by kernel_rfl) rfl rfl ⟨bc r 0, bc r 1, bc r 2, bc r 3, bc r 4, bc b 0, bc b 1, bc b 2, bc b 3, bc b 4, pJ, qJ, rJ, wH, xH, aG, bG, oF, pF⟩ (fun Y => ?_); refine Bl AJ.NA AJ.Km (fun uB oI => ?_)
           generalize wr.drew = aFK at gB m d r b s x y HB jG kG lG mG gF hF jF lF pJ qJ rJ wH xH aG bG oF pF Y ⊢
           refine pv 0 84 (tf 1 15) uB ?_
           refine pv 1 85 (tf 2 14) uB ?_
           refine pv 2 86 (tf 3 13) uB ?_
           refine pv 4 88 #[true, true, true, false, true, false, false, false, false, false, false, false, false, false, false, false] uB ?_
           refine pv 6 90 #[true, true, true, false, true, false, true, false, false, false, false, false, false, false, false, false] uB ?_
           refine pv 7 91 #[true, true, true, false, true, false, true, true, false, false, false, false, false, false, false, false] uB ?_
           refine pv 11 95 #[true, true, true, false, true, false, true, true, false, false, false, true, false, false, false, false] uB ?_
           refine pv 12 96 #[true, true, true, false, true, false, true, true, false, false, false, true, true, false, false, false] uB ?_
           refine BR (i := 3) (N := some 87) (v := ?_) (a' := ?_) #[true, true, true, true, true, false, true, true, false, false, false, true, true, false, false, false] rfl rfl (Ae uB.out oI.out (by kernel_rfl)) (fun _ _ _ h => h) (Or.inl ⟨by rfl, ?_⟩) Y ?_ ?_
           rotate_left
           ·rintro w' ⟨s0, s1, s2, s3, s4, s5, s6, s7, s8, s9, kL, lL, tO, uO, vO, wO, xO, yO, zO⟩
            go_simp
            with_reducible rfl
           rotate_left
           ·simp only [ps]
            rfl
           refine BR (i := 5) (N := some 89) (v := ?_) (a' := ?_) #[true, true, true, true, true, true, true, true, false, false, false, true, true, false, false, false] rfl rfl (Ae uB.out oI.out (by kernel_rfl)) (fun _ _ _ h => h) (Or.inl ⟨by rfl, ?_⟩) Y ?_ ?_
           rotate_left
           ·rintro w' ⟨s0, s1, s2, s3, s4, s5, s6, s7, s8, s9, kL, lL, tO, uO, vO, wO, xO, yO, zO⟩
            go_simp
            with_reducible rfl
           rotate_left
           ·simp only [ps]
            rfl
           refine pv 8 92 #[true, true, true, true, true, true, true, true, true, false, false, true, true, false, false, false] uB ?_
           refine pv 9 93 #[true, true, true, true, true, true, true, true, true, true, false, true, true, false, false, false] uB ?_
           refine BR (i := 10) (N := some 94) (v := ?_) (a' := ?_) (tf 13 3) rfl rfl (Ae uB.out oI.out (by kernel_rfl)) (fun _ _ _ h => h) (Or.inl ⟨by rfl, ?_⟩) Y ?_ ?_
           rotate_left
           ·rintro w' ⟨s0, s1, s2, s3, s4, s5, s6, s7, s8, s9, kL, lL, tO, uO, vO, wO, xO, yO, zO⟩
            go_simp
            with_reducible rfl
           rotate_left
           ·simp only [ps]
            rfl
           refine BR (i := 13) (N := some 97) (v := ?_) (a' := ?_) (tf 14 2) rfl rfl (Ae uB.out oI.out (by kernel_rfl)) (fun _ _ _ h => h) (Or.inl ⟨by rfl, ?_⟩) Y ?_ ?_
           rotate_left
           ·rintro w' ⟨s0, s1, s2, s3, s4, s5, s6, s7, s8, s9, kL, lL, tO, uO, vO, wO, xO, yO, zO⟩
            go_simp
            with_reducible rfl
           rotate_left
           ·simp only [ps]
            rfl
           refine Cz (i := 14) (N := some 98) (tf 15 1) rfl rfl (Bq uB.out (by kernel_rfl)) (by decide) (fun K hK => ?_)
           refine Cg Try.func56 (by kernel_rfl) rfl #[.agg #[.int .i64 dD, .int .i64 eD, .string fD, .slice qF pC.length sF, .slice rF qC.length tF], .agg #[.int .i64 ((AA cB (hB)).f1.f0), .int .i64 ((AA cB (hB)).f1.f1), .slice jK ((AA cB (hB)).f1.f2).length rK, .slice kK ((AA cB (hB)).f1.f3).length sK], .agg #[.int .i64 ((AC l3 0).f0), .int .i64 ((AC l3 0).f1), .slice lK ((AC l3 0).f2).length tK, .slice mK ((AC l3 0).f3).length uK]] (by rfl) rfl rfl (by (try simp only [List.map_toArray, List.map_cons, List.map_nil]); first | done | (simp only [xJ]; rfl) | rfl | (simp only [List.length_drop, List.length_take]; rfl)) ?_
           with_reducible refine (Ca.calls ?side13 ?side1 ?side2 ?side3 ?side4 ?side5 ?side6 ?side7 ?side8 ?side9 ?side10 ?side11 ?side12 dS.out).mono ?_
           (case side1 => exact cu gH HB)
           (case side2 => exact dH.out)
           (case side3 => exact cu hH HB)
           (case side4 => exact eH.out)
           (case side5 => repeat (first | exact (by repeat (first | (with_reducible exact gF.out) | (with_reducible refine Kd.CK ?_ _) | (with_reducible refine Kd.CL ?_ _) | (with_reducible refine Kd.Cc ?_) | exact gF.out)) | (with_reducible refine Kd.CK ?_ _) | (with_reducible refine Kd.CL ?_ _) | (with_reducible refine Kd.Cc ?_)))
           (case side6 => exact sL.out)
           (case side7 => repeat (first | exact (by repeat (first | (with_reducible exact hF.out) | (with_reducible refine Kd.CK ?_ _) | (with_reducible refine Kd.CL ?_ _) | (with_reducible refine Kd.Cc ?_) | exact hF.out)) | (with_reducible refine Kd.CK ?_ _) | (with_reducible refine Kd.CL ?_ _) | (with_reducible refine Kd.Cc ?_)))
           (case side8 => exact tL.out)
           (case side9 => repeat (first | exact (by repeat (first | (with_reducible exact jF.out) | (with_reducible refine Kd.CK ?_ _) | (with_reducible refine Kd.CL ?_ _) | (with_reducible refine Kd.Cc ?_) | exact jF.out)) | (with_reducible refine Kd.CK ?_ _) | (with_reducible refine Kd.CL ?_ _) | (with_reducible refine Kd.Cc ?_)))
           (case side10 => exact uL.out)
           (case side11 => repeat (first | exact (by repeat (first | (with_reducible exact lF.out) | (with_reducible refine Kd.CK ?_ _) | (with_reducible refine Kd.CL ?_ _) | (with_reducible refine Kd.Cc ?_) | exact lF.out)) | (with_reducible refine Kd.CK ?_ _) | (with_reducible refine Kd.CL ?_ _) | (with_reducible refine Kd.Cc ?_)))
           (case side12 => exact vL.out)
           (case side13 => exact Ad HG.out (be5 HB G I J L O))
           rintro e aFL ⟨rfl, hb⟩
           have cO := (hb.cell (World.block_lt_of_cell? _ _ (Y.2.2.2.2.2.2.2.2.2.2.1))).trans (Y.2.2.2.2.2.2.2.2.2.2.1)
           have dO := (hb.cell (World.block_lt_of_cell? _ _ (Y.2.2.2.2.2.2.2.2.2.2.2.1))).trans (Y.2.2.2.2.2.2.2.2.2.2.2.1)
           have eO := (hb.cell (World.block_lt_of_cell? _ _ (Y.2.2.2.2.2.2.2.2.2.2.2.2.1))).trans (Y.2.2.2.2.2.2.2.2.2.2.2.2.1)
           have fO := (hb.cell (World.block_lt_of_cell? _ _ (Y.2.2.2.2.2.2.2.2.2.2.2.2.2.1))).trans (Y.2.2.2.2.2.2.2.2.2.2.2.2.2.1)
           have gO := (hb.cell (World.block_lt_of_cell? _ _ (Y.2.2.2.2.2.2.2.2.2.2.2.2.2.2.1))).trans (Y.2.2.2.2.2.2.2.2.2.2.2.2.2.2.1)
           have hO := (hb.cell (World.block_lt_of_cell? _ _ (Y.2.2.2.2.2.2.2.2.2.2.2.2.2.2.2.1))).trans (Y.2.2.2.2.2.2.2.2.2.2.2.2.2.2.2.1)
           have iO := (hb.cell (World.block_lt_of_cell? _ _ (Y.2.2.2.2.2.2.2.2.2.2.2.2.2.2.2.2.1))).trans (Y.2.2.2.2.2.2.2.2.2.2.2.2.2.2.2.2.1)
           have jO := (hb.cell (World.block_lt_of_cell? _ _ (Y.2.2.2.2.2.2.2.2.2.2.2.2.2.2.2.2.2.1))).trans (Y.2.2.2.2.2.2.2.2.2.2.2.2.2.2.2.2.2.1)
           have kO := (hb.cell (World.block_lt_of_cell? _ _ (Y.2.2.2.2.2.2.2.2.2.2.2.2.2.2.2.2.2.2))).trans (Y.2.2.2.2.2.2.2.2.2.2.2.2.2.2.2.2.2.2)
           refine ⟨_, rfl, ?_⟩
           have jD := vb gB hb
           have kD := vb m hb
           have lD := vb d hb
           have mD := vb jG hb
           have nD := vb kG hb
           have oD := vb lG hb
           have pD := vb mG hb
           have qD := kb r hb
           have rD := kb b hb
           have tE := kb s hb
           have lC := kb x hb
           have mC := kb y hb
           have rC := cb gF hb
           have cE := cb hF hb
           have rE := cb jF hb
           have sE := cb lF hb
           have cG := kh5 HB G I J L O hb
           clear gB; clear m; clear d; clear jG; clear kG; clear lG; clear mG; clear r; clear b; clear s; clear x; clear y; clear gF; clear hF; clear jF; clear lF; clear HB; have gB := jD; have m := kD; have d := lD; have jG := mD; have kG := nD; have lG := oD; have mG := pD; have r := qD; have b := rD; have s := tE; have x := lC; have y := mC; have gF := rC; have hF := cE; have jF := rE; have lF := sE; have HB := cG; clear jD kD lD mD nD oD pD qD rD tE lC mC rC cE rE sE cG
           try clear hb
           try clear l
           refine hK.out _ _ ⟨bc r 0, bc r 1, bc r 2, bc r 3, bc r 4, bc b 0, bc b 1, bc b 2, bc b 3, bc b 4, cO, dO, eO, fO, gO, hO, iO, jO, kO⟩ (fun Y => ?_)
           clear hK K
           refine CB (a' := ?_) ?_ ?_
           rotate_left
           ·show Act.put _ (some 98) _ = _
            simp only [ps]
            rfl
           refine pv 15 99 (tf 16 0) uB ?_
           refine DV (Ce uB.out (by kernel_rfl)) ?_
           try go_wp2
           go_meet
           case rel => exact ⟨_, (eI), rfl, H', ⟨by have := wL.out; have := xL.out; have := zJ.out; have := sR.out; first | omega | exact Nat.le_refl _⟩, ⟨Br gB.out⟩, ⟨Br m.out⟩, ⟨Br d.out⟩, ⟨bu r⟩, ⟨bu b⟩, ⟨bu s⟩, ⟨bu x⟩, ⟨bu y⟩, ⟨be5 HB G I J L O⟩⟩
          have H' := mk0 H
          clear H
          try go_wp2
          have jD := mk0 (Kd.BU gB.out)
          have kD := mk0 (Kd.BU m.out)
          have lD := mk0 (Kd.BU d.out)
          have mD := mk0 (AV r.out)
          have nD := mk0 (AV b.out)
          have oD := mk0 (AV s.out)
          have pD := mk0 (AV x.out)
          have qD := mk0 (AV y.out)
          have rD := mk0 (Aa HB.out)
          clear gB; clear m; clear d; clear r; clear b; clear s; clear x; clear y; clear HB; have gB := jD; have m := kD; have d := lD; have r := mD; have b := nD; have s := oD; have x := pD; have y := qD; have HB := rD; clear jD kD lD mD nD oD pD qD rD
          have zK : 0 ≤ ((hB) : Int) := od
          have dL : (hB) < (cB.length : Int) := od
          obtain ⟨zE, jK, rK, kK, sK, hQ, pJ, qJ, rJ, wH, xH, kJ, eJ, lJ, fJ⟩ := DF (Kd.AU d.out).2.2 (hB) zK dL
          cases hQ
          obtain ⟨sT, lN, fN, tI⟩ := Kd.Fe d.out z63 (hB) zK (by first | exact dL | exact of_decide_eq_true (by assumption) | (have e_ := (Kd.AU d.out).1; omega))
          obtain ⟨hR, nR, iR, oR, rfl, aI, sH, bI, tH⟩ := DK fN
          have sG := tI 3 _ rfl
          rw [BO _ _ 3 (by omega)] at sG
          replace sG := Option.some.inj (sG.symm.trans wH)
          injection sG with hva_ hvn_ hvc_
          rw [hva_] at sH
          rw [hvc_] at aI
          have jG := mk0 (show Kd.V (Kd.int .u8) 73 _ w.heap.size _ _ ((AA cB (hB)).f1.f2) from Kd.Cu aI sH)
          clear hva_ hvn_ hvc_ sH aI
          have tG := tI 4 _ rfl
          rw [BO _ _ 4 (by omega)] at tG
          replace tG := Option.some.inj (tG.symm.trans xH)
          injection tG with hva_ hvn_ hvc_
          rw [hva_] at tH
          rw [hvc_] at bI
          have kG := mk0 (show Kd.V k30 30 _ w.heap.size _ _ ((AA cB (hB)).f1.f3) from Kd.Cu bI tH)
          clear hva_ hvn_ hvc_ tH bI; clear tI lN; have gF := mk0 eJ; have sL := mk0 kJ; clear eJ kJ; have hF := mk0 fJ; have tL := mk0 lJ; clear fJ lJ; replace zK := eq_true zK; replace dL := eq_true dL
          have bL : 0 ≤ (0 : Int) := (by omega)
          have eL : 0 < (l3.length : Int) := od
          obtain ⟨iG, lK, tK, mK, uK, iQ, aG, bG, oF, pF, mJ, gJ, nJ, hJ⟩ := Da (Kd.AU gB.out).2.2 0 bL eL
          cases iQ
          obtain ⟨tT, mN, gN, uI⟩ := Kd.Fe gB.out z30 0 bL (by first | exact eL | exact of_decide_eq_true (by assumption) | (have e_ := (Kd.AU gB.out).1; omega))
          obtain ⟨jR, pR, kR, qR, rfl, cI, uH, dI, vH⟩ := FC gN
          have uG := uI 2 _ rfl
          rw [BO _ _ 2 (by omega)] at uG
          replace uG := Option.some.inj (uG.symm.trans oF)
          injection uG with hva_ hvn_ hvc_
          rw [hva_] at uH
          rw [hvc_] at cI
          have lG := mk0 (show Kd.V (Kd.int .u8) 73 _ w.heap.size _ _ ((AC l3 0).f2) from Kd.Cu cI uH)
          clear hva_ hvn_ hvc_ uH cI
          have vG := uI 3 _ rfl
          rw [BO _ _ 3 (by omega)] at vG
          replace vG := Option.some.inj (vG.symm.trans pF)
          injection vG with hva_ hvn_ hvc_
          rw [hva_] at vH
          rw [hvc_] at dI
          have mG := mk0 (show Kd.V k30 30 _ w.heap.size _ _ ((AC l3 0).f3) from Kd.Cu dI vH)
          clear hva_ hvn_ hvc_ vH dI; clear uI mN
          have dU : (0 < l3.length) = True := eq_true (by omega)
          (try rw [show ((0 : Int)).toNat = 0 from rfl] at aG)
          (try rw [show 0 * 4 = 0 from rfl] at aG)
          (try rw [Addr.add_zero'] at aG)
          (try rw [show ((0 : Int)).toNat = 0 from rfl] at bG)
          (try rw [show 0 * 4 = 0 from rfl] at bG)
          (try rw [Addr.add_zero'] at bG)
          (try rw [show ((0 : Int)).toNat = 0 from rfl] at oF)
          (try rw [show 0 * 4 = 0 from rfl] at oF)
          (try rw [Addr.add_zero'] at oF)
          (try rw [show ((0 : Int)).toNat = 0 from rfl] at pF)
          (try rw [show 0 * 4 = 0 from rfl] at pF)
          (try rw [Addr.add_zero'] at pF)
          have jF := mk0 gJ; have uL := mk0 mJ; clear gJ mJ; have lF := mk0 hJ; have vL := mk0 nJ; clear hJ nJ; replace bL := eq_true bL; replace eL := eq_true eL
          refine Ch (n := 16) (S := fun w' => w'.cell? ⟨T, 0, none⟩ = some (.int .i64 dD) ∧ w'.cell? ⟨T, 1, none⟩ = some (.int .i64 eD) ∧ w'.cell? ⟨T, 2, none⟩ = some (.string fD) ∧ w'.cell? ⟨T, 3, none⟩ = some (.slice qF pC.length sF) ∧ w'.cell? ⟨T, 4, none⟩ = some (.slice rF qC.length tF) ∧ w'.cell? ⟨D, 0, none⟩ = some (.int .i64 jC) ∧ w'.cell? ⟨D, 1, none⟩ = some (.int .i64 kC) ∧ w'.cell? ⟨D, 2, none⟩ = some (.slice dF eC.length mF) ∧ w'.cell? ⟨D, 3, none⟩ = some (.slice sD mB.length uD) ∧ w'.cell? ⟨D, 4, none⟩ = some (.slice (some zE) cB.length aD) ∧ w'.cell? (zE.add (((hB)).toNat * 5)) = some (.int .i64 ((AA cB (hB)).f0)) ∧ w'.cell? ⟨(zE.add (((hB)).toNat * 5)).block, (zE.add (((hB)).toNat * 5)).off + 1, none⟩ = some (.int .i64 ((AA cB (hB)).f1.f0)) ∧ w'.cell? ⟨(zE.add (((hB)).toNat * 5)).block, (zE.add (((hB)).toNat * 5)).off + 2, none⟩ = some (.int .i64 ((AA cB (hB)).f1.f1)) ∧ w'.cell? ⟨(zE.add (((hB)).toNat * 5)).block, (zE.add (((hB)).toNat * 5)).off + 3, none⟩ = some (.slice jK ((AA cB (hB)).f1.f2).length rK) ∧ w'.cell? ⟨(zE.add (((hB)).toNat * 5)).block, (zE.add (((hB)).toNat * 5)).off + 4, none⟩ = some (.slice kK ((AA cB (hB)).f1.f3).length sK) ∧ w'.cell? iG = some (.int .i64 ((AC l3 0).f0)) ∧ w'.cell? ⟨iG.block, iG.off + 1, none⟩ = some (.int .i64 ((AC l3 0).f1)) ∧ w'.cell? ⟨iG.block, iG.off + 2, none⟩ = some (.slice lK ((AC l3 0).f2).length tK) ∧ w'.cell? ⟨iG.block, iG.off + 3, none⟩ = some (.slice mK ((AC l3 0).f3).length uK)) (ds := []) (tf 0 16) (by kernel_rfl) rfl rfl ⟨bc r 0, bc r 1, bc r 2, bc r 3, bc r 4, bc b 0, bc b 1, bc b 2, bc b 3, bc b 4, pJ, qJ, rJ, wH, xH, aG, bG, oF, pF⟩ (fun Y => ?_); refine Bl AJ.NA AJ.Km (fun uB oI => ?_)
          generalize wr.drew = aFI at gB m d r b s x y HB jG kG lG mG gF hF jF lF pJ qJ rJ wH xH aG bG oF pF Y ⊢
          refine pv 0 84 (tf 1 15) uB ?_
          refine pv 1 85 (tf 2 14) uB ?_
          refine pv 2 86 (tf 3 13) uB ?_
          refine pv 4 88 #[true, true, true, false, true, false, false, false, false, false, false, false, false, false, false, false] uB ?_
          refine pv 6 90 #[true, true, true, false, true, false, true, false, false, false, false, false, false, false, false, false] uB ?_
          refine pv 7 91 #[true, true, true, false, true, false, true, true, false, false, false, false, false, false, false, false] uB ?_
          refine pv 11 95 #[true, true, true, false, true, false, true, true, false, false, false, true, false, false, false, false] uB ?_
          refine pv 12 96 #[true, true, true, false, true, false, true, true, false, false, false, true, true, false, false, false] uB ?_
          refine BR (i := 3) (N := some 87) (v := ?_) (a' := ?_) #[true, true, true, true, true, false, true, true, false, false, false, true, true, false, false, false] rfl rfl (Ae uB.out oI.out (by kernel_rfl)) (fun _ _ _ h => h) (Or.inl ⟨by rfl, ?_⟩) Y ?_ ?_
          rotate_left
          ·rintro w' ⟨s0, s1, s2, s3, s4, s5, s6, s7, s8, s9, kL, lL, tO, uO, vO, wO, xO, yO, zO⟩
           go_simp
           with_reducible rfl
          rotate_left
          ·simp only [ps]
           rfl
          refine BR (i := 5) (N := some 89) (v := ?_) (a' := ?_) #[true, true, true, true, true, true, true, true, false, false, false, true, true, false, false, false] rfl rfl (Ae uB.out oI.out (by kernel_rfl)) (fun _ _ _ h => h) (Or.inl ⟨by rfl, ?_⟩) Y ?_ ?_
          rotate_left
          ·rintro w' ⟨s0, s1, s2, s3, s4, s5, s6, s7, s8, s9, kL, lL, tO, uO, vO, wO, xO, yO, zO⟩
           go_simp
           with_reducible rfl
          rotate_left
          ·simp only [ps]
           rfl
          refine pv 8 92 #[true, true, true, true, true, true, true, true, true, false, false, true, true, false, false, false] uB ?_
          refine pv 9 93 #[true, true, true, true, true, true, true, true, true, true, false, true, true, false, false, false] uB ?_
          refine BR (i := 10) (N := some 94) (v := ?_) (a' := ?_) (tf 13 3) rfl rfl (Ae uB.out oI.out (by kernel_rfl)) (fun _ _ _ h => h) (Or.inl ⟨by rfl, ?_⟩) Y ?_ ?_
          rotate_left
          ·rintro w' ⟨s0, s1, s2, s3, s4, s5, s6, s7, s8, s9, kL, lL, tO, uO, vO, wO, xO, yO, zO⟩
           go_simp
           with_reducible rfl
          rotate_left
          ·simp only [ps]
           rfl
          refine BR (i := 13) (N := some 97) (v := ?_) (a' := ?_) (tf 14 2) rfl rfl (Ae uB.out oI.out (by kernel_rfl)) (fun _ _ _ h => h) (Or.inl ⟨by rfl, ?_⟩) Y ?_ ?_
          rotate_left
          ·rintro w' ⟨s0, s1, s2, s3, s4, s5, s6, s7, s8, s9, kL, lL, tO, uO, vO, wO, xO, yO, zO⟩
           go_simp
           with_reducible rfl
          rotate_left
          ·simp only [ps]
           rfl
          refine Cz (i := 14) (N := some 98) (tf 15 1) rfl rfl (Bq uB.out (by kernel_rfl)) (by decide) (fun K hK => ?_)
          refine Cg Try.func56 (by kernel_rfl) rfl #[.agg #[.int .i64 dD, .int .i64 eD, .string fD, .slice qF pC.length sF, .slice rF qC.length tF], .agg #[.int .i64 ((AA cB (hB)).f1.f0), .int .i64 ((AA cB (hB)).f1.f1), .slice jK ((AA cB (hB)).f1.f2).length rK, .slice kK ((AA cB (hB)).f1.f3).length sK], .agg #[.int .i64 ((AC l3 0).f0), .int .i64 ((AC l3 0).f1), .slice lK ((AC l3 0).f2).length tK, .slice mK ((AC l3 0).f3).length uK]] (by rfl) rfl rfl (by (try simp only [List.map_toArray, List.map_cons, List.map_nil]); first | done | (simp only [xJ]; rfl) | rfl | (simp only [List.length_drop, List.length_take]; rfl)) ?_
          with_reducible refine (Ca.calls ?side13 ?side1 ?side2 ?side3 ?side4 ?side5 ?side6 ?side7 ?side8 ?side9 ?side10 ?side11 ?side12 dS.out).mono ?_
          (case side1 => exact cu gH HB)
          (case side2 => exact dH.out)
          (case side3 => exact cu hH HB)
          (case side4 => exact eH.out)
          (case side5 => repeat (first | exact (by repeat (first | (with_reducible exact gF.out) | (with_reducible refine Kd.CK ?_ _) | (with_reducible refine Kd.CL ?_ _) | (with_reducible refine Kd.Cc ?_) | exact gF.out)) | (with_reducible refine Kd.CK ?_ _) | (with_reducible refine Kd.CL ?_ _) | (with_reducible refine Kd.Cc ?_)))
          (case side6 => exact sL.out)
          (case side7 => repeat (first | exact (by repeat (first | (with_reducible exact hF.out) | (with_reducible refine Kd.CK ?_ _) | (with_reducible refine Kd.CL ?_ _) | (with_reducible refine Kd.Cc ?_) | exact hF.out)) | (with_reducible refine Kd.CK ?_ _) | (with_reducible refine Kd.CL ?_ _) | (with_reducible refine Kd.Cc ?_)))
          (case side8 => exact tL.out)
          (case side9 => repeat (first | exact (by repeat (first | (with_reducible exact jF.out) | (with_reducible refine Kd.CK ?_ _) | (with_reducible refine Kd.CL ?_ _) | (with_reducible refine Kd.Cc ?_) | exact jF.out)) | (with_reducible refine Kd.CK ?_ _) | (with_reducible refine Kd.CL ?_ _) | (with_reducible refine Kd.Cc ?_)))
          (case side10 => exact uL.out)
          (case side11 => repeat (first | exact (by repeat (first | (with_reducible exact lF.out) | (with_reducible refine Kd.CK ?_ _) | (with_reducible refine Kd.CL ?_ _) | (with_reducible refine Kd.Cc ?_) | exact lF.out)) | (with_reducible refine Kd.CK ?_ _) | (with_reducible refine Kd.CL ?_ _) | (with_reducible refine Kd.Cc ?_)))
          (case side12 => exact vL.out)
          (case side13 => exact Ad HG.out (be5 HB G I J L O))
          rintro e aFJ ⟨rfl, hb⟩
          have cO := (hb.cell (World.block_lt_of_cell? _ _ (Y.2.2.2.2.2.2.2.2.2.2.1))).trans (Y.2.2.2.2.2.2.2.2.2.2.1)
          have dO := (hb.cell (World.block_lt_of_cell? _ _ (Y.2.2.2.2.2.2.2.2.2.2.2.1))).trans (Y.2.2.2.2.2.2.2.2.2.2.2.1)
          have eO := (hb.cell (World.block_lt_of_cell? _ _ (Y.2.2.2.2.2.2.2.2.2.2.2.2.1))).trans (Y.2.2.2.2.2.2.2.2.2.2.2.2.1)
          have fO := (hb.cell (World.block_lt_of_cell? _ _ (Y.2.2.2.2.2.2.2.2.2.2.2.2.2.1))).trans (Y.2.2.2.2.2.2.2.2.2.2.2.2.2.1)
          have gO := (hb.cell (World.block_lt_of_cell? _ _ (Y.2.2.2.2.2.2.2.2.2.2.2.2.2.2.1))).trans (Y.2.2.2.2.2.2.2.2.2.2.2.2.2.2.1)
          have hO := (hb.cell (World.block_lt_of_cell? _ _ (Y.2.2.2.2.2.2.2.2.2.2.2.2.2.2.2.1))).trans (Y.2.2.2.2.2.2.2.2.2.2.2.2.2.2.2.1)
          have iO := (hb.cell (World.block_lt_of_cell? _ _ (Y.2.2.2.2.2.2.2.2.2.2.2.2.2.2.2.2.1))).trans (Y.2.2.2.2.2.2.2.2.2.2.2.2.2.2.2.2.1)
          have jO := (hb.cell (World.block_lt_of_cell? _ _ (Y.2.2.2.2.2.2.2.2.2.2.2.2.2.2.2.2.2.1))).trans (Y.2.2.2.2.2.2.2.2.2.2.2.2.2.2.2.2.2.1)
          have kO := (hb.cell (World.block_lt_of_cell? _ _ (Y.2.2.2.2.2.2.2.2.2.2.2.2.2.2.2.2.2.2))).trans (Y.2.2.2.2.2.2.2.2.2.2.2.2.2.2.2.2.2.2)
          refine ⟨_, rfl, ?_⟩
          have jD := vb gB hb
          have kD := vb m hb
          have lD := vb d hb
          have mD := vb jG hb
          have nD := vb kG hb
          have oD := vb lG hb
          have pD := vb mG hb
          have qD := kb r hb
          have rD := kb b hb
          have tE := kb s hb
          have lC := kb x hb
          have mC := kb y hb
          have rC := cb gF hb
          have cE := cb hF hb
          have rE := cb jF hb
          have sE := cb lF hb
          have cG := kh5 HB G I J L O hb
          clear gB; clear m; clear d; clear jG; clear kG; clear lG; clear mG; clear r; clear b; clear s; clear x; clear y; clear gF; clear hF; clear jF; clear lF; clear HB; have gB := jD; have m := kD; have d := lD; have jG := mD; have kG := nD; have lG := oD; have mG := pD; have r := qD; have b := rD; have s := tE; have x := lC; have y := mC; have gF := rC; have hF := cE; have jF := rE; have lF := sE; have HB := cG; clear jD kD lD mD nD oD pD qD rD tE lC mC rC cE rE sE cG
          try clear hb
          try clear l
          refine hK.out _ _ ⟨bc r 0, bc r 1, bc r 2, bc r 3, bc r 4, bc b 0, bc b 1, bc b 2, bc b 3, bc b 4, cO, dO, eO, fO, gO, hO, iO, jO, kO⟩ (fun Y => ?_)
          clear hK K
          refine CB (a' := ?_) ?_ ?_
          rotate_left
          ·show Act.put _ (some 98) _ = _
           simp only [ps]
           rfl
          refine pv 15 99 (tf 16 0) uB ?_
          refine DV (Ce uB.out (by kernel_rfl)) ?_
          try go_wp2
          go_roundg k4
          case measure => have := wL.out; have := xL.out; have := zJ.out; have := sR.out; omega
          case rel => exact ⟨(hB), (by first | rfl | (simp; done) | (simp only [← xJ] <;> (first | rfl | simp)) | (simp [*]; done)), H', ⟨by have := wL.out; have := xL.out; have := zJ.out; have := sR.out; omega⟩, ⟨Br gB.out⟩, ⟨Br m.out⟩, ⟨Br d.out⟩, ⟨bu r⟩, ⟨bu b⟩, ⟨bu s⟩, ⟨bu x⟩, ⟨bu y⟩, ⟨be5 HB G I J L O⟩⟩
       case rest =>
        clear bO; try clear c3; try clear c4
        obtain ⟨kq, hC, rfl, HA, dQ, gB, m, d, r, b, s, x, y, HB⟩ := hcut
        cases kq with
        | zero => exact absurd HA.out (by simp [AJ.j4])
        | succ wI =>
         have H := HA.out; clear HA
         simp only [AJ.j4] at H
         by_cases c203 : (wrap64 ((wrap64 (xB - hC)) + (l3.length : Int))) > 64
         ·rw [if_pos c203] at H
          have uR : decide (64 < (wrap64 ((wrap64 (xB - hC)) + (l3.length : Int)))) = true := decide_eq_true c203; clear c203
          simp only [Option.some.injEq, Prod.mk.injEq] at H
          obtain ⟨rfl, rfl, rfl, rfl, rfl, rfl⟩ := H
          have ⟨j1, b7⟩ := no wD vD; have ⟨m1, d7⟩ := no cD bD; have ⟨n1, e7⟩ := no hE gE; have ⟨o1, f7⟩ := no gG fG
          have aEM := cells5 y.out
          go_wp2
          refine bodyPost_ret (Dx rfl _ _ W 33 #[.int .i64 0, .int .i64 0, .slice none 0 0, .slice none 0 0, .slice none 0 0] (0, 0) _ rfl (pB y) Try.underlying33 rfl (by kernel_rfl)) rfl ?_
          exact ⟨_, _, _, rfl, by first | exact Kd.D8 _ _ _ _ _ | exact Kd.Ee _ _ _ _ _ | exact Kd.D9 _ _ _ _ _ | exact Kd.Ea _ _ _ _ _ | exact Kd.Ec _ _ _ _ _, Kd.D9 _ _ _ _ _, by first | exact Kd.D8 _ _ _ _ _ | exact Kd.Ee _ _ _ _ _ | exact Kd.D9 _ _ _ _ _ | exact Kd.Ea _ _ _ _ _ | exact Kd.Ec _ _ _ _ _, be5 HB G I J L O⟩
         rw [if_neg c203] at H; have uR : decide (64 < (wrap64 ((wrap64 (xB - hC)) + (l3.length : Int)))) = false := decide_eq_false c203; clear c203
         replace H := Option.bind_eq_some_iff.mp H
         obtain ⟨⟨aH, bH, yB, dG⟩, yP, H⟩ := H
         replace H : (if 0 ≤ hC then (if hC ≤ xB then (if xB ≤ (cB.length : Int) then ((drivers_all.f wI ((cB.take (xB : Int).toNat).drop (hC : Int).toNat)).bind fun hI => (AJ.l2 wI l3 (l3.length : Int) 0 a2 l4 aH bH yB dG hI)) else (none)) else (none)) else (none)) = some (r1, r2, r3, r4, r5, r6) := H
         have eS := mk0 yP; clear yP
         by_cases c210 : 0 ≤ hC
         rotate_left
         ·rw [if_neg c210] at H
          exact absurd H (by simp)
         rw [if_pos c210] at H; have aZ := eq_true c210; have bZ : decide (0 ≤ hC) = true := decide_eq_true c210; clear c210
         by_cases c211 : hC ≤ xB
         rotate_left
         ·rw [if_neg c211] at H
          exact absurd H (by simp)
         rw [if_pos c211] at H; have cZ := eq_true c211; have dZ : decide (hC ≤ xB) = true := decide_eq_true c211; clear c211
         by_cases c212 : xB ≤ (cB.length : Int)
         rotate_left
         ·rw [if_neg c212] at H
          exact absurd H (by simp)
         rw [if_pos c212] at H; have eZ := eq_true c212; have fZ : decide (xB ≤ (cB.length : Int)) = true := decide_eq_true c212; clear c212
         obtain ⟨wG, pM⟩ : ∃ y_ : List (S63), y_ = ((cB.take (xB : Int).toNat).drop (hC : Int).toNat) := ⟨_, rfl⟩
         replace H : ((drivers_all.f wI wG).bind fun hI => (AJ.l2 wI l3 (l3.length : Int) 0 a2 l4 aH bH yB dG hI)) = some (r1, r2, r3, r4, r5, r6) := by first | (rw [pM]; with_reducible exact H) | (have yN := (Option.bind_some _ _).symm.trans H; rw [pM]; with_reducible exact yN) | (have yN := (Option.bind_some _ _).symm.trans H; with_reducible exact yN) | with_reducible exact H | (rw [pM]; exact H) | exact H
         have fQ := mk0 pM; clear pM
         replace H := bS H; obtain ⟨hI, zP, H⟩ := H
         have H' := mk0 H
         clear H
         try go_wp2
         have jD := mk0 (Kd.BU gB.out)
         have kD := mk0 (Kd.BU m.out)
         have lD := mk0 (Kd.BU d.out)
         have mD := mk0 (AV r.out)
         have nD := mk0 (AV b.out)
         have oD := mk0 (AV s.out)
         have pD := mk0 (AV x.out)
         have qD := mk0 (AV y.out)
         have rD := mk0 (Aa HB.out)
         clear gB; clear m; clear d; clear r; clear b; clear s; clear x; clear y; clear HB; have gB := jD; have m := kD; have d := lD; have r := mD; have b := nD; have s := oD; have x := pD; have y := qD; have HB := rD; clear jD kD lD mD nD oD pD qD rD
         have dR : (xB : Int) ≤ ((cB.length : Int) : Int) := od
         obtain ⟨aDS, cP, _, dP, _⟩ := info_parts Fq
         have jI : cB.length ≤ aD := (Kd.AU d.out).2.1
         have qQ : Kd.F k63 _ _ tD cB.length cB := (Kd.Mi (base := w.heap.size) d.out).2.2
         have eU : (hC : Int) ≤ (xB : Int) := od
         have cU : (0 : Int) ≤ (hC : Int) := od
         have uQ := Nb (P := Try.prog) 31 63 .i64 .i64 Try.underlying31 cP 5 dP tD cB.length aD hC xB cU eU dR jI
         have lM := Kd.PU (lo := (hC : Int).toNat) (hi := (xB : Int).toNat) (c := aD) qQ (by omega) (by omega) jI
         obtain ⟨mL, dN⟩ : ∃ A1, A1 = (if aD = (hC : Int).toNat then tD else (tD : Option Addr).map (·.add ((hC : Int).toNat * 5))) := ⟨_, rfl⟩
         obtain ⟨hL, hN⟩ : ∃ c1, c1 = aD - (hC : Int).toNat := ⟨_, rfl⟩
         have oM : wG.length = (xB : Int).toNat - (hC : Int).toNat := (by rw [fQ.out, List.length_drop, List.length_take] <;> omega)
         rw [show ((cB).take (xB : Int).toNat).drop (hC : Int).toNat = wG from fQ.out.symm] at lM
         replace lM : Kd.F k63 _ _ mL wG.length wG := (by rw [dN]; exact lM)
         rw [← oM, ← dN, ← hN] at uQ
         have nC := mk0 (show Kd.V k63 63 _ w.heap.size _ (.slice mL wG.length hL) wG from Kd.Cu (by rw [oM, hN]; exact Nat.sub_le_sub_right (Nat.le_trans (by omega) jI) _) lM)
         have g8 := mk0 (show wG.length ≤ hL from by rw [oM, hN]; exact Nat.sub_le_sub_right (Nat.le_trans (by omega) jI) _)
         clear lM qQ jI cP dP hN; have j8 := mk0 oM; have i8 := mk0 dN; clear oM dN; replace dR := eq_true dR
         refine Ch (n := 12) (S := fun w' => w'.cell? ⟨D, 0, none⟩ = some (.int .i64 jC) ∧ w'.cell? ⟨D, 1, none⟩ = some (.int .i64 kC) ∧ w'.cell? ⟨D, 2, none⟩ = some (.slice dF eC.length mF) ∧ w'.cell? ⟨D, 3, none⟩ = some (.slice sD mB.length uD) ∧ w'.cell? ⟨D, 4, none⟩ = some (.slice tD cB.length aD)) (ds := []) (tf 0 12) (by kernel_rfl) rfl rfl ⟨bc b 0, bc b 1, bc b 2, bc b 3, bc b 4⟩ (fun Y => ?_); refine Bl AJ.Pi AJ.Ow (fun uB oI => ?_)
         generalize wc.drew = aFN at gB m d r b s x y HB nC Y ⊢
         refine pv 0 110 (tf 1 11) uB ?_
         refine pv 3 113 #[true, false, false, true, false, false, false, false, false, false, false, false] uB ?_
         refine pv 5 115 #[true, false, false, true, false, true, false, false, false, false, false, false] uB ?_
         refine pv 6 116 #[true, false, false, true, false, true, true, false, false, false, false, false] uB ?_
         refine BR (i := 1) (N := some 111) (v := ?_) (a' := ?_) #[true, true, false, true, false, true, true, false, false, false, false, false] rfl rfl (Ae uB.out oI.out (by kernel_rfl)) (fun _ _ _ h => h) (Or.inl ⟨by rfl, ?_⟩) Y ?_ ?_
         rotate_left
         ·rintro w' ⟨s0, s1, s2, s3, s4⟩
          go_simp
          with_reducible rfl
         rotate_left
         ·simp only [ps]
          rfl
         refine BR (i := 4) (N := some 114) (v := ?_) (a' := ?_) #[true, true, false, true, true, true, true, false, false, false, false, false] rfl rfl (Ae uB.out oI.out (by kernel_rfl)) (fun _ _ _ h => h) (Or.inl ⟨by rfl, ?_⟩) Y ?_ ?_
         rotate_left
         ·rintro w' ⟨s0, s1, s2, s3, s4⟩
          go_simp
          with_reducible rfl
         rotate_left
         ·simp only [ps]
          rfl
         refine pv 7 117 #[true, true, false, true, true, true, true, true, false, false, false, false] uB ?_
         refine OL (σ := Value × Value × Value × Nat) 1 #[true, true, true, true, true, true, true, true, true, true, true, false] (fun s_ => [(112, .agg #[.int .i64 aH, .int .i64 bH, s_.1, s_.2.1]), (118, s_.2.2.1), (18, .pointer (some ⟨s_.2.2.2, 0, none⟩)), (119, .agg #[.int .i64 aH, .int .i64 bH, s_.1, s_.2.1, s_.2.2.1])]) (fun s_ w' => (w'.cell? ⟨D, 0, none⟩ = some (.int .i64 jC) ∧ w'.cell? ⟨D, 1, none⟩ = some (.int .i64 kC) ∧ w'.cell? ⟨D, 2, none⟩ = some (.slice dF eC.length mF) ∧ w'.cell? ⟨D, 3, none⟩ = some (.slice sD mB.length uD) ∧ w'.cell? ⟨D, 4, none⟩ = some (.slice tD cB.length aD)) ∧ (Kd.R (Kd.int .u8) 73 w' w.heap.size (fun a => (w.heap.size ≤ a)) s_.1 yB) ∧ (Kd.V k30 30 w' w.heap.size (fun a => ((eB a ∨ fB a ∨ gC a) ∨ w.heap.size ≤ a) ∧ some a ≠ (s_.1 : Value).ownBlock ∧ some a ≠ (s_.2.2.1 : Value).ownBlock ∧ a ≠ T ∧ a ≠ D ∧ a ≠ U ∧ a ≠ X ∧ a ≠ W ∧ a ≠ s_.2.2.2) s_.2.1 dG) ∧ (Kd.V k63 63 w' w.heap.size (fun a => ((eB a ∨ fB a ∨ gC a) ∨ w.heap.size ≤ a) ∧ some a ≠ (s_.1 : Value).ownBlock ∧ some a ≠ (s_.2.2.1 : Value).ownBlock ∧ a ≠ T ∧ a ≠ D ∧ a ≠ U ∧ a ≠ X ∧ a ≠ W ∧ a ≠ s_.2.2.2) (.slice mL wG.length hL) wG) ∧ (Kd.N k63 63 w' w.heap.size (fun a => ((eB a ∨ fB a ∨ gC a) ∨ w.heap.size ≤ a) ∧ some a ≠ (s_.1 : Value).ownBlock ∧ a ≠ T ∧ a ≠ D ∧ a ≠ U ∧ a ≠ X ∧ a ≠ W ∧ a ≠ s_.2.2.2) s_.2.2.1 hI) ∧ (Kd.V k30 30 w' w.heap.size (fun a => ((eB a ∨ fB a ∨ gC a) ∨ w.heap.size ≤ a) ∧ some a ≠ (s_.1 : Value).ownBlock ∧ some a ≠ (s_.2.2.1 : Value).ownBlock ∧ a ≠ T ∧ a ≠ D ∧ a ≠ U ∧ a ≠ X ∧ a ≠ W ∧ a ≠ s_.2.2.2) (.slice A3 l3.length c3) l3) ∧ (Kd.V k30 30 w' w.heap.size (fun a => ((eB a ∨ fB a ∨ gC a) ∨ w.heap.size ≤ a) ∧ some a ≠ (s_.1 : Value).ownBlock ∧ some a ≠ (s_.2.2.1 : Value).ownBlock ∧ a ≠ T ∧ a ≠ D ∧ a ≠ U ∧ a ≠ X ∧ a ≠ W ∧ a ≠ s_.2.2.2) (.slice sD mB.length uD) mB) ∧ (Kd.V k63 63 w' w.heap.size (fun a => ((eB a ∨ fB a ∨ gC a) ∨ w.heap.size ≤ a) ∧ some a ≠ (s_.1 : Value).ownBlock ∧ some a ≠ (s_.2.2.1 : Value).ownBlock ∧ a ≠ T ∧ a ≠ D ∧ a ≠ U ∧ a ≠ X ∧ a ≠ W ∧ a ≠ s_.2.2.2) (.slice tD cB.length aD) cB) ∧ (w'.heap[T]? = some (.cells #[.int .i64 dD, .int .i64 eD, .string fD, .slice qF pC.length sF, .slice rF qC.length tF] 26 (0, 0))) ∧ (w'.heap[D]? = some (.cells #[.int .i64 jC, .int .i64 kC, .slice dF eC.length mF, .slice sD mB.length uD, .slice tD cB.length aD] 33 (0, 0))) ∧ (w'.heap[U]? = some (.cells #[.int .i64 a2] 3 (0, 0))) ∧ (w'.heap[X]? = some (.cells #[.slice A4 l4.length c4] 38 (0, 0))) ∧ (w'.heap[W]? = some (.cells #[.int .i64 zB, .int .i64 aC, .slice none 0 0, .slice none 0 0, .slice none 0 0] 33 (0, 0))) ∧ (w'.heap[s_.2.2.2]? = some (.cells #[.int .i64 0, .int .i64 0, .slice none 0 0, .slice none 0 0, .slice none 0 0] 33 (0, 0))) ∧ (w.heap.size ≤ s_.2.2.2) ∧ (w.heap.size ≤ s_.2.2.2) ∧ (T ≠ s_.2.2.2) ∧ (s_.2.2.2 ≠ T) ∧ (D ≠ s_.2.2.2) ∧ (s_.2.2.2 ≠ D) ∧ (U ≠ s_.2.2.2) ∧ (s_.2.2.2 ≠ U) ∧ (X ≠ s_.2.2.2) ∧ (s_.2.2.2 ≠ X) ∧ (W ≠ s_.2.2.2) ∧ (s_.2.2.2 ≠ W) ∧ (Below w.heap.size w w')) ?_ ?_
         rotate_left
         ·intro rO
          refine Nf (i := 2) (j := 10) (Ni := some 112) (Nj := some 18) #[true, true, true, true, true, true, true, true, false, false, false, false] #[true, true, false, true, true, true, true, true, false, false, true, false] rfl rfl rfl rfl (JN uB.out (by kernel_rfl)) (by decide) (by decide) (fun K hK => ?_) (fun K hK => ?_)
          ·skip
           refine Cg Try.func51 (by kernel_rfl) rfl #[.agg #[.int .i64 jC, .int .i64 kC, .slice dF eC.length mF, .slice sD mB.length uD]] (by rfl) rfl rfl (by (try simp only [List.map_toArray, List.map_cons, List.map_nil]); first | done | rfl | (simp only [List.length_drop, List.length_take]; rfl)) ?_
           with_reducible refine (drivers_copied.calls jC kC _ _ eC (fun a => (((eB a ∨ fB a ∨ gC a) ∨ w.heap.size ≤ a) ∧ (a ≠ T ∧ (a ≠ D ∧ (a ≠ U ∧ (a ≠ X ∧ a ≠ W)))))) _ _ mB aH bH yB dG _ ?side1 ?side2 ?side3 eS.out).mono ?_
           (case side1 => exact cu iH HB)
           (case side2 => exact fH.out)
           (case side3 => exact m.out)
           rintro e oY ⟨v387, v390, rfl, nE, uN, hb⟩
           refine ⟨_, rfl, ?_⟩
           have jD := mk0 (Kd.BX (Br gB.out) (Kd.Bf nE) hb)
           have kD := mk0 (Kd.BX (Br m.out) (Kd.Bf nE) hb)
           have lD := mk0 (Kd.BX (Br d.out) (Kd.Bf nE) hb)
           have mD := mk0 (Kd.BX (Br nC.out) (Kd.Bf nE) hb)
           have nD := mk0 (Kd.Cm (Kd.ET (M := fun a => (w.heap.size ≤ a)) (Kd.BS (ok' := fun a => True) nE (fun _ hD => trivial)) (AZ (be5 HB G I J L O)) (fun a h_ => h_)) (AZ (be5 HB G I J L O)))
           have oD := mk0 (Kd.Ej (Kd.AO (ok' := fun a => ((eB a ∨ fB a ∨ gC a) ∨ w.heap.size ≤ a) ∧ some a ≠ (v387 : Value).ownBlock ∧ a ≠ T ∧ a ≠ D ∧ a ≠ U ∧ a ≠ X ∧ a ≠ W) uN (fun a hD => ⟨Or.elim hD.1 (fun tB => tB.1) (fun sB => (.inr (Nat.le_trans (AZ (be5 HB G I J L O)) sB))), hD.2, Or.elim hD.1 (fun tB => tB.2.1) (fun sB => (Kd.BG (g := T) (o := .cells #[.int .i64 dD, .int .i64 eD, .string fD, .slice qF pC.length sF, .slice rF qC.length tF] 26 (0, 0)) (Af r.out) a sB)), Or.elim hD.1 (fun tB => tB.2.2.1) (fun sB => (Kd.BG (g := D) (o := .cells #[.int .i64 jC, .int .i64 kC, .slice dF eC.length mF, .slice sD mB.length uD, .slice tD cB.length aD] 33 (0, 0)) (Af b.out) a sB)), Or.elim hD.1 (fun tB => tB.2.2.2.1) (fun sB => (Kd.BG (g := U) (o := .cells #[.int .i64 a2] 3 (0, 0)) (Af s.out) a sB)), Or.elim hD.1 (fun tB => tB.2.2.2.2.1) (fun sB => (Kd.BG (g := X) (o := .cells #[.slice A4 l4.length c4] 38 (0, 0)) (Af x.out) a sB)), Or.elim hD.1 (fun tB => tB.2.2.2.2.2) (fun sB => (Kd.BG (g := W) (o := .cells #[.int .i64 zB, .int .i64 aC, .slice none 0 0, .slice none 0 0, .slice none 0 0] 33 (0, 0)) (Af y.out) a sB))⟩)) (AZ (be5 HB G I J L O)))
           have pD := kb r hb
           have qD := kb b hb
           have rD := kb s hb
           have tE := kb x hb
           have lC := kb y hb
           have mC := kh5 HB G I J L O hb
           clear gB; clear m; clear d; clear nC; clear r; clear b; clear s; clear x; clear y; clear HB; have gB := jD; have m := kD; have d := lD; have nC := mD; have gD := nD; have dE := oD; have r := pD; have b := qD; have s := rD; have x := tE; have y := lC; have HB := mC; clear jD kD lD mD nD oD pD qD rD tE lC mC
           try clear hb
           try clear l
           try clear hi
           try clear nE
           try clear uN
           refine hK.out _ _ ⟨bc b 0, bc b 1, bc b 2, bc b 3, bc b 4⟩ (fun Y => ?_)
           clear hK K
           refine CB (a' := ?_) ?_ ?_
           rotate_left
           ·show Act.put _ (some 112) _ = _
            simp only [ps]
            rfl
           refine Nf (i := 8) (j := 10) (Ni := some 118) (Nj := some 18) #[true, true, true, true, true, true, true, true, true, false, false, false] #[true, true, true, true, true, true, true, true, false, false, true, false] rfl rfl rfl rfl (JN uB.out (by kernel_rfl)) (by decide) (by decide) (fun K hK => ?_) (fun K hK => ?_)
           ·skip
            refine Cg Try.func52 (by kernel_rfl) rfl #[.slice mL wG.length hL] (by rfl) rfl rfl (by (try simp only [List.map_toArray, List.map_cons, List.map_nil]); first | done | rfl | (simp only [List.length_drop, List.length_take]; rfl)) ?_
            with_reducible refine (drivers_all.calls wI (fun a => ((((eB a ∨ fB a ∨ gC a) ∨ w.heap.size ≤ a) ∧ (a ≠ T ∧ (a ≠ D ∧ (a ≠ U ∧ (a ≠ X ∧ a ≠ W))))) ∧ some a ≠ (v387 : Value).ownBlock)) _ _ wG hI _ ?side1 zP.out).mono ?_
            (case side1 => exact nC.out)
            rintro e xS ⟨v398, rfl, nE, hb⟩
            refine ⟨_, rfl, ?_⟩
            have jD := mk0 (Kd.BX (Br gB.out) (Kd.CO nE) hb)
            have kD := mk0 (Kd.BX (Br m.out) (Kd.CO nE) hb)
            have lD := mk0 (Kd.BX (Br d.out) (Kd.CO nE) hb)
            have mD := mk0 (Kd.BX (Br nC.out) (Kd.CO nE) hb)
            have nD := rb gD hb
            have oD := mk0 (Kd.BX (Br dE.out) (Kd.CO nE) hb)
            have pD := mk0 (Kd.DY (Kd.Be (ok' := fun a => ((eB a ∨ fB a ∨ gC a) ∨ w.heap.size ≤ a) ∧ some a ≠ (v387 : Value).ownBlock ∧ a ≠ T ∧ a ≠ D ∧ a ≠ U ∧ a ≠ X ∧ a ≠ W) nE (fun a hD => ⟨Or.elim hD (fun tB => tB.1.1) (fun sB => (.inr (Nat.le_trans (AZ (be5 HB G I J L O)) sB))), Or.elim hD (fun tB => tB.2) (fun sB => (Kd.fresh' (Kd.Ew (DJ gD.out)) a sB)), Or.elim hD (fun tB => tB.1.2.1) (fun sB => (Kd.BG (g := T) (o := .cells #[.int .i64 dD, .int .i64 eD, .string fD, .slice qF pC.length sF, .slice rF qC.length tF] 26 (0, 0)) (Af r.out) a sB)), Or.elim hD (fun tB => tB.1.2.2.1) (fun sB => (Kd.BG (g := D) (o := .cells #[.int .i64 jC, .int .i64 kC, .slice dF eC.length mF, .slice sD mB.length uD, .slice tD cB.length aD] 33 (0, 0)) (Af b.out) a sB)), Or.elim hD (fun tB => tB.1.2.2.2.1) (fun sB => (Kd.BG (g := U) (o := .cells #[.int .i64 a2] 3 (0, 0)) (Af s.out) a sB)), Or.elim hD (fun tB => tB.1.2.2.2.2.1) (fun sB => (Kd.BG (g := X) (o := .cells #[.slice A4 l4.length c4] 38 (0, 0)) (Af x.out) a sB)), Or.elim hD (fun tB => tB.1.2.2.2.2.2) (fun sB => (Kd.BG (g := W) (o := .cells #[.int .i64 zB, .int .i64 aC, .slice none 0 0, .slice none 0 0, .slice none 0 0] 33 (0, 0)) (Af y.out) a sB))⟩)) (AZ (be5 HB G I J L O)))
            have qD := kb r hb
            have rD := kb b hb
            have tE := kb s hb
            have lC := kb x hb
            have mC := kb y hb
            have rC := kh5 HB G I J L O hb
            clear gB; clear m; clear d; clear nC; clear gD; clear dE; clear r; clear b; clear s; clear x; clear y; clear HB; have gB := jD; have m := kD; have d := lD; have nC := mD; have gD := nD; have dE := oD; have nG := pD; have r := qD; have b := rD; have s := tE; have x := lC; have y := mC; have HB := rC; clear jD kD lD mD nD oD pD qD rD tE lC mC rC
            try clear hb
            try clear l
            try clear hi
            try clear nE
            obtain ⟨yS, uT, jQ⟩ := Kd.Cw nG.out
            (first | subst jQ | (injection jQ with f1_ f2_ f3_; have oG := f1_.symm; have pG := f3_.symm; clear f1_ f2_ f3_; subst oG; subst pG))
            obtain ⟨nL, gM, aJ⟩ := Kd.DU dE.out
            (first | subst aJ | (injection aJ with f1_ f2_ f3_; have oG := f1_.symm; have pG := f3_.symm; clear f1_ f2_ f3_; subst oG; subst pG))
            obtain ⟨oL, hM, bJ⟩ := Kd.Bw gD.out
            (first | subst bJ | (injection bJ with f1_ f2_ f3_; have oG := f1_.symm; have pG := f3_.symm; clear f1_ f2_ f3_; subst oG; subst pG))
            refine hK.out _ _ ⟨bc b 0, bc b 1, bc b 2, bc b 3, bc b 4⟩ (fun Y => ?_)
            clear hK K
            refine CB (a' := ?_) ?_ ?_
            rotate_left
            ·show Act.put _ (some 118) _ = _
             simp only [ps]
             rfl
            refine pv 9 119 (tf 10 2) uB ?_
            refine Cz (i := 10) (N := some 18) (tf 11 1) rfl rfl (Bq uB.out (by kernel_rfl)) (by decide) (fun K hK => ?_)
            refine Ez ?hg (N := 18) ?hd (cs := #[.int .i64 0, .int .i64 0, .slice none 0 0, .slice none 0 0, .slice none 0 0]) (t := 33) ?hr ?_; (case hd => rfl); (case hg => rfl); (case hr => first | (go_simp; done) | (go_simp; rfl))
            intro z hg aFO mE hb
            have jD := vB gB hg hb
            have kD := vB m hg hb
            have lD := vB d hg hb
            have mD := vB nC hg hb
            have nD := rb gD hb
            have oD := vB dE hg hb
            have pD := nB nG hg hb
            have qD := kb r hb
            have rD := kb b hb
            have tE := kb s hb
            have lC := kb x hb
            have mC := kb y hb
            have rC := kh5 HB G I J L O hb
            have cE := mk0 (mE)
            have rE := bs (be5 HB G I J L O) hg
            have sE := bs (be5 HB G I J L O) hg
            have cG := nb1 (bu r) hg
            have gI := nb2 (bu r) hg
            have sJ := nb1 (bu b) hg
            have tJ := nb2 (bu b) hg
            have uJ := nb1 (bu s) hg
            have vJ := nb2 (bu s) hg
            have wJ := nb1 (bu x) hg
            have iL := nb2 (bu x) hg
            have jL := nb1 (bu y) hg
            have vN := nb2 (bu y) hg
            clear gB; clear m; clear d; clear nC; clear gD; clear dE; clear nG; clear r; clear b; clear s; clear x; clear y; clear HB; have gB := jD; have m := kD; have d := lD; have nC := mD; have gD := nD; have dE := oD; have nG := pD; have r := qD; have b := rD; have s := tE; have x := lC; have y := mC; have HB := rC; have dB := cE; have fL := rE; have iC := sE; have sC := cG; have xD := gI; have Z := sJ; have yD := tJ; have tC := uJ; have zD := vJ; have uC := wJ; have aE := iL; have vC := jL; have bE := vN; clear jD kD lD mD nD oD pD qD rD tE lC mC rC cE rE sE cG gI sJ tJ uJ vJ wJ iL jL vN; clear hb mE hg
            refine hK.out _ _ ⟨bc b 0, bc b 1, bc b 2, bc b 3, bc b 4⟩ (fun Y => ?_)
            clear hK K
            refine CB (a' := ?_) ?_ ?_
            rotate_left
            ·show Act.put _ (some 18) _ = _
             simp only [ps]
             rfl
            exact CB (by simp only [Eb, Act.put, List.setIfInBounds_toArray, List.set_cons_zero, List.set_cons_succ]) (rO (.slice oL yB.length hM, .slice nL dG.length gM, .slice yS hI.length uT, z) _ ⟨Y, (DZ (Kd.BS gD.out (fun _ l => l.1))), (BH (Kd.AO dE.out (fun _ l => ⟨l.1.1.1, ⟨l.1.1.2.1, ⟨l.1.2, ⟨l.1.1.2.2.1, ⟨l.1.1.2.2.2.1, ⟨l.1.1.2.2.2.2.1, ⟨l.1.1.2.2.2.2.2.1, ⟨l.1.1.2.2.2.2.2.2, l.2⟩⟩⟩⟩⟩⟩⟩⟩))), (BH (Kd.AO nC.out (fun _ l => ⟨l.1.1.1.1, ⟨l.1.1.2, ⟨l.1.2, ⟨l.1.1.1.2.1, ⟨l.1.1.1.2.2.1, ⟨l.1.1.1.2.2.2.1, ⟨l.1.1.1.2.2.2.2.1, ⟨l.1.1.1.2.2.2.2.2, l.2⟩⟩⟩⟩⟩⟩⟩⟩))), (Dt (Kd.Be nG.out (fun _ l => ⟨l.1.1, ⟨l.1.2.1, ⟨l.1.2.2.1, ⟨l.1.2.2.2.1, ⟨l.1.2.2.2.2.1, ⟨l.1.2.2.2.2.2.1, ⟨l.1.2.2.2.2.2.2, l.2⟩⟩⟩⟩⟩⟩⟩))), (BH (Kd.AO gB.out (fun _ l => ⟨l.1.1.1.1, ⟨l.1.1.2, ⟨l.1.2, ⟨l.1.1.1.2.1, ⟨l.1.1.1.2.2.1, ⟨l.1.1.1.2.2.2.1, ⟨l.1.1.1.2.2.2.2.1, ⟨l.1.1.1.2.2.2.2.2, l.2⟩⟩⟩⟩⟩⟩⟩⟩))), (BH (Kd.AO m.out (fun _ l => ⟨l.1.1.1.1, ⟨l.1.1.2, ⟨l.1.2, ⟨l.1.1.1.2.1, ⟨l.1.1.1.2.2.1, ⟨l.1.1.1.2.2.2.1, ⟨l.1.1.1.2.2.2.2.1, ⟨l.1.1.1.2.2.2.2.2, l.2⟩⟩⟩⟩⟩⟩⟩⟩))), (BH (Kd.AO d.out (fun _ l => ⟨l.1.1.1.1, ⟨l.1.1.2, ⟨l.1.2, ⟨l.1.1.1.2.1, ⟨l.1.1.1.2.2.1, ⟨l.1.1.1.2.2.2.1, ⟨l.1.1.1.2.2.2.2.1, ⟨l.1.1.1.2.2.2.2.2, l.2⟩⟩⟩⟩⟩⟩⟩⟩))), (Af r.out), (Af b.out), (Af s.out), (Af x.out), (Af y.out), (Af dB.out), fL.out, iC.out, sC.out, xD.out, Z.out, yD.out, tC.out, zD.out, uC.out, aE.out, vC.out, bE.out, (be6 HB G I J L O iC)⟩)
           ·skip
            refine Ez ?hg (N := 18) ?hd (cs := #[.int .i64 0, .int .i64 0, .slice none 0 0, .slice none 0 0, .slice none 0 0]) (t := 33) ?hr ?_; (case hd => rfl); (case hg => rfl); (case hr => first | (go_simp; done) | (go_simp; rfl))
            intro z hg xS mE hb
            have jD := vB gB hg hb
            have kD := vB m hg hb
            have lD := vB d hg hb
            have mD := vB nC hg hb
            have nD := rb gD hb
            have oD := vB dE hg hb
            have pD := kb r hb
            have qD := kb b hb
            have rD := kb s hb
            have tE := kb x hb
            have lC := kb y hb
            have mC := kh5 HB G I J L O hb
            have rC := mk0 (mE)
            have cE := bs (be5 HB G I J L O) hg
            have rE := bs (be5 HB G I J L O) hg
            have sE := nb1 (bu r) hg
            have cG := nb2 (bu r) hg
            have gI := nb1 (bu b) hg
            have sJ := nb2 (bu b) hg
            have tJ := nb1 (bu s) hg
            have uJ := nb2 (bu s) hg
            have vJ := nb1 (bu x) hg
            have wJ := nb2 (bu x) hg
            have iL := nb1 (bu y) hg
            have jL := nb2 (bu y) hg
            clear gB; clear m; clear d; clear nC; clear gD; clear dE; clear r; clear b; clear s; clear x; clear y; clear HB; have gB := jD; have m := kD; have d := lD; have nC := mD; have gD := nD; have dE := oD; have r := pD; have b := qD; have s := rD; have x := tE; have y := lC; have HB := mC; have dB := rC; have fL := cE; have iC := rE; have sC := sE; have xD := cG; have Z := gI; have yD := sJ; have tC := tJ; have zD := uJ; have uC := vJ; have aE := wJ; have vC := iL; have bE := jL; clear jD kD lD mD nD oD pD qD rD tE lC mC rC cE rE sE cG gI sJ tJ uJ vJ wJ iL jL; clear hb mE hg
            refine hK.out _ _ ⟨bc b 0, bc b 1, bc b 2, bc b 3, bc b 4⟩ (fun Y => ?_)
            clear hK K
            refine CB (a' := ?_) ?_ ?_
            rotate_left
            ·show Act.put _ (some 18) _ = _
             simp only [ps]
             rfl
            refine Cz (i := 8) (N := some 118) #[true, true, true, true, true, true, true, true, true, false, true, false] rfl rfl (Bq uB.out (by kernel_rfl)) (by decide) (fun K hK => ?_)
            refine Cg Try.func52 (by kernel_rfl) rfl #[.slice mL wG.length hL] (by rfl) rfl rfl (by (try simp only [List.map_toArray, List.map_cons, List.map_nil]); first | done | rfl | (simp only [List.length_drop, List.length_take]; rfl)) ?_
            with_reducible refine (drivers_all.calls wI (fun a => (((((eB a ∨ fB a ∨ gC a) ∨ w.heap.size ≤ a) ∧ (a ≠ T ∧ (a ≠ D ∧ (a ≠ U ∧ (a ≠ X ∧ a ≠ W))))) ∧ some a ≠ (v387 : Value).ownBlock) ∧ a ≠ z)) _ _ wG hI _ ?side1 zP.out).mono ?_
            (case side1 => exact nC.out)
            rintro e pY ⟨v398, rfl, nE, hb⟩
            refine ⟨_, rfl, ?_⟩
            have jD := mk0 (Kd.BX (Br gB.out) (Kd.CO nE) hb)
            have kD := mk0 (Kd.BX (Br m.out) (Kd.CO nE) hb)
            have lD := mk0 (Kd.BX (Br d.out) (Kd.CO nE) hb)
            have mD := mk0 (Kd.BX (Br nC.out) (Kd.CO nE) hb)
            have nD := rb gD hb
            have oD := mk0 (Kd.BX (Br dE.out) (Kd.CO nE) hb)
            have pD := mk0 (Kd.DY (Kd.Be (ok' := fun a => ((eB a ∨ fB a ∨ gC a) ∨ w.heap.size ≤ a) ∧ some a ≠ (v387 : Value).ownBlock ∧ a ≠ T ∧ a ≠ D ∧ a ≠ U ∧ a ≠ X ∧ a ≠ W ∧ a ≠ z) nE (fun a hD => ⟨Or.elim hD (fun tB => tB.1.1.1) (fun sB => (.inr (Nat.le_trans (AZ (be6 HB G I J L O iC)) sB))), Or.elim hD (fun tB => tB.1.2) (fun sB => (Kd.fresh' (Kd.Ew (DJ gD.out)) a sB)), Or.elim hD (fun tB => tB.1.1.2.1) (fun sB => (Kd.BG (g := T) (o := .cells #[.int .i64 dD, .int .i64 eD, .string fD, .slice qF pC.length sF, .slice rF qC.length tF] 26 (0, 0)) (Af r.out) a sB)), Or.elim hD (fun tB => tB.1.1.2.2.1) (fun sB => (Kd.BG (g := D) (o := .cells #[.int .i64 jC, .int .i64 kC, .slice dF eC.length mF, .slice sD mB.length uD, .slice tD cB.length aD] 33 (0, 0)) (Af b.out) a sB)), Or.elim hD (fun tB => tB.1.1.2.2.2.1) (fun sB => (Kd.BG (g := U) (o := .cells #[.int .i64 a2] 3 (0, 0)) (Af s.out) a sB)), Or.elim hD (fun tB => tB.1.1.2.2.2.2.1) (fun sB => (Kd.BG (g := X) (o := .cells #[.slice A4 l4.length c4] 38 (0, 0)) (Af x.out) a sB)), Or.elim hD (fun tB => tB.1.1.2.2.2.2.2) (fun sB => (Kd.BG (g := W) (o := .cells #[.int .i64 zB, .int .i64 aC, .slice none 0 0, .slice none 0 0, .slice none 0 0] 33 (0, 0)) (Af y.out) a sB)), Or.elim hD (fun tB => tB.2) (fun sB => (Kd.BG (g := z) (o := .cells #[.int .i64 0, .int .i64 0, .slice none 0 0, .slice none 0 0, .slice none 0 0] 33 (0, 0)) (Af dB.out) a sB))⟩)) (AZ (be6 HB G I J L O iC)))
            have qD := kb r hb
            have rD := kb b hb
            have tE := kb s hb
            have lC := kb x hb
            have mC := kb y hb
            have rC := kb dB hb
            have cE := kh6 HB G I J L O iC hb
            clear gB; clear m; clear d; clear nC; clear gD; clear dE; clear r; clear b; clear s; clear x; clear y; clear dB; clear HB; have gB := jD; have m := kD; have d := lD; have nC := mD; have gD := nD; have dE := oD; have nG := pD; have r := qD; have b := rD; have s := tE; have x := lC; have y := mC; have dB := rC; have HB := cE; clear jD kD lD mD nD oD pD qD rD tE lC mC rC cE
            try clear hb
            try clear l
            try clear hi
            try clear nE
            obtain ⟨nL, gM, aJ⟩ := Kd.Cw nG.out
            (first | subst aJ | (injection aJ with f1_ f2_ f3_; have oG := f1_.symm; have pG := f3_.symm; clear f1_ f2_ f3_; subst oG; subst pG))
            obtain ⟨oL, hM, bJ⟩ := Kd.DU dE.out
            (first | subst bJ | (injection bJ with f1_ f2_ f3_; have oG := f1_.symm; have pG := f3_.symm; clear f1_ f2_ f3_; subst oG; subst pG))
            obtain ⟨xN, qO, iM⟩ := Kd.Bw gD.out
            (first | subst iM | (injection iM with f1_ f2_ f3_; have oG := f1_.symm; have pG := f3_.symm; clear f1_ f2_ f3_; subst oG; subst pG))
            refine hK.out _ _ ⟨bc b 0, bc b 1, bc b 2, bc b 3, bc b 4⟩ (fun Y => ?_)
            clear hK K
            refine CB (a' := ?_) ?_ ?_
            rotate_left
            ·show Act.put _ (some 118) _ = _
             simp only [ps]
             rfl
            refine pv 9 119 (tf 11 1) uB ?_
            exact CB (by simp only [Eb, Act.put, List.setIfInBounds_toArray, List.set_cons_zero, List.set_cons_succ]) (rO (.slice xN yB.length qO, .slice oL dG.length hM, .slice nL hI.length gM, z) _ ⟨Y, (DZ (Kd.BS gD.out (fun _ l => l.1))), (BH (Kd.AO dE.out (fun _ l => ⟨l.1.1.1, ⟨l.1.1.2.1, ⟨l.2, ⟨l.1.1.2.2.1, ⟨l.1.1.2.2.2.1, ⟨l.1.1.2.2.2.2.1, ⟨l.1.1.2.2.2.2.2.1, ⟨l.1.1.2.2.2.2.2.2, l.1.2⟩⟩⟩⟩⟩⟩⟩⟩))), (BH (Kd.AO nC.out (fun _ l => ⟨l.1.1.1.1, ⟨l.1.1.2, ⟨l.2, ⟨l.1.1.1.2.1, ⟨l.1.1.1.2.2.1, ⟨l.1.1.1.2.2.2.1, ⟨l.1.1.1.2.2.2.2.1, ⟨l.1.1.1.2.2.2.2.2, l.1.2⟩⟩⟩⟩⟩⟩⟩⟩))), (EI nG.out), (BH (Kd.AO gB.out (fun _ l => ⟨l.1.1.1.1, ⟨l.1.1.2, ⟨l.2, ⟨l.1.1.1.2.1, ⟨l.1.1.1.2.2.1, ⟨l.1.1.1.2.2.2.1, ⟨l.1.1.1.2.2.2.2.1, ⟨l.1.1.1.2.2.2.2.2, l.1.2⟩⟩⟩⟩⟩⟩⟩⟩))), (BH (Kd.AO m.out (fun _ l => ⟨l.1.1.1.1, ⟨l.1.1.2, ⟨l.2, ⟨l.1.1.1.2.1, ⟨l.1.1.1.2.2.1, ⟨l.1.1.1.2.2.2.1, ⟨l.1.1.1.2.2.2.2.1, ⟨l.1.1.1.2.2.2.2.2, l.1.2⟩⟩⟩⟩⟩⟩⟩⟩))), (BH (Kd.AO d.out (fun _ l => ⟨l.1.1.1.1, ⟨l.1.1.2, ⟨l.2, ⟨l.1.1.1.2.1, ⟨l.1.1.1.2.2.1, ⟨l.1.1.1.2.2.2.1, ⟨l.1.1.1.2.2.2.2.1, ⟨l.1.1.1.2.2.2.2.2, l.1.2⟩⟩⟩⟩⟩⟩⟩⟩))), (Af r.out), (Af b.out), (Af s.out), (Af x.out), (Af y.out), (Af dB.out), fL.out, iC.out, sC.out, xD.out, Z.out, yD.out, tC.out, zD.out, uC.out, aE.out, vC.out, bE.out, (be6 HB G I J L O iC)⟩)
          ·skip
           refine Ez ?hg (N := 18) ?hd (cs := #[.int .i64 0, .int .i64 0, .slice none 0 0, .slice none 0 0, .slice none 0 0]) (t := 33) ?hr ?_; (case hd => rfl); (case hg => rfl); (case hr => first | (go_simp; done) | (go_simp; rfl))
           intro z hg oY mE hb
           have jD := vB gB hg hb
           have kD := vB m hg hb
           have lD := vB d hg hb
           have mD := vB nC hg hb
           have nD := kb r hb
           have oD := kb b hb
           have pD := kb s hb
           have qD := kb x hb
           have rD := kb y hb
           have tE := kh5 HB G I J L O hb
           have lC := mk0 (mE)
           have mC := bs (be5 HB G I J L O) hg
           have rC := bs (be5 HB G I J L O) hg
           have cE := nb1 (bu r) hg
           have rE := nb2 (bu r) hg
           have sE := nb1 (bu b) hg
           have cG := nb2 (bu b) hg
           have gI := nb1 (bu s) hg
           have sJ := nb2 (bu s) hg
           have tJ := nb1 (bu x) hg
           have uJ := nb2 (bu x) hg
           have vJ := nb1 (bu y) hg
           have wJ := nb2 (bu y) hg
           clear gB; clear m; clear d; clear nC; clear r; clear b; clear s; clear x; clear y; clear HB; have gB := jD; have m := kD; have d := lD; have nC := mD; have r := nD; have b := oD; have s := pD; have x := qD; have y := rD; have HB := tE; have dB := lC; have fL := mC; have iC := rC; have sC := cE; have xD := rE; have Z := sE; have yD := cG; have tC := gI; have zD := sJ; have uC := tJ; have aE := uJ; have vC := vJ; have bE := wJ; clear jD kD lD mD nD oD pD qD rD tE lC mC rC cE rE sE cG gI sJ tJ uJ vJ wJ; clear hb mE hg
           refine hK.out _ _ ⟨bc b 0, bc b 1, bc b 2, bc b 3, bc b 4⟩ (fun Y => ?_)
           clear hK K
           refine CB (a' := ?_) ?_ ?_
           rotate_left
           ·show Act.put _ (some 18) _ = _
            simp only [ps]
            rfl
           refine Cz (i := 2) (N := some 112) #[true, true, true, true, true, true, true, true, false, false, true, false] rfl rfl (Bq uB.out (by kernel_rfl)) (by decide) (fun K hK => ?_)
           refine Cg Try.func51 (by kernel_rfl) rfl #[.agg #[.int .i64 jC, .int .i64 kC, .slice dF eC.length mF, .slice sD mB.length uD]] (by rfl) rfl rfl (by (try simp only [List.map_toArray, List.map_cons, List.map_nil]); first | done | rfl | (simp only [List.length_drop, List.length_take]; rfl)) ?_
           with_reducible refine (drivers_copied.calls jC kC _ _ eC (fun a => ((((eB a ∨ fB a ∨ gC a) ∨ w.heap.size ≤ a) ∧ (a ≠ T ∧ (a ≠ D ∧ (a ≠ U ∧ (a ≠ X ∧ a ≠ W))))) ∧ a ≠ z)) _ _ mB aH bH yB dG _ ?side1 ?side2 ?side3 eS.out).mono ?_
           (case side1 => exact cu iH HB)
           (case side2 => exact fH.out)
           (case side3 => exact m.out)
           rintro e xS ⟨v387, v390, rfl, nE, uN, hb⟩
           refine ⟨_, rfl, ?_⟩
           have jD := mk0 (Kd.BX (Br gB.out) (Kd.Bf nE) hb)
           have kD := mk0 (Kd.BX (Br m.out) (Kd.Bf nE) hb)
           have lD := mk0 (Kd.BX (Br d.out) (Kd.Bf nE) hb)
           have mD := mk0 (Kd.BX (Br nC.out) (Kd.Bf nE) hb)
           have nD := mk0 (Kd.Cm (Kd.ET (M := fun a => (w.heap.size ≤ a)) (Kd.BS (ok' := fun a => True) nE (fun _ hD => trivial)) (AZ (be6 HB G I J L O iC)) (fun a h_ => h_)) (AZ (be6 HB G I J L O iC)))
           have oD := mk0 (Kd.Ej (Kd.AO (ok' := fun a => ((eB a ∨ fB a ∨ gC a) ∨ w.heap.size ≤ a) ∧ some a ≠ (v387 : Value).ownBlock ∧ a ≠ T ∧ a ≠ D ∧ a ≠ U ∧ a ≠ X ∧ a ≠ W ∧ a ≠ z) uN (fun a hD => ⟨Or.elim hD.1 (fun tB => tB.1.1) (fun sB => (.inr (Nat.le_trans (AZ (be6 HB G I J L O iC)) sB))), hD.2, Or.elim hD.1 (fun tB => tB.1.2.1) (fun sB => (Kd.BG (g := T) (o := .cells #[.int .i64 dD, .int .i64 eD, .string fD, .slice qF pC.length sF, .slice rF qC.length tF] 26 (0, 0)) (Af r.out) a sB)), Or.elim hD.1 (fun tB => tB.1.2.2.1) (fun sB => (Kd.BG (g := D) (o := .cells #[.int .i64 jC, .int .i64 kC, .slice dF eC.length mF, .slice sD mB.length uD, .slice tD cB.length aD] 33 (0, 0)) (Af b.out) a sB)), Or.elim hD.1 (fun tB => tB.1.2.2.2.1) (fun sB => (Kd.BG (g := U) (o := .cells #[.int .i64 a2] 3 (0, 0)) (Af s.out) a sB)), Or.elim hD.1 (fun tB => tB.1.2.2.2.2.1) (fun sB => (Kd.BG (g := X) (o := .cells #[.slice A4 l4.length c4] 38 (0, 0)) (Af x.out) a sB)), Or.elim hD.1 (fun tB => tB.1.2.2.2.2.2) (fun sB => (Kd.BG (g := W) (o := .cells #[.int .i64 zB, .int .i64 aC, .slice none 0 0, .slice none 0 0, .slice none 0 0] 33 (0, 0)) (Af y.out) a sB)), Or.elim hD.1 (fun tB => tB.2) (fun sB => (Kd.BG (g := z) (o := .cells #[.int .i64 0, .int .i64 0, .slice none 0 0, .slice none 0 0, .slice none 0 0] 33 (0, 0)) (Af dB.out) a sB))⟩)) (AZ (be6 HB G I J L O iC)))
           have pD := kb r hb
           have qD := kb b hb
           have rD := kb s hb
           have tE := kb x hb
           have lC := kb y hb
           have mC := kb dB hb
           have rC := kh6 HB G I J L O iC hb
           clear gB; clear m; clear d; clear nC; clear r; clear b; clear s; clear x; clear y; clear dB; clear HB; have gB := jD; have m := kD; have d := lD; have nC := mD; have gD := nD; have dE := oD; have r := pD; have b := qD; have s := rD; have x := tE; have y := lC; have dB := mC; have HB := rC; clear jD kD lD mD nD oD pD qD rD tE lC mC rC
           try clear hb
           try clear l
           try clear hi
           try clear nE
           try clear uN
           refine hK.out _ _ ⟨bc b 0, bc b 1, bc b 2, bc b 3, bc b 4⟩ (fun Y => ?_)
           clear hK K
           refine CB (a' := ?_) ?_ ?_
           rotate_left
           ·show Act.put _ (some 112) _ = _
            simp only [ps]
            rfl
           refine Cz (i := 8) (N := some 118) #[true, true, true, true, true, true, true, true, true, false, true, false] rfl rfl (Bq uB.out (by kernel_rfl)) (by decide) (fun K hK => ?_)
           refine Cg Try.func52 (by kernel_rfl) rfl #[.slice mL wG.length hL] (by rfl) rfl rfl (by (try simp only [List.map_toArray, List.map_cons, List.map_nil]); first | done | rfl | (simp only [List.length_drop, List.length_take]; rfl)) ?_
           with_reducible refine (drivers_all.calls wI (fun a => (((((eB a ∨ fB a ∨ gC a) ∨ w.heap.size ≤ a) ∧ (a ≠ T ∧ (a ≠ D ∧ (a ≠ U ∧ (a ≠ X ∧ a ≠ W))))) ∧ a ≠ z) ∧ some a ≠ (v387 : Value).ownBlock)) _ _ wG hI _ ?side1 zP.out).mono ?_
           (case side1 => exact nC.out)
           rintro e pY ⟨v398, rfl, nE, hb⟩
           refine ⟨_, rfl, ?_⟩
           have jD := mk0 (Kd.BX (Br gB.out) (Kd.CO nE) hb)
           have kD := mk0 (Kd.BX (Br m.out) (Kd.CO nE) hb)
           have lD := mk0 (Kd.BX (Br d.out) (Kd.CO nE) hb)
           have mD := mk0 (Kd.BX (Br nC.out) (Kd.CO nE) hb)
           have nD := rb gD hb
           have oD := mk0 (Kd.BX (Br dE.out) (Kd.CO nE) hb)
           have pD := mk0 (Kd.DY (Kd.Be (ok' := fun a => ((eB a ∨ fB a ∨ gC a) ∨ w.heap.size ≤ a) ∧ some a ≠ (v387 : Value).ownBlock ∧ a ≠ T ∧ a ≠ D ∧ a ≠ U ∧ a ≠ X ∧ a ≠ W ∧ a ≠ z) nE (fun a hD => ⟨Or.elim hD (fun tB => tB.1.1.1) (fun sB => (.inr (Nat.le_trans (AZ (be6 HB G I J L O iC)) sB))), Or.elim hD (fun tB => tB.2) (fun sB => (Kd.fresh' (Kd.Ew (DJ gD.out)) a sB)), Or.elim hD (fun tB => tB.1.1.2.1) (fun sB => (Kd.BG (g := T) (o := .cells #[.int .i64 dD, .int .i64 eD, .string fD, .slice qF pC.length sF, .slice rF qC.length tF] 26 (0, 0)) (Af r.out) a sB)), Or.elim hD (fun tB => tB.1.1.2.2.1) (fun sB => (Kd.BG (g := D) (o := .cells #[.int .i64 jC, .int .i64 kC, .slice dF eC.length mF, .slice sD mB.length uD, .slice tD cB.length aD] 33 (0, 0)) (Af b.out) a sB)), Or.elim hD (fun tB => tB.1.1.2.2.2.1) (fun sB => (Kd.BG (g := U) (o := .cells #[.int .i64 a2] 3 (0, 0)) (Af s.out) a sB)), Or.elim hD (fun tB => tB.1.1.2.2.2.2.1) (fun sB => (Kd.BG (g := X) (o := .cells #[.slice A4 l4.length c4] 38 (0, 0)) (Af x.out) a sB)), Or.elim hD (fun tB => tB.1.1.2.2.2.2.2) (fun sB => (Kd.BG (g := W) (o := .cells #[.int .i64 zB, .int .i64 aC, .slice none 0 0, .slice none 0 0, .slice none 0 0] 33 (0, 0)) (Af y.out) a sB)), Or.elim hD (fun tB => tB.1.2) (fun sB => (Kd.BG (g := z) (o := .cells #[.int .i64 0, .int .i64 0, .slice none 0 0, .slice none 0 0, .slice none 0 0] 33 (0, 0)) (Af dB.out) a sB))⟩)) (AZ (be6 HB G I J L O iC)))
           have qD := kb r hb
           have rD := kb b hb
           have tE := kb s hb
           have lC := kb x hb
           have mC := kb y hb
           have rC := kb dB hb
           have cE := kh6 HB G I J L O iC hb
           clear gB; clear m; clear d; clear nC; clear gD; clear dE; clear r; clear b; clear s; clear x; clear y; clear dB; clear HB; have gB := jD; have m := kD; have d := lD; have nC := mD; have gD := nD; have dE := oD; have nG := pD; have r := qD; have b := rD; have s := tE; have x := lC; have y := mC; have dB := rC; have HB := cE; clear jD kD lD mD nD oD pD qD rD tE lC mC rC cE
           try clear hb
           try clear l
           try clear hi
           try clear nE
           obtain ⟨nL, gM, aJ⟩ := Kd.Cw nG.out
           (first | subst aJ | (injection aJ with f1_ f2_ f3_; have oG := f1_.symm; have pG := f3_.symm; clear f1_ f2_ f3_; subst oG; subst pG))
           obtain ⟨oL, hM, bJ⟩ := Kd.DU dE.out
           (first | subst bJ | (injection bJ with f1_ f2_ f3_; have oG := f1_.symm; have pG := f3_.symm; clear f1_ f2_ f3_; subst oG; subst pG))
           obtain ⟨xN, qO, iM⟩ := Kd.Bw gD.out
           (first | subst iM | (injection iM with f1_ f2_ f3_; have oG := f1_.symm; have pG := f3_.symm; clear f1_ f2_ f3_; subst oG; subst pG))
           refine hK.out _ _ ⟨bc b 0, bc b 1, bc b 2, bc b 3, bc b 4⟩ (fun Y => ?_)
           clear hK K
           refine CB (a' := ?_) ?_ ?_
           rotate_left
           ·show Act.put _ (some 118) _ = _
            simp only [ps]
            rfl
           refine pv 9 119 (tf 11 1) uB ?_
           exact CB (by simp only [Eb, Act.put, List.setIfInBounds_toArray, List.set_cons_zero, List.set_cons_succ]) (rO (.slice xN yB.length qO, .slice oL dG.length hM, .slice nL hI.length gM, z) _ ⟨Y, (DZ (Kd.BS gD.out (fun _ l => l.1))), (BH (Kd.AO dE.out (fun _ l => ⟨l.1.1, ⟨l.1.2.1, ⟨l.2, ⟨l.1.2.2.1, ⟨l.1.2.2.2.1, ⟨l.1.2.2.2.2.1, ⟨l.1.2.2.2.2.2.1, ⟨l.1.2.2.2.2.2.2.1, l.1.2.2.2.2.2.2.2⟩⟩⟩⟩⟩⟩⟩⟩))), (BH (Kd.AO nC.out (fun _ l => ⟨l.1.1.1.1, ⟨l.1.2, ⟨l.2, ⟨l.1.1.1.2.1, ⟨l.1.1.1.2.2.1, ⟨l.1.1.1.2.2.2.1, ⟨l.1.1.1.2.2.2.2.1, ⟨l.1.1.1.2.2.2.2.2, l.1.1.2⟩⟩⟩⟩⟩⟩⟩⟩))), (EI nG.out), (BH (Kd.AO gB.out (fun _ l => ⟨l.1.1.1.1, ⟨l.1.2, ⟨l.2, ⟨l.1.1.1.2.1, ⟨l.1.1.1.2.2.1, ⟨l.1.1.1.2.2.2.1, ⟨l.1.1.1.2.2.2.2.1, ⟨l.1.1.1.2.2.2.2.2, l.1.1.2⟩⟩⟩⟩⟩⟩⟩⟩))), (BH (Kd.AO m.out (fun _ l => ⟨l.1.1.1.1, ⟨l.1.2, ⟨l.2, ⟨l.1.1.1.2.1, ⟨l.1.1.1.2.2.1, ⟨l.1.1.1.2.2.2.1, ⟨l.1.1.1.2.2.2.2.1, ⟨l.1.1.1.2.2.2.2.2, l.1.1.2⟩⟩⟩⟩⟩⟩⟩⟩))), (BH (Kd.AO d.out (fun _ l => ⟨l.1.1.1.1, ⟨l.1.2, ⟨l.2, ⟨l.1.1.1.2.1, ⟨l.1.1.1.2.2.1, ⟨l.1.1.1.2.2.2.1, ⟨l.1.1.1.2.2.2.2.1, ⟨l.1.1.1.2.2.2.2.2, l.1.1.2⟩⟩⟩⟩⟩⟩⟩⟩))), (Af r.out), (Af b.out), (Af s.out), (Af x.out), (Af y.out), (Af dB.out), fL.out, iC.out, sC.out, xD.out, Z.out, yD.out, tC.out, zD.out, uC.out, aE.out, vC.out, bE.out, (be6 HB G I J L O iC)⟩)
         rintro ⟨v387, v390, v398, z⟩ xF ⟨m8, fX, gX, hX, iX, jX, kX, lX, mX, nX, oX, fS, gS, hS, iS, jS, kS, lS, mS, nS, oS, pS, qS, rS, sS, tS, uS⟩
         have jD : Aside0 (Kd.R (Kd.int .u8) 73 xF w.heap.size (fun a => (w.heap.size ≤ a)) v387 yB) := ⟨fX⟩
         have kD : Aside0 (Kd.V k30 30 xF w.heap.size (fun a => ((eB a ∨ fB a ∨ gC a) ∨ w.heap.size ≤ a) ∧ some a ≠ (v387 : Value).ownBlock ∧ some a ≠ (v398 : Value).ownBlock ∧ a ≠ T ∧ a ≠ D ∧ a ≠ U ∧ a ≠ X ∧ a ≠ W ∧ a ≠ z) v390 dG) := ⟨gX⟩
         have lD : Aside0 (Kd.V k63 63 xF w.heap.size (fun a => ((eB a ∨ fB a ∨ gC a) ∨ w.heap.size ≤ a) ∧ some a ≠ (v387 : Value).ownBlock ∧ some a ≠ (v398 : Value).ownBlock ∧ a ≠ T ∧ a ≠ D ∧ a ≠ U ∧ a ≠ X ∧ a ≠ W ∧ a ≠ z) (.slice mL wG.length hL) wG) := ⟨hX⟩
         have mD : Aside0 (Kd.N k63 63 xF w.heap.size (fun a => ((eB a ∨ fB a ∨ gC a) ∨ w.heap.size ≤ a) ∧ some a ≠ (v387 : Value).ownBlock ∧ a ≠ T ∧ a ≠ D ∧ a ≠ U ∧ a ≠ X ∧ a ≠ W ∧ a ≠ z) v398 hI) := ⟨iX⟩
         have nD : Aside0 (Kd.V k30 30 xF w.heap.size (fun a => ((eB a ∨ fB a ∨ gC a) ∨ w.heap.size ≤ a) ∧ some a ≠ (v387 : Value).ownBlock ∧ some a ≠ (v398 : Value).ownBlock ∧ a ≠ T ∧ a ≠ D ∧ a ≠ U ∧ a ≠ X ∧ a ≠ W ∧ a ≠ z) (.slice A3 l3.length c3) l3) := ⟨jX⟩
         have oD : Aside0 (Kd.V k30 30 xF w.heap.size (fun a => ((eB a ∨ fB a ∨ gC a) ∨ w.heap.size ≤ a) ∧ some a ≠ (v387 : Value).ownBlock ∧ some a ≠ (v398 : Value).ownBlock ∧ a ≠ T ∧ a ≠ D ∧ a ≠ U ∧ a ≠ X ∧ a ≠ W ∧ a ≠ z) (.slice sD mB.length uD) mB) := ⟨kX⟩
         have pD : Aside0 (Kd.V k63 63 xF w.heap.size (fun a => ((eB a ∨ fB a ∨ gC a) ∨ w.heap.size ≤ a) ∧ some a ≠ (v387 : Value).ownBlock ∧ some a ≠ (v398 : Value).ownBlock ∧ a ≠ T ∧ a ≠ D ∧ a ≠ U ∧ a ≠ X ∧ a ≠ W ∧ a ≠ z) (.slice tD cB.length aD) cB) := ⟨lX⟩
         have qD : Aside0 (xF.heap[T]? = some (.cells #[.int .i64 dD, .int .i64 eD, .string fD, .slice qF pC.length sF, .slice rF qC.length tF] 26 (0, 0))) := ⟨mX⟩
         have rD : Aside0 (xF.heap[D]? = some (.cells #[.int .i64 jC, .int .i64 kC, .slice dF eC.length mF, .slice sD mB.length uD, .slice tD cB.length aD] 33 (0, 0))) := ⟨nX⟩
         have tE : Aside0 (xF.heap[U]? = some (.cells #[.int .i64 a2] 3 (0, 0))) := ⟨oX⟩
         have lC : Aside0 (xF.heap[X]? = some (.cells #[.slice A4 l4.length c4] 38 (0, 0))) := ⟨fS⟩
         have mC : Aside0 (xF.heap[W]? = some (.cells #[.int .i64 zB, .int .i64 aC, .slice none 0 0, .slice none 0 0, .slice none 0 0] 33 (0, 0))) := ⟨gS⟩
         have rC : Aside0 (xF.heap[z]? = some (.cells #[.int .i64 0, .int .i64 0, .slice none 0 0, .slice none 0 0, .slice none 0 0] 33 (0, 0))) := ⟨hS⟩
         have cE : Aside0 (w.heap.size ≤ z) := ⟨iS⟩
         have rE : Aside0 (w.heap.size ≤ z) := ⟨jS⟩
         have sE : Aside0 (T ≠ z) := ⟨kS⟩
         have cG : Aside0 (z ≠ T) := ⟨lS⟩
         have gI : Aside0 (D ≠ z) := ⟨mS⟩
         have sJ : Aside0 (z ≠ D) := ⟨nS⟩
         have tJ : Aside0 (U ≠ z) := ⟨oS⟩
         have uJ : Aside0 (z ≠ U) := ⟨pS⟩
         have vJ : Aside0 (X ≠ z) := ⟨qS⟩
         have wJ : Aside0 (z ≠ X) := ⟨rS⟩
         have iL : Aside0 (W ≠ z) := ⟨sS⟩
         have jL : Aside0 (z ≠ W) := ⟨tS⟩
         have vN : Aside0 (Below w.heap.size w xF) := ⟨uS⟩
         clear gB; clear m; clear d; clear r; clear b; clear s; clear x; clear y; clear HB; clear fX gX hX iX jX kX lX mX nX oX fS gS hS iS jS kS lS mS nS oS pS qS rS sS tS uS; have gD := jD; have dE := kD; have nC := lD; have nG := mD; have gB := nD; have m := oD; have d := pD; have r := qD; have b := rD; have s := tE; have x := lC; have y := mC; have dB := rC; have fL := cE; have iC := rE; have sC := sE; have xD := cG; have Z := gI; have yD := sJ; have tC := tJ; have zD := uJ; have uC := vJ; have aE := wJ; have vC := iL; have bE := jL; have HB := vN; clear jD kD lD mD nD oD pD qD rD tE lC mC rC cE rE sE cG gI sJ tJ uJ vJ wJ iL jL vN
         have Y : xF.cell? ⟨D, 0, none⟩ = some (.int .i64 jC) ∧ xF.cell? ⟨D, 1, none⟩ = some (.int .i64 kC) ∧ xF.cell? ⟨D, 2, none⟩ = some (.slice dF eC.length mF) ∧ xF.cell? ⟨D, 3, none⟩ = some (.slice sD mB.length uD) ∧ xF.cell? ⟨D, 4, none⟩ = some (.slice tD cB.length aD) := m8
         obtain ⟨zS, vT, kQ⟩ := Kd.Cw nG.out
         (first | subst kQ | (injection kQ with f1_ f2_ f3_; have oG := f1_.symm; have pG := f3_.symm; clear f1_ f2_ f3_; subst oG; subst pG))
         obtain ⟨mI, pI, lQ⟩ := Kd.DU dE.out
         (first | subst lQ | (injection lQ with f1_ f2_ f3_; have oG := f1_.symm; have pG := f3_.symm; clear f1_ f2_ f3_; subst oG; subst pG))
         obtain ⟨bC, dC, mQ⟩ := Kd.Bw gD.out
         (first | subst mQ | (injection mQ with f1_ f2_ f3_; have oG := f1_.symm; have pG := f3_.symm; clear f1_ f2_ f3_; subst oG; subst pG))
         refine CB (a' := ?_) ?_ ?_
         rotate_left
         ·simp only [Eb, Act.put, List.setIfInBounds_toArray, List.set_cons_zero, List.set_cons_succ]
          rfl
         refine Cz (i := 11) (N := none) (tf 12 0) rfl rfl (Bq uB.out (by kernel_rfl)) (by decide) (fun K hK => ?_)
         have aDL : xF.cell? ⟨z, 0, none⟩ = some (.int .i64 0) := bc dB 0
         have jZ := AB dB.out 0
         have sV := sC.out; have tV := Z.out; have uV := tC.out; have vV := uC.out; have wV := vC.out; have nU := xD.out; have oU := yD.out; have pU := zD.out; have qU := aE.out; have rU := bE.out
         have aDM : xF.cell? ⟨z, 1, none⟩ = some (.int .i64 0) := bc dB 1
         have kZ := AB dB.out 1
         have xV := sC.out; have yV := Z.out; have zV := tC.out; have aW := uC.out; have bW := vC.out; have sU := xD.out; have tU := yD.out; have uU := zD.out; have vU := aE.out; have wU := bE.out
         have aDN : xF.cell? ⟨z, 2, none⟩ = some (.slice none 0 0) := bc dB 2
         have lZ := AB dB.out 2
         have cW := sC.out; have dW := Z.out; have eW := tC.out; have fW := uC.out; have gW := vC.out; have xU := xD.out; have yU := yD.out; have zU := zD.out; have aV := aE.out; have bV := bE.out
         have aDO : xF.cell? ⟨z, 3, none⟩ = some (.slice none 0 0) := bc dB 3
         have mZ := AB dB.out 3
         have hW := sC.out; have iW := Z.out; have jW := tC.out; have kW := uC.out; have lW := vC.out; have cV := xD.out; have dV := yD.out; have eV := zD.out; have fV := aE.out; have gV := bE.out
         have aDP : xF.cell? ⟨z, 4, none⟩ = some (.slice none 0 0) := bc dB 4
         have nZ := AB dB.out 4
         have mW := sC.out; have nW := Z.out; have oW := tC.out; have pW := uC.out; have qW := vC.out; have hV := xD.out; have iV := yD.out; have jV := zD.out; have kV := aE.out; have lV := bE.out
         refine Fh (w1 := ?_) (by rfl) rfl ?_ ?_
         rotate_left
         ·go_simp
          rfl
         refine hK.out _ _ ⟨((cell_far (p := ⟨z, _, none⟩) Z.out _).trans (((cell_far (p := ⟨z, _, none⟩) Z.out _).trans (((cell_far (p := ⟨z, _, none⟩) Z.out _).trans (((cell_far (p := ⟨z, _, none⟩) Z.out _).trans (((cell_far (p := ⟨z, _, none⟩) Z.out _).trans (Y.1)))))))))), ((cell_far (p := ⟨z, _, none⟩) Z.out _).trans (((cell_far (p := ⟨z, _, none⟩) Z.out _).trans (((cell_far (p := ⟨z, _, none⟩) Z.out _).trans (((cell_far (p := ⟨z, _, none⟩) Z.out _).trans (((cell_far (p := ⟨z, _, none⟩) Z.out _).trans (Y.2.1)))))))))), ((cell_far (p := ⟨z, _, none⟩) Z.out _).trans (((cell_far (p := ⟨z, _, none⟩) Z.out _).trans (((cell_far (p := ⟨z, _, none⟩) Z.out _).trans (((cell_far (p := ⟨z, _, none⟩) Z.out _).trans (((cell_far (p := ⟨z, _, none⟩) Z.out _).trans (Y.2.2.1)))))))))), ((cell_far (p := ⟨z, _, none⟩) Z.out _).trans (((cell_far (p := ⟨z, _, none⟩) Z.out _).trans (((cell_far (p := ⟨z, _, none⟩) Z.out _).trans (((cell_far (p := ⟨z, _, none⟩) Z.out _).trans (((cell_far (p := ⟨z, _, none⟩) Z.out _).trans (Y.2.2.2.1)))))))))), ((cell_far (p := ⟨z, _, none⟩) Z.out _).trans (((cell_far (p := ⟨z, _, none⟩) Z.out _).trans (((cell_far (p := ⟨z, _, none⟩) Z.out _).trans (((cell_far (p := ⟨z, _, none⟩) Z.out _).trans (((cell_far (p := ⟨z, _, none⟩) Z.out _).trans (Y.2.2.2.2))))))))))⟩ (fun Y => ?_)
         clear hK K
         refine DV (Ce uB.out (by kernel_rfl)) ?_
         try go_wp2
         go_loopg [122] wI (fun kq v122 w' => ∃ (u : Int) (cF : List (S63)) (u401004 : Value), v122 = .int .i64 u ∧ Aside0 (AJ.l2 kq l3 (l3.length : Int) u a2 l4 aH bH yB dG cF = some (r1, r2, r3, r4, r5, r6)) ∧ Aside0 (kq ≤ wI) ∧ Aside0 (Kd.V k30 30 w' w.heap.size (fun a => ((eB a ∨ fB a ∨ gC a) ∨ w.heap.size ≤ a) ∧ some a ≠ ((.slice bC yB.length dC) : Value).ownBlock ∧ some a ≠ (u401004 : Value).ownBlock ∧ a ≠ T ∧ a ≠ D ∧ a ≠ U ∧ a ≠ X ∧ a ≠ W ∧ a ≠ z) (.slice A3 l3.length c3) l3) ∧ Aside0 (Kd.V k30 30 w' w.heap.size (fun a => ((eB a ∨ fB a ∨ gC a) ∨ w.heap.size ≤ a) ∧ some a ≠ ((.slice bC yB.length dC) : Value).ownBlock ∧ some a ≠ (u401004 : Value).ownBlock ∧ a ≠ T ∧ a ≠ D ∧ a ≠ U ∧ a ≠ X ∧ a ≠ W ∧ a ≠ z) (.slice sD mB.length uD) mB) ∧ Aside0 (Kd.V k63 63 w' w.heap.size (fun a => ((eB a ∨ fB a ∨ gC a) ∨ w.heap.size ≤ a) ∧ some a ≠ ((.slice bC yB.length dC) : Value).ownBlock ∧ some a ≠ (u401004 : Value).ownBlock ∧ a ≠ T ∧ a ≠ D ∧ a ≠ U ∧ a ≠ X ∧ a ≠ W ∧ a ≠ z) (.slice tD cB.length aD) cB) ∧ Aside0 (Kd.R (Kd.int .u8) 73 w' w.heap.size (fun a => (w.heap.size ≤ a)) (.slice bC yB.length dC) yB) ∧ Aside0 (Kd.V k30 30 w' w.heap.size (fun a => ((eB a ∨ fB a ∨ gC a) ∨ w.heap.size ≤ a) ∧ some a ≠ ((.slice bC yB.length dC) : Value).ownBlock ∧ some a ≠ (u401004 : Value).ownBlock ∧ a ≠ T ∧ a ≠ D ∧ a ≠ U ∧ a ≠ X ∧ a ≠ W ∧ a ≠ z) (.slice mI dG.length pI) dG) ∧ Aside0 (Kd.N k63 63 w' w.heap.size (fun a => ((eB a ∨ fB a ∨ gC a) ∨ w.heap.size ≤ a) ∧ some a ≠ ((.slice bC yB.length dC) : Value).ownBlock ∧ a ≠ T ∧ a ≠ D ∧ a ≠ U ∧ a ≠ X ∧ a ≠ W ∧ a ≠ z) u401004 cF) ∧ Aside0 (w'.heap[T]? = some (.cells #[.int .i64 dD, .int .i64 eD, .string fD, (.slice qF pC.length sF), (.slice rF qC.length tF)] 26 (0, 0))) ∧ Aside0 (w'.heap[D]? = some (.cells #[.int .i64 jC, .int .i64 kC, (.slice dF eC.length mF), (.slice sD mB.length uD), (.slice tD cB.length aD)] 33 (0, 0))) ∧ Aside0 (w'.heap[U]? = some (.cells #[.int .i64 a2] 3 (0, 0))) ∧ Aside0 (w'.heap[X]? = some (.cells #[(.slice A4 l4.length c4)] 38 (0, 0))) ∧ Aside0 (w'.heap[W]? = some (.cells #[.int .i64 zB, .int .i64 aC, (.slice none 0 0), (.slice none 0 0), (.slice none 0 0)] 33 (0, 0))) ∧ Aside0 (w'.heap[z]? = some (.cells #[.int .i64 aH, .int .i64 bH, (.slice bC yB.length dC), (.slice mI dG.length pI), u401004] 33 (0, 0))) ∧ Aside0 (Below w.heap.size w w'))
         case atStart => exact ⟨(0), (hI), (.slice zS hI.length vT), rfl, H', ⟨Nat.le_refl _⟩, ⟨BH (Kd.AO (vI (q := z) (Kd.AO gB.out (fun a l => (⟨l, l.2.2.2.2.2.2.2.2⟩ : _ ∧ a ≠ z))) (fun _ l => l.2)) (fun _ l => ⟨l.1.1, ⟨l.1.2.1, ⟨l.1.2.2.1, ⟨l.1.2.2.2.1, ⟨l.1.2.2.2.2.1, ⟨l.1.2.2.2.2.2.1, ⟨l.1.2.2.2.2.2.2.1, ⟨l.1.2.2.2.2.2.2.2.1, l.1.2.2.2.2.2.2.2.2⟩⟩⟩⟩⟩⟩⟩⟩))⟩, ⟨BH (Kd.AO (vI (q := z) (Kd.AO m.out (fun a l => (⟨l, l.2.2.2.2.2.2.2.2⟩ : _ ∧ a ≠ z))) (fun _ l => l.2)) (fun _ l => ⟨l.1.1, ⟨l.1.2.1, ⟨l.1.2.2.1, ⟨l.1.2.2.2.1, ⟨l.1.2.2.2.2.1, ⟨l.1.2.2.2.2.2.1, ⟨l.1.2.2.2.2.2.2.1, ⟨l.1.2.2.2.2.2.2.2.1, l.1.2.2.2.2.2.2.2.2⟩⟩⟩⟩⟩⟩⟩⟩))⟩, ⟨BH (Kd.AO (vI (q := z) (Kd.AO d.out (fun a l => (⟨l, l.2.2.2.2.2.2.2.2⟩ : _ ∧ a ≠ z))) (fun _ l => l.2)) (fun _ l => ⟨l.1.1, ⟨l.1.2.1, ⟨l.1.2.2.1, ⟨l.1.2.2.2.1, ⟨l.1.2.2.2.2.1, ⟨l.1.2.2.2.2.2.1, ⟨l.1.2.2.2.2.2.2.1, ⟨l.1.2.2.2.2.2.2.2.1, l.1.2.2.2.2.2.2.2.2⟩⟩⟩⟩⟩⟩⟩⟩))⟩, ⟨DZ (Kd.BS (rI (q := z) (Kd.Ao gD.out dB.out (by decide)) (fun _ l => l.2)) (fun _ l => l.1))⟩, ⟨BH (Kd.AO (vI (q := z) (Kd.AO dE.out (fun a l => (⟨l, l.2.2.2.2.2.2.2.2⟩ : _ ∧ a ≠ z))) (fun _ l => l.2)) (fun _ l => ⟨l.1.1, ⟨l.1.2.1, ⟨l.1.2.2.1, ⟨l.1.2.2.2.1, ⟨l.1.2.2.2.2.1, ⟨l.1.2.2.2.2.2.1, ⟨l.1.2.2.2.2.2.2.1, ⟨l.1.2.2.2.2.2.2.2.1, l.1.2.2.2.2.2.2.2.2⟩⟩⟩⟩⟩⟩⟩⟩))⟩, ⟨Dt (Kd.Be (nI (q := z) (Kd.Be nG.out (fun a l => (⟨l, l.2.2.2.2.2.2.2⟩ : _ ∧ a ≠ z))) (fun _ l => l.2)) (fun _ l => ⟨l.1.1, ⟨l.1.2.1, ⟨l.1.2.2.1, ⟨l.1.2.2.2.1, ⟨l.1.2.2.2.2.1, ⟨l.1.2.2.2.2.2.1, ⟨l.1.2.2.2.2.2.2.1, l.1.2.2.2.2.2.2.2⟩⟩⟩⟩⟩⟩⟩))⟩, ⟨bF sC r⟩, ⟨bF Z b⟩, ⟨bF tC s⟩, ⟨bF uC x⟩, ⟨bF vC y⟩, ⟨pB dB⟩, ⟨be6 HB G I J L O iC⟩⟩
         case round =>
          clear H'
          try clear c1; try clear c3; try clear c4; try clear hL
          obtain ⟨u, cF, u401004, rfl, HA, bX, lE, m, d, wB, fC, jB, r, b, s, x, y, dB, HB⟩ := hrel
          cases gk with
          | zero => exact absurd HA.out (by simp [AJ.l2])
          | succ k5 =>
           have H := HA.out; clear HA
           simp only [AJ.l2] at H
           replace H := iD' H; obtain ⟨-, vR, H⟩ | ⟨-, vR, H⟩ := H
           ·simp only [Option.some.injEq, Prod.mk.injEq] at H
            obtain ⟨rfl, rfl, rfl, rfl, rfl, rfl⟩ := H
            have ⟨e2, o7⟩ := no xD sC; have ⟨g2, p7⟩ := no yD Z; have ⟨i2, q7⟩ := no zD tC; have ⟨m2, r7⟩ := no aE uC; have ⟨n2, y7⟩ := no bE vC
            have aEO := cells5 dB.out
            have ⟨o2, z7⟩ := no wD vD; have ⟨p2, a8⟩ := no cD bD; have ⟨q2, b8⟩ := no hE gE; have ⟨y2, d8⟩ := no gG fG
            have aEP := cells5 y.out
            obtain ⟨cT, yT, zT⟩ := Kd.Cw jB.out
            subst zT
            go_wp2
            refine bodyPost_ret (Dx rfl _ _ W 33 #[.int .i64 aH, .int .i64 bH, .slice bC yB.length dC, .slice mI dG.length pI, .slice cT cF.length yT] (0, 0) _ rfl (pB y) Try.underlying33 rfl (by kernel_rfl)) rfl ?_
            exact ⟨_, _, _, rfl, by exact DZ (Kd.BS (rI (q := W) (Kd.Ao wB.out y.out (by decide)) (fun _ l => l.2)) (fun _ l => l.1)), by exact BH (Kd.AO (vI (q := W) (Kd.AO fC.out (fun a l => (⟨l, l.2.2.2.2.2.2.2.1⟩ : _ ∧ a ≠ W))) (fun _ l => l.2)) (fun _ l => ⟨l.1.1, ⟨l.1.2.1, l.1.2.2.1⟩⟩)), by exact Dt (Kd.Be (nI (q := W) (Kd.Be jB.out (fun a l => (⟨l, l.2.2.2.2.2.2.1⟩ : _ ∧ a ≠ W))) (fun _ l => l.2)) (fun _ l => ⟨l.1.1, l.1.2.1⟩)), be6 HB G I J L O iC⟩
           replace H := iN H; obtain ⟨-, gZ, H⟩ := H
           replace H := iN H; obtain ⟨-, hZ, H⟩ := H
           replace H := iN H; obtain ⟨-, iZ, H⟩ := H
           replace H := Option.bind_eq_some_iff.mp H
           obtain ⟨⟨wM, xM, lI, yM⟩, aQ, H⟩ := H
           replace H : (if cF.length < 1954687338268 then (AJ.l2 k5 l3 (l3.length : Int) (wrap64 (u + 1)) a2 l4 aH bH yB dG (cF ++ [(⟨wrap64 (a2 + (rd l4 u)), (⟨wM, xM, lI, yM⟩ : S30)⟩ : S63)])) else (none)) = some (r1, r2, r3, r4, r5, r6) := H
           have yW := mk0 aQ; clear aQ
           by_cases c236 : cF.length < 1954687338268
           rotate_left
           ·rw [if_neg c236] at H
            exact absurd H (by simp)
           rw [if_pos c236] at H; have tR := mk0 c236; clear c236
           obtain ⟨rR, qM⟩ : ∃ y_ : List (S63), y_ = (cF ++ [(⟨wrap64 (a2 + (rd l4 u)), (⟨wM, xM, lI, yM⟩ : S30)⟩ : S63)]) := ⟨_, rfl⟩
           replace H : (AJ.l2 k5 l3 (l3.length : Int) (wrap64 (u + 1)) a2 l4 aH bH yB dG rR) = some (r1, r2, r3, r4, r5, r6) := by first | (rw [qM]; with_reducible exact H) | (have yN := (Option.bind_some _ _).symm.trans H; rw [qM]; with_reducible exact yN) | (have yN := (Option.bind_some _ _).symm.trans H; with_reducible exact yN) | with_reducible exact H | (rw [qM]; exact H) | exact H
           have fT := mk0 qM; clear qM
           have H' := mk0 H
           clear H
           have eP : 0 ≤ (u : Int) := od
           have fP : u < (l3.length : Int) := od
           obtain ⟨hT, wC, yC, xC, zC, dX, fY, gY, aR, bR, sN, qN, tN, rN⟩ := Da (Kd.AU lE.out).2.2 u eP fP
           cases dX
           obtain ⟨l8, xR, wR, jN⟩ := Kd.Fe lE.out z30 u eP (by first | exact fP | exact of_decide_eq_true (by assumption) | (have e_ := (Kd.AU lE.out).1; omega))
           obtain ⟨jY, lY, kY, mY, rfl, sM, jM, tM, kM⟩ := FC wR
           have vK := jN 2 _ rfl
           rw [BO _ _ 2 (by omega)] at vK
           replace vK := Option.some.inj (vK.symm.trans aR)
           injection vK with hva_ hvn_ hvc_
           rw [hva_] at jM
           rw [hvc_] at sM
           have jE := mk0 (show Kd.V (Kd.int .u8) 73 _ w.heap.size _ _ ((AC l3 u).f2) from Kd.Cu sM jM)
           clear hva_ hvn_ hvc_ jM sM
           have wK := jN 3 _ rfl
           rw [BO _ _ 3 (by omega)] at wK
           replace wK := Option.some.inj (wK.symm.trans bR)
           injection wK with hva_ hvn_ hvc_
           rw [hva_] at kM
           rw [hvc_] at tM
           have kE := mk0 (show Kd.V k30 30 _ w.heap.size _ _ ((AC l3 u).f3) from Kd.Cu tM kM)
           clear hva_ hvn_ hvc_ kM tM; clear jN xR; have nN := mk0 qN; have bQ := mk0 sN; clear qN sN; have oN := mk0 rN; have aX := mk0 tN; clear rN tN; replace eP := eq_true eP; replace fP := eq_true fP
           try go_wp2_with ((with_reducible refine AP rfl (N := 20) rfl (cs := #[.int .i64 0, .int .i64 0, .slice none 0 0, .slice none 0 0]) (t := 30) ?hr ?_); (case hr => first | (go_simp; done) | (go_simp; rfl)); intro B hg yG mE hb; obtain ⟨lE, m, d, fC, jB, jE, kE⟩ := tg7 hg hb lE m d fC jB jE kE; obtain ⟨wB, nN, oN⟩ := tb3 hb wB nN oN; have cC := mk0 (mE); have iI := bs (be6 HB G I J L O iC) hg; replace HB := kh6 HB G I J L O iC hb; have ⟨yL, lO⟩ := nn r hg; have ⟨zL, mO⟩ := nn b hg; have ⟨aM, nO⟩ := nn s hg; have ⟨bM, oO⟩ := nn x hg; have ⟨cM, pO⟩ := nn y hg; have ⟨fK, dM⟩ := nn dB hg; obtain ⟨r, b, s, x, y, dB⟩ := tb6 hb r b s x y dB; clear hb mE hg; have ⟨p1, g7⟩ := no lO yL; have ⟨q1, i7⟩ := no mO zL; have ⟨y1, j7⟩ := no nO aM; have ⟨z1, l7⟩ := no oO bM; have ⟨b2, m7⟩ := no pO cM; have ⟨d2, n7⟩ := no dM fK; have aEN := BF cC.out)
           have jD : Aside0 (Kd.V k30 30 ((((yG.setCell ⟨B, 0, none⟩ (.int .i64 ((AC l3 u).f0))).setCell ⟨B, 1, none⟩ (.int .i64 ((AC l3 u).f1))).setCell ⟨B, 2, none⟩ (.slice wC ((AC l3 u).f2).length yC)).setCell ⟨B, 3, none⟩ (.slice xC ((AC l3 u).f3).length zC)) w.heap.size (fun a => ((eB a ∨ fB a ∨ gC a) ∨ w.heap.size ≤ a) ∧ some a ≠ (.slice bC yB.length dC : Value).ownBlock ∧ some a ≠ (u401004 : Value).ownBlock ∧ a ≠ T ∧ a ≠ D ∧ a ≠ U ∧ a ≠ X ∧ a ≠ W ∧ a ≠ z ∧ a ≠ B) (.slice (some hT) l3.length c3) l3) := ⟨BH (Kd.AO (vI (q := B) (Kd.AO lE.out (fun a l => (⟨l, l.2⟩ : _ ∧ a ≠ B))) (fun _ l => l.2)) (fun _ l => ⟨l.1.1.1, ⟨l.1.1.2.1, ⟨l.1.1.2.2.1, ⟨l.1.1.2.2.2.1, ⟨l.1.1.2.2.2.2.1, ⟨l.1.1.2.2.2.2.2.1, ⟨l.1.1.2.2.2.2.2.2.1, ⟨l.1.1.2.2.2.2.2.2.2.1, ⟨l.1.1.2.2.2.2.2.2.2.2, l.1.2⟩⟩⟩⟩⟩⟩⟩⟩⟩))⟩
           have kD : Aside0 (Kd.V k30 30 ((((yG.setCell ⟨B, 0, none⟩ (.int .i64 ((AC l3 u).f0))).setCell ⟨B, 1, none⟩ (.int .i64 ((AC l3 u).f1))).setCell ⟨B, 2, none⟩ (.slice wC ((AC l3 u).f2).length yC)).setCell ⟨B, 3, none⟩ (.slice xC ((AC l3 u).f3).length zC)) w.heap.size (fun a => ((eB a ∨ fB a ∨ gC a) ∨ w.heap.size ≤ a) ∧ some a ≠ (.slice bC yB.length dC : Value).ownBlock ∧ some a ≠ (u401004 : Value).ownBlock ∧ a ≠ T ∧ a ≠ D ∧ a ≠ U ∧ a ≠ X ∧ a ≠ W ∧ a ≠ z ∧ a ≠ B) (.slice sD mB.length uD) mB) := ⟨BH (Kd.AO (vI (q := B) (Kd.AO m.out (fun a l => (⟨l, l.2⟩ : _ ∧ a ≠ B))) (fun _ l => l.2)) (fun _ l => ⟨l.1.1.1, ⟨l.1.1.2.1, ⟨l.1.1.2.2.1, ⟨l.1.1.2.2.2.1, ⟨l.1.1.2.2.2.2.1, ⟨l.1.1.2.2.2.2.2.1, ⟨l.1.1.2.2.2.2.2.2.1, ⟨l.1.1.2.2.2.2.2.2.2.1, ⟨l.1.1.2.2.2.2.2.2.2.2, l.1.2⟩⟩⟩⟩⟩⟩⟩⟩⟩))⟩
           have lD : Aside0 (Kd.V k63 63 ((((yG.setCell ⟨B, 0, none⟩ (.int .i64 ((AC l3 u).f0))).setCell ⟨B, 1, none⟩ (.int .i64 ((AC l3 u).f1))).setCell ⟨B, 2, none⟩ (.slice wC ((AC l3 u).f2).length yC)).setCell ⟨B, 3, none⟩ (.slice xC ((AC l3 u).f3).length zC)) w.heap.size (fun a => ((eB a ∨ fB a ∨ gC a) ∨ w.heap.size ≤ a) ∧ some a ≠ (.slice bC yB.length dC : Value).ownBlock ∧ some a ≠ (u401004 : Value).ownBlock ∧ a ≠ T ∧ a ≠ D ∧ a ≠ U ∧ a ≠ X ∧ a ≠ W ∧ a ≠ z ∧ a ≠ B) (.slice tD cB.length aD) cB) := ⟨BH (Kd.AO (vI (q := B) (Kd.AO d.out (fun a l => (⟨l, l.2⟩ : _ ∧ a ≠ B))) (fun _ l => l.2)) (fun _ l => ⟨l.1.1.1, ⟨l.1.1.2.1, ⟨l.1.1.2.2.1, ⟨l.1.1.2.2.2.1, ⟨l.1.1.2.2.2.2.1, ⟨l.1.1.2.2.2.2.2.1, ⟨l.1.1.2.2.2.2.2.2.1, ⟨l.1.1.2.2.2.2.2.2.2.1, ⟨l.1.1.2.2.2.2.2.2.2.2, l.1.2⟩⟩⟩⟩⟩⟩⟩⟩⟩))⟩
           have mD : Aside0 (Kd.R (Kd.int .u8) 73 ((((yG.setCell ⟨B, 0, none⟩ (.int .i64 ((AC l3 u).f0))).setCell ⟨B, 1, none⟩ (.int .i64 ((AC l3 u).f1))).setCell ⟨B, 2, none⟩ (.slice wC ((AC l3 u).f2).length yC)).setCell ⟨B, 3, none⟩ (.slice xC ((AC l3 u).f3).length zC)) w.heap.size (fun a => (w.heap.size ≤ a)) (.slice bC yB.length dC) yB) := ⟨DZ (Kd.BS (rI (q := B) (Kd.Ao wB.out cC.out (by decide)) (fun _ l => l.2)) (fun _ l => l.1))⟩
           have nD : Aside0 (Kd.V k30 30 ((((yG.setCell ⟨B, 0, none⟩ (.int .i64 ((AC l3 u).f0))).setCell ⟨B, 1, none⟩ (.int .i64 ((AC l3 u).f1))).setCell ⟨B, 2, none⟩ (.slice wC ((AC l3 u).f2).length yC)).setCell ⟨B, 3, none⟩ (.slice xC ((AC l3 u).f3).length zC)) w.heap.size (fun a => ((eB a ∨ fB a ∨ gC a) ∨ w.heap.size ≤ a) ∧ some a ≠ (.slice bC yB.length dC : Value).ownBlock ∧ some a ≠ (u401004 : Value).ownBlock ∧ a ≠ T ∧ a ≠ D ∧ a ≠ U ∧ a ≠ X ∧ a ≠ W ∧ a ≠ z ∧ a ≠ B) (.slice mI dG.length pI) dG) := ⟨BH (Kd.AO (vI (q := B) (Kd.AO fC.out (fun a l => (⟨l, l.2⟩ : _ ∧ a ≠ B))) (fun _ l => l.2)) (fun _ l => ⟨l.1.1.1, ⟨l.1.1.2.1, ⟨l.1.1.2.2.1, ⟨l.1.1.2.2.2.1, ⟨l.1.1.2.2.2.2.1, ⟨l.1.1.2.2.2.2.2.1, ⟨l.1.1.2.2.2.2.2.2.1, ⟨l.1.1.2.2.2.2.2.2.2.1, ⟨l.1.1.2.2.2.2.2.2.2.2, l.1.2⟩⟩⟩⟩⟩⟩⟩⟩⟩))⟩
           have oD : Aside0 (Kd.N k63 63 ((((yG.setCell ⟨B, 0, none⟩ (.int .i64 ((AC l3 u).f0))).setCell ⟨B, 1, none⟩ (.int .i64 ((AC l3 u).f1))).setCell ⟨B, 2, none⟩ (.slice wC ((AC l3 u).f2).length yC)).setCell ⟨B, 3, none⟩ (.slice xC ((AC l3 u).f3).length zC)) w.heap.size (fun a => ((eB a ∨ fB a ∨ gC a) ∨ w.heap.size ≤ a) ∧ some a ≠ (.slice bC yB.length dC : Value).ownBlock ∧ a ≠ T ∧ a ≠ D ∧ a ≠ U ∧ a ≠ X ∧ a ≠ W ∧ a ≠ z ∧ a ≠ B) u401004 cF) := ⟨Dt (Kd.Be (nI (q := B) (Kd.Be jB.out (fun a l => (⟨l, l.2⟩ : _ ∧ a ≠ B))) (fun _ l => l.2)) (fun _ l => ⟨l.1.1.1, ⟨l.1.1.2.1, ⟨l.1.1.2.2.1, ⟨l.1.1.2.2.2.1, ⟨l.1.1.2.2.2.2.1, ⟨l.1.1.2.2.2.2.2.1, ⟨l.1.1.2.2.2.2.2.2.1, ⟨l.1.1.2.2.2.2.2.2.2, l.1.2⟩⟩⟩⟩⟩⟩⟩⟩))⟩
           have pD : Aside0 (Kd.V (Kd.int .u8) 73 ((((yG.setCell ⟨B, 0, none⟩ (.int .i64 ((AC l3 u).f0))).setCell ⟨B, 1, none⟩ (.int .i64 ((AC l3 u).f1))).setCell ⟨B, 2, none⟩ (.slice wC ((AC l3 u).f2).length yC)).setCell ⟨B, 3, none⟩ (.slice xC ((AC l3 u).f3).length zC)) w.heap.size (fun a => ((eB a ∨ fB a ∨ gC a) ∨ w.heap.size ≤ a) ∧ some a ≠ (.slice bC yB.length dC : Value).ownBlock ∧ some a ≠ (u401004 : Value).ownBlock ∧ a ≠ T ∧ a ≠ D ∧ a ≠ U ∧ a ≠ X ∧ a ≠ W ∧ a ≠ z ∧ a ≠ B) (.slice wC ((AC l3 u).f2).length yC) ((AC l3 u).f2)) := ⟨BH (Kd.AO (vI (q := B) (Kd.AO jE.out (fun a l => (⟨l, l.2⟩ : _ ∧ a ≠ B))) (fun _ l => l.2)) (fun _ l => ⟨l.1.1.1, ⟨l.1.1.2.1, ⟨l.1.1.2.2.1, ⟨l.1.1.2.2.2.1, ⟨l.1.1.2.2.2.2.1, ⟨l.1.1.2.2.2.2.2.1, ⟨l.1.1.2.2.2.2.2.2.1, ⟨l.1.1.2.2.2.2.2.2.2.1, ⟨l.1.1.2.2.2.2.2.2.2.2, l.1.2⟩⟩⟩⟩⟩⟩⟩⟩⟩))⟩
           have qD : Aside0 (Kd.V k30 30 ((((yG.setCell ⟨B, 0, none⟩ (.int .i64 ((AC l3 u).f0))).setCell ⟨B, 1, none⟩ (.int .i64 ((AC l3 u).f1))).setCell ⟨B, 2, none⟩ (.slice wC ((AC l3 u).f2).length yC)).setCell ⟨B, 3, none⟩ (.slice xC ((AC l3 u).f3).length zC)) w.heap.size (fun a => ((eB a ∨ fB a ∨ gC a) ∨ w.heap.size ≤ a) ∧ some a ≠ (.slice bC yB.length dC : Value).ownBlock ∧ some a ≠ (u401004 : Value).ownBlock ∧ a ≠ T ∧ a ≠ D ∧ a ≠ U ∧ a ≠ X ∧ a ≠ W ∧ a ≠ z ∧ a ≠ B) (.slice xC ((AC l3 u).f3).length zC) ((AC l3 u).f3)) := ⟨BH (Kd.AO (vI (q := B) (Kd.AO kE.out (fun a l => (⟨l, l.2⟩ : _ ∧ a ≠ B))) (fun _ l => l.2)) (fun _ l => ⟨l.1.1.1, ⟨l.1.1.2.1, ⟨l.1.1.2.2.1, ⟨l.1.1.2.2.2.1, ⟨l.1.1.2.2.2.2.1, ⟨l.1.1.2.2.2.2.2.1, ⟨l.1.1.2.2.2.2.2.2.1, ⟨l.1.1.2.2.2.2.2.2.2.1, ⟨l.1.1.2.2.2.2.2.2.2.2, l.1.2⟩⟩⟩⟩⟩⟩⟩⟩⟩))⟩
           have rD : Aside0 (((((yG.setCell ⟨B, 0, none⟩ (.int .i64 ((AC l3 u).f0))).setCell ⟨B, 1, none⟩ (.int .i64 ((AC l3 u).f1))).setCell ⟨B, 2, none⟩ (.slice wC ((AC l3 u).f2).length yC)).setCell ⟨B, 3, none⟩ (.slice xC ((AC l3 u).f3).length zC)).heap[T]? = some (.cells #[.int .i64 dD, .int .i64 eD, .string fD, .slice qF pC.length sF, .slice rF qC.length tF] 26 (0, 0))) := ⟨bF yL r⟩
           have tE : Aside0 (((((yG.setCell ⟨B, 0, none⟩ (.int .i64 ((AC l3 u).f0))).setCell ⟨B, 1, none⟩ (.int .i64 ((AC l3 u).f1))).setCell ⟨B, 2, none⟩ (.slice wC ((AC l3 u).f2).length yC)).setCell ⟨B, 3, none⟩ (.slice xC ((AC l3 u).f3).length zC)).heap[D]? = some (.cells #[.int .i64 jC, .int .i64 kC, .slice dF eC.length mF, .slice sD mB.length uD, .slice tD cB.length aD] 33 (0, 0))) := ⟨bF zL b⟩
           have lC : Aside0 (((((yG.setCell ⟨B, 0, none⟩ (.int .i64 ((AC l3 u).f0))).setCell ⟨B, 1, none⟩ (.int .i64 ((AC l3 u).f1))).setCell ⟨B, 2, none⟩ (.slice wC ((AC l3 u).f2).length yC)).setCell ⟨B, 3, none⟩ (.slice xC ((AC l3 u).f3).length zC)).heap[U]? = some (.cells #[.int .i64 a2] 3 (0, 0))) := ⟨bF aM s⟩
           have mC : Aside0 (((((yG.setCell ⟨B, 0, none⟩ (.int .i64 ((AC l3 u).f0))).setCell ⟨B, 1, none⟩ (.int .i64 ((AC l3 u).f1))).setCell ⟨B, 2, none⟩ (.slice wC ((AC l3 u).f2).length yC)).setCell ⟨B, 3, none⟩ (.slice xC ((AC l3 u).f3).length zC)).heap[X]? = some (.cells #[.slice A4 l4.length c4] 38 (0, 0))) := ⟨bF bM x⟩
           have rC : Aside0 (((((yG.setCell ⟨B, 0, none⟩ (.int .i64 ((AC l3 u).f0))).setCell ⟨B, 1, none⟩ (.int .i64 ((AC l3 u).f1))).setCell ⟨B, 2, none⟩ (.slice wC ((AC l3 u).f2).length yC)).setCell ⟨B, 3, none⟩ (.slice xC ((AC l3 u).f3).length zC)).heap[W]? = some (.cells #[.int .i64 zB, .int .i64 aC, .slice none 0 0, .slice none 0 0, .slice none 0 0] 33 (0, 0))) := ⟨bF cM y⟩
           have cE : Aside0 (((((yG.setCell ⟨B, 0, none⟩ (.int .i64 ((AC l3 u).f0))).setCell ⟨B, 1, none⟩ (.int .i64 ((AC l3 u).f1))).setCell ⟨B, 2, none⟩ (.slice wC ((AC l3 u).f2).length yC)).setCell ⟨B, 3, none⟩ (.slice xC ((AC l3 u).f3).length zC)).heap[z]? = some (.cells #[.int .i64 aH, .int .i64 bH, .slice bC yB.length dC, .slice mI dG.length pI, u401004] 33 (0, 0))) := ⟨bF fK dB⟩
           have rE : Aside0 (((((yG.setCell ⟨B, 0, none⟩ (.int .i64 ((AC l3 u).f0))).setCell ⟨B, 1, none⟩ (.int .i64 ((AC l3 u).f1))).setCell ⟨B, 2, none⟩ (.slice wC ((AC l3 u).f2).length yC)).setCell ⟨B, 3, none⟩ (.slice xC ((AC l3 u).f3).length zC)).heap[B]? = some (.cells #[.int .i64 ((AC l3 u).f0), .int .i64 ((AC l3 u).f1), .slice wC ((AC l3 u).f2).length yC, .slice xC ((AC l3 u).f3).length zC] 30 (0, 0))) := ⟨pB cC⟩
           have sE : Aside0 (Below w.heap.size w ((((yG.setCell ⟨B, 0, none⟩ (.int .i64 ((AC l3 u).f0))).setCell ⟨B, 1, none⟩ (.int .i64 ((AC l3 u).f1))).setCell ⟨B, 2, none⟩ (.slice wC ((AC l3 u).f2).length yC)).setCell ⟨B, 3, none⟩ (.slice xC ((AC l3 u).f3).length zC))) := ⟨be7 HB G I J L O iC iI⟩
           try clear lE
           try clear m
           try clear d
           try clear wB
           try clear fC
           try clear jB
           try clear jE
           try clear kE
           try clear r
           try clear b
           try clear s
           try clear x
           try clear y
           try clear dB
           try clear cC
           try clear HB
           generalize ((((yG.setCell ⟨B, 0, none⟩ (.int .i64 ((AC l3 u).f0))).setCell ⟨B, 1, none⟩ (.int .i64 ((AC l3 u).f1))).setCell ⟨B, 2, none⟩ (.slice wC ((AC l3 u).f2).length yC)).setCell ⟨B, 3, none⟩ (.slice xC ((AC l3 u).f3).length zC)) = qY at jD kD lD mD nD oD pD qD rD tE lC mC rC cE rE sE ⊢
           have lE := jD; have m := kD; have d := lD; have wB := mD; have fC := nD; have jB := oD; have jE := pD; have kE := qD; have r := rD; have b := tE; have s := lC; have x := mC; have y := rC; have dB := cE; have cC := rE; have HB := sE; clear jD kD lD mD nD oD pD qD rD tE lC mC rC cE rE sE
           have jD := mk0 (Kd.BU lE.out)
           have kD := mk0 (Kd.BU m.out)
           have lD := mk0 (Kd.BU d.out)
           have mD := mk0 (Kd.DT wB.out)
           have nD := mk0 (Kd.BU fC.out)
           have oD := mk0 (Kd.CU jB.out)
           have pD := mk0 (Kd.BU jE.out)
           have qD := mk0 (Kd.BU kE.out)
           have rD := mk0 (AV r.out)
           have tE := mk0 (AV b.out)
           have lC := mk0 (AV s.out)
           have mC := mk0 (AV x.out)
           have rC := mk0 (AV y.out)
           have cE := mk0 (AV dB.out)
           have rE := mk0 (AV cC.out)
           have sE := mk0 (Aa HB.out)
           clear lE; clear m; clear d; clear wB; clear fC; clear jB; clear jE; clear kE; clear r; clear b; clear s; clear x; clear y; clear dB; clear cC; clear HB; have lE := jD; have m := kD; have d := lD; have wB := mD; have fC := nD; have jB := oD; have jE := pD; have kE := qD; have r := rD; have b := tE; have s := lC; have x := mC; have y := rC; have dB := cE; have cC := rE; have HB := sE; clear jD kD lD mD nD oD pD qD rD tE lC mC rC cE rE sE
           have cR : 0 ≤ (u : Int) := od
           have eR : u < (l4.length : Int) := od
           obtain ⟨eM, eX, xK⟩ := Kd.Cj eT.out u cR eR
           have oJ := xK; cases eX
           replace xK := AX HB.out xK
           replace cR := eq_true cR; replace eR := eq_true eR
           refine Ch (n := 15) (S := fun w' => w'.cell? ⟨z, 0, none⟩ = some (.int .i64 aH) ∧ w'.cell? ⟨z, 1, none⟩ = some (.int .i64 bH) ∧ w'.cell? ⟨z, 2, none⟩ = some (.slice bC yB.length dC) ∧ w'.cell? ⟨z, 3, none⟩ = some (.slice mI dG.length pI) ∧ w'.cell? ⟨z, 4, none⟩ = some (u401004) ∧ w'.cell? ⟨U, 0, none⟩ = some (.int .i64 a2) ∧ w'.cell? ⟨X, 0, none⟩ = some (.slice (some eM) l4.length c4) ∧ w'.cell? ⟨B, 0, none⟩ = some (.int .i64 ((AC l3 u).f0)) ∧ w'.cell? ⟨B, 1, none⟩ = some (.int .i64 ((AC l3 u).f1)) ∧ w'.cell? ⟨B, 2, none⟩ = some (.slice wC ((AC l3 u).f2).length yC) ∧ w'.cell? ⟨B, 3, none⟩ = some (.slice xC ((AC l3 u).f3).length zC) ∧ w'.cell? (eM.add (u).toNat) = some (.int .i64 (rd l4 u))) (ds := [14]) (tf 0 15) (by kernel_rfl) rfl rfl ⟨bc dB 0, bc dB 1, bc dB 2, bc dB 3, bc dB 4, bc s 0, bc x 0, bc cC 0, bc cC 1, bc cC 2, bc cC 3, (AX HB.out oJ)⟩ (fun Y => ?_); refine Bl AJ.Pj AJ.Ox (fun uB oI => ?_)
           generalize qY.drew = aFP at lE m d wB fC jB jE kE r b s x y dB cC HB xK Y ⊢
           refine pv 0 127 (tf 1 14) uB ?_
           refine pv 4 131 #[true, false, false, false, true, false, false, false, false, false, false, false, false, false, false] uB ?_
           refine BR (i := 1) (N := some 128) (v := ?_) (a' := ?_) #[true, true, false, false, true, false, false, false, false, false, false, false, false, false, false] rfl rfl (Ae uB.out oI.out (by kernel_rfl)) (fun _ _ _ h => h) (Or.inl ⟨by rfl, ?_⟩) Y ?_ ?_
           rotate_left
           ·rintro w' ⟨s0, s1, s2, s3, s4, s5, s6, s7, s8, s9, kL, lL⟩
            go_simp
            with_reducible rfl
           rotate_left
           ·simp only [ps]
            rfl
           refine BR (i := 2) (N := some 129) (v := ?_) (a' := ?_) #[true, true, true, false, true, false, false, false, false, false, false, false, false, false, false] rfl rfl (Ae uB.out oI.out (by kernel_rfl)) (fun _ _ _ h => h) (Or.inl ⟨by rfl, ?_⟩) Y ?_ ?_
           rotate_left
           ·rintro w' ⟨s0, s1, s2, s3, s4, s5, s6, s7, s8, s9, kL, lL⟩
            go_simp
            with_reducible rfl
           rotate_left
           ·simp only [ps]
            rfl
           refine BR (i := 3) (N := some 130) (v := ?_) (a' := ?_) (tf 5 10) rfl rfl (Ae uB.out oI.out (by kernel_rfl)) (fun _ _ _ h => h) (Or.inl ⟨by rfl, ?_⟩) Y ?_ ?_
           rotate_left
           ·rintro w' ⟨s0, s1, s2, s3, s4, s5, s6, s7, s8, s9, kL, lL⟩
            go_simp
            with_reducible rfl
           rotate_left
           ·simp only [ps]
            rfl
           refine pv 5 132 (tf 6 9) uB ?_
           refine BR (i := 6) (N := some 133) (v := ?_) (a' := ?_) (tf 7 8) rfl rfl (Ae uB.out oI.out (by kernel_rfl)) (fun _ _ _ h => h) (Or.inl ⟨by rfl, ?_⟩) Y ?_ ?_
           rotate_left
           ·rintro w' ⟨s0, s1, s2, s3, s4, s5, s6, s7, s8, s9, kL, lL⟩
            go_simp
            with_reducible rfl
           rotate_left
           ·simp only [ps]
            rfl
           refine pv 7 134 (tf 8 7) uB ?_
           refine BR (i := 8) (N := some 135) (v := ?_) (a' := ?_) (tf 9 6) rfl rfl (Ae uB.out oI.out (by kernel_rfl)) (fun _ _ _ h => h) (Or.inl ⟨by rfl, ?_⟩) Y ?_ ?_
           rotate_left
           ·rintro w' ⟨s0, s1, s2, s3, s4, s5, s6, s7, s8, s9, kL, lL⟩
            go_simp
            with_reducible rfl
           rotate_left
           ·simp only [ps]
            rfl
           refine Cz (i := 9) (N := some 136) (tf 10 5) rfl rfl (Bq uB.out (by kernel_rfl)) (by decide) (fun K hK => ?_)
           refine Cg Try.func51 (by kernel_rfl) rfl #[.agg #[.int .i64 ((AC l3 u).f0), .int .i64 ((AC l3 u).f1), .slice wC ((AC l3 u).f2).length yC, .slice xC ((AC l3 u).f3).length zC]] (by rfl) rfl rfl (by (try simp only [List.map_toArray, List.map_cons, List.map_nil]); first | done | rfl | (simp only [List.length_drop, List.length_take]; rfl)) ?_
           with_reducible refine (drivers_copied.calls ((AC l3 u).f0) ((AC l3 u).f1) _ _ ((AC l3 u).f2) (fun a => (((eB a ∨ fB a ∨ gC a) ∨ w.heap.size ≤ a) ∧ (some a ≠ (.slice bC yB.length dC : Value).ownBlock ∧ (some a ≠ (u401004 : Value).ownBlock ∧ (a ≠ T ∧ (a ≠ D ∧ (a ≠ U ∧ (a ≠ X ∧ (a ≠ W ∧ (a ≠ z ∧ a ≠ B)))))))))) _ _ ((AC l3 u).f3) wM xM lI yM _ ?side1 ?side2 ?side3 yW.out).mono ?_
           (case side1 => exact ((Kd.AU (Br jE.out)).2.2))
           (case side2 => exact bQ.out)
           (case side3 => exact kE.out)
           rintro e aFQ ⟨v407, v410, rfl, nE, uN, hb⟩
           refine ⟨_, rfl, ?_⟩
           have jD := mk0 (Kd.BX (Br lE.out) (Kd.Bf nE) hb)
           have kD := mk0 (Kd.BX (Br m.out) (Kd.Bf nE) hb)
           have lD := mk0 (Kd.BX (Br d.out) (Kd.Bf nE) hb)
           have mD := mk0 (Kd.Fg (DJ wB.out) (Kd.Bf nE) hb)
           have nD := mk0 (Kd.BX (Br fC.out) (Kd.Bf nE) hb)
           have oD := mk0 (Kd.DW (EI jB.out) (Kd.Bf nE) hb)
           have pD := mk0 (Kd.BX (Br jE.out) (Kd.Bf nE) hb)
           have qD := mk0 (Kd.BX (Br kE.out) (Kd.Bf nE) hb)
           have rD := mk0 (Kd.Cm (Kd.FX (Kd.ET (M := fun a => (w.heap.size ≤ a)) (Kd.BS (ok' := fun a => True) nE (fun _ hD => trivial)) (AZ (be7 HB G I J L O iC iI)) (fun a h_ => h_)) (Kd.Ew (DJ wB.out))) (AZ (be7 HB G I J L O iC iI)))
           have tE := mk0 (Kd.Ej (Kd.AO (ok' := fun a => ((eB a ∨ fB a ∨ gC a) ∨ w.heap.size ≤ a) ∧ some a ≠ (v407 : Value).ownBlock ∧ some a ≠ (.slice bC yB.length dC : Value).ownBlock ∧ some a ≠ (u401004 : Value).ownBlock ∧ a ≠ T ∧ a ≠ D ∧ a ≠ U ∧ a ≠ X ∧ a ≠ W ∧ a ≠ z ∧ a ≠ B) uN (fun a hD => ⟨Or.elim hD.1 (fun tB => tB.1) (fun sB => (.inr (Nat.le_trans (AZ (be7 HB G I J L O iC iI)) sB))), hD.2, Or.elim hD.1 (fun tB => tB.2.1) (fun sB => (Kd.fresh' (Kd.Ew (DJ wB.out)) a sB)), Or.elim hD.1 (fun tB => tB.2.2.1) (fun sB => (Kd.fresh' (Kd.Np (EI jB.out)) a sB)), Or.elim hD.1 (fun tB => tB.2.2.2.1) (fun sB => (Kd.BG (g := T) (o := .cells #[.int .i64 dD, .int .i64 eD, .string fD, .slice qF pC.length sF, .slice rF qC.length tF] 26 (0, 0)) (Af r.out) a sB)), Or.elim hD.1 (fun tB => tB.2.2.2.2.1) (fun sB => (Kd.BG (g := D) (o := .cells #[.int .i64 jC, .int .i64 kC, .slice dF eC.length mF, .slice sD mB.length uD, .slice tD cB.length aD] 33 (0, 0)) (Af b.out) a sB)), Or.elim hD.1 (fun tB => tB.2.2.2.2.2.1) (fun sB => (Kd.BG (g := U) (o := .cells #[.int .i64 a2] 3 (0, 0)) (Af s.out) a sB)), Or.elim hD.1 (fun tB => tB.2.2.2.2.2.2.1) (fun sB => (Kd.BG (g := X) (o := .cells #[.slice (some eM) l4.length c4] 38 (0, 0)) (Af x.out) a sB)), Or.elim hD.1 (fun tB => tB.2.2.2.2.2.2.2.1) (fun sB => (Kd.BG (g := W) (o := .cells #[.int .i64 zB, .int .i64 aC, .slice none 0 0, .slice none 0 0, .slice none 0 0] 33 (0, 0)) (Af y.out) a sB)), Or.elim hD.1 (fun tB => tB.2.2.2.2.2.2.2.2.1) (fun sB => (Kd.BG (g := z) (o := .cells #[.int .i64 aH, .int .i64 bH, .slice bC yB.length dC, .slice mI dG.length pI, u401004] 33 (0, 0)) (Af dB.out) a sB)), Or.elim hD.1 (fun tB => tB.2.2.2.2.2.2.2.2.2) (fun sB => (Kd.BG (g := B) (o := .cells #[.int .i64 ((AC l3 u).f0), .int .i64 ((AC l3 u).f1), .slice wC ((AC l3 u).f2).length yC, .slice xC ((AC l3 u).f3).length zC] 30 (0, 0)) (Af cC.out) a sB))⟩)) (AZ (be7 HB G I J L O iC iI)))
           have lC := kb r hb
           have mC := kb b hb
           have rC := kb s hb
           have cE := kb x hb
           have rE := kb y hb
           have sE := kb dB hb
           have cG := kb cC hb
           have gI := kh7 HB G I J L O iC iI hb
           clear lE; clear m; clear d; clear wB; clear fC; clear jB; clear jE; clear kE; clear r; clear b; clear s; clear x; clear y; clear dB; clear cC; clear HB; have lE := jD; have m := kD; have d := lD; have wB := mD; have fC := nD; have jB := oD; have jE := pD; have kE := qD; have aN := rD; have gL := tE; have r := lC; have b := mC; have s := rC; have x := cE; have y := rE; have dB := sE; have cC := cG; have HB := gI; clear jD kD lD mD nD oD pD qD rD tE lC mC rC cE rE sE cG gI
           try clear hb
           try clear l
           try clear hi
           try clear nE
           try clear uN
           obtain ⟨aT, wT, nQ⟩ := Kd.DU gL.out
           (first | subst nQ | (injection nQ with f1_ f2_ f3_; have oG := f1_.symm; have pG := f3_.symm; clear f1_ f2_ f3_; subst oG; subst pG))
           obtain ⟨yI, zI, oQ⟩ := Kd.Bw aN.out
           (first | subst oQ | (injection oQ with f1_ f2_ f3_; have oG := f1_.symm; have pG := f3_.symm; clear f1_ f2_ f3_; subst oG; subst pG))
           refine hK.out _ _ ⟨bc dB 0, bc dB 1, bc dB 2, bc dB 3, bc dB 4, bc s 0, bc x 0, bc cC 0, bc cC 1, bc cC 2, bc cC 3, (AX HB.out oJ)⟩ (fun Y => ?_)
           clear hK K
           refine CB (a' := ?_) ?_ ?_
           rotate_left
           ·show Act.put _ (some 136) _ = _
            simp only [ps]
            rfl
           refine pv 10 137 (tf 11 4) uB ?_
           refine Cz (i := 11) (N := some 138) (tf 12 3) rfl rfl (Bq uB.out (by kernel_rfl)) (by decide) (fun K hK => ?_)
           refine Bt (w1 := ?_) (v := ?_) (by rfl) rfl ?_ ?_
           rotate_left 2
           ·go_simp
            constructor
            ·rfl
            ·rfl
           refine hK.out _ _ ⟨(Al (Ac dB.out _) 0).trans rfl, (Al (Ac dB.out _) 1).trans rfl, (Al (Ac dB.out _) 2).trans rfl, (Al (Ac dB.out _) 3).trans rfl, (Al (Ac dB.out _) 4).trans rfl, (Al (Ac s.out _) 0).trans rfl, (Al (Ac x.out _) 0).trans rfl, (Al (Ac cC.out _) 0).trans rfl, (Al (Ac cC.out _) 1).trans rfl, (Al (Ac cC.out _) 2).trans rfl, (Al (Ac cC.out _) 3).trans rfl, (World.cell?_alloc_lt _ _ _ (World.block_lt_of_cell? _ _ ((AX HB.out oJ)))).trans ((AX HB.out oJ))⟩ (fun Y => ?_)
           clear hK K
           refine CB (a' := ?_) ?_ ?_
           rotate_left
           ·show Act.put _ (some 138) _ = _
            simp only [ps]
            rfl
           refine Cz (i := 12) (N := some 139) (tf 13 2) rfl rfl (Bq uB.out (by kernel_rfl)) (by decide) (fun K hK => ?_)
           refine Kd.Ep k63 (w0 := w) w.heap.size (by rfl) (.tmp 128) (.tmp 138) 31 63 (.agg #[(.int .i64 0), (.int .i64 0), (.int .i64 0), (.slice none 0 0), (.slice none 0 0)]) 72 rfl Try.underlying31 Fq rfl (by decide) (by omega) u401004 cF (⟨wrap64 (a2 + (rd l4 u)), (⟨wM, xM, lI, yM⟩ : S30)⟩ : S63) [.int .i64 (wrap64 (a2 + (rd l4 u))), .int .i64 wM, .int .i64 xM, .slice yI lI.length zI, .slice aT yM.length wT] (fun a => ((eB a ∨ fB a ∨ gC a) ∨ w.heap.size ≤ a) ∧ some a ≠ (.slice bC yB.length dC : Value).ownBlock ∧ a ≠ T ∧ a ≠ D ∧ a ≠ U ∧ a ≠ X ∧ a ≠ W ∧ a ≠ z ∧ a ≠ B) (fun a => ((fun a => ((eB a ∨ fB a ∨ gC a) ∨ w.heap.size ≤ a) ∧ some a ≠ (.slice bC yB.length dC : Value).ownBlock ∧ a ≠ T ∧ a ≠ D ∧ a ≠ U ∧ a ≠ X ∧ a ≠ W ∧ a ≠ z ∧ a ≠ B)) a ∧ some a ≠ (u401004 : Value).ownBlock) rfl rfl ?aP (fun _ l => l) ?aF ?aO ?aB ?aS ?aL ?_
           (case aP => exact (Hg _ _ (⟨wrap64 (a2 + (rd l4 u)), (⟨wM, xM, lI, yM⟩ : S30)⟩ : S63) (Kd.Cx (Kd.BS (ok' := (fun a => ((fun a => ((eB a ∨ fB a ∨ gC a) ∨ w.heap.size ≤ a) ∧ some a ≠ (.slice bC yB.length dC : Value).ownBlock ∧ a ≠ T ∧ a ≠ D ∧ a ≠ U ∧ a ≠ X ∧ a ≠ W ∧ a ≠ z ∧ a ≠ B)) a ∧ some a ≠ (u401004 : Value).ownBlock)) (Kd.Ao (Kd.Ao (Kd.Ao (Kd.Ao (Kd.Ao (Kd.Ao (Kd.Ao (Kd.Bh (aN.out) (Kd.Bz jB.out) (by decide)) r.out (by decide)) b.out (by decide)) s.out (by decide)) x.out (by decide)) y.out (by decide)) dB.out (by decide)) cC.out (by decide)) (fun a l => ⟨⟨(.inr (l.1.1.1.1.1.1.1.1.1.1)), ⟨l.1.1.1.1.1.1.1.1.2, ⟨l.1.1.1.1.1.1.2, ⟨l.1.1.1.1.1.2, ⟨l.1.1.1.1.2, ⟨l.1.1.1.2, ⟨l.1.1.2, ⟨l.1.2, l.2⟩⟩⟩⟩⟩⟩⟩⟩, l.1.1.1.1.1.1.1.2⟩))).2.1 (Kd.R_F (Kd.BS (ok' := (fun a => ((fun a => ((eB a ∨ fB a ∨ gC a) ∨ w.heap.size ≤ a) ∧ some a ≠ (.slice bC yB.length dC : Value).ownBlock ∧ a ≠ T ∧ a ≠ D ∧ a ≠ U ∧ a ≠ X ∧ a ≠ W ∧ a ≠ z ∧ a ≠ B)) a ∧ some a ≠ (u401004 : Value).ownBlock)) (Kd.Ao (Kd.Ao (Kd.Ao (Kd.Ao (Kd.Ao (Kd.Ao (Kd.Ao (Kd.Bh (aN.out) (Kd.Bz jB.out) (by decide)) r.out (by decide)) b.out (by decide)) s.out (by decide)) x.out (by decide)) y.out (by decide)) dB.out (by decide)) cC.out (by decide)) (fun a l => ⟨⟨(.inr (l.1.1.1.1.1.1.1.1.1.1)), ⟨l.1.1.1.1.1.1.1.1.2, ⟨l.1.1.1.1.1.1.2, ⟨l.1.1.1.1.1.2, ⟨l.1.1.1.1.2, ⟨l.1.1.1.2, ⟨l.1.1.2, ⟨l.1.2, l.2⟩⟩⟩⟩⟩⟩⟩⟩, l.1.1.1.1.1.1.1.2⟩))) (Kd.AU (Kd.AO (ok' := (fun a => ((fun a => ((eB a ∨ fB a ∨ gC a) ∨ w.heap.size ≤ a) ∧ some a ≠ (.slice bC yB.length dC : Value).ownBlock ∧ a ≠ T ∧ a ≠ D ∧ a ≠ U ∧ a ≠ X ∧ a ≠ W ∧ a ≠ z ∧ a ≠ B)) a ∧ some a ≠ (u401004 : Value).ownBlock)) (gL.out) (fun a l => ⟨⟨l.1, ⟨l.2.2.1, ⟨l.2.2.2.2.1, ⟨l.2.2.2.2.2.1, ⟨l.2.2.2.2.2.2.1, ⟨l.2.2.2.2.2.2.2.1, ⟨l.2.2.2.2.2.2.2.2.1, ⟨l.2.2.2.2.2.2.2.2.2.1, l.2.2.2.2.2.2.2.2.2.2⟩⟩⟩⟩⟩⟩⟩⟩, l.2.2.2.1⟩))).2.1 (Kd.V_F (Kd.AO (ok' := (fun a => ((fun a => ((eB a ∨ fB a ∨ gC a) ∨ w.heap.size ≤ a) ∧ some a ≠ (.slice bC yB.length dC : Value).ownBlock ∧ a ≠ T ∧ a ≠ D ∧ a ≠ U ∧ a ≠ X ∧ a ≠ W ∧ a ≠ z ∧ a ≠ B)) a ∧ some a ≠ (u401004 : Value).ownBlock)) (gL.out) (fun a l => ⟨⟨l.1, ⟨l.2.2.1, ⟨l.2.2.2.2.1, ⟨l.2.2.2.2.2.1, ⟨l.2.2.2.2.2.2.1, ⟨l.2.2.2.2.2.2.2.1, ⟨l.2.2.2.2.2.2.2.2.1, ⟨l.2.2.2.2.2.2.2.2.2.1, l.2.2.2.2.2.2.2.2.2.2⟩⟩⟩⟩⟩⟩⟩⟩, l.2.2.2.1⟩)))))
           (case aB => exact (be7 HB G I J L O iC iI))
           (case aF => exact (fun a l => ⟨(.inr (Nat.le_trans (AZ (be7 HB G I J L O iC iI)) l)), Kd.fresh' (Kd.Ew (DJ wB.out)) a l, Kd.BG (g := T) (o := .cells #[.int .i64 dD, .int .i64 eD, .string fD, .slice qF pC.length sF, .slice rF qC.length tF] 26 (0, 0)) (Af r.out) a l, Kd.BG (g := D) (o := .cells #[.int .i64 jC, .int .i64 kC, .slice dF eC.length mF, .slice sD mB.length uD, .slice tD cB.length aD] 33 (0, 0)) (Af b.out) a l, Kd.BG (g := U) (o := .cells #[.int .i64 a2] 3 (0, 0)) (Af s.out) a l, Kd.BG (g := X) (o := .cells #[.slice (some eM) l4.length c4] 38 (0, 0)) (Af x.out) a l, Kd.BG (g := W) (o := .cells #[.int .i64 zB, .int .i64 aC, .slice none 0 0, .slice none 0 0, .slice none 0 0] 33 (0, 0)) (Af y.out) a l, Kd.BG (g := z) (o := .cells #[.int .i64 aH, .int .i64 bH, .slice bC yB.length dC, .slice mI dG.length pI, u401004] 33 (0, 0)) (Af dB.out) a l, Kd.BG (g := B) (o := .cells #[.int .i64 ((AC l3 u).f0), .int .i64 ((AC l3 u).f1), .slice wC ((AC l3 u).f2).length yC, .slice xC ((AC l3 u).f3).length zC] 30 (0, 0)) (Af cC.out) a l⟩))
           (case aO => exact (Dt (Kd.Be jB.out (fun _ l => ⟨l.1.1, ⟨l.1.2.1, ⟨l.1.2.2.1, ⟨l.1.2.2.2.1, ⟨l.1.2.2.2.2.1, ⟨l.1.2.2.2.2.2.1, ⟨l.1.2.2.2.2.2.2.1, ⟨l.1.2.2.2.2.2.2.2.1, l.1.2.2.2.2.2.2.2.2⟩⟩⟩⟩⟩⟩⟩⟩))))
           (case aS => exact (AZ (be7 HB G I J L O iC iI)))
           (case aL => have := tR.out; omega)
           intro v413 rY ho hb hg pN
           rw [← fT.out] at ho
           have jD := mk0 (Kd.CF (ok := (fun a => ((eB a ∨ fB a ∨ gC a) ∨ w.heap.size ≤ a) ∧ some a ≠ (.slice bC yB.length dC : Value).ownBlock ∧ some a ≠ (.slice yI lI.length zI : Value).ownBlock ∧ a ≠ T ∧ a ≠ D ∧ a ≠ U ∧ a ≠ X ∧ a ≠ W ∧ a ≠ z ∧ a ≠ B)) (BH (Kd.AO lE.out (fun _ l => ⟨⟨l.1.1, ⟨l.1.2.1, ⟨l.2, ⟨l.1.2.2.2.1, ⟨l.1.2.2.2.2.1, ⟨l.1.2.2.2.2.2.1, ⟨l.1.2.2.2.2.2.2.1, ⟨l.1.2.2.2.2.2.2.2.1, ⟨l.1.2.2.2.2.2.2.2.2.1, l.1.2.2.2.2.2.2.2.2.2⟩⟩⟩⟩⟩⟩⟩⟩⟩, l.1.2.2.1⟩))) hg pN)
           have kD := mk0 (Kd.CF (ok := (fun a => ((eB a ∨ fB a ∨ gC a) ∨ w.heap.size ≤ a) ∧ some a ≠ (.slice bC yB.length dC : Value).ownBlock ∧ some a ≠ (.slice yI lI.length zI : Value).ownBlock ∧ a ≠ T ∧ a ≠ D ∧ a ≠ U ∧ a ≠ X ∧ a ≠ W ∧ a ≠ z ∧ a ≠ B)) (BH (Kd.AO m.out (fun _ l => ⟨⟨l.1.1, ⟨l.1.2.1, ⟨l.2, ⟨l.1.2.2.2.1, ⟨l.1.2.2.2.2.1, ⟨l.1.2.2.2.2.2.1, ⟨l.1.2.2.2.2.2.2.1, ⟨l.1.2.2.2.2.2.2.2.1, ⟨l.1.2.2.2.2.2.2.2.2.1, l.1.2.2.2.2.2.2.2.2.2⟩⟩⟩⟩⟩⟩⟩⟩⟩, l.1.2.2.1⟩))) hg pN)
           have lD := mk0 (Kd.CF (ok := (fun a => ((eB a ∨ fB a ∨ gC a) ∨ w.heap.size ≤ a) ∧ some a ≠ (.slice bC yB.length dC : Value).ownBlock ∧ some a ≠ (.slice yI lI.length zI : Value).ownBlock ∧ a ≠ T ∧ a ≠ D ∧ a ≠ U ∧ a ≠ X ∧ a ≠ W ∧ a ≠ z ∧ a ≠ B)) (BH (Kd.AO d.out (fun _ l => ⟨⟨l.1.1, ⟨l.1.2.1, ⟨l.2, ⟨l.1.2.2.2.1, ⟨l.1.2.2.2.2.1, ⟨l.1.2.2.2.2.2.1, ⟨l.1.2.2.2.2.2.2.1, ⟨l.1.2.2.2.2.2.2.2.1, ⟨l.1.2.2.2.2.2.2.2.2.1, l.1.2.2.2.2.2.2.2.2.2⟩⟩⟩⟩⟩⟩⟩⟩⟩, l.1.2.2.1⟩))) hg pN)
           have mD := mk0 (Kd.Hd (DJ wB.out) (Kd.Bz (EI jB.out)) (by decide) hg)
           have nD := mk0 (Kd.CF (ok := (fun a => ((eB a ∨ fB a ∨ gC a) ∨ w.heap.size ≤ a) ∧ some a ≠ (.slice bC yB.length dC : Value).ownBlock ∧ some a ≠ (.slice yI lI.length zI : Value).ownBlock ∧ a ≠ T ∧ a ≠ D ∧ a ≠ U ∧ a ≠ X ∧ a ≠ W ∧ a ≠ z ∧ a ≠ B)) (BH (Kd.AO fC.out (fun _ l => ⟨⟨l.1.1, ⟨l.1.2.1, ⟨l.2, ⟨l.1.2.2.2.1, ⟨l.1.2.2.2.2.1, ⟨l.1.2.2.2.2.2.1, ⟨l.1.2.2.2.2.2.2.1, ⟨l.1.2.2.2.2.2.2.2.1, ⟨l.1.2.2.2.2.2.2.2.2.1, l.1.2.2.2.2.2.2.2.2.2⟩⟩⟩⟩⟩⟩⟩⟩⟩, l.1.2.2.1⟩))) hg pN)
           have oD := mk0 (Bg (g := T) (o := .cells #[.int .i64 dD, .int .i64 eD, .string fD, .slice qF pC.length sF, .slice rF qC.length tF] 26 (0, 0)) (Af r.out) hg (Kd.GN jB.out r.out (by decide)))
           have pD := mk0 (Bg (g := D) (o := .cells #[.int .i64 jC, .int .i64 kC, .slice dF eC.length mF, .slice sD mB.length uD, .slice tD cB.length aD] 33 (0, 0)) (Af b.out) hg (Kd.GN jB.out b.out (by decide)))
           have qD := mk0 (Bg (g := U) (o := .cells #[.int .i64 a2] 3 (0, 0)) (Af s.out) hg (Kd.GN jB.out s.out (by decide)))
           have rD := mk0 (Bg (g := X) (o := .cells #[.slice (some eM) l4.length c4] 38 (0, 0)) (Af x.out) hg (Kd.GN jB.out x.out (by decide)))
           have tE := mk0 (Bg (g := W) (o := .cells #[.int .i64 zB, .int .i64 aC, .slice none 0 0, .slice none 0 0, .slice none 0 0] 33 (0, 0)) (Af y.out) hg (Kd.GN jB.out y.out (by decide)))
           have lC := mk0 (Bg (g := z) (o := .cells #[.int .i64 aH, .int .i64 bH, .slice bC yB.length dC, .slice mI dG.length pI, u401004] 33 (0, 0)) (Af dB.out) hg (Kd.GN jB.out dB.out (by decide)))
           have mC := mk0 (Kd.CF (ok := (fun a => ((eB a ∨ fB a ∨ gC a) ∨ w.heap.size ≤ a) ∧ some a ≠ (.slice bC yB.length dC : Value).ownBlock ∧ some a ≠ (.slice yI lI.length zI : Value).ownBlock ∧ a ≠ T ∧ a ≠ D ∧ a ≠ U ∧ a ≠ X ∧ a ≠ W ∧ a ≠ z ∧ a ≠ B)) (BH (Kd.AO jE.out (fun _ l => ⟨⟨l.1.1, ⟨l.1.2.1, ⟨l.2, ⟨l.1.2.2.2.1, ⟨l.1.2.2.2.2.1, ⟨l.1.2.2.2.2.2.1, ⟨l.1.2.2.2.2.2.2.1, ⟨l.1.2.2.2.2.2.2.2.1, ⟨l.1.2.2.2.2.2.2.2.2.1, l.1.2.2.2.2.2.2.2.2.2⟩⟩⟩⟩⟩⟩⟩⟩⟩, l.1.2.2.1⟩))) hg pN)
           have rC := mk0 (Kd.CF (ok := (fun a => ((eB a ∨ fB a ∨ gC a) ∨ w.heap.size ≤ a) ∧ some a ≠ (.slice bC yB.length dC : Value).ownBlock ∧ some a ≠ (.slice yI lI.length zI : Value).ownBlock ∧ a ≠ T ∧ a ≠ D ∧ a ≠ U ∧ a ≠ X ∧ a ≠ W ∧ a ≠ z ∧ a ≠ B)) (BH (Kd.AO kE.out (fun _ l => ⟨⟨l.1.1, ⟨l.1.2.1, ⟨l.2, ⟨l.1.2.2.2.1, ⟨l.1.2.2.2.2.1, ⟨l.1.2.2.2.2.2.1, ⟨l.1.2.2.2.2.2.2.1, ⟨l.1.2.2.2.2.2.2.2.1, ⟨l.1.2.2.2.2.2.2.2.2.1, l.1.2.2.2.2.2.2.2.2.2⟩⟩⟩⟩⟩⟩⟩⟩⟩, l.1.2.2.1⟩))) hg pN)
           have cE := mk0 (Bg (g := B) (o := .cells #[.int .i64 ((AC l3 u).f0), .int .i64 ((AC l3 u).f1), .slice wC ((AC l3 u).f2).length yC, .slice xC ((AC l3 u).f3).length zC] 30 (0, 0)) (Af cC.out) hg (Kd.GN jB.out cC.out (by decide)))
           have rE := mk0 (Kd.CF (ok := (fun a => ((eB a ∨ fB a ∨ gC a) ∨ w.heap.size ≤ a) ∧ some a ≠ (.slice bC yB.length dC : Value).ownBlock ∧ some a ≠ (.slice yI lI.length zI : Value).ownBlock ∧ a ≠ T ∧ a ≠ D ∧ a ≠ U ∧ a ≠ X ∧ a ≠ W ∧ a ≠ z ∧ a ≠ B)) (BH (Kd.AO gL.out (fun _ l => ⟨⟨l.1, ⟨l.2.2.1, ⟨l.2.1, ⟨l.2.2.2.2.1, ⟨l.2.2.2.2.2.1, ⟨l.2.2.2.2.2.2.1, ⟨l.2.2.2.2.2.2.2.1, ⟨l.2.2.2.2.2.2.2.2.1, ⟨l.2.2.2.2.2.2.2.2.2.1, l.2.2.2.2.2.2.2.2.2.2⟩⟩⟩⟩⟩⟩⟩⟩⟩, l.2.2.2.1⟩))) hg pN)
           have sE := mk0 (hb)
           have cG := mk0 (ho)
           clear lE; clear m; clear d; clear wB; clear fC; clear r; clear b; clear s; clear x; clear y; clear dB; clear jE; clear kE; clear cC; clear gL; clear HB; clear jB; clear aN; have lE := jD; have m := kD; have d := lD; have wB := mD; have fC := nD; have r := oD; have b := pD; have s := qD; have x := rD; have y := tE; have dB := lC; have jE := mC; have kE := rC; have cC := cE; have gL := rE; have HB := sE; have eQ := cG; clear jD kD lD mD nD oD pD qD rD tE lC mC rC cE rE sE cG; clear ho hb hg pN
           obtain ⟨bT, xT, pQ⟩ := Kd.Cw eQ.out
           (first | subst pQ | (injection pQ with f1_ f2_ f3_; have oG := f1_.symm; have pG := f3_.symm; clear f1_ f2_ f3_; subst oG; subst pG))
           refine hK.out _ _ ⟨bc dB 0, bc dB 1, bc dB 2, bc dB 3, bc dB 4, bc s 0, bc x 0, bc cC 0, bc cC 1, bc cC 2, bc cC 3, (AX HB.out oJ)⟩ (fun Y => ?_)
           clear hK K
           refine CB (a' := ?_) ?_ ?_
           rotate_left
           ·show Act.put _ (some 139) _ = _
            simp only [ps]
            rfl
           refine pv 13 140 (tf 14 1) uB ?_
           refine MX (i := 14) (N := none) (tf 15 0) rfl rfl (Bq uB.out (by kernel_rfl)) (by decide) (fun K hK => ?_)
           have aDQ : rY.cell? ⟨z, 4, none⟩ = some (u401004) := bc dB 4
           have oZ := AB dB.out 4
           have rW := sC.out; have sW := Z.out; have tW := tC.out; have uW := uC.out; have vW := vC.out; have wW := dM.out; have mV := xD.out; have nV := yD.out; have oV := zD.out; have pV := aE.out; have qV := bE.out; have rV := fK.out
           refine Fh (w1 := ?_) (by rfl) rfl ?_ ?_
           rotate_left
           ·go_simp
            rfl
           refine hK.out _ _ ?_
           clear hK K
           refine DV (Ce uB.out (by kernel_rfl)) ?_
           try go_wp2
           go_roundg k5
           case measure => have := wL.out; have := xL.out; have := zJ.out; have := dQ.out; have := bX.out; omega
           case rel => exact ⟨(wrap64 (u + 1)), (rR), (.slice bT rR.length xT), rfl, H', ⟨by have := wL.out; have := xL.out; have := zJ.out; have := dQ.out; have := bX.out; omega⟩, ⟨BH (Kd.AO (vI (q := z) (Kd.AO lE.out (fun a l => (⟨l, l.1.2.2.2.2.2.2.2.2.1⟩ : _ ∧ a ≠ z))) (fun _ l => l.2)) (fun _ l => ⟨l.1.1.1, ⟨l.1.1.2.1, ⟨l.1.2, ⟨l.1.1.2.2.2.1, ⟨l.1.1.2.2.2.2.1, ⟨l.1.1.2.2.2.2.2.1, ⟨l.1.1.2.2.2.2.2.2.1, ⟨l.1.1.2.2.2.2.2.2.2.1, l.1.1.2.2.2.2.2.2.2.2.1⟩⟩⟩⟩⟩⟩⟩⟩))⟩, ⟨BH (Kd.AO (vI (q := z) (Kd.AO m.out (fun a l => (⟨l, l.1.2.2.2.2.2.2.2.2.1⟩ : _ ∧ a ≠ z))) (fun _ l => l.2)) (fun _ l => ⟨l.1.1.1, ⟨l.1.1.2.1, ⟨l.1.2, ⟨l.1.1.2.2.2.1, ⟨l.1.1.2.2.2.2.1, ⟨l.1.1.2.2.2.2.2.1, ⟨l.1.1.2.2.2.2.2.2.1, ⟨l.1.1.2.2.2.2.2.2.2.1, l.1.1.2.2.2.2.2.2.2.2.1⟩⟩⟩⟩⟩⟩⟩⟩))⟩, ⟨BH (Kd.AO (vI (q := z) (Kd.AO d.out (fun a l => (⟨l, l.1.2.2.2.2.2.2.2.2.1⟩ : _ ∧ a ≠ z))) (fun _ l => l.2)) (fun _ l => ⟨l.1.1.1, ⟨l.1.1.2.1, ⟨l.1.2, ⟨l.1.1.2.2.2.1, ⟨l.1.1.2.2.2.2.1, ⟨l.1.1.2.2.2.2.2.1, ⟨l.1.1.2.2.2.2.2.2.1, ⟨l.1.1.2.2.2.2.2.2.2.1, l.1.1.2.2.2.2.2.2.2.2.1⟩⟩⟩⟩⟩⟩⟩⟩))⟩, ⟨DZ (Kd.BS (rI (q := z) (Kd.Ao wB.out dB.out (by decide)) (fun _ l => l.2)) (fun _ l => l.1.1))⟩, ⟨BH (Kd.AO (vI (q := z) (Kd.AO fC.out (fun a l => (⟨l, l.1.2.2.2.2.2.2.2.2.1⟩ : _ ∧ a ≠ z))) (fun _ l => l.2)) (fun _ l => ⟨l.1.1.1, ⟨l.1.1.2.1, ⟨l.1.2, ⟨l.1.1.2.2.2.1, ⟨l.1.1.2.2.2.2.1, ⟨l.1.1.2.2.2.2.2.1, ⟨l.1.1.2.2.2.2.2.2.1, ⟨l.1.1.2.2.2.2.2.2.2.1, l.1.1.2.2.2.2.2.2.2.2.1⟩⟩⟩⟩⟩⟩⟩⟩))⟩, ⟨Dt (Kd.Be (nI (q := z) (Kd.Be eQ.out (fun a l => (⟨l, l.2.2.2.2.2.2.2.1⟩ : _ ∧ a ≠ z))) (fun _ l => l.2)) (fun _ l => ⟨l.1.1, ⟨l.1.2.1, ⟨l.1.2.2.1, ⟨l.1.2.2.2.1, ⟨l.1.2.2.2.2.1, ⟨l.1.2.2.2.2.2.1, ⟨l.1.2.2.2.2.2.2.1, l.1.2.2.2.2.2.2.2.1⟩⟩⟩⟩⟩⟩⟩))⟩, ⟨bF sC r⟩, ⟨bF Z b⟩, ⟨bF tC s⟩, ⟨bF uC x⟩, ⟨bF vC y⟩, ⟨pB dB⟩, ⟨be7 HB G I J L O iC iI⟩⟩
end Go.Proofs.Ytojankgmedccdaa.PGn
