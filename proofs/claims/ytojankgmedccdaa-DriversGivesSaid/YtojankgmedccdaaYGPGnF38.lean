/- Lemmas for LawDriversGives. -/
import Derived.Test.YtojankgmedccdaaYGHandE
import Derived.Test.YtojankgmedccdaaYGHandV
import Derived.Test.YtojankgmedccdaaYGPGnF56
import Derived.Test.YtojankgmedccdaaYGPAwx5
namespace Go.Proofs.Ytojankgmedccdaa.PGn
open Go.RowKit Own PTy Hand PIs PAw YtojankgmedccdaaW.PrintWords YtojankgmedccdaaW.PrintLast YtojankgmedccdaaW.PrintMore
attribute [local go_sem] BI BJ Be Bf Ar Au BK BL
set_option linter.unusedVariables false
set_option linter.unusedSimpArgs false
mutual
def AJ.j0 : Nat → Int → List (S30) → List Int → Bool → Bool → Int → Int → ByteArray → List ByteArray → List (S26) → Int → Int → List Int → List (S30) → List (S63) → Int → List Int → Option (Int × Int × List Int × (List (S30)) × (List (S63)) × Int)
 | 0, _, _, _, _, _, _, _, _, _, _, _, _, _, _, _, _, _ => none
 | k + 1, x2, x3, x4, x5, x54, i, j, l, m, n, d, e, g, h, a, b, c => if x54 = true then (some (0, 0, ([] : List Int), ([] : List (S30)), ([] : List (S63)), 2)) else (AJ.l0 k x2 x3 x4 x5 x3 (x3.length : Int) 0 i j l m n d e g h a b c)
def AJ.l0 : Nat → Int → List (S30) → List Int → Bool → List (S30) → Int → Int → Int → Int → ByteArray → List ByteArray → List (S26) → Int → Int → List Int → List (S30) → List (S63) → Int → List Int → Option (Int × Int × List Int × (List (S30)) × (List (S63)) × Int)
 | 0, _, _, _, _, _, _, _, _, _, _, _, _, _, _, _, _, _, _, _ => none
 | k + 1, x2, x3, x4, x5, D, U, B, i, j, l, m, n, d, e, g, h, a, b, c => if B < U then (if 0 ≤ B then (if B < (D.length : Int) then ((CL.f k i j l m n ((AC D B).f0) ((AC D B).f1) ((AC D B).f2) ((AC D B).f3)).bind fun J => (if J = true then (AJ.l0 k x2 x3 x4 x5 D U (wrap64 (B + 1)) i j l m n d e g h a b c) else (some (0, 0, ([] : List Int), ([] : List (S30)), ([] : List (S63)), 2)))) else (none)) else (none)) else ((drivers_behind.f d e g h a b).bind fun L => (if L = true then (some (0, 0, ([] : List Int), ([] : List (S30)), ([] : List (S63)), 5)) else ((Ef.f a x2 x4).bind fun G => (if G < 0 then (AJ.j2 k x3 x5 (a.length : Int) i j l m n d e g h a b c) else (AJ.j2 k x3 x5 G i j l m n d e g h a b c)))))
def AJ.j2 : Nat → List (S30) → Bool → Int → Int → Int → ByteArray → List ByteArray → List (S26) → Int → Int → List Int → List (S30) → List (S63) → Int → List Int → Option (Int × Int × List Int × (List (S30)) × (List (S63)) × Int)
 | 0, _, _, _, _, _, _, _, _, _, _, _, _, _, _, _ => none
 | k + 1, x3, x5, q, i, j, l, m, n, d, e, g, h, a, b, c => if x5 = true then (AJ.j4 k x3 q 0 d e g h a b c) else (AJ.l1 k x3 q q i j l m n d e g h a b c)
def AJ.j4 : Nat → List (S30) → Int → Int → Int → Int → List Int → List (S30) → List (S63) → Int → List Int → Option (Int × Int × List Int × (List (S30)) × (List (S63)) × Int)
 | 0, _, _, _, _, _, _, _, _, _, _ => none
 | k + 1, x3, q, p, d, e, g, h, a, b, c => if (wrap64 ((wrap64 (q - p)) + (x3.length : Int))) > 64 then (some (0, 0, ([] : List Int), ([] : List (S30)), ([] : List (S63)), 3)) else ((drivers_copied.f d e g h).bind fun u => (if 0 ≤ p then (if p ≤ q then (if q ≤ (a.length : Int) then ((drivers_all.f k ((a.take (q : Int).toNat).drop (p : Int).toNat)).bind fun T => (AJ.l2 k x3 (x3.length : Int) 0 b c u.1 u.2.1 u.2.2.1 u.2.2.2 T)) else (none)) else (none)) else (none)))
def AJ.l2 : Nat → List (S30) → Int → Int → Int → List Int → Int → Int → List Int → List (S30) → List (S63) → Option (Int × Int × List Int × (List (S30)) × (List (S63)) × Int)
 | 0, _, _, _, _, _, _, _, _, _, _ => none
 | k + 1, s, I, o, b, c, w, x, y, z, r => if o < I then (if 0 ≤ o then (if o < (s.length : Int) then (if o < (c.length : Int) then ((drivers_copied.f ((AC s o).f0) ((AC s o).f1) ((AC s o).f2) ((AC s o).f3)).bind fun v => (if r.length < 1954687338268 then (AJ.l2 k s I (wrap64 (o + 1)) b c w x y z (r ++ [(⟨wrap64 (b + (rd c o)), (⟨v.1, v.2.1, v.2.2.1, v.2.2.2⟩ : S30)⟩ : S63)])) else (none))) else (none)) else (none)) else (none)) else (some (w, x, y, z, r, 0))
def AJ.l1 : Nat → List (S30) → Int → Int → Int → Int → ByteArray → List ByteArray → List (S26) → Int → Int → List Int → List (S30) → List (S63) → Int → List Int → Option (Int × Int × List Int × (List (S30)) × (List (S63)) × Int)
 | 0, _, _, _, _, _, _, _, _, _, _, _, _, _, _, _ => none
 | k + 1, x3, q, p, i, j, l, m, n, d, e, g, h, a, b, c => if p > 0 then (if 0 ≤ (wrap64 (p - 1)) then (if (wrap64 (p - 1)) < (a.length : Int) then (if 0 < (x3.length : Int) then ((Cm.f k i j l m n ((AA a (wrap64 (p - 1))).f1.f0) ((AA a (wrap64 (p - 1))).f1.f1) ((AA a (wrap64 (p - 1))).f1.f2) ((AA a (wrap64 (p - 1))).f1.f3) ((AC x3 0).f0) ((AC x3 0).f1) ((AC x3 0).f2) ((AC x3 0).f3)).bind fun O => (if O = true then (AJ.l1 k x3 q (wrap64 (p - 1)) i j l m n d e g h a b c) else (AJ.j4 k x3 q p d e g h a b c))) else (none)) else (none)) else (none)) else (AJ.j4 k x3 q p d e g h a b c)
end
def AJ.f (k : Nat) (a : Int) (b : Int) (c : ByteArray) (g : List ByteArray) (h : List (S26)) (d : Int) (e : Int) (i : List Int) (j : List (S30)) (l : List (S63)) (m : Int) (o : List (S30)) (n : List Int) (a5 : Bool) : Option (Int × Int × List Int × (List (S30)) × (List (S63)) × Int) := (Aq.f k a b c g h d e i j l).bind fun p => (if p = true then (if m < 0 then (AJ.j0 k m o n a5 true a b c g h d e i j l m n) else (if m > 1000000 then (AJ.j0 k m o n a5 true a b c g h d e i j l m n) else (if (o.length : Int) < 1 then (AJ.j0 k m o n a5 true a b c g h d e i j l m n) else (if (o.length : Int) > 64 then (AJ.j0 k m o n a5 true a b c g h d e i j l m n) else (if (n.length : Int) = (o.length : Int) then ((drivers_rising.f k n).bind fun q => (AJ.j0 k m o n a5 (!q) a b c g h d e i j l m n)) else (AJ.j0 k m o n a5 true a b c g h d e i j l m n)))))) else (AJ.j0 k m o n a5 true a b c g h d e i j l m n))
def AJ.T17 : Bool × List (List Nat × List Nat) := (true, [([], []), ([0], [0]), ([1], [1]), ([2], [2]), ([2], [2]), ([4, 2], [2, 4]), ([2], [2]), ([6, 2], [2, 6]), ([5, 7, 2], [2, 5, 7]), ([8, 2], [2, 8]), ([9, 2], [2, 9]), ([2], [2]), ([11, 2], [2, 11]), ([12, 2], [2, 12]), ([3, 10, 13, 2, 2], [2, 3, 10, 13]), ([2, 14], [2, 14])])
def AJ.B17 : List Nat := [0, 1, 3, 7, 7, 23, 7, 71, 247, 503, 1015, 7, 2055, 6151, 16383, 32767]
theorem AJ.NE : Ct .any (opsOf Try.f38 17) = AJ.T17 := by kernel_rfl
theorem AJ.Kh : CW AJ.T17.2 AJ.B17 = true := by kernel_rfl
def AJ.T21 : Bool × List (List Nat × List Nat) := (true, [([], []), ([0], [0]), ([1], [1]), ([], []), ([3], [3]), ([], []), ([], []), ([4, 5, 6], [4, 5, 6]), ([7, 2], [7]), ([2, 8], [2, 8]), ([], []), ([10, 9, 8, 0, 1, 2, 3, 4, 5, 6, 7, 8, 9, 10], [9, 10])])
def AJ.B21 : List Nat := [0, 1, 3, 0, 8, 0, 0, 120, 255, 511, 0, 2047]
theorem AJ.Pi : Ct .any (opsOf Try.f38 21) = AJ.T21 := by kernel_rfl
theorem AJ.Oz : CW AJ.T21.2 AJ.B21 = true := by kernel_rfl
def AJ.T25 : Bool × List (List Nat × List Nat) := (true, [([], []), ([0], [0]), ([], []), ([], []), ([], []), ([3, 4], [3, 4]), ([5], [5]), ([2, 6], [2, 6]), ([], []), ([8], [8]), ([7, 9], [7, 9]), ([10], [10]), ([1, 11, 9], [1, 11]), ([0, 1, 2, 3, 4, 5, 6, 7, 8, 9, 10, 11, 12], []), ([13, 12, 12, 0, 1, 2, 3, 4, 5, 6, 7, 8, 9, 10, 11, 12], [12, 13])])
def AJ.B25 : List Nat := [0, 1, 0, 0, 0, 24, 56, 124, 0, 256, 1020, 2044, 4095, 8191, 16383]
theorem AJ.Pj : Ct .any (opsOf Try.f38 25) = AJ.T25 := by kernel_rfl
theorem AJ.O0 : CW AJ.T25.2 AJ.B25 = true := by kernel_rfl
set_option maxHeartbeats 8000000 in
set_option maxRecDepth 100000 in
theorem AJ.calls (k : Nat) (dD : Int) (eD : Int) (fD : ByteArray) (qF : Option Addr) (sF : Nat) (nC : List ByteArray) (rF : Option Addr) (tF : Nat) (oC : List (S26)) (uC : Int) (vC : Int) (dF : Option Addr) (mF : Nat) (kC : List Int) (eB : Nat → Prop) (sD : Option Addr) (uD : Nat) (mB : List (S30)) (fB : Nat → Prop) (tD : Option Addr) (aD : Nat) (dB : List (S63)) (a2 : Int) (fC : Nat → Prop) (A3 : Option Addr) (c3 : Nat) (l3 : List (S30)) (A4 : Option Addr) (c4 : Nat) (l4 : List Int) (a5 : Bool) (r1 : Int) (r2 : Int) (r3 : List Int) (r4 : List (S30)) (r5 : List (S63)) (r6 : Int) (w : World) (hG : D8 w) (vQ : Kd.C Kd.string w qF nC.length nC) (rQ : nC.length ≤ sF) (wQ : Kd.C k26 w rF oC.length oC) (sQ : oC.length ≤ tF) (xQ : Kd.C (Kd.int .u8) w dF kC.length kC) (tQ : kC.length ≤ mF) (aU : Kd.V k30 30 w w.heap.size (fun a => eB a) (.slice sD mB.length uD) mB) (bU : Kd.V k63 63 w w.heap.size (fun a => fB a) (.slice tD dB.length aD) dB) (hs3 : Kd.V k30 30 w w.heap.size (fun a => fC a) (.slice A3 l3.length c3) l3) (eY : Kd.C (Kd.int .i64) w A4 l4.length l4) (qX : l4.length ≤ c4) (h : AJ.f k dD eD fD nC oC uC vC kC mB dB a2 l3 l4 a5 = some (r1, r2, r3, r4, r5, r6)) :
  Calls Try.prog 38 #[.agg #[.int .i64 dD, .int .i64 eD, .string fD, .slice qF nC.length sF, .slice rF oC.length tF], .agg #[.int .i64 uC, .int .i64 vC, .slice dF kC.length mF, .slice sD mB.length uD, .slice tD dB.length aD], .int .i64 a2, .slice A3 l3.length c3, .slice A4 l4.length c4, .bool a5] w fun e w' => ∃ yR nY fU : Value, e = .returned (.tuple #[.agg #[.int .i64 r1, .int .i64 r2, yR, nY, fU], .int .i64 r6]) ∧ Kd.R (Kd.int .u8) 73 w' w.heap.size (fun a => (w.heap.size ≤ a)) yR r3 ∧ Kd.V k30 30 w' w.heap.size (fun a => ((eB a ∨ fB a ∨ fC a) ∨ w.heap.size ≤ a) ∧ some a ≠ (yR : Value).ownBlock ∧ some a ≠ (fU : Value).ownBlock) nY r4 ∧ Kd.N k63 63 w' w.heap.size (fun a => ((eB a ∨ fB a ∨ fC a) ∨ w.heap.size ≤ a) ∧ some a ≠ (yR : Value).ownBlock) fU r5 ∧ Below w.heap.size w w' := by
 have HG := mk0 hG; clear hG
 have aET := Try.underlying26
 have aEV := Try.underlying33
 have aEU := Try.underlying30
 have aEW := Try.underlying63
 have dH := mk0 vQ; have aH := mk0 rQ; clear vQ rQ; have eH := mk0 wQ; have bH := mk0 sQ; clear wQ sQ; have fH := mk0 xQ; have cH := mk0 tQ; clear xQ tQ
 have oB := mk0 (show Kd.V k30 30 w w.heap.size (fun a => ((eB a ∨ fB a ∨ fC a) ∨ w.heap.size ≤ a)) (.slice sD mB.length uD) mB from Kd.AL aU (fun a l => .inl (.inl l)))
 have qB := mk0 (show Kd.V k63 63 w w.heap.size (fun a => ((eB a ∨ fB a ∨ fC a) ∨ w.heap.size ≤ a)) (.slice tD dB.length aD) dB from Kd.AL bU (fun a l => .inl (.inr (.inl l))))
 have eG := mk0 (show Kd.V k30 30 w w.heap.size (fun a => ((eB a ∨ fB a ∨ fC a) ∨ w.heap.size ≤ a)) (.slice A3 l3.length c3) l3 from Kd.AL hs3 (fun a l => .inl (.inr (.inr l))))
 have eT := mk0 eY; have zW := mk0 qX; clear eY qX
 have HB := mk0 (Below.refl w.heap.size w)
 have H := h; unfold AJ.f at H
 clear h; have dT := mk0 H; clear H
 go_enter Try.func38, Try.ntmps38
 go_upto_region 1 with (first | ((with_reducible refine AP rfl (N := 6) rfl (cs := #[.int .i64 dD, .int .i64 eD, .string fD, .slice qF nC.length sF, .slice rF oC.length tF]) (t := 26) ?hr ?_); (case hr => first | (go_simp; done) | (go_simp; rfl)); intro T hg w8 mE hb; obtain ⟨oB, qB, eG⟩ := tg3 hg hb oB qB eG; have r := mk0 (mE); have G := bs (be HB) hg; replace HB := kh HB hb; clear hb mE hg) | ((with_reducible refine AP rfl (N := 7) rfl (cs := #[.int .i64 uC, .int .i64 vC, .slice dF kC.length mF, .slice sD mB.length uD, .slice tD dB.length aD]) (t := 33) ?hr ?_); (case hr => first | (go_simp; done) | (go_simp; rfl)); intro D hg w9 mE hb; obtain ⟨oB, qB, eG⟩ := tg3 hg hb oB qB eG; have b := mk0 (mE); have I := bs (be1 HB G) hg; replace HB := kh1 HB G hb; have ⟨eE, fE⟩ := nn r hg; replace r := kb r hb; clear hb mE hg) | ((with_reducible refine AP rfl (N := 8) rfl (cs := #[.int .i64 a2]) (t := 3) ?hr ?_); (case hr => first | (go_simp; done) | (go_simp; rfl)); intro U hg w10 mE hb; obtain ⟨oB, qB, eG⟩ := tg3 hg hb oB qB eG; have s := mk0 (mE); have J := bs (be2 HB G I) hg; replace HB := kh2 HB G I hb; have ⟨oE, pE⟩ := nn r hg; have ⟨vE, xE⟩ := nn b hg; obtain ⟨r, b⟩ := tb2 hb r b; clear hb mE hg) | ((with_reducible refine AP rfl (N := 10) rfl (cs := #[.slice A4 l4.length c4]) (t := 38) ?hr ?_); (case hr => first | (go_simp; done) | (go_simp; rfl)); intro X hg w11 mE hb; obtain ⟨oB, qB, eG⟩ := tg3 hg hb oB qB eG; have u := mk0 (mE); have L := bs (be3 HB G I J) hg; replace HB := kh3 HB G I J hb; have ⟨uF, wF⟩ := nn r hg; have ⟨wE, yE⟩ := nn b hg; have ⟨yF, zF⟩ := nn s hg; obtain ⟨r, b, s⟩ := tb3 hb r b s; clear hb mE hg) | ((with_reducible refine AP rfl (N := 12) rfl (cs := #[.int .i64 0, .int .i64 0, .slice none 0 0, .slice none 0 0, .slice none 0 0]) (t := 33) ?hr ?_); (case hr => first | (go_simp; done) | (go_simp; rfl)); intro W hg w12 mE hb; obtain ⟨oB, qB, eG⟩ := tg3 hg hb oB qB eG; have x := mk0 (mE); have O := bs (be4 HB G I J L) hg; replace HB := kh4 HB G I J L hb; have ⟨vD, wD⟩ := nn r hg; have ⟨bD, cD⟩ := nn b hg; have ⟨gE, hE⟩ := nn s hg; have ⟨fG, gG⟩ := nn u hg; obtain ⟨r, b, s, u⟩ := tb4 hb r b s u; clear hb mE hg))
 (try simp only [Act.put, List.setIfInBounds_toArray, List.set_cons_zero, List.set_cons_succ])
 go_cut [54] (fun v54 wc => ∃ (kq : Nat) (bP : Bool), v54 = .bool bP ∧ Aside0 (AJ.j0 kq a2 l3 l4 a5 bP dD eD fD nC oC uC vC kC mB dB a2 l4 = some (r1, r2, r3, r4, r5, r6)) ∧ Aside0 (kq ≤ k) ∧ Aside0 (Kd.V k30 30 wc w.heap.size (fun a => ((eB a ∨ fB a ∨ fC a) ∨ w.heap.size ≤ a) ∧ a ≠ T ∧ a ≠ D ∧ a ≠ U ∧ a ≠ X ∧ a ≠ W) (.slice A3 l3.length c3) l3) ∧ Aside0 (Kd.V k30 30 wc w.heap.size (fun a => ((eB a ∨ fB a ∨ fC a) ∨ w.heap.size ≤ a) ∧ a ≠ T ∧ a ≠ D ∧ a ≠ U ∧ a ≠ X ∧ a ≠ W) (.slice sD mB.length uD) mB) ∧ Aside0 (Kd.V k63 63 wc w.heap.size (fun a => ((eB a ∨ fB a ∨ fC a) ∨ w.heap.size ≤ a) ∧ a ≠ T ∧ a ≠ D ∧ a ≠ U ∧ a ≠ X ∧ a ≠ W) (.slice tD dB.length aD) dB) ∧ Aside0 (wc.heap[T]? = some (.cells #[.int .i64 dD, .int .i64 eD, .string fD, (.slice qF nC.length sF), (.slice rF oC.length tF)] 26 (0, 0))) ∧ Aside0 (wc.heap[D]? = some (.cells #[.int .i64 uC, .int .i64 vC, (.slice dF kC.length mF), (.slice sD mB.length uD), (.slice tD dB.length aD)] 33 (0, 0))) ∧ Aside0 (wc.heap[U]? = some (.cells #[.int .i64 a2] 3 (0, 0))) ∧ Aside0 (wc.heap[X]? = some (.cells #[(.slice A4 l4.length c4)] 38 (0, 0))) ∧ Aside0 (wc.heap[W]? = some (.cells #[.int .i64 0, .int .i64 0, (.slice none 0 0), (.slice none 0 0), (.slice none 0 0)] 33 (0, 0))) ∧ Aside0 (Below w.heap.size w wc))
 case first =>
  have H := dT.out; clear dT
  replace H := bS H; obtain ⟨aEY, wN, H⟩ := H
  replace H := iB' H; obtain ⟨rfl, H⟩ | ⟨rfl, H⟩ := H
  ·have H' := mk0 H
   clear H; have ⟨qZ, d3⟩ := no eE fE; have ⟨rZ, e3⟩ := no oE pE; have ⟨sZ, g3⟩ := no uF wF; have ⟨tZ, j3⟩ := no vD wD
   have aEA := cells5 r.out
   have ⟨uZ, m3⟩ := no vE xE; have ⟨vZ, n3⟩ := no wE yE; have ⟨wZ, o3⟩ := no bD cD
   have aEB := cells5 b.out
   go_wp2_with ((with_reducible refine AR (f := 19) rfl ?_); refine CO Try.func19 (Aq.calls k dD eD fD _ _ nC _ _ oC uC vC _ _ kC _ _ mB _ _ dB false _ (AZ HG.out (be5 HB G I J L O)) (cu dH HB) aH.out (cu eH HB) bH.out (cu fH HB) cH.out (Cg (Kd.AO oB.out).2.2) ((Kd.AO oB.out).2.1) (Cg (Kd.AO qB.out).2.2) ((Kd.AO qB.out).2.1) wN.out) ?_; intro aFB hb; replace oB := vb oB hb; replace qB := vb qB hb; replace eG := vb eG hb; obtain ⟨r, b, s, u, x⟩ := tb5 hb r b s u x; replace HB := kh5 HB G I J L O hb)
   go_meet
   case rel => exact ⟨_, (true), rfl, H', ⟨by omega⟩, ⟨BO (Kd.AL eG.out (fun _ l => ⟨l.1.1.1.1.1, ⟨l.1.1.1.1.2, ⟨l.1.1.1.2, ⟨l.1.1.2, ⟨l.1.2, l.2⟩⟩⟩⟩⟩))⟩, ⟨BO (Kd.AL oB.out (fun _ l => ⟨l.1.1.1.1.1, ⟨l.1.1.1.1.2, ⟨l.1.1.1.2, ⟨l.1.1.2, ⟨l.1.2, l.2⟩⟩⟩⟩⟩))⟩, ⟨BO (Kd.AL qB.out (fun _ l => ⟨l.1.1.1.1.1, ⟨l.1.1.1.1.2, ⟨l.1.1.1.2, ⟨l.1.1.2, ⟨l.1.2, l.2⟩⟩⟩⟩⟩))⟩, ⟨bu r⟩, ⟨bu b⟩, ⟨bu s⟩, ⟨bu u⟩, ⟨bu x⟩, ⟨be5 HB G I J L O⟩⟩
  replace H := iD H; obtain ⟨-, fM, H⟩ | ⟨-, fM, H⟩ := H
  ·(first | rw [fM] | (simp only [CP, Dj]; rw [fM]) | skip)
   have H' := mk0 H
   clear H; have ⟨o8, aBJ⟩ := no eE fE; have ⟨p8, aBK⟩ := no oE pE; have ⟨q8, aBL⟩ := no uF wF; have ⟨r8, aBM⟩ := no vD wD
   have aFS := cells5 r.out
   have ⟨y8, aBN⟩ := no vE xE; have ⟨z8, aBO⟩ := no wE yE; have ⟨b9, aBP⟩ := no bD cD
   have aFT := cells5 b.out
   go_wp2_with ((with_reducible refine AR (f := 19) rfl ?_); refine CO Try.func19 (Aq.calls k dD eD fD _ _ nC _ _ oC uC vC _ _ kC _ _ mB _ _ dB true _ (AZ HG.out (be5 HB G I J L O)) (cu dH HB) aH.out (cu eH HB) bH.out (cu fH HB) cH.out (Cg (Kd.AO oB.out).2.2) ((Kd.AO oB.out).2.1) (Cg (Kd.AO qB.out).2.2) ((Kd.AO qB.out).2.1) wN.out) ?_; intro w25 hb; replace oB := vb oB hb; replace qB := vb qB hb; replace eG := vb eG hb; obtain ⟨r, b, s, u, x⟩ := tb5 hb r b s u x; replace HB := kh5 HB G I J L O hb; have ⟨d9, aBQ⟩ := no yF zF; have ⟨e9, aBR⟩ := no gE hE; have rX : w25.cell? ⟨U, 0, none⟩ = some (.int .i64 a2) := bc s 0; have xX := AB s.out 0)
   go_meet
   case rel => exact ⟨_, (true), rfl, H', ⟨by omega⟩, ⟨BO (Kd.AL eG.out (fun _ l => ⟨l.1.1.1.1.1, ⟨l.1.1.1.1.2, ⟨l.1.1.1.2, ⟨l.1.1.2, ⟨l.1.2, l.2⟩⟩⟩⟩⟩))⟩, ⟨BO (Kd.AL oB.out (fun _ l => ⟨l.1.1.1.1.1, ⟨l.1.1.1.1.2, ⟨l.1.1.1.2, ⟨l.1.1.2, ⟨l.1.2, l.2⟩⟩⟩⟩⟩))⟩, ⟨BO (Kd.AL qB.out (fun _ l => ⟨l.1.1.1.1.1, ⟨l.1.1.1.1.2, ⟨l.1.1.1.2, ⟨l.1.1.2, ⟨l.1.2, l.2⟩⟩⟩⟩⟩))⟩, ⟨bu r⟩, ⟨bu b⟩, ⟨bu s⟩, ⟨bu u⟩, ⟨bu x⟩, ⟨be5 HB G I J L O⟩⟩
  (first | rw [fM] | (simp only [CP, Dj]; rw [fM]) | skip)
  by_cases c29 : a2 > 1000000
  ·rw [if_pos c29] at H
   have iT : decide (1000000 < a2) = true := decide_eq_true c29; clear c29
   have H' := mk0 H
   clear H; have ⟨f9, aBS⟩ := no eE fE; have ⟨g9, aBT⟩ := no oE pE; have ⟨j9, aBU⟩ := no uF wF; have ⟨l9, aBV⟩ := no vD wD
   have aFU := cells5 r.out
   have ⟨m9, aBW⟩ := no vE xE; have ⟨n9, aBX⟩ := no wE yE; have ⟨o9, aBY⟩ := no bD cD
   have aFV := cells5 b.out
   go_wp2_with ((with_reducible refine AR (f := 19) rfl ?_); refine CO Try.func19 (Aq.calls k dD eD fD _ _ nC _ _ oC uC vC _ _ kC _ _ mB _ _ dB true _ (AZ HG.out (be5 HB G I J L O)) (cu dH HB) aH.out (cu eH HB) bH.out (cu fH HB) cH.out (Cg (Kd.AO oB.out).2.2) ((Kd.AO oB.out).2.1) (Cg (Kd.AO qB.out).2.2) ((Kd.AO qB.out).2.1) wN.out) ?_; intro w39 hb; replace oB := vb oB hb; replace qB := vb qB hb; replace eG := vb eG hb; obtain ⟨r, b, s, u, x⟩ := tb5 hb r b s u x; replace HB := kh5 HB G I J L O hb; have ⟨p9, aBZ⟩ := no yF zF; have ⟨q9, aCA⟩ := no gE hE; have sX : w39.cell? ⟨U, 0, none⟩ = some (.int .i64 a2) := bc s 0; have yX := AB s.out 0)
   go_meet
   case rel => exact ⟨_, (true), rfl, H', ⟨by omega⟩, ⟨BO (Kd.AL eG.out (fun _ l => ⟨l.1.1.1.1.1, ⟨l.1.1.1.1.2, ⟨l.1.1.1.2, ⟨l.1.1.2, ⟨l.1.2, l.2⟩⟩⟩⟩⟩))⟩, ⟨BO (Kd.AL oB.out (fun _ l => ⟨l.1.1.1.1.1, ⟨l.1.1.1.1.2, ⟨l.1.1.1.2, ⟨l.1.1.2, ⟨l.1.2, l.2⟩⟩⟩⟩⟩))⟩, ⟨BO (Kd.AL qB.out (fun _ l => ⟨l.1.1.1.1.1, ⟨l.1.1.1.1.2, ⟨l.1.1.1.2, ⟨l.1.1.2, ⟨l.1.2, l.2⟩⟩⟩⟩⟩))⟩, ⟨bu r⟩, ⟨bu b⟩, ⟨bu s⟩, ⟨bu u⟩, ⟨bu x⟩, ⟨be5 HB G I J L O⟩⟩
  rw [if_neg c29] at H; have iT : decide (1000000 < a2) = false := decide_eq_false c29; clear c29
  replace H := iD H; obtain ⟨jT, kT, H⟩ | ⟨jT, kT, H⟩ := H
  ·have lT : decide (l3.length < 1) = true := decide_eq_true (by omega); clear jT
   have H' := mk0 H
   clear H; have ⟨r9, aCB⟩ := no eE fE; have ⟨y9, aCC⟩ := no oE pE; have ⟨aAA, aCD⟩ := no uF wF; have ⟨aAB, aCE⟩ := no vD wD
   have aFW := cells5 r.out
   have ⟨aAC, aCF⟩ := no vE xE; have ⟨aAD, aCG⟩ := no wE yE; have ⟨aAE, aCH⟩ := no bD cD
   have aFX := cells5 b.out
   go_wp2_with ((with_reducible refine AR (f := 19) rfl ?_); refine CO Try.func19 (Aq.calls k dD eD fD _ _ nC _ _ oC uC vC _ _ kC _ _ mB _ _ dB true _ (AZ HG.out (be5 HB G I J L O)) (cu dH HB) aH.out (cu eH HB) bH.out (cu fH HB) cH.out (Cg (Kd.AO oB.out).2.2) ((Kd.AO oB.out).2.1) (Cg (Kd.AO qB.out).2.2) ((Kd.AO qB.out).2.1) wN.out) ?_; intro w53 hb; replace oB := vb oB hb; replace qB := vb qB hb; replace eG := vb eG hb; obtain ⟨r, b, s, u, x⟩ := tb5 hb r b s u x; replace HB := kh5 HB G I J L O hb; have ⟨aAF, aCI⟩ := no yF zF; have ⟨aAG, aCJ⟩ := no gE hE; have tX : w53.cell? ⟨U, 0, none⟩ = some (.int .i64 a2) := bc s 0; have zX := AB s.out 0)
   go_meet
   case rel => exact ⟨_, (true), rfl, H', ⟨by omega⟩, ⟨BO (Kd.AL eG.out (fun _ l => ⟨l.1.1.1.1.1, ⟨l.1.1.1.1.2, ⟨l.1.1.1.2, ⟨l.1.1.2, ⟨l.1.2, l.2⟩⟩⟩⟩⟩))⟩, ⟨BO (Kd.AL oB.out (fun _ l => ⟨l.1.1.1.1.1, ⟨l.1.1.1.1.2, ⟨l.1.1.1.2, ⟨l.1.1.2, ⟨l.1.2, l.2⟩⟩⟩⟩⟩))⟩, ⟨BO (Kd.AL qB.out (fun _ l => ⟨l.1.1.1.1.1, ⟨l.1.1.1.1.2, ⟨l.1.1.1.2, ⟨l.1.1.2, ⟨l.1.2, l.2⟩⟩⟩⟩⟩))⟩, ⟨bu r⟩, ⟨bu b⟩, ⟨bu s⟩, ⟨bu u⟩, ⟨bu x⟩, ⟨be5 HB G I J L O⟩⟩
  have lT : decide (l3.length < 1) = false := decide_eq_false (by omega)
  clear jT
  by_cases c57 : (l3.length : Int) > 64
  ·rw [if_pos c57] at H
   have mT : decide (64 < (l3.length : Int)) = true := decide_eq_true c57
   have nT : decide (64 < l3.length) = true := decide_eq_true (by omega)
   clear c57
   have H' := mk0 H
   clear H; have ⟨aAH, aCK⟩ := no eE fE; have ⟨aAI, aCL⟩ := no oE pE; have ⟨aAJ, aCM⟩ := no uF wF; have ⟨aAK, aCN⟩ := no vD wD
   have aFY := cells5 r.out
   have ⟨aAL, aCO⟩ := no vE xE; have ⟨aAM, aCP⟩ := no wE yE; have ⟨aAN, aCQ⟩ := no bD cD
   have aFZ := cells5 b.out
   go_wp2_with ((with_reducible refine AR (f := 19) rfl ?_); refine CO Try.func19 (Aq.calls k dD eD fD _ _ nC _ _ oC uC vC _ _ kC _ _ mB _ _ dB true _ (AZ HG.out (be5 HB G I J L O)) (cu dH HB) aH.out (cu eH HB) bH.out (cu fH HB) cH.out (Cg (Kd.AO oB.out).2.2) ((Kd.AO oB.out).2.1) (Cg (Kd.AO qB.out).2.2) ((Kd.AO qB.out).2.1) wN.out) ?_; intro w67 hb; replace oB := vb oB hb; replace qB := vb qB hb; replace eG := vb eG hb; obtain ⟨r, b, s, u, x⟩ := tb5 hb r b s u x; replace HB := kh5 HB G I J L O hb; have ⟨aAO, aCR⟩ := no yF zF; have ⟨aAP, aCS⟩ := no gE hE; have uX : w67.cell? ⟨U, 0, none⟩ = some (.int .i64 a2) := bc s 0; have aY := AB s.out 0)
   go_meet
   case rel => exact ⟨_, (true), rfl, H', ⟨by omega⟩, ⟨BO (Kd.AL eG.out (fun _ l => ⟨l.1.1.1.1.1, ⟨l.1.1.1.1.2, ⟨l.1.1.1.2, ⟨l.1.1.2, ⟨l.1.2, l.2⟩⟩⟩⟩⟩))⟩, ⟨BO (Kd.AL oB.out (fun _ l => ⟨l.1.1.1.1.1, ⟨l.1.1.1.1.2, ⟨l.1.1.1.2, ⟨l.1.1.2, ⟨l.1.2, l.2⟩⟩⟩⟩⟩))⟩, ⟨BO (Kd.AL qB.out (fun _ l => ⟨l.1.1.1.1.1, ⟨l.1.1.1.1.2, ⟨l.1.1.1.2, ⟨l.1.1.2, ⟨l.1.2, l.2⟩⟩⟩⟩⟩))⟩, ⟨bu r⟩, ⟨bu b⟩, ⟨bu s⟩, ⟨bu u⟩, ⟨bu x⟩, ⟨be5 HB G I J L O⟩⟩
  rw [if_neg c57] at H; have mT : decide (64 < (l3.length : Int)) = false := decide_eq_false c57
  have nT : decide (64 < l3.length) = false := decide_eq_false (by omega)
  clear c57
  replace H := iF' H; obtain ⟨lP, oT, pT, H⟩ | ⟨lP, oT, pT, H⟩ := H
  ·have qT : (l4.length == l3.length) = false := by first | simpa using lP | (simp at lP ⊢; omega)
   have H' := mk0 H
   clear H; have ⟨aBA, aDD⟩ := no eE fE; have ⟨aBB, aDE⟩ := no oE pE; have ⟨aBC, aDF⟩ := no uF wF; have ⟨aBD, aDG⟩ := no vD wD
   have aGC := cells5 r.out
   have ⟨aBE, aDH⟩ := no vE xE; have ⟨aBF, aDI⟩ := no wE yE; have ⟨aBG, aDJ⟩ := no bD cD
   have aGD := cells5 b.out
   go_wp2_with ((with_reducible refine AR (f := 19) rfl ?_); refine CO Try.func19 (Aq.calls k dD eD fD _ _ nC _ _ oC uC vC _ _ kC _ _ mB _ _ dB true _ (AZ HG.out (be5 HB G I J L O)) (cu dH HB) aH.out (cu eH HB) bH.out (cu fH HB) cH.out (Cg (Kd.AO oB.out).2.2) ((Kd.AO oB.out).2.1) (Cg (Kd.AO qB.out).2.2) ((Kd.AO qB.out).2.1) wN.out) ?_; intro tY hb; replace oB := vb oB hb; replace qB := vb qB hb; replace eG := vb eG hb; obtain ⟨r, b, s, u, x⟩ := tb5 hb r b s u x; replace HB := kh5 HB G I J L O hb; have ⟨aBH, aDK⟩ := no yF zF; have ⟨aBI, aDL⟩ := no gE hE; have hU : tY.cell? ⟨U, 0, none⟩ = some (.int .i64 a2) := bc s 0; have kU := AB s.out 0; have ⟨pZ, b3⟩ := no fG gG; have iU : tY.cell? ⟨X, 0, none⟩ = some (.slice A4 l4.length c4) := bc u 0; have lU := AB u.out 0)
   go_meet
   case rel => exact ⟨_, (true), rfl, H', ⟨by omega⟩, ⟨BO (Kd.AL eG.out (fun _ l => ⟨l.1.1.1.1.1, ⟨l.1.1.1.1.2, ⟨l.1.1.1.2, ⟨l.1.1.2, ⟨l.1.2, l.2⟩⟩⟩⟩⟩))⟩, ⟨BO (Kd.AL oB.out (fun _ l => ⟨l.1.1.1.1.1, ⟨l.1.1.1.1.2, ⟨l.1.1.1.2, ⟨l.1.1.2, ⟨l.1.2, l.2⟩⟩⟩⟩⟩))⟩, ⟨BO (Kd.AL qB.out (fun _ l => ⟨l.1.1.1.1.1, ⟨l.1.1.1.1.2, ⟨l.1.1.1.2, ⟨l.1.1.2, ⟨l.1.2, l.2⟩⟩⟩⟩⟩))⟩, ⟨bu r⟩, ⟨bu b⟩, ⟨bu s⟩, ⟨bu u⟩, ⟨bu x⟩, ⟨be5 HB G I J L O⟩⟩
  have qT : (l4.length == l3.length) = true := by first | simpa using lP | (simp at lP ⊢; omega)
  clear lP
  replace H := bS H; obtain ⟨iY, g8, H⟩ := H
  have H' := mk0 H
  clear H; have ⟨aAQ, aCT⟩ := no eE fE; have ⟨aAR, aCU⟩ := no oE pE; have ⟨aAS, aCV⟩ := no uF wF; have ⟨aAT, aCW⟩ := no vD wD
  have aGA := cells5 r.out
  have ⟨aAU, aCX⟩ := no vE xE; have ⟨aAV, aCY⟩ := no wE yE; have ⟨aAW, aCZ⟩ := no bD cD
  have aGB := cells5 b.out
  go_wp2_with (first | ((with_reducible refine AR (f := 19) rfl ?_); refine CO Try.func19 (Aq.calls k dD eD fD _ _ nC _ _ oC uC vC _ _ kC _ _ mB _ _ dB true _ (AZ HG.out (be5 HB G I J L O)) (cu dH HB) aH.out (cu eH HB) bH.out (cu fH HB) cH.out (Cg (Kd.AO oB.out).2.2) ((Kd.AO oB.out).2.1) (Cg (Kd.AO qB.out).2.2) ((Kd.AO qB.out).2.1) wN.out) ?_; intro sY hb; replace oB := vb oB hb; replace qB := vb qB hb; replace eG := vb eG hb; obtain ⟨r, b, s, u, x⟩ := tb5 hb r b s u x; replace HB := kh5 HB G I J L O hb; have ⟨aAX, aDA⟩ := no yF zF; have ⟨aAY, aDB⟩ := no gE hE; have vX : sY.cell? ⟨U, 0, none⟩ = some (.int .i64 a2) := bc s 0; have bY := AB s.out 0; have ⟨aAZ, aDC⟩ := no fG gG; have wX : sY.cell? ⟨X, 0, none⟩ = some (.slice A4 l4.length c4) := bc u 0; have cY := AB u.out 0) | (go_at_call 59; refine (drivers_rising.calls (cu eT HB) zW.out g8.out).mono ?_; rintro e w' ⟨rfl, ⟨nd, rfl⟩⟩))
  go_meet
  case rel => exact ⟨_, (!iY), rfl, H', ⟨by omega⟩, ⟨BO (Kd.AL eG.out (fun _ l => ⟨l.1.1.1.1.1, ⟨l.1.1.1.1.2, ⟨l.1.1.1.2, ⟨l.1.1.2, ⟨l.1.2, l.2⟩⟩⟩⟩⟩))⟩, ⟨BO (Kd.AL oB.out (fun _ l => ⟨l.1.1.1.1.1, ⟨l.1.1.1.1.2, ⟨l.1.1.1.2, ⟨l.1.1.2, ⟨l.1.2, l.2⟩⟩⟩⟩⟩))⟩, ⟨BO (Kd.AL qB.out (fun _ l => ⟨l.1.1.1.1.1, ⟨l.1.1.1.1.2, ⟨l.1.1.1.2, ⟨l.1.1.2, ⟨l.1.2, l.2⟩⟩⟩⟩⟩))⟩, ⟨bu r⟩, ⟨bu b⟩, ⟨bu s⟩, ⟨bu u⟩, ⟨bu x⟩, ⟨be5 HB G I J L O⟩⟩
 case rest =>
  clear dT; try clear c3; try clear c4
  obtain ⟨kq, bP, rfl, HA, wL, gB, m, d, r, b, s, u, x, HB⟩ := hcut
  cases kq with
  | zero => exact absurd HA.out (by simp [AJ.j0])
  | succ hY =>
   have H := HA.out; clear HA
   simp only [AJ.j0] at H
   replace H := iB H; obtain ⟨rfl, H⟩ | ⟨rfl, H⟩ := H
   ·simp only [Option.some.injEq, Prod.mk.injEq] at H
    obtain ⟨rfl, rfl, rfl, rfl, rfl, rfl⟩ := H
    have ⟨xZ, p3⟩ := no wD vD; have ⟨yZ, q3⟩ := no cD bD; have ⟨zZ, y3⟩ := no hE gE; have ⟨aA, b4⟩ := no gG fG
    have aEC := cells5 x.out
    go_wp2
    refine bodyPost_ret (EB rfl _ _ W 33 #[.int .i64 0, .int .i64 0, .slice none 0 0, .slice none 0 0, .slice none 0 0] (0, 0) _ rfl (pB x) Try.underlying33 rfl (by kernel_rfl)) rfl ?_
    exact ⟨_, _, _, rfl, by first | exact Kd.Di _ _ _ _ _ | exact Kd.Dx _ _ _ _ _ | exact Kd.DT _ _ _ _ _ | exact Kd.Du _ _ _ _ _ | exact Kd.Dw _ _ _ _ _, Kd.DT _ _ _ _ _, by first | exact Kd.Di _ _ _ _ _ | exact Kd.Dx _ _ _ _ _ | exact Kd.DT _ _ _ _ _ | exact Kd.Du _ _ _ _ _ | exact Kd.Dw _ _ _ _ _, be5 HB G I J L O⟩
   have H' := mk0 H
   clear H
   go_wp2
   go_loopg [58] hY (fun kq v58 w' => ∃ (mC : Int) (yB : Int) (zB : Int), v58 = .int .i64 mC ∧ Aside0 (AJ.l0 kq a2 l3 l4 a5 l3 (l3.length : Int) mC dD eD fD nC oC uC vC kC mB dB a2 l4 = some (r1, r2, r3, r4, r5, r6)) ∧ Aside0 (kq ≤ hY) ∧ Aside0 (Kd.V k30 30 w' w.heap.size (fun a => ((eB a ∨ fB a ∨ fC a) ∨ w.heap.size ≤ a) ∧ a ≠ T ∧ a ≠ D ∧ a ≠ U ∧ a ≠ X ∧ a ≠ W) (.slice A3 l3.length c3) l3) ∧ Aside0 (Kd.V k30 30 w' w.heap.size (fun a => ((eB a ∨ fB a ∨ fC a) ∨ w.heap.size ≤ a) ∧ a ≠ T ∧ a ≠ D ∧ a ≠ U ∧ a ≠ X ∧ a ≠ W) (.slice A3 l3.length c3) l3) ∧ Aside0 (Kd.V k30 30 w' w.heap.size (fun a => ((eB a ∨ fB a ∨ fC a) ∨ w.heap.size ≤ a) ∧ a ≠ T ∧ a ≠ D ∧ a ≠ U ∧ a ≠ X ∧ a ≠ W) (.slice sD mB.length uD) mB) ∧ Aside0 (Kd.V k63 63 w' w.heap.size (fun a => ((eB a ∨ fB a ∨ fC a) ∨ w.heap.size ≤ a) ∧ a ≠ T ∧ a ≠ D ∧ a ≠ U ∧ a ≠ X ∧ a ≠ W) (.slice tD dB.length aD) dB) ∧ Aside0 (w'.heap[T]? = some (.cells #[.int .i64 dD, .int .i64 eD, .string fD, (.slice qF nC.length sF), (.slice rF oC.length tF)] 26 (0, 0))) ∧ Aside0 (w'.heap[D]? = some (.cells #[.int .i64 uC, .int .i64 vC, (.slice dF kC.length mF), (.slice sD mB.length uD), (.slice tD dB.length aD)] 33 (0, 0))) ∧ Aside0 (w'.heap[U]? = some (.cells #[.int .i64 a2] 3 (0, 0))) ∧ Aside0 (w'.heap[X]? = some (.cells #[(.slice A4 l4.length c4)] 38 (0, 0))) ∧ Aside0 (w'.heap[W]? = some (.cells #[.int .i64 yB, .int .i64 zB, (.slice none 0 0), (.slice none 0 0), (.slice none 0 0)] 33 (0, 0))) ∧ Aside0 (Below w.heap.size w w'))
   case atStart => exact ⟨(0), (0), (0), rfl, H', ⟨Nat.le_refl _⟩, ⟨Bj gB.out⟩, ⟨Bj gB.out⟩, ⟨Bj m.out⟩, ⟨Bj d.out⟩, ⟨bu r⟩, ⟨bu b⟩, ⟨bu s⟩, ⟨bu u⟩, ⟨bu x⟩, ⟨be5 HB G I J L O⟩⟩
   case round =>
    clear H'
    try clear c3; try clear c4
    obtain ⟨mC, yB, zB, rfl, HA, xL, gB, uE, m, d, r, b, s, u, x, HB⟩ := hrel
    cases gk with
    | zero => exact absurd HA.out (by simp [AJ.l0])
    | succ k2 =>
     have H := HA.out; clear HA
     simp only [AJ.l0] at H
     replace H := iD H; obtain ⟨-, yM, H⟩ | ⟨-, yM, H⟩ := H
     ·replace H := iN H; obtain ⟨-, uY, H⟩ := H
      replace H := iN H; obtain ⟨-, vY, H⟩ := H
      replace H := bS H; obtain ⟨aEZ, zR, H⟩ := H
      replace H := iB' H; obtain ⟨rfl, H⟩ | ⟨rfl, H⟩ := H
      ·simp only [Option.some.injEq, Prod.mk.injEq] at H
       obtain ⟨rfl, rfl, rfl, rfl, rfl, rfl⟩ := H
       have xK : 0 ≤ (mC : Int) := od
       have bL : mC < (l3.length : Int) := od
       obtain ⟨gT, fK, oK, gK, pK, gQ, yQ, zQ, mM, nM, gJ, aJ, hJ, bJ⟩ := Dy (Kd.AO uE.out).2.2 mC xK bL
       cases gQ
       obtain ⟨rT, gN, bN, oI⟩ := Kd.FQ uE.out z30 mC xK (by first | exact bL | exact of_decide_eq_true (by assumption) | (have e_ := (Kd.AO uE.out).1; omega))
       obtain ⟨fR, lR, gR, mR, rfl, vH, nH, wH, oH⟩ := FR bN
       have qG := oI 2 _ rfl
       rw [BZ _ _ 2 (by omega)] at qG
       replace qG := Option.some.inj (qG.symm.trans mM)
       injection qG with hva_ hvn_ hvc_
       rw [hva_] at nH
       rw [hvc_] at vH
       have eF := mk0 (show Kd.V (Kd.int .u8) 73 _ w.heap.size _ _ ((AC l3 mC).f2) from Kd.C8 vH nH)
       clear hva_ hvn_ hvc_ nH vH
       have rG := oI 3 _ rfl
       rw [BZ _ _ 3 (by omega)] at rG
       replace rG := Option.some.inj (rG.symm.trans nM)
       injection rG with hva_ hvn_ hvc_
       rw [hva_] at oH
       rw [hvc_] at wH
       have fF := mk0 (show Kd.V k30 30 _ w.heap.size _ _ ((AC l3 mC).f3) from Kd.C8 wH oH)
       clear hva_ hvn_ hvc_ oH wH; clear oI gN; have gH := mk0 aJ; have qL := mk0 gJ; clear aJ gJ; have hH := mk0 bJ; have rL := mk0 hJ; clear bJ hJ; replace xK := eq_true xK; replace bL := eq_true bL
       go_wp2_with (first | ((with_reducible refine AP rfl (N := 15) rfl (cs := #[.int .i64 0, .int .i64 0, .slice none 0 0, .slice none 0 0]) (t := 30) ?hr ?_); (case hr => first | (go_simp; done) | (go_simp; rfl)); intro qE hg aFE mE hb; obtain ⟨gB, uE, m, d, eF, fF⟩ := tg6 hg hb gB uE m d eF fF; obtain ⟨gH, hH⟩ := tb2 hb gH hH; have xJ := mk0 (mE); have zG := bs (be5 HB G I J L O) hg; replace HB := kh5 HB G I J L O hb; have ⟨iH, zJ⟩ := nn r hg; have ⟨jH, aK⟩ := nn b hg; have ⟨kH, bK⟩ := nn s hg; have ⟨lH, cK⟩ := nn u hg; have ⟨mH, dK⟩ := nn x hg; obtain ⟨r, b, s, u, x⟩ := tb5 hb r b s u x; clear hb mE hg; have ⟨kA, b5⟩ := no zJ iH; have ⟨lA, d5⟩ := no aK jH; have ⟨mA, e5⟩ := no bK kH; have ⟨nA, f5⟩ := no cK lH; have ⟨oA, g5⟩ := no dK mH; have aEF := BN xJ.out; have ⟨pA, i5⟩ := no eE fE; have ⟨qA, j5⟩ := no oE pE; have ⟨rA, l5⟩ := no uF wF; have ⟨sA, m5⟩ := no vD wD; have aEG := cells5 r.out) | ((with_reducible refine AR (f := 45) rfl ?_); refine Gd Try.func45 #[.agg #[.int .i64 dD, .int .i64 eD, .string fD, .slice qF nC.length sF, .slice rF oC.length tF], .agg #[.int .i64 ((AC l3 mC).f0), .int .i64 ((AC l3 mC).f1), .slice fK ((AC l3 mC).f2).length oK, .slice gK ((AC l3 mC).f3).length pK]] ?_; (with_reducible refine (CL.calls ?side9 ?side1 ?side2 ?side3 ?side4 ?side5 ?side6 ?side7 ?side8 zR.out).mono ?_); (case side1 => exact Kd.BR dH.out (be6 HB G I J L O zG)); (case side2 => exact aH.out); (case side3 => exact Kd.BR eH.out (be6 HB G I J L O zG)); (case side4 => exact bH.out); (case side5 => exact ((Kd.AO (by exact BO ((vF (q := qE) eF (fun _ l => l.2))))).2.2)); (case side6 => exact qL.out); (case side7 => exact ((Kd.AO (by exact BO ((vF (q := qE) fF (fun _ l => l.2))))).2.2)); (case side8 => exact rL.out); (case side9 => exact AZ HG.out (be6 HB G I J L O zG)); rintro e aFF ⟨rfl, hb⟩; refine ⟨_, rfl, ?_⟩; replace gB := mk0 (Kd.Bw (BO ((vF (q := qE) gB (fun _ l => l.2)))) hb); replace uE := mk0 (Kd.Bw (BO ((vF (q := qE) uE (fun _ l => l.2)))) hb); replace m := mk0 (Kd.Bw (BO ((vF (q := qE) m (fun _ l => l.2)))) hb); replace d := mk0 (Kd.Bw (BO ((vF (q := qE) d (fun _ l => l.2)))) hb); replace r := kF iH r hb; replace b := kF jH b hb; replace s := kF kH s hb; replace u := kF lH u hb; replace x := kF mH x hb; replace gH := mk0 (Kd.BR ((Kd.AO (by exact BO ((vF (q := qE) eF (fun _ l => l.2))))).2.2) hb); replace eF := mk0 (Kd.Bw (BO ((vF (q := qE) eF (fun _ l => l.2)))) hb); replace hH := mk0 (Kd.BR ((Kd.AO (by exact BO ((vF (q := qE) fF (fun _ l => l.2))))).2.2) hb); replace fF := mk0 (Kd.Bw (BO ((vF (q := qE) fF (fun _ l => l.2)))) hb); replace xJ := mk0 (Aa (g := qE) (o := .cells #[.int .i64 ((AC l3 mC).f0), .int .i64 ((AC l3 mC).f1), .slice fK ((AC l3 mC).f2).length oK, .slice gK ((AC l3 mC).f3).length pK] 30 (0, 0)) (pB xJ) hb); replace HB := kh6 HB G I J L O zG hb; have ⟨tA, n5⟩ := no cD bD; have ⟨uA, o5⟩ := no hE gE; have ⟨vA, p5⟩ := no gG fG; have aEH := cells5 x.out))
       refine bodyPost_ret (EB rfl _ _ W 33 #[.int .i64 0, .int .i64 0, .slice none 0 0, .slice none 0 0, .slice none 0 0] (0, 0) _ rfl (pB x) Try.underlying33 rfl (by kernel_rfl)) rfl ?_
       exact ⟨_, _, _, rfl, by first | exact Kd.Di _ _ _ _ _ | exact Kd.Dx _ _ _ _ _ | exact Kd.DT _ _ _ _ _ | exact Kd.Du _ _ _ _ _ | exact Kd.Dw _ _ _ _ _, Kd.DT _ _ _ _ _, by first | exact Kd.Di _ _ _ _ _ | exact Kd.Dx _ _ _ _ _ | exact Kd.DT _ _ _ _ _ | exact Kd.Du _ _ _ _ _ | exact Kd.Dw _ _ _ _ _, be6 HB G I J L O zG⟩
      have H' := mk0 H
      clear H
      have xK : 0 ≤ (mC : Int) := od
      have bL : mC < (l3.length : Int) := od
      obtain ⟨gT, fK, oK, gK, pK, gQ, yQ, zQ, mM, nM, gJ, aJ, hJ, bJ⟩ := Dy (Kd.AO uE.out).2.2 mC xK bL
      cases gQ
      obtain ⟨rT, gN, bN, oI⟩ := Kd.FQ uE.out z30 mC xK (by first | exact bL | exact of_decide_eq_true (by assumption) | (have e_ := (Kd.AO uE.out).1; omega))
      obtain ⟨fR, lR, gR, mR, rfl, vH, nH, wH, oH⟩ := FR bN
      have qG := oI 2 _ rfl
      rw [BZ _ _ 2 (by omega)] at qG
      replace qG := Option.some.inj (qG.symm.trans mM)
      injection qG with hva_ hvn_ hvc_
      rw [hva_] at nH
      rw [hvc_] at vH
      have eF := mk0 (show Kd.V (Kd.int .u8) 73 _ w.heap.size _ _ ((AC l3 mC).f2) from Kd.C8 vH nH)
      clear hva_ hvn_ hvc_ nH vH
      have rG := oI 3 _ rfl
      rw [BZ _ _ 3 (by omega)] at rG
      replace rG := Option.some.inj (rG.symm.trans nM)
      injection rG with hva_ hvn_ hvc_
      rw [hva_] at oH
      rw [hvc_] at wH
      have fF := mk0 (show Kd.V k30 30 _ w.heap.size _ _ ((AC l3 mC).f3) from Kd.C8 wH oH)
      clear hva_ hvn_ hvc_ oH wH; clear oI gN; have gH := mk0 aJ; have qL := mk0 gJ; clear aJ gJ; have hH := mk0 bJ; have rL := mk0 hJ; clear bJ hJ; replace xK := eq_true xK; replace bL := eq_true bL
      go_wp2_with (first | ((with_reducible refine AP rfl (N := 15) rfl (cs := #[.int .i64 0, .int .i64 0, .slice none 0 0, .slice none 0 0]) (t := 30) ?hr ?_); (case hr => first | (go_simp; done) | (go_simp; rfl)); intro qE hg aFC mE hb; obtain ⟨gB, uE, m, d, eF, fF⟩ := tg6 hg hb gB uE m d eF fF; obtain ⟨gH, hH⟩ := tb2 hb gH hH; have xJ := mk0 (mE); have zG := bs (be5 HB G I J L O) hg; replace HB := kh5 HB G I J L O hb; have ⟨iH, zJ⟩ := nn r hg; have ⟨jH, aK⟩ := nn b hg; have ⟨kH, bK⟩ := nn s hg; have ⟨lH, cK⟩ := nn u hg; have ⟨mH, dK⟩ := nn x hg; obtain ⟨r, b, s, u, x⟩ := tb5 hb r b s u x; clear hb mE hg; have ⟨bA, d4⟩ := no zJ iH; have ⟨cA, e4⟩ := no aK jH; have ⟨dA, g4⟩ := no bK kH; have ⟨eA, m4⟩ := no cK lH; have ⟨fA, n4⟩ := no dK mH; have aED := BN xJ.out; have ⟨gA, o4⟩ := no eE fE; have ⟨hA, p4⟩ := no oE pE; have ⟨iA, q4⟩ := no uF wF; have ⟨jA, y4⟩ := no vD wD; have aEE := cells5 r.out) | ((with_reducible refine AR (f := 45) rfl ?_); refine Gd Try.func45 #[.agg #[.int .i64 dD, .int .i64 eD, .string fD, .slice qF nC.length sF, .slice rF oC.length tF], .agg #[.int .i64 ((AC l3 mC).f0), .int .i64 ((AC l3 mC).f1), .slice fK ((AC l3 mC).f2).length oK, .slice gK ((AC l3 mC).f3).length pK]] ?_; (with_reducible refine (CL.calls ?side9 ?side1 ?side2 ?side3 ?side4 ?side5 ?side6 ?side7 ?side8 zR.out).mono ?_); (case side1 => exact Kd.BR dH.out (be6 HB G I J L O zG)); (case side2 => exact aH.out); (case side3 => exact Kd.BR eH.out (be6 HB G I J L O zG)); (case side4 => exact bH.out); (case side5 => exact ((Kd.AO (by exact BO ((vF (q := qE) eF (fun _ l => l.2))))).2.2)); (case side6 => exact qL.out); (case side7 => exact ((Kd.AO (by exact BO ((vF (q := qE) fF (fun _ l => l.2))))).2.2)); (case side8 => exact rL.out); (case side9 => exact AZ HG.out (be6 HB G I J L O zG)); rintro e aFD ⟨rfl, hb⟩; refine ⟨_, rfl, ?_⟩; replace gB := mk0 (Kd.Bw (BO ((vF (q := qE) gB (fun _ l => l.2)))) hb); replace uE := mk0 (Kd.Bw (BO ((vF (q := qE) uE (fun _ l => l.2)))) hb); replace m := mk0 (Kd.Bw (BO ((vF (q := qE) m (fun _ l => l.2)))) hb); replace d := mk0 (Kd.Bw (BO ((vF (q := qE) d (fun _ l => l.2)))) hb); replace r := kF iH r hb; replace b := kF jH b hb; replace s := kF kH s hb; replace u := kF lH u hb; replace x := kF mH x hb; replace gH := mk0 (Kd.BR ((Kd.AO (by exact BO ((vF (q := qE) eF (fun _ l => l.2))))).2.2) hb); replace eF := mk0 (Kd.Bw (BO ((vF (q := qE) eF (fun _ l => l.2)))) hb); replace hH := mk0 (Kd.BR ((Kd.AO (by exact BO ((vF (q := qE) fF (fun _ l => l.2))))).2.2) hb); replace fF := mk0 (Kd.Bw (BO ((vF (q := qE) fF (fun _ l => l.2)))) hb); replace xJ := mk0 (Aa (g := qE) (o := .cells #[.int .i64 ((AC l3 mC).f0), .int .i64 ((AC l3 mC).f1), .slice fK ((AC l3 mC).f2).length oK, .slice gK ((AC l3 mC).f3).length pK] 30 (0, 0)) (pB xJ) hb); replace HB := kh6 HB G I J L O zG hb))
      go_roundg k2
      case measure => have := wL.out; have := xL.out; omega
      case rel => exact ⟨(wrap64 (mC + 1)), (yB), (zB), rfl, H', ⟨by have := wL.out; have := xL.out; omega⟩, ⟨BO (Kd.AL gB.out (fun _ l => ⟨l.1.1, ⟨l.1.2.1, ⟨l.1.2.2.1, ⟨l.1.2.2.2.1, ⟨l.1.2.2.2.2.1, l.1.2.2.2.2.2⟩⟩⟩⟩⟩))⟩, ⟨BO (Kd.AL uE.out (fun _ l => ⟨l.1.1, ⟨l.1.2.1, ⟨l.1.2.2.1, ⟨l.1.2.2.2.1, ⟨l.1.2.2.2.2.1, l.1.2.2.2.2.2⟩⟩⟩⟩⟩))⟩, ⟨BO (Kd.AL m.out (fun _ l => ⟨l.1.1, ⟨l.1.2.1, ⟨l.1.2.2.1, ⟨l.1.2.2.2.1, ⟨l.1.2.2.2.2.1, l.1.2.2.2.2.2⟩⟩⟩⟩⟩))⟩, ⟨BO (Kd.AL d.out (fun _ l => ⟨l.1.1, ⟨l.1.2.1, ⟨l.1.2.2.1, ⟨l.1.2.2.2.1, ⟨l.1.2.2.2.2.1, l.1.2.2.2.2.2⟩⟩⟩⟩⟩))⟩, ⟨bu r⟩, ⟨bu b⟩, ⟨bu s⟩, ⟨bu u⟩, ⟨bu x⟩, ⟨be6 HB G I J L O zG⟩⟩
     replace H := bS H; obtain ⟨aFA, cS, H⟩ := H
     replace H := iB H; obtain ⟨rfl, H⟩ | ⟨rfl, H⟩ := H
     ·simp only [Option.some.injEq, Prod.mk.injEq] at H
      obtain ⟨rfl, rfl, rfl, rfl, rfl, rfl⟩ := H
      have ⟨wA, q5⟩ := no fE eE; have ⟨xA, y5⟩ := no vE xE; have ⟨yA, a6⟩ := no wE yE; have ⟨zA, b6⟩ := no bD cD
      have aEI := cells5 b.out
      have ⟨b0, d6⟩ := no pE oE; have ⟨d0, e6⟩ := no yF zF; have ⟨e0, f6⟩ := no gE hE
      have jU : wr.cell? ⟨U, 0, none⟩ = some (.int .i64 a2) := bc s 0
      have mU := AB s.out 0
      go_wp2_with ((with_reducible refine AR (f := 50) rfl ?_); refine CO Try.func50 (drivers_behind.calls (cu fH HB) cH.out (Cg (Kd.AO m.out).2.2) ((Kd.AO m.out).2.1) (Cg (Kd.AO d.out).2.2) ((Kd.AO d.out).2.1) cS.out) ?_; intro aFG hb; replace gB := vb gB hb; replace uE := vb uE hb; replace m := vb m hb; replace d := vb d hb; obtain ⟨r, b, s, u, x⟩ := tb5 hb r b s u x; replace HB := kh5 HB G I J L O hb; have ⟨g0, g6⟩ := no wD vD; have ⟨m0, i6⟩ := no gG fG; have aEJ := cells5 x.out)
      refine bodyPost_ret (EB rfl _ _ W 33 #[.int .i64 0, .int .i64 0, .slice none 0 0, .slice none 0 0, .slice none 0 0] (0, 0) _ rfl (pB x) Try.underlying33 rfl (by kernel_rfl)) rfl ?_
      exact ⟨_, _, _, rfl, by first | exact Kd.Di _ _ _ _ _ | exact Kd.Dx _ _ _ _ _ | exact Kd.DT _ _ _ _ _ | exact Kd.Du _ _ _ _ _ | exact Kd.Dw _ _ _ _ _, Kd.DT _ _ _ _ _, by first | exact Kd.Di _ _ _ _ _ | exact Kd.Dx _ _ _ _ _ | exact Kd.DT _ _ _ _ _ | exact Kd.Du _ _ _ _ _ | exact Kd.Dw _ _ _ _ _, be5 HB G I J L O⟩
     replace H := bS H; obtain ⟨vS, xW, H⟩ := H; have zN := mk0 H; clear H; have ⟨n0, j6⟩ := no fE eE; have ⟨o0, l6⟩ := no vE xE; have ⟨p0, m6⟩ := no wE yE; have ⟨q0, n6⟩ := no bD cD
     have aEK := cells5 b.out
     have ⟨r0, o6⟩ := no pE oE; have ⟨y0, p6⟩ := no yF zF; have ⟨a1, q6⟩ := no gE hE
     have uM : wr.cell? ⟨U, 0, none⟩ = some (.int .i64 a2) := bc s 0
     have vM := AB s.out 0
     go_upto_if 77 with (first | ((with_reducible refine AR (f := 50) rfl ?_); refine CO Try.func50 (drivers_behind.calls (cu fH HB) cH.out (Cg (Kd.AO m.out).2.2) ((Kd.AO m.out).2.1) (Cg (Kd.AO d.out).2.2) ((Kd.AO d.out).2.1) cS.out) ?_; intro aFH hb; replace gB := vb gB hb; replace uE := vb uE hb; replace m := vb m hb; replace d := vb d hb; obtain ⟨r, b, s, u, x⟩ := tb5 hb r b s u x; replace HB := kh5 HB G I J L O hb; have aEL := cells5 b.out) | ((with_reducible refine AR (f := 60) rfl ?_); refine CO Try.func60 (Ef.calls _ _ dB a2 _ _ l4 vS U X _ (Cg (Kd.AO d.out).2.2) ((Kd.AO d.out).2.1) (cu eT HB) zW.out (bu s) (bu u) xW.out) ?_; intro aFI hb; replace gB := vb gB hb; replace uE := vb uE hb; replace m := vb m hb; replace d := vb d hb; obtain ⟨r, b, s, u, x⟩ := tb5 hb r b s u x; replace HB := kh5 HB G I J L O hb))
     (try simp only [Act.put, List.setIfInBounds_toArray, List.set_cons_zero, List.set_cons_succ])
     go_cut [16] (fun v16 wc => ∃ (kq : Nat) (xB : Int), v16 = .int .i64 xB ∧ Aside0 (AJ.j2 kq l3 a5 xB dD eD fD nC oC uC vC kC mB dB a2 l4 = some (r1, r2, r3, r4, r5, r6)) ∧ Aside0 (kq ≤ k2) ∧ Aside0 (Kd.V k30 30 wc w.heap.size (fun a => ((eB a ∨ fB a ∨ fC a) ∨ w.heap.size ≤ a) ∧ a ≠ T ∧ a ≠ D ∧ a ≠ U ∧ a ≠ X ∧ a ≠ W) (.slice A3 l3.length c3) l3) ∧ Aside0 (Kd.V k30 30 wc w.heap.size (fun a => ((eB a ∨ fB a ∨ fC a) ∨ w.heap.size ≤ a) ∧ a ≠ T ∧ a ≠ D ∧ a ≠ U ∧ a ≠ X ∧ a ≠ W) (.slice sD mB.length uD) mB) ∧ Aside0 (Kd.V k63 63 wc w.heap.size (fun a => ((eB a ∨ fB a ∨ fC a) ∨ w.heap.size ≤ a) ∧ a ≠ T ∧ a ≠ D ∧ a ≠ U ∧ a ≠ X ∧ a ≠ W) (.slice tD dB.length aD) dB) ∧ Aside0 (wc.heap[T]? = some (.cells #[.int .i64 dD, .int .i64 eD, .string fD, (.slice qF nC.length sF), (.slice rF oC.length tF)] 26 (0, 0))) ∧ Aside0 (wc.heap[D]? = some (.cells #[.int .i64 uC, .int .i64 vC, (.slice dF kC.length mF), (.slice sD mB.length uD), (.slice tD dB.length aD)] 33 (0, 0))) ∧ Aside0 (wc.heap[U]? = some (.cells #[.int .i64 a2] 3 (0, 0))) ∧ Aside0 (wc.heap[X]? = some (.cells #[(.slice A4 l4.length c4)] 38 (0, 0))) ∧ Aside0 (wc.heap[W]? = some (.cells #[.int .i64 yB, .int .i64 zB, (.slice none 0 0), (.slice none 0 0), (.slice none 0 0)] 33 (0, 0))) ∧ Aside0 (Below w.heap.size w wc))
     case first =>
      have H := zN.out; clear zN
      replace H := iD' H; obtain ⟨-, mK, H⟩ | ⟨-, mK, H⟩ := H
      ·(first | rw [mK] | (simp only [CP, Dj]; rw [mK]) | skip)
       have H' := mk0 H
       clear H
       go_wp2
       go_meet
       case rel => exact ⟨_, (vS), rfl, H', ⟨by have := wL.out; have := xL.out; first | omega | exact Nat.le_refl _⟩, ⟨Bj gB.out⟩, ⟨Bj m.out⟩, ⟨Bj d.out⟩, ⟨bu r⟩, ⟨bu b⟩, ⟨bu s⟩, ⟨bu u⟩, ⟨bu x⟩, ⟨be5 HB G I J L O⟩⟩
      (first | rw [mK] | (simp only [CP, Dj]; rw [mK]) | skip)
      have H' := mk0 H
      clear H; have ⟨b1, y6⟩ := no fE eE; have ⟨d1, z6⟩ := no vE xE; have ⟨e1, a7⟩ := no wE yE; have ⟨i1, b7⟩ := no bD cD
      have aEM := cells5 b.out
      go_wp2
      go_meet
      case rel => exact ⟨_, ((dB.length : Int)), rfl, H', ⟨by have := wL.out; have := xL.out; first | omega | exact Nat.le_refl _⟩, ⟨Bj gB.out⟩, ⟨Bj m.out⟩, ⟨Bj d.out⟩, ⟨bu r⟩, ⟨bu b⟩, ⟨bu s⟩, ⟨bu u⟩, ⟨bu x⟩, ⟨be5 HB G I J L O⟩⟩
     case rest =>
      clear zN; try clear c3; try clear c4; try clear yM; try clear uM; try clear vM
      obtain ⟨kq, xB, rfl, HA, yJ, gB, m, d, r, b, s, u, x, HB⟩ := hcut
      cases kq with
      | zero => exact absurd HA.out (by simp [AJ.j2])
      | succ sO =>
       have H := HA.out; clear HA
       simp only [AJ.j2] at H
       have bO := mk0 H; clear H
       go_upto_if 82 with (fail)
       go_cut [17] (fun v17 wc => ∃ (kq : Nat) (gC : Int), v17 = .int .i64 gC ∧ Aside0 (AJ.j4 kq l3 xB gC uC vC kC mB dB a2 l4 = some (r1, r2, r3, r4, r5, r6)) ∧ Aside0 (kq ≤ sO) ∧ Aside0 (Kd.V k30 30 wc w.heap.size (fun a => ((eB a ∨ fB a ∨ fC a) ∨ w.heap.size ≤ a) ∧ a ≠ T ∧ a ≠ D ∧ a ≠ U ∧ a ≠ X ∧ a ≠ W) (.slice A3 l3.length c3) l3) ∧ Aside0 (Kd.V k30 30 wc w.heap.size (fun a => ((eB a ∨ fB a ∨ fC a) ∨ w.heap.size ≤ a) ∧ a ≠ T ∧ a ≠ D ∧ a ≠ U ∧ a ≠ X ∧ a ≠ W) (.slice sD mB.length uD) mB) ∧ Aside0 (Kd.V k63 63 wc w.heap.size (fun a => ((eB a ∨ fB a ∨ fC a) ∨ w.heap.size ≤ a) ∧ a ≠ T ∧ a ≠ D ∧ a ≠ U ∧ a ≠ X ∧ a ≠ W) (.slice tD dB.length aD) dB) ∧ Aside0 (wc.heap[T]? = some (.cells #[.int .i64 dD, .int .i64 eD, .string fD, (.slice qF nC.length sF), (.slice rF oC.length tF)] 26 (0, 0))) ∧ Aside0 (wc.heap[D]? = some (.cells #[.int .i64 uC, .int .i64 vC, (.slice dF kC.length mF), (.slice sD mB.length uD), (.slice tD dB.length aD)] 33 (0, 0))) ∧ Aside0 (wc.heap[U]? = some (.cells #[.int .i64 a2] 3 (0, 0))) ∧ Aside0 (wc.heap[X]? = some (.cells #[(.slice A4 l4.length c4)] 38 (0, 0))) ∧ Aside0 (wc.heap[W]? = some (.cells #[.int .i64 yB, .int .i64 zB, (.slice none 0 0), (.slice none 0 0), (.slice none 0 0)] 33 (0, 0))) ∧ Aside0 (Below w.heap.size w wc))
       case first =>
        have H := bO.out; clear bO
        replace H := iB H; obtain ⟨rfl, H⟩ | ⟨rfl, H⟩ := H
        ·have H' := mk0 H
         clear H
         go_wp2
         go_meet
         case rel => exact ⟨_, (0), rfl, H', ⟨by have := wL.out; have := xL.out; have := yJ.out; first | omega | exact Nat.le_refl _⟩, ⟨Bj gB.out⟩, ⟨Bj m.out⟩, ⟨Bj d.out⟩, ⟨bu r⟩, ⟨bu b⟩, ⟨bu s⟩, ⟨bu u⟩, ⟨bu x⟩, ⟨be5 HB G I J L O⟩⟩
        have H' := mk0 H
        clear H
        go_wp2
        go_loopg [17] sO (fun kq v17 w' => ∃ (bI : Int), v17 = .int .i64 bI ∧ Aside0 (AJ.l1 kq l3 xB bI dD eD fD nC oC uC vC kC mB dB a2 l4 = some (r1, r2, r3, r4, r5, r6)) ∧ Aside0 (kq ≤ sO) ∧ Aside0 (Kd.V k30 30 w' w.heap.size (fun a => ((eB a ∨ fB a ∨ fC a) ∨ w.heap.size ≤ a) ∧ a ≠ T ∧ a ≠ D ∧ a ≠ U ∧ a ≠ X ∧ a ≠ W) (.slice A3 l3.length c3) l3) ∧ Aside0 (Kd.V k30 30 w' w.heap.size (fun a => ((eB a ∨ fB a ∨ fC a) ∨ w.heap.size ≤ a) ∧ a ≠ T ∧ a ≠ D ∧ a ≠ U ∧ a ≠ X ∧ a ≠ W) (.slice sD mB.length uD) mB) ∧ Aside0 (Kd.V k63 63 w' w.heap.size (fun a => ((eB a ∨ fB a ∨ fC a) ∨ w.heap.size ≤ a) ∧ a ≠ T ∧ a ≠ D ∧ a ≠ U ∧ a ≠ X ∧ a ≠ W) (.slice tD dB.length aD) dB) ∧ Aside0 (w'.heap[T]? = some (.cells #[.int .i64 dD, .int .i64 eD, .string fD, (.slice qF nC.length sF), (.slice rF oC.length tF)] 26 (0, 0))) ∧ Aside0 (w'.heap[D]? = some (.cells #[.int .i64 uC, .int .i64 vC, (.slice dF kC.length mF), (.slice sD mB.length uD), (.slice tD dB.length aD)] 33 (0, 0))) ∧ Aside0 (w'.heap[U]? = some (.cells #[.int .i64 a2] 3 (0, 0))) ∧ Aside0 (w'.heap[X]? = some (.cells #[(.slice A4 l4.length c4)] 38 (0, 0))) ∧ Aside0 (w'.heap[W]? = some (.cells #[.int .i64 yB, .int .i64 zB, (.slice none 0 0), (.slice none 0 0), (.slice none 0 0)] 33 (0, 0))) ∧ Aside0 (Below w.heap.size w w'))
        case atStart => exact ⟨(xB), rfl, H', ⟨Nat.le_refl _⟩, ⟨Bj gB.out⟩, ⟨Bj m.out⟩, ⟨Bj d.out⟩, ⟨bu r⟩, ⟨bu b⟩, ⟨bu s⟩, ⟨bu u⟩, ⟨bu x⟩, ⟨be5 HB G I J L O⟩⟩
        case round =>
         clear H'
         try clear c3; try clear c4; try clear yM; try clear uM; try clear vM
         obtain ⟨bI, rfl, HA, sR, gB, m, d, r, b, s, u, x, HB⟩ := hrel
         cases gk with
         | zero => exact absurd HA.out (by simp [AJ.l1])
         | succ k4 =>
          have H := HA.out; clear HA
          simp only [AJ.l1] at H
          by_cases c191 : bI > 0
          rotate_left
          ·rw [if_neg c191] at H
           have nK : decide (0 < bI) = false := decide_eq_false c191; clear c191
           (first | rw [nK] | (simp only [CP, Dj]; rw [nK]) | skip)
           have H' := mk0 H
           clear H
           try go_wp2
           have jD := mk0 (Kd.BU gB.out)
           have kD := mk0 (Kd.BU m.out)
           have lD := mk0 (Kd.BU d.out)
           have mD := mk0 (AX r.out)
           have nD := mk0 (AX b.out)
           have oD := mk0 (AX s.out)
           have pD := mk0 (AX u.out)
           have qD := mk0 (AX x.out)
           have rD := mk0 (Ad HB.out)
           clear gB; clear m; clear d; clear r; clear b; clear s; clear u; clear x; clear HB; have gB := jD; have m := kD; have d := lD; have r := mD; have b := nD; have s := oD; have u := pD; have x := qD; have HB := rD; clear jD kD lD mD nD oD pD qD rD
           refine Cz (n := 16) (S := fun w' => True) (ds := []) (tf 0 16) (by kernel_rfl) rfl rfl trivial (fun Y => ?_); refine Bz AJ.NE AJ.Kh (fun uB lI => ?_)
           generalize wr.drew = aFN at gB m d r b s u x HB Y ⊢
           refine pv 0 84 (tf 1 15) uB ?_
           refine pv 1 85 (tf 2 14) uB ?_
           refine pv 2 86 (tf 3 13) uB ?_
           refine pw 3 87 (tf 4 12) uB ?_
           refine pw 4 88 (tf 5 11) uB ?_
           refine pw 5 89 (tf 6 10) uB ?_
           refine pw 6 90 (tf 7 9) uB ?_
           refine pw 7 91 (tf 8 8) uB ?_
           refine pw 8 92 (tf 9 7) uB ?_
           refine pw 9 93 (tf 10 6) uB ?_
           refine pw 10 94 (tf 11 5) uB ?_
           refine pw 11 95 (tf 12 4) uB ?_
           refine pw 12 96 (tf 13 3) uB ?_
           refine pw 13 97 (tf 14 2) uB ?_
           refine pw 14 98 (tf 15 1) uB ?_
           refine pv 15 99 (tf 16 0) uB ?_
           refine Dv (Cu uB.out (by kernel_rfl)) ?_
           try go_wp2
           go_meet
           case rel => exact ⟨_, (bI), rfl, H', ⟨by have := wL.out; have := xL.out; have := yJ.out; have := sR.out; first | omega | exact Nat.le_refl _⟩, ⟨Bj gB.out⟩, ⟨Bj m.out⟩, ⟨Bj d.out⟩, ⟨bu r⟩, ⟨bu b⟩, ⟨bu s⟩, ⟨bu u⟩, ⟨bu x⟩, ⟨be5 HB G I J L O⟩⟩
          rw [if_pos c191] at H; have nK : decide (0 < bI) = true := decide_eq_true c191; clear c191
          (first | rw [nK] | (simp only [CP, Dj]; rw [nK]) | skip)
          obtain ⟨hB, wJ⟩ : ∃ j_ : Int, (wrap64 (bI - 1)) = j_ := ⟨_, rfl⟩
          replace H : (if 0 ≤ (hB) then (if (hB) < (dB.length : Int) then (if 0 < (l3.length : Int) then ((Cm.f k4 dD eD fD nC oC ((AA dB (hB)).f1.f0) ((AA dB (hB)).f1.f1) ((AA dB (hB)).f1.f2) ((AA dB (hB)).f1.f3) ((AC l3 0).f0) ((AC l3 0).f1) ((AC l3 0).f2) ((AC l3 0).f3)).bind fun wS => (if wS = true then (AJ.l1 k4 l3 xB hB dD eD fD nC oC uC vC kC mB dB a2 l4) else (AJ.j4 k4 l3 xB bI uC vC kC mB dB a2 l4))) else (none)) else (none)) else (none)) = some (r1, r2, r3, r4, r5, r6) := by first | (rw [wJ] at H; exact H) | (simp only [wJ] at H ⊢; exact H)
          have dY : (IntKind.i64.wrap (bI - 1)) = hB := (CP _).trans wJ
          replace H := iN H; obtain ⟨-, wY, H⟩ := H
          replace H := iN H; obtain ⟨-, xY, H⟩ := H
          replace H := iN H; obtain ⟨cX, yY, H⟩ := H
          have zY : decide (0 < l3.length) = true := decide_eq_true (by omega)
          clear cX
          replace H := bS H; obtain ⟨wS, dS, H⟩ := H
          replace H := iB' H; obtain ⟨rfl, H⟩ | ⟨rfl, H⟩ := H
          ·have H' := mk0 H
           clear H
           try go_wp2
           have jD := mk0 (Kd.BU gB.out)
           have kD := mk0 (Kd.BU m.out)
           have lD := mk0 (Kd.BU d.out)
           have mD := mk0 (AX r.out)
           have nD := mk0 (AX b.out)
           have oD := mk0 (AX s.out)
           have pD := mk0 (AX u.out)
           have qD := mk0 (AX x.out)
           have rD := mk0 (Ad HB.out)
           clear gB; clear m; clear d; clear r; clear b; clear s; clear u; clear x; clear HB; have gB := jD; have m := kD; have d := lD; have r := mD; have b := nD; have s := oD; have u := pD; have x := qD; have HB := rD; clear jD kD lD mD nD oD pD qD rD
           have yK : 0 ≤ ((hB) : Int) := od
           have cL : (hB) < (dB.length : Int) := od
           obtain ⟨zE, iK, qK, jK, rK, hQ, nJ, oJ, pJ, tH, uH, iJ, cJ, jJ, dJ⟩ := DV (Kd.AO d.out).2.2 (hB) yK cL
           cases hQ
           obtain ⟨sT, hN, cN, pI⟩ := Kd.FQ d.out z63 (hB) yK (by first | exact cL | exact of_decide_eq_true (by assumption) | (have e_ := (Kd.AO d.out).1; omega))
           obtain ⟨hR, nR, iR, oR, rfl, xH, pH, yH, qH⟩ := DX cN
           have sG := pI 3 _ rfl
           rw [BZ _ _ 3 (by omega)] at sG
           replace sG := Option.some.inj (sG.symm.trans tH)
           injection sG with hva_ hvn_ hvc_
           rw [hva_] at pH
           rw [hvc_] at xH
           have jG := mk0 (show Kd.V (Kd.int .u8) 73 _ w.heap.size _ _ ((AA dB (hB)).f1.f2) from Kd.C8 xH pH)
           clear hva_ hvn_ hvc_ pH xH
           have tG := pI 4 _ rfl
           rw [BZ _ _ 4 (by omega)] at tG
           replace tG := Option.some.inj (tG.symm.trans uH)
           injection tG with hva_ hvn_ hvc_
           rw [hva_] at qH
           rw [hvc_] at yH
           have kG := mk0 (show Kd.V k30 30 _ w.heap.size _ _ ((AA dB (hB)).f1.f3) from Kd.C8 yH qH)
           clear hva_ hvn_ hvc_ qH yH; clear pI hN; have gF := mk0 cJ; have sL := mk0 iJ; clear cJ iJ; have hF := mk0 dJ; have tL := mk0 jJ; clear dJ jJ; replace yK := eq_true yK; replace cL := eq_true cL
           have zK : 0 ≤ (0 : Int) := (by omega)
           have dL : 0 < (l3.length : Int) := od
           obtain ⟨iG, kK, sK, lK, tK, iQ, aG, bG, oF, pF, kJ, eJ, lJ, fJ⟩ := Dy (Kd.AO gB.out).2.2 0 zK dL
           cases iQ
           obtain ⟨tT, jN, dN, qI⟩ := Kd.FQ gB.out z30 0 zK (by first | exact dL | exact of_decide_eq_true (by assumption) | (have e_ := (Kd.AO gB.out).1; omega))
           obtain ⟨jR, pR, kR, qR, rfl, zH, rH, aI, sH⟩ := FR dN
           have uG := qI 2 _ rfl
           rw [BZ _ _ 2 (by omega)] at uG
           replace uG := Option.some.inj (uG.symm.trans oF)
           injection uG with hva_ hvn_ hvc_
           rw [hva_] at rH
           rw [hvc_] at zH
           have lG := mk0 (show Kd.V (Kd.int .u8) 73 _ w.heap.size _ _ ((AC l3 0).f2) from Kd.C8 zH rH)
           clear hva_ hvn_ hvc_ rH zH
           have vG := qI 3 _ rfl
           rw [BZ _ _ 3 (by omega)] at vG
           replace vG := Option.some.inj (vG.symm.trans pF)
           injection vG with hva_ hvn_ hvc_
           rw [hva_] at sH
           rw [hvc_] at aI
           have mG := mk0 (show Kd.V k30 30 _ w.heap.size _ _ ((AC l3 0).f3) from Kd.C8 aI sH)
           clear hva_ hvn_ hvc_ sH aI; clear qI jN
           have dU : (0 < l3.length) = True := eq_true (by omega)
           (try rw [show ((0 : Int)).toNat = 0 from rfl] at aG)
           (try rw [show 0 * 4 = 0 from rfl] at aG)
           (try rw [Addr.add_zero'] at aG)
           (try rw [show ((0 : Int)).toNat = 0 from rfl] at bG)
           (try rw [show 0 * 4 = 0 from rfl] at bG)
           (try rw [Addr.add_zero'] at bG)
           (try rw [show ((0 : Int)).toNat = 0 from rfl] at oF)
           (try rw [show 0 * 4 = 0 from rfl] at oF)
           (try rw [Addr.add_zero'] at oF)
           (try rw [show ((0 : Int)).toNat = 0 from rfl] at pF)
           (try rw [show 0 * 4 = 0 from rfl] at pF)
           (try rw [Addr.add_zero'] at pF)
           have jF := mk0 eJ; have uL := mk0 kJ; clear eJ kJ; have lF := mk0 fJ; have vL := mk0 lJ; clear fJ lJ; replace zK := eq_true zK; replace dL := eq_true dL
           refine Cz (n := 16) (S := fun w' => w'.cell? ⟨T, 0, none⟩ = some (.int .i64 dD) ∧ w'.cell? ⟨T, 1, none⟩ = some (.int .i64 eD) ∧ w'.cell? ⟨T, 2, none⟩ = some (.string fD) ∧ w'.cell? ⟨T, 3, none⟩ = some (.slice qF nC.length sF) ∧ w'.cell? ⟨T, 4, none⟩ = some (.slice rF oC.length tF) ∧ w'.cell? ⟨D, 0, none⟩ = some (.int .i64 uC) ∧ w'.cell? ⟨D, 1, none⟩ = some (.int .i64 vC) ∧ w'.cell? ⟨D, 2, none⟩ = some (.slice dF kC.length mF) ∧ w'.cell? ⟨D, 3, none⟩ = some (.slice sD mB.length uD) ∧ w'.cell? ⟨D, 4, none⟩ = some (.slice (some zE) dB.length aD) ∧ w'.cell? (zE.add (((hB)).toNat * 5)) = some (.int .i64 ((AA dB (hB)).f0)) ∧ w'.cell? ⟨(zE.add (((hB)).toNat * 5)).block, (zE.add (((hB)).toNat * 5)).off + 1, none⟩ = some (.int .i64 ((AA dB (hB)).f1.f0)) ∧ w'.cell? ⟨(zE.add (((hB)).toNat * 5)).block, (zE.add (((hB)).toNat * 5)).off + 2, none⟩ = some (.int .i64 ((AA dB (hB)).f1.f1)) ∧ w'.cell? ⟨(zE.add (((hB)).toNat * 5)).block, (zE.add (((hB)).toNat * 5)).off + 3, none⟩ = some (.slice iK ((AA dB (hB)).f1.f2).length qK) ∧ w'.cell? ⟨(zE.add (((hB)).toNat * 5)).block, (zE.add (((hB)).toNat * 5)).off + 4, none⟩ = some (.slice jK ((AA dB (hB)).f1.f3).length rK) ∧ w'.cell? iG = some (.int .i64 ((AC l3 0).f0)) ∧ w'.cell? ⟨iG.block, iG.off + 1, none⟩ = some (.int .i64 ((AC l3 0).f1)) ∧ w'.cell? ⟨iG.block, iG.off + 2, none⟩ = some (.slice kK ((AC l3 0).f2).length sK) ∧ w'.cell? ⟨iG.block, iG.off + 3, none⟩ = some (.slice lK ((AC l3 0).f3).length tK)) (ds := []) (tf 0 16) (by kernel_rfl) rfl rfl ⟨bc r 0, bc r 1, bc r 2, bc r 3, bc r 4, bc b 0, bc b 1, bc b 2, bc b 3, bc b 4, nJ, oJ, pJ, tH, uH, aG, bG, oF, pF⟩ (fun Y => ?_); refine Bz AJ.NE AJ.Kh (fun uB lI => ?_)
           generalize wr.drew = aFL at gB m d r b s u x HB jG kG lG mG gF hF jF lF nJ oJ pJ tH uH aG bG oF pF Y ⊢
           refine pv 0 84 (tf 1 15) uB ?_
           refine pv 1 85 (tf 2 14) uB ?_
           refine pv 2 86 (tf 3 13) uB ?_
           refine pv 4 88 #[true, true, true, false, true, false, false, false, false, false, false, false, false, false, false, false] uB ?_
           refine pv 6 90 #[true, true, true, false, true, false, true, false, false, false, false, false, false, false, false, false] uB ?_
           refine pv 7 91 #[true, true, true, false, true, false, true, true, false, false, false, false, false, false, false, false] uB ?_
           refine pv 11 95 #[true, true, true, false, true, false, true, true, false, false, false, true, false, false, false, false] uB ?_
           refine pv 12 96 #[true, true, true, false, true, false, true, true, false, false, false, true, true, false, false, false] uB ?_
           refine Bl (i := 3) (N := some 87) (v := ?_) (a' := ?_) #[true, true, true, true, true, false, true, true, false, false, false, true, true, false, false, false] rfl rfl (Aj uB.out lI.out (by kernel_rfl)) (fun _ _ _ h => h) (Or.inl ⟨by rfl, ?_⟩) Y ?_ ?_
           rotate_left
           ·rintro w' ⟨s0, s1, s2, s3, s4, s5, s6, s7, s8, s9, kL, lL, tO, uO, vO, wO, xO, yO, zO⟩
            go_simp
            with_reducible rfl
           rotate_left
           ·simp only [ps]
            rfl
           refine Bl (i := 5) (N := some 89) (v := ?_) (a' := ?_) #[true, true, true, true, true, true, true, true, false, false, false, true, true, false, false, false] rfl rfl (Aj uB.out lI.out (by kernel_rfl)) (fun _ _ _ h => h) (Or.inl ⟨by rfl, ?_⟩) Y ?_ ?_
           rotate_left
           ·rintro w' ⟨s0, s1, s2, s3, s4, s5, s6, s7, s8, s9, kL, lL, tO, uO, vO, wO, xO, yO, zO⟩
            go_simp
            with_reducible rfl
           rotate_left
           ·simp only [ps]
            rfl
           refine pv 8 92 #[true, true, true, true, true, true, true, true, true, false, false, true, true, false, false, false] uB ?_
           refine pv 9 93 #[true, true, true, true, true, true, true, true, true, true, false, true, true, false, false, false] uB ?_
           refine Bl (i := 10) (N := some 94) (v := ?_) (a' := ?_) (tf 13 3) rfl rfl (Aj uB.out lI.out (by kernel_rfl)) (fun _ _ _ h => h) (Or.inl ⟨by rfl, ?_⟩) Y ?_ ?_
           rotate_left
           ·rintro w' ⟨s0, s1, s2, s3, s4, s5, s6, s7, s8, s9, kL, lL, tO, uO, vO, wO, xO, yO, zO⟩
            go_simp
            with_reducible rfl
           rotate_left
           ·simp only [ps]
            rfl
           refine Bl (i := 13) (N := some 97) (v := ?_) (a' := ?_) (tf 14 2) rfl rfl (Aj uB.out lI.out (by kernel_rfl)) (fun _ _ _ h => h) (Or.inl ⟨by rfl, ?_⟩) Y ?_ ?_
           rotate_left
           ·rintro w' ⟨s0, s1, s2, s3, s4, s5, s6, s7, s8, s9, kL, lL, tO, uO, vO, wO, xO, yO, zO⟩
            go_simp
            with_reducible rfl
           rotate_left
           ·simp only [ps]
            rfl
           refine DN (i := 14) (N := some 98) (tf 15 1) rfl rfl (Bv uB.out (by kernel_rfl)) (by decide) (fun K hK => ?_)
           refine Cx Try.func56 (by kernel_rfl) rfl #[.agg #[.int .i64 dD, .int .i64 eD, .string fD, .slice qF nC.length sF, .slice rF oC.length tF], .agg #[.int .i64 ((AA dB (hB)).f1.f0), .int .i64 ((AA dB (hB)).f1.f1), .slice iK ((AA dB (hB)).f1.f2).length qK, .slice jK ((AA dB (hB)).f1.f3).length rK], .agg #[.int .i64 ((AC l3 0).f0), .int .i64 ((AC l3 0).f1), .slice kK ((AC l3 0).f2).length sK, .slice lK ((AC l3 0).f3).length tK]] (by rfl) rfl rfl (by (try simp only [List.map_toArray, List.map_cons, List.map_nil]); first | done | (simp only [wJ]; rfl) | rfl | (simp only [List.length_drop, List.length_take]; rfl)) ?_
           with_reducible refine (Cm.calls ?side13 ?side1 ?side2 ?side3 ?side4 ?side5 ?side6 ?side7 ?side8 ?side9 ?side10 ?side11 ?side12 dS.out).mono ?_
           (case side1 => exact cu dH HB)
           (case side2 => exact aH.out)
           (case side3 => exact cu eH HB)
           (case side4 => exact bH.out)
           (case side5 => repeat (first | exact (by repeat (first | (with_reducible exact gF.out) | (with_reducible refine Kd.Ch ?_ _) | (with_reducible refine Kd.Ci ?_ _) | (with_reducible refine Kd.Cy ?_) | exact gF.out)) | (with_reducible refine Kd.Ch ?_ _) | (with_reducible refine Kd.Ci ?_ _) | (with_reducible refine Kd.Cy ?_)))
           (case side6 => exact sL.out)
           (case side7 => repeat (first | exact (by repeat (first | (with_reducible exact hF.out) | (with_reducible refine Kd.Ch ?_ _) | (with_reducible refine Kd.Ci ?_ _) | (with_reducible refine Kd.Cy ?_) | exact hF.out)) | (with_reducible refine Kd.Ch ?_ _) | (with_reducible refine Kd.Ci ?_ _) | (with_reducible refine Kd.Cy ?_)))
           (case side8 => exact tL.out)
           (case side9 => repeat (first | exact (by repeat (first | (with_reducible exact jF.out) | (with_reducible refine Kd.Ch ?_ _) | (with_reducible refine Kd.Ci ?_ _) | (with_reducible refine Kd.Cy ?_) | exact jF.out)) | (with_reducible refine Kd.Ch ?_ _) | (with_reducible refine Kd.Ci ?_ _) | (with_reducible refine Kd.Cy ?_)))
           (case side10 => exact uL.out)
           (case side11 => repeat (first | exact (by repeat (first | (with_reducible exact lF.out) | (with_reducible refine Kd.Ch ?_ _) | (with_reducible refine Kd.Ci ?_ _) | (with_reducible refine Kd.Cy ?_) | exact lF.out)) | (with_reducible refine Kd.Ch ?_ _) | (with_reducible refine Kd.Ci ?_ _) | (with_reducible refine Kd.Cy ?_)))
           (case side12 => exact vL.out)
           (case side13 => exact AZ HG.out (be5 HB G I J L O))
           rintro e aFM ⟨rfl, hb⟩
           have cO := (hb.cell (World.block_lt_of_cell? _ _ (Y.2.2.2.2.2.2.2.2.2.2.1))).trans (Y.2.2.2.2.2.2.2.2.2.2.1)
           have dO := (hb.cell (World.block_lt_of_cell? _ _ (Y.2.2.2.2.2.2.2.2.2.2.2.1))).trans (Y.2.2.2.2.2.2.2.2.2.2.2.1)
           have eO := (hb.cell (World.block_lt_of_cell? _ _ (Y.2.2.2.2.2.2.2.2.2.2.2.2.1))).trans (Y.2.2.2.2.2.2.2.2.2.2.2.2.1)
           have fO := (hb.cell (World.block_lt_of_cell? _ _ (Y.2.2.2.2.2.2.2.2.2.2.2.2.2.1))).trans (Y.2.2.2.2.2.2.2.2.2.2.2.2.2.1)
           have gO := (hb.cell (World.block_lt_of_cell? _ _ (Y.2.2.2.2.2.2.2.2.2.2.2.2.2.2.1))).trans (Y.2.2.2.2.2.2.2.2.2.2.2.2.2.2.1)
           have hO := (hb.cell (World.block_lt_of_cell? _ _ (Y.2.2.2.2.2.2.2.2.2.2.2.2.2.2.2.1))).trans (Y.2.2.2.2.2.2.2.2.2.2.2.2.2.2.2.1)
           have iO := (hb.cell (World.block_lt_of_cell? _ _ (Y.2.2.2.2.2.2.2.2.2.2.2.2.2.2.2.2.1))).trans (Y.2.2.2.2.2.2.2.2.2.2.2.2.2.2.2.2.1)
           have jO := (hb.cell (World.block_lt_of_cell? _ _ (Y.2.2.2.2.2.2.2.2.2.2.2.2.2.2.2.2.2.1))).trans (Y.2.2.2.2.2.2.2.2.2.2.2.2.2.2.2.2.2.1)
           have kO := (hb.cell (World.block_lt_of_cell? _ _ (Y.2.2.2.2.2.2.2.2.2.2.2.2.2.2.2.2.2.2))).trans (Y.2.2.2.2.2.2.2.2.2.2.2.2.2.2.2.2.2.2)
           refine ⟨_, rfl, ?_⟩
           have jD := vb gB hb
           have kD := vb m hb
           have lD := vb d hb
           have mD := vb jG hb
           have nD := vb kG hb
           have oD := vb lG hb
           have pD := vb mG hb
           have qD := kb r hb
           have rD := kb b hb
           have tE := kb s hb
           have iC := kb u hb
           have jC := kb x hb
           have pC := cb gF hb
           have cE := cb hF hb
           have rE := cb jF hb
           have sE := cb lF hb
           have cG := kh5 HB G I J L O hb
           clear gB; clear m; clear d; clear jG; clear kG; clear lG; clear mG; clear r; clear b; clear s; clear u; clear x; clear gF; clear hF; clear jF; clear lF; clear HB; have gB := jD; have m := kD; have d := lD; have jG := mD; have kG := nD; have lG := oD; have mG := pD; have r := qD; have b := rD; have s := tE; have u := iC; have x := jC; have gF := pC; have hF := cE; have jF := rE; have lF := sE; have HB := cG; clear jD kD lD mD nD oD pD qD rD tE iC jC pC cE rE sE cG
           try clear hb
           try clear l
           refine hK.out _ _ ⟨bc r 0, bc r 1, bc r 2, bc r 3, bc r 4, bc b 0, bc b 1, bc b 2, bc b 3, bc b 4, cO, dO, eO, fO, gO, hO, iO, jO, kO⟩ (fun Y => ?_)
           clear hK K
           refine CJ (a' := ?_) ?_ ?_
           rotate_left
           ·show Act.put _ (some 98) _ = _
            simp only [ps]
            rfl
           refine pv 15 99 (tf 16 0) uB ?_
           refine Dv (Cu uB.out (by kernel_rfl)) ?_
           try go_wp2
           go_meet
           case rel => exact ⟨_, (bI), rfl, H', ⟨by have := wL.out; have := xL.out; have := yJ.out; have := sR.out; first | omega | exact Nat.le_refl _⟩, ⟨Bj gB.out⟩, ⟨Bj m.out⟩, ⟨Bj d.out⟩, ⟨bu r⟩, ⟨bu b⟩, ⟨bu s⟩, ⟨bu u⟩, ⟨bu x⟩, ⟨be5 HB G I J L O⟩⟩
          have H' := mk0 H
          clear H
          try go_wp2
          have jD := mk0 (Kd.BU gB.out)
          have kD := mk0 (Kd.BU m.out)
          have lD := mk0 (Kd.BU d.out)
          have mD := mk0 (AX r.out)
          have nD := mk0 (AX b.out)
          have oD := mk0 (AX s.out)
          have pD := mk0 (AX u.out)
          have qD := mk0 (AX x.out)
          have rD := mk0 (Ad HB.out)
          clear gB; clear m; clear d; clear r; clear b; clear s; clear u; clear x; clear HB; have gB := jD; have m := kD; have d := lD; have r := mD; have b := nD; have s := oD; have u := pD; have x := qD; have HB := rD; clear jD kD lD mD nD oD pD qD rD
          have yK : 0 ≤ ((hB) : Int) := od
          have cL : (hB) < (dB.length : Int) := od
          obtain ⟨zE, iK, qK, jK, rK, hQ, nJ, oJ, pJ, tH, uH, iJ, cJ, jJ, dJ⟩ := DV (Kd.AO d.out).2.2 (hB) yK cL
          cases hQ
          obtain ⟨sT, hN, cN, pI⟩ := Kd.FQ d.out z63 (hB) yK (by first | exact cL | exact of_decide_eq_true (by assumption) | (have e_ := (Kd.AO d.out).1; omega))
          obtain ⟨hR, nR, iR, oR, rfl, xH, pH, yH, qH⟩ := DX cN
          have sG := pI 3 _ rfl
          rw [BZ _ _ 3 (by omega)] at sG
          replace sG := Option.some.inj (sG.symm.trans tH)
          injection sG with hva_ hvn_ hvc_
          rw [hva_] at pH
          rw [hvc_] at xH
          have jG := mk0 (show Kd.V (Kd.int .u8) 73 _ w.heap.size _ _ ((AA dB (hB)).f1.f2) from Kd.C8 xH pH)
          clear hva_ hvn_ hvc_ pH xH
          have tG := pI 4 _ rfl
          rw [BZ _ _ 4 (by omega)] at tG
          replace tG := Option.some.inj (tG.symm.trans uH)
          injection tG with hva_ hvn_ hvc_
          rw [hva_] at qH
          rw [hvc_] at yH
          have kG := mk0 (show Kd.V k30 30 _ w.heap.size _ _ ((AA dB (hB)).f1.f3) from Kd.C8 yH qH)
          clear hva_ hvn_ hvc_ qH yH; clear pI hN; have gF := mk0 cJ; have sL := mk0 iJ; clear cJ iJ; have hF := mk0 dJ; have tL := mk0 jJ; clear dJ jJ; replace yK := eq_true yK; replace cL := eq_true cL
          have zK : 0 ≤ (0 : Int) := (by omega)
          have dL : 0 < (l3.length : Int) := od
          obtain ⟨iG, kK, sK, lK, tK, iQ, aG, bG, oF, pF, kJ, eJ, lJ, fJ⟩ := Dy (Kd.AO gB.out).2.2 0 zK dL
          cases iQ
          obtain ⟨tT, jN, dN, qI⟩ := Kd.FQ gB.out z30 0 zK (by first | exact dL | exact of_decide_eq_true (by assumption) | (have e_ := (Kd.AO gB.out).1; omega))
          obtain ⟨jR, pR, kR, qR, rfl, zH, rH, aI, sH⟩ := FR dN
          have uG := qI 2 _ rfl
          rw [BZ _ _ 2 (by omega)] at uG
          replace uG := Option.some.inj (uG.symm.trans oF)
          injection uG with hva_ hvn_ hvc_
          rw [hva_] at rH
          rw [hvc_] at zH
          have lG := mk0 (show Kd.V (Kd.int .u8) 73 _ w.heap.size _ _ ((AC l3 0).f2) from Kd.C8 zH rH)
          clear hva_ hvn_ hvc_ rH zH
          have vG := qI 3 _ rfl
          rw [BZ _ _ 3 (by omega)] at vG
          replace vG := Option.some.inj (vG.symm.trans pF)
          injection vG with hva_ hvn_ hvc_
          rw [hva_] at sH
          rw [hvc_] at aI
          have mG := mk0 (show Kd.V k30 30 _ w.heap.size _ _ ((AC l3 0).f3) from Kd.C8 aI sH)
          clear hva_ hvn_ hvc_ sH aI; clear qI jN
          have dU : (0 < l3.length) = True := eq_true (by omega)
          (try rw [show ((0 : Int)).toNat = 0 from rfl] at aG)
          (try rw [show 0 * 4 = 0 from rfl] at aG)
          (try rw [Addr.add_zero'] at aG)
          (try rw [show ((0 : Int)).toNat = 0 from rfl] at bG)
          (try rw [show 0 * 4 = 0 from rfl] at bG)
          (try rw [Addr.add_zero'] at bG)
          (try rw [show ((0 : Int)).toNat = 0 from rfl] at oF)
          (try rw [show 0 * 4 = 0 from rfl] at oF)
          (try rw [Addr.add_zero'] at oF)
          (try rw [show ((0 : Int)).toNat = 0 from rfl] at pF)
          (try rw [show 0 * 4 = 0 from rfl] at pF)
          (try rw [Addr.add_zero'] at pF)
          have jF := mk0 eJ; have uL := mk0 kJ; clear eJ kJ; have lF := mk0 fJ; have vL := mk0 lJ; clear fJ lJ; replace zK := eq_true zK; replace dL := eq_true dL
          refine Cz (n := 16) (S := fun w' => w'.cell? ⟨T, 0, none⟩ = some (.int .i64 dD) ∧ w'.cell? ⟨T, 1, none⟩ = some (.int .i64 eD) ∧ w'.cell? ⟨T, 2, none⟩ = some (.string fD) ∧ w'.cell? ⟨T, 3, none⟩ = some (.slice qF nC.length sF) ∧ w'.cell? ⟨T, 4, none⟩ = some (.slice rF oC.length tF) ∧ w'.cell? ⟨D, 0, none⟩ = some (.int .i64 uC) ∧ w'.cell? ⟨D, 1, none⟩ = some (.int .i64 vC) ∧ w'.cell? ⟨D, 2, none⟩ = some (.slice dF kC.length mF) ∧ w'.cell? ⟨D, 3, none⟩ = some (.slice sD mB.length uD) ∧ w'.cell? ⟨D, 4, none⟩ = some (.slice (some zE) dB.length aD) ∧ w'.cell? (zE.add (((hB)).toNat * 5)) = some (.int .i64 ((AA dB (hB)).f0)) ∧ w'.cell? ⟨(zE.add (((hB)).toNat * 5)).block, (zE.add (((hB)).toNat * 5)).off + 1, none⟩ = some (.int .i64 ((AA dB (hB)).f1.f0)) ∧ w'.cell? ⟨(zE.add (((hB)).toNat * 5)).block, (zE.add (((hB)).toNat * 5)).off + 2, none⟩ = some (.int .i64 ((AA dB (hB)).f1.f1)) ∧ w'.cell? ⟨(zE.add (((hB)).toNat * 5)).block, (zE.add (((hB)).toNat * 5)).off + 3, none⟩ = some (.slice iK ((AA dB (hB)).f1.f2).length qK) ∧ w'.cell? ⟨(zE.add (((hB)).toNat * 5)).block, (zE.add (((hB)).toNat * 5)).off + 4, none⟩ = some (.slice jK ((AA dB (hB)).f1.f3).length rK) ∧ w'.cell? iG = some (.int .i64 ((AC l3 0).f0)) ∧ w'.cell? ⟨iG.block, iG.off + 1, none⟩ = some (.int .i64 ((AC l3 0).f1)) ∧ w'.cell? ⟨iG.block, iG.off + 2, none⟩ = some (.slice kK ((AC l3 0).f2).length sK) ∧ w'.cell? ⟨iG.block, iG.off + 3, none⟩ = some (.slice lK ((AC l3 0).f3).length tK)) (ds := []) (tf 0 16) (by kernel_rfl) rfl rfl ⟨bc r 0, bc r 1, bc r 2, bc r 3, bc r 4, bc b 0, bc b 1, bc b 2, bc b 3, bc b 4, nJ, oJ, pJ, tH, uH, aG, bG, oF, pF⟩ (fun Y => ?_); refine Bz AJ.NE AJ.Kh (fun uB lI => ?_)
          generalize wr.drew = aFJ at gB m d r b s u x HB jG kG lG mG gF hF jF lF nJ oJ pJ tH uH aG bG oF pF Y ⊢
          refine pv 0 84 (tf 1 15) uB ?_
          refine pv 1 85 (tf 2 14) uB ?_
          refine pv 2 86 (tf 3 13) uB ?_
          refine pv 4 88 #[true, true, true, false, true, false, false, false, false, false, false, false, false, false, false, false] uB ?_
          refine pv 6 90 #[true, true, true, false, true, false, true, false, false, false, false, false, false, false, false, false] uB ?_
          refine pv 7 91 #[true, true, true, false, true, false, true, true, false, false, false, false, false, false, false, false] uB ?_
          refine pv 11 95 #[true, true, true, false, true, false, true, true, false, false, false, true, false, false, false, false] uB ?_
          refine pv 12 96 #[true, true, true, false, true, false, true, true, false, false, false, true, true, false, false, false] uB ?_
          refine Bl (i := 3) (N := some 87) (v := ?_) (a' := ?_) #[true, true, true, true, true, false, true, true, false, false, false, true, true, false, false, false] rfl rfl (Aj uB.out lI.out (by kernel_rfl)) (fun _ _ _ h => h) (Or.inl ⟨by rfl, ?_⟩) Y ?_ ?_
          rotate_left
          ·rintro w' ⟨s0, s1, s2, s3, s4, s5, s6, s7, s8, s9, kL, lL, tO, uO, vO, wO, xO, yO, zO⟩
           go_simp
           with_reducible rfl
          rotate_left
          ·simp only [ps]
           rfl
          refine Bl (i := 5) (N := some 89) (v := ?_) (a' := ?_) #[true, true, true, true, true, true, true, true, false, false, false, true, true, false, false, false] rfl rfl (Aj uB.out lI.out (by kernel_rfl)) (fun _ _ _ h => h) (Or.inl ⟨by rfl, ?_⟩) Y ?_ ?_
          rotate_left
          ·rintro w' ⟨s0, s1, s2, s3, s4, s5, s6, s7, s8, s9, kL, lL, tO, uO, vO, wO, xO, yO, zO⟩
           go_simp
           with_reducible rfl
          rotate_left
          ·simp only [ps]
           rfl
          refine pv 8 92 #[true, true, true, true, true, true, true, true, true, false, false, true, true, false, false, false] uB ?_
          refine pv 9 93 #[true, true, true, true, true, true, true, true, true, true, false, true, true, false, false, false] uB ?_
          refine Bl (i := 10) (N := some 94) (v := ?_) (a' := ?_) (tf 13 3) rfl rfl (Aj uB.out lI.out (by kernel_rfl)) (fun _ _ _ h => h) (Or.inl ⟨by rfl, ?_⟩) Y ?_ ?_
          rotate_left
          ·rintro w' ⟨s0, s1, s2, s3, s4, s5, s6, s7, s8, s9, kL, lL, tO, uO, vO, wO, xO, yO, zO⟩
           go_simp
           with_reducible rfl
          rotate_left
          ·simp only [ps]
           rfl
          refine Bl (i := 13) (N := some 97) (v := ?_) (a' := ?_) (tf 14 2) rfl rfl (Aj uB.out lI.out (by kernel_rfl)) (fun _ _ _ h => h) (Or.inl ⟨by rfl, ?_⟩) Y ?_ ?_
          rotate_left
          ·rintro w' ⟨s0, s1, s2, s3, s4, s5, s6, s7, s8, s9, kL, lL, tO, uO, vO, wO, xO, yO, zO⟩
           go_simp
           with_reducible rfl
          rotate_left
          ·simp only [ps]
           rfl
          refine DN (i := 14) (N := some 98) (tf 15 1) rfl rfl (Bv uB.out (by kernel_rfl)) (by decide) (fun K hK => ?_)
          refine Cx Try.func56 (by kernel_rfl) rfl #[.agg #[.int .i64 dD, .int .i64 eD, .string fD, .slice qF nC.length sF, .slice rF oC.length tF], .agg #[.int .i64 ((AA dB (hB)).f1.f0), .int .i64 ((AA dB (hB)).f1.f1), .slice iK ((AA dB (hB)).f1.f2).length qK, .slice jK ((AA dB (hB)).f1.f3).length rK], .agg #[.int .i64 ((AC l3 0).f0), .int .i64 ((AC l3 0).f1), .slice kK ((AC l3 0).f2).length sK, .slice lK ((AC l3 0).f3).length tK]] (by rfl) rfl rfl (by (try simp only [List.map_toArray, List.map_cons, List.map_nil]); first | done | (simp only [wJ]; rfl) | rfl | (simp only [List.length_drop, List.length_take]; rfl)) ?_
          with_reducible refine (Cm.calls ?side13 ?side1 ?side2 ?side3 ?side4 ?side5 ?side6 ?side7 ?side8 ?side9 ?side10 ?side11 ?side12 dS.out).mono ?_
          (case side1 => exact cu dH HB)
          (case side2 => exact aH.out)
          (case side3 => exact cu eH HB)
          (case side4 => exact bH.out)
          (case side5 => repeat (first | exact (by repeat (first | (with_reducible exact gF.out) | (with_reducible refine Kd.Ch ?_ _) | (with_reducible refine Kd.Ci ?_ _) | (with_reducible refine Kd.Cy ?_) | exact gF.out)) | (with_reducible refine Kd.Ch ?_ _) | (with_reducible refine Kd.Ci ?_ _) | (with_reducible refine Kd.Cy ?_)))
          (case side6 => exact sL.out)
          (case side7 => repeat (first | exact (by repeat (first | (with_reducible exact hF.out) | (with_reducible refine Kd.Ch ?_ _) | (with_reducible refine Kd.Ci ?_ _) | (with_reducible refine Kd.Cy ?_) | exact hF.out)) | (with_reducible refine Kd.Ch ?_ _) | (with_reducible refine Kd.Ci ?_ _) | (with_reducible refine Kd.Cy ?_)))
          (case side8 => exact tL.out)
          (case side9 => repeat (first | exact (by repeat (first | (with_reducible exact jF.out) | (with_reducible refine Kd.Ch ?_ _) | (with_reducible refine Kd.Ci ?_ _) | (with_reducible refine Kd.Cy ?_) | exact jF.out)) | (with_reducible refine Kd.Ch ?_ _) | (with_reducible refine Kd.Ci ?_ _) | (with_reducible refine Kd.Cy ?_)))
          (case side10 => exact uL.out)
          (case side11 => repeat (first | exact (by repeat (first | (with_reducible exact lF.out) | (with_reducible refine Kd.Ch ?_ _) | (with_reducible refine Kd.Ci ?_ _) | (with_reducible refine Kd.Cy ?_) | exact lF.out)) | (with_reducible refine Kd.Ch ?_ _) | (with_reducible refine Kd.Ci ?_ _) | (with_reducible refine Kd.Cy ?_)))
          (case side12 => exact vL.out)
          (case side13 => exact AZ HG.out (be5 HB G I J L O))
          rintro e aFK ⟨rfl, hb⟩
          have cO := (hb.cell (World.block_lt_of_cell? _ _ (Y.2.2.2.2.2.2.2.2.2.2.1))).trans (Y.2.2.2.2.2.2.2.2.2.2.1)
          have dO := (hb.cell (World.block_lt_of_cell? _ _ (Y.2.2.2.2.2.2.2.2.2.2.2.1))).trans (Y.2.2.2.2.2.2.2.2.2.2.2.1)
          have eO := (hb.cell (World.block_lt_of_cell? _ _ (Y.2.2.2.2.2.2.2.2.2.2.2.2.1))).trans (Y.2.2.2.2.2.2.2.2.2.2.2.2.1)
          have fO := (hb.cell (World.block_lt_of_cell? _ _ (Y.2.2.2.2.2.2.2.2.2.2.2.2.2.1))).trans (Y.2.2.2.2.2.2.2.2.2.2.2.2.2.1)
          have gO := (hb.cell (World.block_lt_of_cell? _ _ (Y.2.2.2.2.2.2.2.2.2.2.2.2.2.2.1))).trans (Y.2.2.2.2.2.2.2.2.2.2.2.2.2.2.1)
          have hO := (hb.cell (World.block_lt_of_cell? _ _ (Y.2.2.2.2.2.2.2.2.2.2.2.2.2.2.2.1))).trans (Y.2.2.2.2.2.2.2.2.2.2.2.2.2.2.2.1)
          have iO := (hb.cell (World.block_lt_of_cell? _ _ (Y.2.2.2.2.2.2.2.2.2.2.2.2.2.2.2.2.1))).trans (Y.2.2.2.2.2.2.2.2.2.2.2.2.2.2.2.2.1)
          have jO := (hb.cell (World.block_lt_of_cell? _ _ (Y.2.2.2.2.2.2.2.2.2.2.2.2.2.2.2.2.2.1))).trans (Y.2.2.2.2.2.2.2.2.2.2.2.2.2.2.2.2.2.1)
          have kO := (hb.cell (World.block_lt_of_cell? _ _ (Y.2.2.2.2.2.2.2.2.2.2.2.2.2.2.2.2.2.2))).trans (Y.2.2.2.2.2.2.2.2.2.2.2.2.2.2.2.2.2.2)
          refine ⟨_, rfl, ?_⟩
          have jD := vb gB hb
          have kD := vb m hb
          have lD := vb d hb
          have mD := vb jG hb
          have nD := vb kG hb
          have oD := vb lG hb
          have pD := vb mG hb
          have qD := kb r hb
          have rD := kb b hb
          have tE := kb s hb
          have iC := kb u hb
          have jC := kb x hb
          have pC := cb gF hb
          have cE := cb hF hb
          have rE := cb jF hb
          have sE := cb lF hb
          have cG := kh5 HB G I J L O hb
          clear gB; clear m; clear d; clear jG; clear kG; clear lG; clear mG; clear r; clear b; clear s; clear u; clear x; clear gF; clear hF; clear jF; clear lF; clear HB; have gB := jD; have m := kD; have d := lD; have jG := mD; have kG := nD; have lG := oD; have mG := pD; have r := qD; have b := rD; have s := tE; have u := iC; have x := jC; have gF := pC; have hF := cE; have jF := rE; have lF := sE; have HB := cG; clear jD kD lD mD nD oD pD qD rD tE iC jC pC cE rE sE cG
          try clear hb
          try clear l
          refine hK.out _ _ ⟨bc r 0, bc r 1, bc r 2, bc r 3, bc r 4, bc b 0, bc b 1, bc b 2, bc b 3, bc b 4, cO, dO, eO, fO, gO, hO, iO, jO, kO⟩ (fun Y => ?_)
          clear hK K
          refine CJ (a' := ?_) ?_ ?_
          rotate_left
          ·show Act.put _ (some 98) _ = _
           simp only [ps]
           rfl
          refine pv 15 99 (tf 16 0) uB ?_
          refine Dv (Cu uB.out (by kernel_rfl)) ?_
          try go_wp2
          go_roundg k4
          case measure => have := wL.out; have := xL.out; have := yJ.out; have := sR.out; omega
          case rel => exact ⟨(hB), (by first | rfl | (simp; done) | (simp only [← wJ] <;> (first | rfl | simp)) | (simp [*]; done)), H', ⟨by have := wL.out; have := xL.out; have := yJ.out; have := sR.out; omega⟩, ⟨Bj gB.out⟩, ⟨Bj m.out⟩, ⟨Bj d.out⟩, ⟨bu r⟩, ⟨bu b⟩, ⟨bu s⟩, ⟨bu u⟩, ⟨bu x⟩, ⟨be5 HB G I J L O⟩⟩
       case rest =>
        clear bO; try clear c3; try clear c4
        obtain ⟨kq, gC, rfl, HA, dQ, gB, m, d, r, b, s, u, x, HB⟩ := hcut
        cases kq with
        | zero => exact absurd HA.out (by simp [AJ.j4])
        | succ gL =>
         have H := HA.out; clear HA
         simp only [AJ.j4] at H
         by_cases c203 : (wrap64 ((wrap64 (xB - gC)) + (l3.length : Int))) > 64
         ·rw [if_pos c203] at H
          have uR : decide (64 < (wrap64 ((wrap64 (xB - gC)) + (l3.length : Int)))) = true := decide_eq_true c203; clear c203
          simp only [Option.some.injEq, Prod.mk.injEq] at H
          obtain ⟨rfl, rfl, rfl, rfl, rfl, rfl⟩ := H
          have ⟨m1, d7⟩ := no wD vD; have ⟨n1, e7⟩ := no cD bD; have ⟨o1, f7⟩ := no hE gE; have ⟨p1, g7⟩ := no gG fG
          have aEN := cells5 x.out
          go_wp2
          refine bodyPost_ret (EB rfl _ _ W 33 #[.int .i64 0, .int .i64 0, .slice none 0 0, .slice none 0 0, .slice none 0 0] (0, 0) _ rfl (pB x) Try.underlying33 rfl (by kernel_rfl)) rfl ?_
          exact ⟨_, _, _, rfl, by first | exact Kd.Di _ _ _ _ _ | exact Kd.Dx _ _ _ _ _ | exact Kd.DT _ _ _ _ _ | exact Kd.Du _ _ _ _ _ | exact Kd.Dw _ _ _ _ _, Kd.DT _ _ _ _ _, by first | exact Kd.Di _ _ _ _ _ | exact Kd.Dx _ _ _ _ _ | exact Kd.DT _ _ _ _ _ | exact Kd.Du _ _ _ _ _ | exact Kd.Dw _ _ _ _ _, be5 HB G I J L O⟩
         rw [if_neg c203] at H; have uR : decide (64 < (wrap64 ((wrap64 (xB - gC)) + (l3.length : Int)))) = false := decide_eq_false c203; clear c203
         replace H := Option.bind_eq_some_iff.mp H
         obtain ⟨⟨fI, gI, dC, dG⟩, yP, H⟩ := H
         replace H : (if 0 ≤ gC then (if gC ≤ xB then (if xB ≤ (dB.length : Int) then ((drivers_all.f gL ((dB.take (xB : Int).toNat).drop (gC : Int).toNat)).bind fun vJ => (AJ.l2 gL l3 (l3.length : Int) 0 a2 l4 fI gI dC dG vJ)) else (none)) else (none)) else (none)) = some (r1, r2, r3, r4, r5, r6) := H
         have eS := mk0 yP; clear yP
         by_cases c210 : 0 ≤ gC
         rotate_left
         ·rw [if_neg c210] at H
          exact absurd H (by simp)
         rw [if_pos c210] at H; have aZ := eq_true c210; have bZ : decide (0 ≤ gC) = true := decide_eq_true c210; clear c210
         by_cases c211 : gC ≤ xB
         rotate_left
         ·rw [if_neg c211] at H
          exact absurd H (by simp)
         rw [if_pos c211] at H; have cZ := eq_true c211; have dZ : decide (gC ≤ xB) = true := decide_eq_true c211; clear c211
         by_cases c212 : xB ≤ (dB.length : Int)
         rotate_left
         ·rw [if_neg c212] at H
          exact absurd H (by simp)
         rw [if_pos c212] at H; have eZ := eq_true c212; have fZ : decide (xB ≤ (dB.length : Int)) = true := decide_eq_true c212; clear c212
         obtain ⟨cI, pM⟩ : ∃ y_ : List (S63), y_ = ((dB.take (xB : Int).toNat).drop (gC : Int).toNat) := ⟨_, rfl⟩
         replace H : ((drivers_all.f gL cI).bind fun vJ => (AJ.l2 gL l3 (l3.length : Int) 0 a2 l4 fI gI dC dG vJ)) = some (r1, r2, r3, r4, r5, r6) := by first | (rw [pM]; with_reducible exact H) | (have yN := (Option.bind_some _ _).symm.trans H; rw [pM]; with_reducible exact yN) | (have yN := (Option.bind_some _ _).symm.trans H; with_reducible exact yN) | with_reducible exact H | (rw [pM]; exact H) | exact H
         have fQ := mk0 pM; clear pM
         replace H := bS H; obtain ⟨vJ, zP, H⟩ := H
         have H' := mk0 H
         clear H
         try go_wp2
         have jD := mk0 (Kd.BU gB.out)
         have kD := mk0 (Kd.BU m.out)
         have lD := mk0 (Kd.BU d.out)
         have mD := mk0 (AX r.out)
         have nD := mk0 (AX b.out)
         have oD := mk0 (AX s.out)
         have pD := mk0 (AX u.out)
         have qD := mk0 (AX x.out)
         have rD := mk0 (Ad HB.out)
         clear gB; clear m; clear d; clear r; clear b; clear s; clear u; clear x; clear HB; have gB := jD; have m := kD; have d := lD; have r := mD; have b := nD; have s := oD; have u := pD; have x := qD; have HB := rD; clear jD kD lD mD nD oD pD qD rD
         have dR : (xB : Int) ≤ ((dB.length : Int) : Int) := od
         obtain ⟨aDT, cP, _, dP, _⟩ := info_parts E9
         have iI : dB.length ≤ aD := (Kd.AO d.out).2.1
         have qQ : Kd.F k63 _ _ tD dB.length dB := (Kd.KQ (base := w.heap.size) d.out).2.2
         have eU : (gC : Int) ≤ (xB : Int) := od
         have cU : (0 : Int) ≤ (gC : Int) := od
         have uQ := Nl (P := Try.prog) 31 63 .i64 .i64 Try.underlying31 cP 5 dP tD dB.length aD gC xB cU eU dR iI
         have lM := Kd.PV (lo := (gC : Int).toNat) (hi := (xB : Int).toNat) (c := aD) qQ (by omega) (by omega) iI
         obtain ⟨mL, aN⟩ : ∃ A1, A1 = (if aD = (gC : Int).toNat then tD else (tD : Option Addr).map (·.add ((gC : Int).toNat * 5))) := ⟨_, rfl⟩
         obtain ⟨hL, eN⟩ : ∃ c1, c1 = aD - (gC : Int).toNat := ⟨_, rfl⟩
         have oM : cI.length = (xB : Int).toNat - (gC : Int).toNat := (by rw [fQ.out, List.length_drop, List.length_take] <;> omega)
         rw [show ((dB).take (xB : Int).toNat).drop (gC : Int).toNat = cI from fQ.out.symm] at lM
         replace lM : Kd.F k63 _ _ mL cI.length cI := (by rw [aN]; exact lM)
         rw [← oM, ← aN, ← eN] at uQ
         have lC := mk0 (show Kd.V k63 63 _ w.heap.size _ (.slice mL cI.length hL) cI from Kd.C8 (by rw [oM, eN]; exact Nat.sub_le_sub_right (Nat.le_trans (by omega) iI) _) lM)
         have i8 := mk0 (show cI.length ≤ hL from by rw [oM, eN]; exact Nat.sub_le_sub_right (Nat.le_trans (by omega) iI) _)
         clear lM qQ iI cP dP eN; have l8 := mk0 oM; have j8 := mk0 aN; clear oM aN; replace dR := eq_true dR
         refine Cz (n := 12) (S := fun w' => w'.cell? ⟨D, 0, none⟩ = some (.int .i64 uC) ∧ w'.cell? ⟨D, 1, none⟩ = some (.int .i64 vC) ∧ w'.cell? ⟨D, 2, none⟩ = some (.slice dF kC.length mF) ∧ w'.cell? ⟨D, 3, none⟩ = some (.slice sD mB.length uD) ∧ w'.cell? ⟨D, 4, none⟩ = some (.slice tD dB.length aD)) (ds := []) (tf 0 12) (by kernel_rfl) rfl rfl ⟨bc b 0, bc b 1, bc b 2, bc b 3, bc b 4⟩ (fun Y => ?_); refine Bz AJ.Pi AJ.Oz (fun uB lI => ?_)
         generalize wc.drew = aFO at gB m d r b s u x HB lC Y ⊢
         refine pv 0 110 (tf 1 11) uB ?_
         refine pv 3 113 #[true, false, false, true, false, false, false, false, false, false, false, false] uB ?_
         refine pv 5 115 #[true, false, false, true, false, true, false, false, false, false, false, false] uB ?_
         refine pv 6 116 #[true, false, false, true, false, true, true, false, false, false, false, false] uB ?_
         refine Bl (i := 1) (N := some 111) (v := ?_) (a' := ?_) #[true, true, false, true, false, true, true, false, false, false, false, false] rfl rfl (Aj uB.out lI.out (by kernel_rfl)) (fun _ _ _ h => h) (Or.inl ⟨by rfl, ?_⟩) Y ?_ ?_
         rotate_left
         ·rintro w' ⟨s0, s1, s2, s3, s4⟩
          go_simp
          with_reducible rfl
         rotate_left
         ·simp only [ps]
          rfl
         refine Bl (i := 4) (N := some 114) (v := ?_) (a' := ?_) #[true, true, false, true, true, true, true, false, false, false, false, false] rfl rfl (Aj uB.out lI.out (by kernel_rfl)) (fun _ _ _ h => h) (Or.inl ⟨by rfl, ?_⟩) Y ?_ ?_
         rotate_left
         ·rintro w' ⟨s0, s1, s2, s3, s4⟩
          go_simp
          with_reducible rfl
         rotate_left
         ·simp only [ps]
          rfl
         refine pv 7 117 #[true, true, false, true, true, true, true, true, false, false, false, false] uB ?_
         refine OU (σ := Value × Value × Value × Nat) 1 #[true, true, true, true, true, true, true, true, true, true, true, false] (fun s_ => [(112, .agg #[.int .i64 fI, .int .i64 gI, s_.1, s_.2.1]), (118, s_.2.2.1), (18, .pointer (some ⟨s_.2.2.2, 0, none⟩)), (119, .agg #[.int .i64 fI, .int .i64 gI, s_.1, s_.2.1, s_.2.2.1])]) (fun s_ w' => (w'.cell? ⟨D, 0, none⟩ = some (.int .i64 uC) ∧ w'.cell? ⟨D, 1, none⟩ = some (.int .i64 vC) ∧ w'.cell? ⟨D, 2, none⟩ = some (.slice dF kC.length mF) ∧ w'.cell? ⟨D, 3, none⟩ = some (.slice sD mB.length uD) ∧ w'.cell? ⟨D, 4, none⟩ = some (.slice tD dB.length aD)) ∧ (Kd.R (Kd.int .u8) 73 w' w.heap.size (fun a => (w.heap.size ≤ a)) s_.1 dC) ∧ (Kd.V k30 30 w' w.heap.size (fun a => ((eB a ∨ fB a ∨ fC a) ∨ w.heap.size ≤ a) ∧ some a ≠ (s_.1 : Value).ownBlock ∧ some a ≠ (s_.2.2.1 : Value).ownBlock ∧ a ≠ T ∧ a ≠ D ∧ a ≠ U ∧ a ≠ X ∧ a ≠ W ∧ a ≠ s_.2.2.2) s_.2.1 dG) ∧ (Kd.V k63 63 w' w.heap.size (fun a => ((eB a ∨ fB a ∨ fC a) ∨ w.heap.size ≤ a) ∧ some a ≠ (s_.1 : Value).ownBlock ∧ some a ≠ (s_.2.2.1 : Value).ownBlock ∧ a ≠ T ∧ a ≠ D ∧ a ≠ U ∧ a ≠ X ∧ a ≠ W ∧ a ≠ s_.2.2.2) (.slice mL cI.length hL) cI) ∧ (Kd.N k63 63 w' w.heap.size (fun a => ((eB a ∨ fB a ∨ fC a) ∨ w.heap.size ≤ a) ∧ some a ≠ (s_.1 : Value).ownBlock ∧ a ≠ T ∧ a ≠ D ∧ a ≠ U ∧ a ≠ X ∧ a ≠ W ∧ a ≠ s_.2.2.2) s_.2.2.1 vJ) ∧ (Kd.V k30 30 w' w.heap.size (fun a => ((eB a ∨ fB a ∨ fC a) ∨ w.heap.size ≤ a) ∧ some a ≠ (s_.1 : Value).ownBlock ∧ some a ≠ (s_.2.2.1 : Value).ownBlock ∧ a ≠ T ∧ a ≠ D ∧ a ≠ U ∧ a ≠ X ∧ a ≠ W ∧ a ≠ s_.2.2.2) (.slice A3 l3.length c3) l3) ∧ (Kd.V k30 30 w' w.heap.size (fun a => ((eB a ∨ fB a ∨ fC a) ∨ w.heap.size ≤ a) ∧ some a ≠ (s_.1 : Value).ownBlock ∧ some a ≠ (s_.2.2.1 : Value).ownBlock ∧ a ≠ T ∧ a ≠ D ∧ a ≠ U ∧ a ≠ X ∧ a ≠ W ∧ a ≠ s_.2.2.2) (.slice sD mB.length uD) mB) ∧ (Kd.V k63 63 w' w.heap.size (fun a => ((eB a ∨ fB a ∨ fC a) ∨ w.heap.size ≤ a) ∧ some a ≠ (s_.1 : Value).ownBlock ∧ some a ≠ (s_.2.2.1 : Value).ownBlock ∧ a ≠ T ∧ a ≠ D ∧ a ≠ U ∧ a ≠ X ∧ a ≠ W ∧ a ≠ s_.2.2.2) (.slice tD dB.length aD) dB) ∧ (w'.heap[T]? = some (.cells #[.int .i64 dD, .int .i64 eD, .string fD, .slice qF nC.length sF, .slice rF oC.length tF] 26 (0, 0))) ∧ (w'.heap[D]? = some (.cells #[.int .i64 uC, .int .i64 vC, .slice dF kC.length mF, .slice sD mB.length uD, .slice tD dB.length aD] 33 (0, 0))) ∧ (w'.heap[U]? = some (.cells #[.int .i64 a2] 3 (0, 0))) ∧ (w'.heap[X]? = some (.cells #[.slice A4 l4.length c4] 38 (0, 0))) ∧ (w'.heap[W]? = some (.cells #[.int .i64 yB, .int .i64 zB, .slice none 0 0, .slice none 0 0, .slice none 0 0] 33 (0, 0))) ∧ (w'.heap[s_.2.2.2]? = some (.cells #[.int .i64 0, .int .i64 0, .slice none 0 0, .slice none 0 0, .slice none 0 0] 33 (0, 0))) ∧ (w.heap.size ≤ s_.2.2.2) ∧ (w.heap.size ≤ s_.2.2.2) ∧ (T ≠ s_.2.2.2) ∧ (s_.2.2.2 ≠ T) ∧ (D ≠ s_.2.2.2) ∧ (s_.2.2.2 ≠ D) ∧ (U ≠ s_.2.2.2) ∧ (s_.2.2.2 ≠ U) ∧ (X ≠ s_.2.2.2) ∧ (s_.2.2.2 ≠ X) ∧ (W ≠ s_.2.2.2) ∧ (s_.2.2.2 ≠ W) ∧ (Below w.heap.size w w')) ?_ ?_
         rotate_left
         ·intro rO
          refine Np (i := 2) (j := 10) (Ni := some 112) (Nj := some 18) #[true, true, true, true, true, true, true, true, false, false, false, false] #[true, true, false, true, true, true, true, true, false, false, true, false] rfl rfl rfl rfl (JN uB.out (by kernel_rfl)) (by decide) (by decide) (fun K hK => ?_) (fun K hK => ?_)
          ·skip
           refine Cx Try.func51 (by kernel_rfl) rfl #[.agg #[.int .i64 uC, .int .i64 vC, .slice dF kC.length mF, .slice sD mB.length uD]] (by rfl) rfl rfl (by (try simp only [List.map_toArray, List.map_cons, List.map_nil]); first | done | rfl | (simp only [List.length_drop, List.length_take]; rfl)) ?_
           with_reducible refine (drivers_copied.calls (fun a => (((eB a ∨ fB a ∨ fC a) ∨ w.heap.size ≤ a) ∧ (a ≠ T ∧ (a ≠ D ∧ (a ≠ U ∧ (a ≠ X ∧ a ≠ W)))))) ?side1 ?side2 ?side3 eS.out).mono ?_
           (case side1 => exact cu fH HB)
           (case side2 => exact cH.out)
           (case side3 => exact m.out)
           rintro e oY ⟨v387, v390, rfl, nE, rN, hb⟩
           refine ⟨_, rfl, ?_⟩
           have jD := mk0 (Kd.Az (Bj gB.out) (Kd.BG nE) hb)
           have kD := mk0 (Kd.Az (Bj m.out) (Kd.BG nE) hb)
           have lD := mk0 (Kd.Az (Bj d.out) (Kd.BG nE) hb)
           have mD := mk0 (Kd.Az (Bj lC.out) (Kd.BG nE) hb)
           have nD := mk0 (Kd.CS (Kd.Dn (M := fun a => (w.heap.size ≤ a)) (Kd.BC (ok' := fun a => True) nE (fun _ hD => trivial)) (AQ (be5 HB G I J L O)) (fun a h_ => h_)) (AQ (be5 HB G I J L O)))
           have oD := mk0 (Kd.Dm (Kd.AL (ok' := fun a => ((eB a ∨ fB a ∨ fC a) ∨ w.heap.size ≤ a) ∧ some a ≠ (v387 : Value).ownBlock ∧ a ≠ T ∧ a ≠ D ∧ a ≠ U ∧ a ≠ X ∧ a ≠ W) rN (fun a hD => ⟨Or.elim hD.1 (fun tB => tB.1) (fun sB => (.inr (Nat.le_trans (AQ (be5 HB G I J L O)) sB))), hD.2, Or.elim hD.1 (fun tB => tB.2.1) (fun sB => (Kd.Al (g := T) (o := .cells #[.int .i64 dD, .int .i64 eD, .string fD, .slice qF nC.length sF, .slice rF oC.length tF] 26 (0, 0)) (AY r.out) a sB)), Or.elim hD.1 (fun tB => tB.2.2.1) (fun sB => (Kd.Al (g := D) (o := .cells #[.int .i64 uC, .int .i64 vC, .slice dF kC.length mF, .slice sD mB.length uD, .slice tD dB.length aD] 33 (0, 0)) (AY b.out) a sB)), Or.elim hD.1 (fun tB => tB.2.2.2.1) (fun sB => (Kd.Al (g := U) (o := .cells #[.int .i64 a2] 3 (0, 0)) (AY s.out) a sB)), Or.elim hD.1 (fun tB => tB.2.2.2.2.1) (fun sB => (Kd.Al (g := X) (o := .cells #[.slice A4 l4.length c4] 38 (0, 0)) (AY u.out) a sB)), Or.elim hD.1 (fun tB => tB.2.2.2.2.2) (fun sB => (Kd.Al (g := W) (o := .cells #[.int .i64 yB, .int .i64 zB, .slice none 0 0, .slice none 0 0, .slice none 0 0] 33 (0, 0)) (AY x.out) a sB))⟩)) (AQ (be5 HB G I J L O)))
           have pD := kb r hb
           have qD := kb b hb
           have rD := kb s hb
           have tE := kb u hb
           have iC := kb x hb
           have jC := kh5 HB G I J L O hb
           clear gB; clear m; clear d; clear lC; clear r; clear b; clear s; clear u; clear x; clear HB; have gB := jD; have m := kD; have d := lD; have lC := mD; have gD := nD; have dE := oD; have r := pD; have b := qD; have s := rD; have u := tE; have x := iC; have HB := jC; clear jD kD lD mD nD oD pD qD rD tE iC jC
           try clear hb
           try clear l
           try clear hi
           try clear nE
           try clear rN
           refine hK.out _ _ ⟨bc b 0, bc b 1, bc b 2, bc b 3, bc b 4⟩ (fun Y => ?_)
           clear hK K
           refine CJ (a' := ?_) ?_ ?_
           rotate_left
           ·show Act.put _ (some 112) _ = _
            simp only [ps]
            rfl
           refine Np (i := 8) (j := 10) (Ni := some 118) (Nj := some 18) #[true, true, true, true, true, true, true, true, true, false, false, false] #[true, true, true, true, true, true, true, true, false, false, true, false] rfl rfl rfl rfl (JN uB.out (by kernel_rfl)) (by decide) (by decide) (fun K hK => ?_) (fun K hK => ?_)
           ·skip
            refine Cx Try.func52 (by kernel_rfl) rfl #[.slice mL cI.length hL] (by rfl) rfl rfl (by (try simp only [List.map_toArray, List.map_cons, List.map_nil]); first | done | rfl | (simp only [List.length_drop, List.length_take]; rfl)) ?_
            with_reducible refine (drivers_all.calls (fun a => ((((eB a ∨ fB a ∨ fC a) ∨ w.heap.size ≤ a) ∧ (a ≠ T ∧ (a ≠ D ∧ (a ≠ U ∧ (a ≠ X ∧ a ≠ W))))) ∧ some a ≠ (v387 : Value).ownBlock)) ?side1 zP.out).mono ?_
            (case side1 => exact lC.out)
            rintro e xS ⟨v398, rfl, nE, hb⟩
            refine ⟨_, rfl, ?_⟩
            have jD := mk0 (Kd.Az (Bj gB.out) (Kd.Bp nE) hb)
            have kD := mk0 (Kd.Az (Bj m.out) (Kd.Bp nE) hb)
            have lD := mk0 (Kd.Az (Bj d.out) (Kd.Bp nE) hb)
            have mD := mk0 (Kd.Az (Bj lC.out) (Kd.Bp nE) hb)
            have nD := rb gD hb
            have oD := mk0 (Kd.Az (Bj dE.out) (Kd.Bp nE) hb)
            have pD := mk0 (Kd.DF (Kd.Av (ok' := fun a => ((eB a ∨ fB a ∨ fC a) ∨ w.heap.size ≤ a) ∧ some a ≠ (v387 : Value).ownBlock ∧ a ≠ T ∧ a ≠ D ∧ a ≠ U ∧ a ≠ X ∧ a ≠ W) nE (fun a hD => ⟨Or.elim hD (fun tB => tB.1.1) (fun sB => (.inr (Nat.le_trans (AQ (be5 HB G I J L O)) sB))), Or.elim hD (fun tB => tB.2) (fun sB => (Kd.fresh' (Kd.En (DC gD.out)) a sB)), Or.elim hD (fun tB => tB.1.2.1) (fun sB => (Kd.Al (g := T) (o := .cells #[.int .i64 dD, .int .i64 eD, .string fD, .slice qF nC.length sF, .slice rF oC.length tF] 26 (0, 0)) (AY r.out) a sB)), Or.elim hD (fun tB => tB.1.2.2.1) (fun sB => (Kd.Al (g := D) (o := .cells #[.int .i64 uC, .int .i64 vC, .slice dF kC.length mF, .slice sD mB.length uD, .slice tD dB.length aD] 33 (0, 0)) (AY b.out) a sB)), Or.elim hD (fun tB => tB.1.2.2.2.1) (fun sB => (Kd.Al (g := U) (o := .cells #[.int .i64 a2] 3 (0, 0)) (AY s.out) a sB)), Or.elim hD (fun tB => tB.1.2.2.2.2.1) (fun sB => (Kd.Al (g := X) (o := .cells #[.slice A4 l4.length c4] 38 (0, 0)) (AY u.out) a sB)), Or.elim hD (fun tB => tB.1.2.2.2.2.2) (fun sB => (Kd.Al (g := W) (o := .cells #[.int .i64 yB, .int .i64 zB, .slice none 0 0, .slice none 0 0, .slice none 0 0] 33 (0, 0)) (AY x.out) a sB))⟩)) (AQ (be5 HB G I J L O)))
            have qD := kb r hb
            have rD := kb b hb
            have tE := kb s hb
            have iC := kb u hb
            have jC := kb x hb
            have pC := kh5 HB G I J L O hb
            clear gB; clear m; clear d; clear lC; clear gD; clear dE; clear r; clear b; clear s; clear u; clear x; clear HB; have gB := jD; have m := kD; have d := lD; have lC := mD; have gD := nD; have dE := oD; have nG := pD; have r := qD; have b := rD; have s := tE; have u := iC; have x := jC; have HB := pC; clear jD kD lD mD nD oD pD qD rD tE iC jC pC
            try clear hb
            try clear l
            try clear hi
            try clear nE
            obtain ⟨yS, uT, jQ⟩ := Kd.Ce nG.out
            (first | subst jQ | (injection jQ with f1_ f2_ f3_; have oG := f1_.symm; have pG := f3_.symm; clear f1_ f2_ f3_; subst oG; subst pG))
            obtain ⟨nL, gM, yI⟩ := Kd.Bu dE.out
            (first | subst yI | (injection yI with f1_ f2_ f3_; have oG := f1_.symm; have pG := f3_.symm; clear f1_ f2_ f3_; subst oG; subst pG))
            obtain ⟨oL, hM, zI⟩ := Kd.Bn gD.out
            (first | subst zI | (injection zI with f1_ f2_ f3_; have oG := f1_.symm; have pG := f3_.symm; clear f1_ f2_ f3_; subst oG; subst pG))
            refine hK.out _ _ ⟨bc b 0, bc b 1, bc b 2, bc b 3, bc b 4⟩ (fun Y => ?_)
            clear hK K
            refine CJ (a' := ?_) ?_ ?_
            rotate_left
            ·show Act.put _ (some 118) _ = _
             simp only [ps]
             rfl
            refine pv 9 119 (tf 10 2) uB ?_
            refine DN (i := 10) (N := some 18) (tf 11 1) rfl rfl (Bv uB.out (by kernel_rfl)) (by decide) (fun K hK => ?_)
            refine FL ?hg (N := 18) ?hd (cs := #[.int .i64 0, .int .i64 0, .slice none 0 0, .slice none 0 0, .slice none 0 0]) (t := 33) ?hr ?_; (case hd => rfl); (case hg => rfl); (case hr => first | (go_simp; done) | (go_simp; rfl))
            intro z hg aFP mE hb
            have jD := vB gB hg hb
            have kD := vB m hg hb
            have lD := vB d hg hb
            have mD := vB lC hg hb
            have nD := rb gD hb
            have oD := vB dE hg hb
            have pD := nB nG hg hb
            have qD := kb r hb
            have rD := kb b hb
            have tE := kb s hb
            have iC := kb u hb
            have jC := kb x hb
            have pC := kh5 HB G I J L O hb
            have cE := mk0 (mE)
            have rE := bs (be5 HB G I J L O) hg
            have sE := bs (be5 HB G I J L O) hg
            have cG := nb1 (bu r) hg
            have eI := nb2 (bu r) hg
            have qJ := nb1 (bu b) hg
            have rJ := nb2 (bu b) hg
            have sJ := nb1 (bu s) hg
            have tJ := nb2 (bu s) hg
            have uJ := nb1 (bu u) hg
            have iL := nb2 (bu u) hg
            have jL := nb1 (bu x) hg
            have sN := nb2 (bu x) hg
            clear gB; clear m; clear d; clear lC; clear gD; clear dE; clear nG; clear r; clear b; clear s; clear u; clear x; clear HB; have gB := jD; have m := kD; have d := lD; have lC := mD; have gD := nD; have dE := oD; have nG := pD; have r := qD; have b := rD; have s := tE; have u := iC; have x := jC; have HB := pC; have cB := cE; have eL := rE; have hC := sE; have qC := cG; have xD := eI; have Z := qJ; have yD := rJ; have rC := sJ; have zD := tJ; have sC := uJ; have aE := iL; have tC := jL; have bE := sN; clear jD kD lD mD nD oD pD qD rD tE iC jC pC cE rE sE cG eI qJ rJ sJ tJ uJ iL jL sN; clear hb mE hg
            refine hK.out _ _ ⟨bc b 0, bc b 1, bc b 2, bc b 3, bc b 4⟩ (fun Y => ?_)
            clear hK K
            refine CJ (a' := ?_) ?_ ?_
            rotate_left
            ·show Act.put _ (some 18) _ = _
             simp only [ps]
             rfl
            exact CJ (by simp only [Eh, Act.put, List.setIfInBounds_toArray, List.set_cons_zero, List.set_cons_succ]) (rO (.slice oL dC.length hM, .slice nL dG.length gM, .slice yS vJ.length uT, z) _ ⟨Y, (DZ (Kd.BC gD.out (fun _ l => l.1))), (BO (Kd.AL dE.out (fun _ l => ⟨l.1.1.1, ⟨l.1.1.2.1, ⟨l.1.2, ⟨l.1.1.2.2.1, ⟨l.1.1.2.2.2.1, ⟨l.1.1.2.2.2.2.1, ⟨l.1.1.2.2.2.2.2.1, ⟨l.1.1.2.2.2.2.2.2, l.2⟩⟩⟩⟩⟩⟩⟩⟩))), (BO (Kd.AL lC.out (fun _ l => ⟨l.1.1.1.1, ⟨l.1.1.2, ⟨l.1.2, ⟨l.1.1.1.2.1, ⟨l.1.1.1.2.2.1, ⟨l.1.1.1.2.2.2.1, ⟨l.1.1.1.2.2.2.2.1, ⟨l.1.1.1.2.2.2.2.2, l.2⟩⟩⟩⟩⟩⟩⟩⟩))), (DL (Kd.Av nG.out (fun _ l => ⟨l.1.1, ⟨l.1.2.1, ⟨l.1.2.2.1, ⟨l.1.2.2.2.1, ⟨l.1.2.2.2.2.1, ⟨l.1.2.2.2.2.2.1, ⟨l.1.2.2.2.2.2.2, l.2⟩⟩⟩⟩⟩⟩⟩))), (BO (Kd.AL gB.out (fun _ l => ⟨l.1.1.1.1, ⟨l.1.1.2, ⟨l.1.2, ⟨l.1.1.1.2.1, ⟨l.1.1.1.2.2.1, ⟨l.1.1.1.2.2.2.1, ⟨l.1.1.1.2.2.2.2.1, ⟨l.1.1.1.2.2.2.2.2, l.2⟩⟩⟩⟩⟩⟩⟩⟩))), (BO (Kd.AL m.out (fun _ l => ⟨l.1.1.1.1, ⟨l.1.1.2, ⟨l.1.2, ⟨l.1.1.1.2.1, ⟨l.1.1.1.2.2.1, ⟨l.1.1.1.2.2.2.1, ⟨l.1.1.1.2.2.2.2.1, ⟨l.1.1.1.2.2.2.2.2, l.2⟩⟩⟩⟩⟩⟩⟩⟩))), (BO (Kd.AL d.out (fun _ l => ⟨l.1.1.1.1, ⟨l.1.1.2, ⟨l.1.2, ⟨l.1.1.1.2.1, ⟨l.1.1.1.2.2.1, ⟨l.1.1.1.2.2.2.1, ⟨l.1.1.1.2.2.2.2.1, ⟨l.1.1.1.2.2.2.2.2, l.2⟩⟩⟩⟩⟩⟩⟩⟩))), (AY r.out), (AY b.out), (AY s.out), (AY u.out), (AY x.out), (AY cB.out), eL.out, hC.out, qC.out, xD.out, Z.out, yD.out, rC.out, zD.out, sC.out, aE.out, tC.out, bE.out, (be6 HB G I J L O hC)⟩)
           ·skip
            refine FL ?hg (N := 18) ?hd (cs := #[.int .i64 0, .int .i64 0, .slice none 0 0, .slice none 0 0, .slice none 0 0]) (t := 33) ?hr ?_; (case hd => rfl); (case hg => rfl); (case hr => first | (go_simp; done) | (go_simp; rfl))
            intro z hg xS mE hb
            have jD := vB gB hg hb
            have kD := vB m hg hb
            have lD := vB d hg hb
            have mD := vB lC hg hb
            have nD := rb gD hb
            have oD := vB dE hg hb
            have pD := kb r hb
            have qD := kb b hb
            have rD := kb s hb
            have tE := kb u hb
            have iC := kb x hb
            have jC := kh5 HB G I J L O hb
            have pC := mk0 (mE)
            have cE := bs (be5 HB G I J L O) hg
            have rE := bs (be5 HB G I J L O) hg
            have sE := nb1 (bu r) hg
            have cG := nb2 (bu r) hg
            have eI := nb1 (bu b) hg
            have qJ := nb2 (bu b) hg
            have rJ := nb1 (bu s) hg
            have sJ := nb2 (bu s) hg
            have tJ := nb1 (bu u) hg
            have uJ := nb2 (bu u) hg
            have iL := nb1 (bu x) hg
            have jL := nb2 (bu x) hg
            clear gB; clear m; clear d; clear lC; clear gD; clear dE; clear r; clear b; clear s; clear u; clear x; clear HB; have gB := jD; have m := kD; have d := lD; have lC := mD; have gD := nD; have dE := oD; have r := pD; have b := qD; have s := rD; have u := tE; have x := iC; have HB := jC; have cB := pC; have eL := cE; have hC := rE; have qC := sE; have xD := cG; have Z := eI; have yD := qJ; have rC := rJ; have zD := sJ; have sC := tJ; have aE := uJ; have tC := iL; have bE := jL; clear jD kD lD mD nD oD pD qD rD tE iC jC pC cE rE sE cG eI qJ rJ sJ tJ uJ iL jL; clear hb mE hg
            refine hK.out _ _ ⟨bc b 0, bc b 1, bc b 2, bc b 3, bc b 4⟩ (fun Y => ?_)
            clear hK K
            refine CJ (a' := ?_) ?_ ?_
            rotate_left
            ·show Act.put _ (some 18) _ = _
             simp only [ps]
             rfl
            refine DN (i := 8) (N := some 118) #[true, true, true, true, true, true, true, true, true, false, true, false] rfl rfl (Bv uB.out (by kernel_rfl)) (by decide) (fun K hK => ?_)
            refine Cx Try.func52 (by kernel_rfl) rfl #[.slice mL cI.length hL] (by rfl) rfl rfl (by (try simp only [List.map_toArray, List.map_cons, List.map_nil]); first | done | rfl | (simp only [List.length_drop, List.length_take]; rfl)) ?_
            with_reducible refine (drivers_all.calls (fun a => (((((eB a ∨ fB a ∨ fC a) ∨ w.heap.size ≤ a) ∧ (a ≠ T ∧ (a ≠ D ∧ (a ≠ U ∧ (a ≠ X ∧ a ≠ W))))) ∧ some a ≠ (v387 : Value).ownBlock) ∧ a ≠ z)) ?side1 zP.out).mono ?_
            (case side1 => exact lC.out)
            rintro e pY ⟨v398, rfl, nE, hb⟩
            refine ⟨_, rfl, ?_⟩
            have jD := mk0 (Kd.Az (Bj gB.out) (Kd.Bp nE) hb)
            have kD := mk0 (Kd.Az (Bj m.out) (Kd.Bp nE) hb)
            have lD := mk0 (Kd.Az (Bj d.out) (Kd.Bp nE) hb)
            have mD := mk0 (Kd.Az (Bj lC.out) (Kd.Bp nE) hb)
            have nD := rb gD hb
            have oD := mk0 (Kd.Az (Bj dE.out) (Kd.Bp nE) hb)
            have pD := mk0 (Kd.DF (Kd.Av (ok' := fun a => ((eB a ∨ fB a ∨ fC a) ∨ w.heap.size ≤ a) ∧ some a ≠ (v387 : Value).ownBlock ∧ a ≠ T ∧ a ≠ D ∧ a ≠ U ∧ a ≠ X ∧ a ≠ W ∧ a ≠ z) nE (fun a hD => ⟨Or.elim hD (fun tB => tB.1.1.1) (fun sB => (.inr (Nat.le_trans (AQ (be6 HB G I J L O hC)) sB))), Or.elim hD (fun tB => tB.1.2) (fun sB => (Kd.fresh' (Kd.En (DC gD.out)) a sB)), Or.elim hD (fun tB => tB.1.1.2.1) (fun sB => (Kd.Al (g := T) (o := .cells #[.int .i64 dD, .int .i64 eD, .string fD, .slice qF nC.length sF, .slice rF oC.length tF] 26 (0, 0)) (AY r.out) a sB)), Or.elim hD (fun tB => tB.1.1.2.2.1) (fun sB => (Kd.Al (g := D) (o := .cells #[.int .i64 uC, .int .i64 vC, .slice dF kC.length mF, .slice sD mB.length uD, .slice tD dB.length aD] 33 (0, 0)) (AY b.out) a sB)), Or.elim hD (fun tB => tB.1.1.2.2.2.1) (fun sB => (Kd.Al (g := U) (o := .cells #[.int .i64 a2] 3 (0, 0)) (AY s.out) a sB)), Or.elim hD (fun tB => tB.1.1.2.2.2.2.1) (fun sB => (Kd.Al (g := X) (o := .cells #[.slice A4 l4.length c4] 38 (0, 0)) (AY u.out) a sB)), Or.elim hD (fun tB => tB.1.1.2.2.2.2.2) (fun sB => (Kd.Al (g := W) (o := .cells #[.int .i64 yB, .int .i64 zB, .slice none 0 0, .slice none 0 0, .slice none 0 0] 33 (0, 0)) (AY x.out) a sB)), Or.elim hD (fun tB => tB.2) (fun sB => (Kd.Al (g := z) (o := .cells #[.int .i64 0, .int .i64 0, .slice none 0 0, .slice none 0 0, .slice none 0 0] 33 (0, 0)) (AY cB.out) a sB))⟩)) (AQ (be6 HB G I J L O hC)))
            have qD := kb r hb
            have rD := kb b hb
            have tE := kb s hb
            have iC := kb u hb
            have jC := kb x hb
            have pC := kb cB hb
            have cE := kh6 HB G I J L O hC hb
            clear gB; clear m; clear d; clear lC; clear gD; clear dE; clear r; clear b; clear s; clear u; clear x; clear cB; clear HB; have gB := jD; have m := kD; have d := lD; have lC := mD; have gD := nD; have dE := oD; have nG := pD; have r := qD; have b := rD; have s := tE; have u := iC; have x := jC; have cB := pC; have HB := cE; clear jD kD lD mD nD oD pD qD rD tE iC jC pC cE
            try clear hb
            try clear l
            try clear hi
            try clear nE
            obtain ⟨nL, gM, yI⟩ := Kd.Ce nG.out
            (first | subst yI | (injection yI with f1_ f2_ f3_; have oG := f1_.symm; have pG := f3_.symm; clear f1_ f2_ f3_; subst oG; subst pG))
            obtain ⟨oL, hM, zI⟩ := Kd.Bu dE.out
            (first | subst zI | (injection zI with f1_ f2_ f3_; have oG := f1_.symm; have pG := f3_.symm; clear f1_ f2_ f3_; subst oG; subst pG))
            obtain ⟨xN, qO, iM⟩ := Kd.Bn gD.out
            (first | subst iM | (injection iM with f1_ f2_ f3_; have oG := f1_.symm; have pG := f3_.symm; clear f1_ f2_ f3_; subst oG; subst pG))
            refine hK.out _ _ ⟨bc b 0, bc b 1, bc b 2, bc b 3, bc b 4⟩ (fun Y => ?_)
            clear hK K
            refine CJ (a' := ?_) ?_ ?_
            rotate_left
            ·show Act.put _ (some 118) _ = _
             simp only [ps]
             rfl
            refine pv 9 119 (tf 11 1) uB ?_
            exact CJ (by simp only [Eh, Act.put, List.setIfInBounds_toArray, List.set_cons_zero, List.set_cons_succ]) (rO (.slice xN dC.length qO, .slice oL dG.length hM, .slice nL vJ.length gM, z) _ ⟨Y, (DZ (Kd.BC gD.out (fun _ l => l.1))), (BO (Kd.AL dE.out (fun _ l => ⟨l.1.1.1, ⟨l.1.1.2.1, ⟨l.2, ⟨l.1.1.2.2.1, ⟨l.1.1.2.2.2.1, ⟨l.1.1.2.2.2.2.1, ⟨l.1.1.2.2.2.2.2.1, ⟨l.1.1.2.2.2.2.2.2, l.1.2⟩⟩⟩⟩⟩⟩⟩⟩))), (BO (Kd.AL lC.out (fun _ l => ⟨l.1.1.1.1, ⟨l.1.1.2, ⟨l.2, ⟨l.1.1.1.2.1, ⟨l.1.1.1.2.2.1, ⟨l.1.1.1.2.2.2.1, ⟨l.1.1.1.2.2.2.2.1, ⟨l.1.1.1.2.2.2.2.2, l.1.2⟩⟩⟩⟩⟩⟩⟩⟩))), (D9 nG.out), (BO (Kd.AL gB.out (fun _ l => ⟨l.1.1.1.1, ⟨l.1.1.2, ⟨l.2, ⟨l.1.1.1.2.1, ⟨l.1.1.1.2.2.1, ⟨l.1.1.1.2.2.2.1, ⟨l.1.1.1.2.2.2.2.1, ⟨l.1.1.1.2.2.2.2.2, l.1.2⟩⟩⟩⟩⟩⟩⟩⟩))), (BO (Kd.AL m.out (fun _ l => ⟨l.1.1.1.1, ⟨l.1.1.2, ⟨l.2, ⟨l.1.1.1.2.1, ⟨l.1.1.1.2.2.1, ⟨l.1.1.1.2.2.2.1, ⟨l.1.1.1.2.2.2.2.1, ⟨l.1.1.1.2.2.2.2.2, l.1.2⟩⟩⟩⟩⟩⟩⟩⟩))), (BO (Kd.AL d.out (fun _ l => ⟨l.1.1.1.1, ⟨l.1.1.2, ⟨l.2, ⟨l.1.1.1.2.1, ⟨l.1.1.1.2.2.1, ⟨l.1.1.1.2.2.2.1, ⟨l.1.1.1.2.2.2.2.1, ⟨l.1.1.1.2.2.2.2.2, l.1.2⟩⟩⟩⟩⟩⟩⟩⟩))), (AY r.out), (AY b.out), (AY s.out), (AY u.out), (AY x.out), (AY cB.out), eL.out, hC.out, qC.out, xD.out, Z.out, yD.out, rC.out, zD.out, sC.out, aE.out, tC.out, bE.out, (be6 HB G I J L O hC)⟩)
          ·skip
           refine FL ?hg (N := 18) ?hd (cs := #[.int .i64 0, .int .i64 0, .slice none 0 0, .slice none 0 0, .slice none 0 0]) (t := 33) ?hr ?_; (case hd => rfl); (case hg => rfl); (case hr => first | (go_simp; done) | (go_simp; rfl))
           intro z hg oY mE hb
           have jD := vB gB hg hb
           have kD := vB m hg hb
           have lD := vB d hg hb
           have mD := vB lC hg hb
           have nD := kb r hb
           have oD := kb b hb
           have pD := kb s hb
           have qD := kb u hb
           have rD := kb x hb
           have tE := kh5 HB G I J L O hb
           have iC := mk0 (mE)
           have jC := bs (be5 HB G I J L O) hg
           have pC := bs (be5 HB G I J L O) hg
           have cE := nb1 (bu r) hg
           have rE := nb2 (bu r) hg
           have sE := nb1 (bu b) hg
           have cG := nb2 (bu b) hg
           have eI := nb1 (bu s) hg
           have qJ := nb2 (bu s) hg
           have rJ := nb1 (bu u) hg
           have sJ := nb2 (bu u) hg
           have tJ := nb1 (bu x) hg
           have uJ := nb2 (bu x) hg
           clear gB; clear m; clear d; clear lC; clear r; clear b; clear s; clear u; clear x; clear HB; have gB := jD; have m := kD; have d := lD; have lC := mD; have r := nD; have b := oD; have s := pD; have u := qD; have x := rD; have HB := tE; have cB := iC; have eL := jC; have hC := pC; have qC := cE; have xD := rE; have Z := sE; have yD := cG; have rC := eI; have zD := qJ; have sC := rJ; have aE := sJ; have tC := tJ; have bE := uJ; clear jD kD lD mD nD oD pD qD rD tE iC jC pC cE rE sE cG eI qJ rJ sJ tJ uJ; clear hb mE hg
           refine hK.out _ _ ⟨bc b 0, bc b 1, bc b 2, bc b 3, bc b 4⟩ (fun Y => ?_)
           clear hK K
           refine CJ (a' := ?_) ?_ ?_
           rotate_left
           ·show Act.put _ (some 18) _ = _
            simp only [ps]
            rfl
           refine DN (i := 2) (N := some 112) #[true, true, true, true, true, true, true, true, false, false, true, false] rfl rfl (Bv uB.out (by kernel_rfl)) (by decide) (fun K hK => ?_)
           refine Cx Try.func51 (by kernel_rfl) rfl #[.agg #[.int .i64 uC, .int .i64 vC, .slice dF kC.length mF, .slice sD mB.length uD]] (by rfl) rfl rfl (by (try simp only [List.map_toArray, List.map_cons, List.map_nil]); first | done | rfl | (simp only [List.length_drop, List.length_take]; rfl)) ?_
           with_reducible refine (drivers_copied.calls (fun a => ((((eB a ∨ fB a ∨ fC a) ∨ w.heap.size ≤ a) ∧ (a ≠ T ∧ (a ≠ D ∧ (a ≠ U ∧ (a ≠ X ∧ a ≠ W))))) ∧ a ≠ z)) ?side1 ?side2 ?side3 eS.out).mono ?_
           (case side1 => exact cu fH HB)
           (case side2 => exact cH.out)
           (case side3 => exact m.out)
           rintro e xS ⟨v387, v390, rfl, nE, rN, hb⟩
           refine ⟨_, rfl, ?_⟩
           have jD := mk0 (Kd.Az (Bj gB.out) (Kd.BG nE) hb)
           have kD := mk0 (Kd.Az (Bj m.out) (Kd.BG nE) hb)
           have lD := mk0 (Kd.Az (Bj d.out) (Kd.BG nE) hb)
           have mD := mk0 (Kd.Az (Bj lC.out) (Kd.BG nE) hb)
           have nD := mk0 (Kd.CS (Kd.Dn (M := fun a => (w.heap.size ≤ a)) (Kd.BC (ok' := fun a => True) nE (fun _ hD => trivial)) (AQ (be6 HB G I J L O hC)) (fun a h_ => h_)) (AQ (be6 HB G I J L O hC)))
           have oD := mk0 (Kd.Dm (Kd.AL (ok' := fun a => ((eB a ∨ fB a ∨ fC a) ∨ w.heap.size ≤ a) ∧ some a ≠ (v387 : Value).ownBlock ∧ a ≠ T ∧ a ≠ D ∧ a ≠ U ∧ a ≠ X ∧ a ≠ W ∧ a ≠ z) rN (fun a hD => ⟨Or.elim hD.1 (fun tB => tB.1.1) (fun sB => (.inr (Nat.le_trans (AQ (be6 HB G I J L O hC)) sB))), hD.2, Or.elim hD.1 (fun tB => tB.1.2.1) (fun sB => (Kd.Al (g := T) (o := .cells #[.int .i64 dD, .int .i64 eD, .string fD, .slice qF nC.length sF, .slice rF oC.length tF] 26 (0, 0)) (AY r.out) a sB)), Or.elim hD.1 (fun tB => tB.1.2.2.1) (fun sB => (Kd.Al (g := D) (o := .cells #[.int .i64 uC, .int .i64 vC, .slice dF kC.length mF, .slice sD mB.length uD, .slice tD dB.length aD] 33 (0, 0)) (AY b.out) a sB)), Or.elim hD.1 (fun tB => tB.1.2.2.2.1) (fun sB => (Kd.Al (g := U) (o := .cells #[.int .i64 a2] 3 (0, 0)) (AY s.out) a sB)), Or.elim hD.1 (fun tB => tB.1.2.2.2.2.1) (fun sB => (Kd.Al (g := X) (o := .cells #[.slice A4 l4.length c4] 38 (0, 0)) (AY u.out) a sB)), Or.elim hD.1 (fun tB => tB.1.2.2.2.2.2) (fun sB => (Kd.Al (g := W) (o := .cells #[.int .i64 yB, .int .i64 zB, .slice none 0 0, .slice none 0 0, .slice none 0 0] 33 (0, 0)) (AY x.out) a sB)), Or.elim hD.1 (fun tB => tB.2) (fun sB => (Kd.Al (g := z) (o := .cells #[.int .i64 0, .int .i64 0, .slice none 0 0, .slice none 0 0, .slice none 0 0] 33 (0, 0)) (AY cB.out) a sB))⟩)) (AQ (be6 HB G I J L O hC)))
           have pD := kb r hb
           have qD := kb b hb
           have rD := kb s hb
           have tE := kb u hb
           have iC := kb x hb
           have jC := kb cB hb
           have pC := kh6 HB G I J L O hC hb
           clear gB; clear m; clear d; clear lC; clear r; clear b; clear s; clear u; clear x; clear cB; clear HB; have gB := jD; have m := kD; have d := lD; have lC := mD; have gD := nD; have dE := oD; have r := pD; have b := qD; have s := rD; have u := tE; have x := iC; have cB := jC; have HB := pC; clear jD kD lD mD nD oD pD qD rD tE iC jC pC
           try clear hb
           try clear l
           try clear hi
           try clear nE
           try clear rN
           refine hK.out _ _ ⟨bc b 0, bc b 1, bc b 2, bc b 3, bc b 4⟩ (fun Y => ?_)
           clear hK K
           refine CJ (a' := ?_) ?_ ?_
           rotate_left
           ·show Act.put _ (some 112) _ = _
            simp only [ps]
            rfl
           refine DN (i := 8) (N := some 118) #[true, true, true, true, true, true, true, true, true, false, true, false] rfl rfl (Bv uB.out (by kernel_rfl)) (by decide) (fun K hK => ?_)
           refine Cx Try.func52 (by kernel_rfl) rfl #[.slice mL cI.length hL] (by rfl) rfl rfl (by (try simp only [List.map_toArray, List.map_cons, List.map_nil]); first | done | rfl | (simp only [List.length_drop, List.length_take]; rfl)) ?_
           with_reducible refine (drivers_all.calls (fun a => (((((eB a ∨ fB a ∨ fC a) ∨ w.heap.size ≤ a) ∧ (a ≠ T ∧ (a ≠ D ∧ (a ≠ U ∧ (a ≠ X ∧ a ≠ W))))) ∧ a ≠ z) ∧ some a ≠ (v387 : Value).ownBlock)) ?side1 zP.out).mono ?_
           (case side1 => exact lC.out)
           rintro e pY ⟨v398, rfl, nE, hb⟩
           refine ⟨_, rfl, ?_⟩
           have jD := mk0 (Kd.Az (Bj gB.out) (Kd.Bp nE) hb)
           have kD := mk0 (Kd.Az (Bj m.out) (Kd.Bp nE) hb)
           have lD := mk0 (Kd.Az (Bj d.out) (Kd.Bp nE) hb)
           have mD := mk0 (Kd.Az (Bj lC.out) (Kd.Bp nE) hb)
           have nD := rb gD hb
           have oD := mk0 (Kd.Az (Bj dE.out) (Kd.Bp nE) hb)
           have pD := mk0 (Kd.DF (Kd.Av (ok' := fun a => ((eB a ∨ fB a ∨ fC a) ∨ w.heap.size ≤ a) ∧ some a ≠ (v387 : Value).ownBlock ∧ a ≠ T ∧ a ≠ D ∧ a ≠ U ∧ a ≠ X ∧ a ≠ W ∧ a ≠ z) nE (fun a hD => ⟨Or.elim hD (fun tB => tB.1.1.1) (fun sB => (.inr (Nat.le_trans (AQ (be6 HB G I J L O hC)) sB))), Or.elim hD (fun tB => tB.2) (fun sB => (Kd.fresh' (Kd.En (DC gD.out)) a sB)), Or.elim hD (fun tB => tB.1.1.2.1) (fun sB => (Kd.Al (g := T) (o := .cells #[.int .i64 dD, .int .i64 eD, .string fD, .slice qF nC.length sF, .slice rF oC.length tF] 26 (0, 0)) (AY r.out) a sB)), Or.elim hD (fun tB => tB.1.1.2.2.1) (fun sB => (Kd.Al (g := D) (o := .cells #[.int .i64 uC, .int .i64 vC, .slice dF kC.length mF, .slice sD mB.length uD, .slice tD dB.length aD] 33 (0, 0)) (AY b.out) a sB)), Or.elim hD (fun tB => tB.1.1.2.2.2.1) (fun sB => (Kd.Al (g := U) (o := .cells #[.int .i64 a2] 3 (0, 0)) (AY s.out) a sB)), Or.elim hD (fun tB => tB.1.1.2.2.2.2.1) (fun sB => (Kd.Al (g := X) (o := .cells #[.slice A4 l4.length c4] 38 (0, 0)) (AY u.out) a sB)), Or.elim hD (fun tB => tB.1.1.2.2.2.2.2) (fun sB => (Kd.Al (g := W) (o := .cells #[.int .i64 yB, .int .i64 zB, .slice none 0 0, .slice none 0 0, .slice none 0 0] 33 (0, 0)) (AY x.out) a sB)), Or.elim hD (fun tB => tB.1.2) (fun sB => (Kd.Al (g := z) (o := .cells #[.int .i64 0, .int .i64 0, .slice none 0 0, .slice none 0 0, .slice none 0 0] 33 (0, 0)) (AY cB.out) a sB))⟩)) (AQ (be6 HB G I J L O hC)))
           have qD := kb r hb
           have rD := kb b hb
           have tE := kb s hb
           have iC := kb u hb
           have jC := kb x hb
           have pC := kb cB hb
           have cE := kh6 HB G I J L O hC hb
           clear gB; clear m; clear d; clear lC; clear gD; clear dE; clear r; clear b; clear s; clear u; clear x; clear cB; clear HB; have gB := jD; have m := kD; have d := lD; have lC := mD; have gD := nD; have dE := oD; have nG := pD; have r := qD; have b := rD; have s := tE; have u := iC; have x := jC; have cB := pC; have HB := cE; clear jD kD lD mD nD oD pD qD rD tE iC jC pC cE
           try clear hb
           try clear l
           try clear hi
           try clear nE
           obtain ⟨nL, gM, yI⟩ := Kd.Ce nG.out
           (first | subst yI | (injection yI with f1_ f2_ f3_; have oG := f1_.symm; have pG := f3_.symm; clear f1_ f2_ f3_; subst oG; subst pG))
           obtain ⟨oL, hM, zI⟩ := Kd.Bu dE.out
           (first | subst zI | (injection zI with f1_ f2_ f3_; have oG := f1_.symm; have pG := f3_.symm; clear f1_ f2_ f3_; subst oG; subst pG))
           obtain ⟨xN, qO, iM⟩ := Kd.Bn gD.out
           (first | subst iM | (injection iM with f1_ f2_ f3_; have oG := f1_.symm; have pG := f3_.symm; clear f1_ f2_ f3_; subst oG; subst pG))
           refine hK.out _ _ ⟨bc b 0, bc b 1, bc b 2, bc b 3, bc b 4⟩ (fun Y => ?_)
           clear hK K
           refine CJ (a' := ?_) ?_ ?_
           rotate_left
           ·show Act.put _ (some 118) _ = _
            simp only [ps]
            rfl
           refine pv 9 119 (tf 11 1) uB ?_
           exact CJ (by simp only [Eh, Act.put, List.setIfInBounds_toArray, List.set_cons_zero, List.set_cons_succ]) (rO (.slice xN dC.length qO, .slice oL dG.length hM, .slice nL vJ.length gM, z) _ ⟨Y, (DZ (Kd.BC gD.out (fun _ l => l.1))), (BO (Kd.AL dE.out (fun _ l => ⟨l.1.1, ⟨l.1.2.1, ⟨l.2, ⟨l.1.2.2.1, ⟨l.1.2.2.2.1, ⟨l.1.2.2.2.2.1, ⟨l.1.2.2.2.2.2.1, ⟨l.1.2.2.2.2.2.2.1, l.1.2.2.2.2.2.2.2⟩⟩⟩⟩⟩⟩⟩⟩))), (BO (Kd.AL lC.out (fun _ l => ⟨l.1.1.1.1, ⟨l.1.2, ⟨l.2, ⟨l.1.1.1.2.1, ⟨l.1.1.1.2.2.1, ⟨l.1.1.1.2.2.2.1, ⟨l.1.1.1.2.2.2.2.1, ⟨l.1.1.1.2.2.2.2.2, l.1.1.2⟩⟩⟩⟩⟩⟩⟩⟩))), (D9 nG.out), (BO (Kd.AL gB.out (fun _ l => ⟨l.1.1.1.1, ⟨l.1.2, ⟨l.2, ⟨l.1.1.1.2.1, ⟨l.1.1.1.2.2.1, ⟨l.1.1.1.2.2.2.1, ⟨l.1.1.1.2.2.2.2.1, ⟨l.1.1.1.2.2.2.2.2, l.1.1.2⟩⟩⟩⟩⟩⟩⟩⟩))), (BO (Kd.AL m.out (fun _ l => ⟨l.1.1.1.1, ⟨l.1.2, ⟨l.2, ⟨l.1.1.1.2.1, ⟨l.1.1.1.2.2.1, ⟨l.1.1.1.2.2.2.1, ⟨l.1.1.1.2.2.2.2.1, ⟨l.1.1.1.2.2.2.2.2, l.1.1.2⟩⟩⟩⟩⟩⟩⟩⟩))), (BO (Kd.AL d.out (fun _ l => ⟨l.1.1.1.1, ⟨l.1.2, ⟨l.2, ⟨l.1.1.1.2.1, ⟨l.1.1.1.2.2.1, ⟨l.1.1.1.2.2.2.1, ⟨l.1.1.1.2.2.2.2.1, ⟨l.1.1.1.2.2.2.2.2, l.1.1.2⟩⟩⟩⟩⟩⟩⟩⟩))), (AY r.out), (AY b.out), (AY s.out), (AY u.out), (AY x.out), (AY cB.out), eL.out, hC.out, qC.out, xD.out, Z.out, yD.out, rC.out, zD.out, sC.out, aE.out, tC.out, bE.out, (be6 HB G I J L O hC)⟩)
         rintro ⟨v387, v390, v398, z⟩ xF ⟨n8, fX, gX, hX, iX, jX, kX, lX, mX, nX, oX, fS, gS, hS, iS, jS, kS, lS, mS, nS, oS, pS, qS, rS, sS, tS, uS⟩
         have jD : Aside0 (Kd.R (Kd.int .u8) 73 xF w.heap.size (fun a => (w.heap.size ≤ a)) v387 dC) := ⟨fX⟩
         have kD : Aside0 (Kd.V k30 30 xF w.heap.size (fun a => ((eB a ∨ fB a ∨ fC a) ∨ w.heap.size ≤ a) ∧ some a ≠ (v387 : Value).ownBlock ∧ some a ≠ (v398 : Value).ownBlock ∧ a ≠ T ∧ a ≠ D ∧ a ≠ U ∧ a ≠ X ∧ a ≠ W ∧ a ≠ z) v390 dG) := ⟨gX⟩
         have lD : Aside0 (Kd.V k63 63 xF w.heap.size (fun a => ((eB a ∨ fB a ∨ fC a) ∨ w.heap.size ≤ a) ∧ some a ≠ (v387 : Value).ownBlock ∧ some a ≠ (v398 : Value).ownBlock ∧ a ≠ T ∧ a ≠ D ∧ a ≠ U ∧ a ≠ X ∧ a ≠ W ∧ a ≠ z) (.slice mL cI.length hL) cI) := ⟨hX⟩
         have mD : Aside0 (Kd.N k63 63 xF w.heap.size (fun a => ((eB a ∨ fB a ∨ fC a) ∨ w.heap.size ≤ a) ∧ some a ≠ (v387 : Value).ownBlock ∧ a ≠ T ∧ a ≠ D ∧ a ≠ U ∧ a ≠ X ∧ a ≠ W ∧ a ≠ z) v398 vJ) := ⟨iX⟩
         have nD : Aside0 (Kd.V k30 30 xF w.heap.size (fun a => ((eB a ∨ fB a ∨ fC a) ∨ w.heap.size ≤ a) ∧ some a ≠ (v387 : Value).ownBlock ∧ some a ≠ (v398 : Value).ownBlock ∧ a ≠ T ∧ a ≠ D ∧ a ≠ U ∧ a ≠ X ∧ a ≠ W ∧ a ≠ z) (.slice A3 l3.length c3) l3) := ⟨jX⟩
         have oD : Aside0 (Kd.V k30 30 xF w.heap.size (fun a => ((eB a ∨ fB a ∨ fC a) ∨ w.heap.size ≤ a) ∧ some a ≠ (v387 : Value).ownBlock ∧ some a ≠ (v398 : Value).ownBlock ∧ a ≠ T ∧ a ≠ D ∧ a ≠ U ∧ a ≠ X ∧ a ≠ W ∧ a ≠ z) (.slice sD mB.length uD) mB) := ⟨kX⟩
         have pD : Aside0 (Kd.V k63 63 xF w.heap.size (fun a => ((eB a ∨ fB a ∨ fC a) ∨ w.heap.size ≤ a) ∧ some a ≠ (v387 : Value).ownBlock ∧ some a ≠ (v398 : Value).ownBlock ∧ a ≠ T ∧ a ≠ D ∧ a ≠ U ∧ a ≠ X ∧ a ≠ W ∧ a ≠ z) (.slice tD dB.length aD) dB) := ⟨lX⟩
         have qD : Aside0 (xF.heap[T]? = some (.cells #[.int .i64 dD, .int .i64 eD, .string fD, .slice qF nC.length sF, .slice rF oC.length tF] 26 (0, 0))) := ⟨mX⟩
         have rD : Aside0 (xF.heap[D]? = some (.cells #[.int .i64 uC, .int .i64 vC, .slice dF kC.length mF, .slice sD mB.length uD, .slice tD dB.length aD] 33 (0, 0))) := ⟨nX⟩
         have tE : Aside0 (xF.heap[U]? = some (.cells #[.int .i64 a2] 3 (0, 0))) := ⟨oX⟩
         have iC : Aside0 (xF.heap[X]? = some (.cells #[.slice A4 l4.length c4] 38 (0, 0))) := ⟨fS⟩
         have jC : Aside0 (xF.heap[W]? = some (.cells #[.int .i64 yB, .int .i64 zB, .slice none 0 0, .slice none 0 0, .slice none 0 0] 33 (0, 0))) := ⟨gS⟩
         have pC : Aside0 (xF.heap[z]? = some (.cells #[.int .i64 0, .int .i64 0, .slice none 0 0, .slice none 0 0, .slice none 0 0] 33 (0, 0))) := ⟨hS⟩
         have cE : Aside0 (w.heap.size ≤ z) := ⟨iS⟩
         have rE : Aside0 (w.heap.size ≤ z) := ⟨jS⟩
         have sE : Aside0 (T ≠ z) := ⟨kS⟩
         have cG : Aside0 (z ≠ T) := ⟨lS⟩
         have eI : Aside0 (D ≠ z) := ⟨mS⟩
         have qJ : Aside0 (z ≠ D) := ⟨nS⟩
         have rJ : Aside0 (U ≠ z) := ⟨oS⟩
         have sJ : Aside0 (z ≠ U) := ⟨pS⟩
         have tJ : Aside0 (X ≠ z) := ⟨qS⟩
         have uJ : Aside0 (z ≠ X) := ⟨rS⟩
         have iL : Aside0 (W ≠ z) := ⟨sS⟩
         have jL : Aside0 (z ≠ W) := ⟨tS⟩
         have sN : Aside0 (Below w.heap.size w xF) := ⟨uS⟩
         clear gB; clear m; clear d; clear r; clear b; clear s; clear u; clear x; clear HB; clear fX gX hX iX jX kX lX mX nX oX fS gS hS iS jS kS lS mS nS oS pS qS rS sS tS uS; have gD := jD; have dE := kD; have lC := lD; have nG := mD; have gB := nD; have m := oD; have d := pD; have r := qD; have b := rD; have s := tE; have u := iC; have x := jC; have cB := pC; have eL := cE; have hC := rE; have qC := sE; have xD := cG; have Z := eI; have yD := qJ; have rC := rJ; have zD := sJ; have sC := tJ; have aE := uJ; have tC := iL; have bE := jL; have HB := sN; clear jD kD lD mD nD oD pD qD rD tE iC jC pC cE rE sE cG eI qJ rJ sJ tJ uJ iL jL sN
         have Y : xF.cell? ⟨D, 0, none⟩ = some (.int .i64 uC) ∧ xF.cell? ⟨D, 1, none⟩ = some (.int .i64 vC) ∧ xF.cell? ⟨D, 2, none⟩ = some (.slice dF kC.length mF) ∧ xF.cell? ⟨D, 3, none⟩ = some (.slice sD mB.length uD) ∧ xF.cell? ⟨D, 4, none⟩ = some (.slice tD dB.length aD) := n8
         obtain ⟨zS, vT, kQ⟩ := Kd.Ce nG.out
         (first | subst kQ | (injection kQ with f1_ f2_ f3_; have oG := f1_.symm; have pG := f3_.symm; clear f1_ f2_ f3_; subst oG; subst pG))
         obtain ⟨kI, mI, lQ⟩ := Kd.Bu dE.out
         (first | subst lQ | (injection lQ with f1_ f2_ f3_; have oG := f1_.symm; have pG := f3_.symm; clear f1_ f2_ f3_; subst oG; subst pG))
         obtain ⟨aC, cC, mQ⟩ := Kd.Bn gD.out
         (first | subst mQ | (injection mQ with f1_ f2_ f3_; have oG := f1_.symm; have pG := f3_.symm; clear f1_ f2_ f3_; subst oG; subst pG))
         refine CJ (a' := ?_) ?_ ?_
         rotate_left
         ·simp only [Eh, Act.put, List.setIfInBounds_toArray, List.set_cons_zero, List.set_cons_succ]
          rfl
         refine DN (i := 11) (N := none) (tf 12 0) rfl rfl (Bv uB.out (by kernel_rfl)) (by decide) (fun K hK => ?_)
         have aDM : xF.cell? ⟨z, 0, none⟩ = some (.int .i64 0) := bc cB 0
         have jZ := AB cB.out 0
         have sV := qC.out; have tV := Z.out; have uV := rC.out; have vV := sC.out; have wV := tC.out; have nU := xD.out; have oU := yD.out; have pU := zD.out; have qU := aE.out; have rU := bE.out
         have aDN : xF.cell? ⟨z, 1, none⟩ = some (.int .i64 0) := bc cB 1
         have kZ := AB cB.out 1
         have xV := qC.out; have yV := Z.out; have zV := rC.out; have aW := sC.out; have bW := tC.out; have sU := xD.out; have tU := yD.out; have uU := zD.out; have vU := aE.out; have wU := bE.out
         have aDO : xF.cell? ⟨z, 2, none⟩ = some (.slice none 0 0) := bc cB 2
         have lZ := AB cB.out 2
         have cW := qC.out; have dW := Z.out; have eW := rC.out; have fW := sC.out; have gW := tC.out; have xU := xD.out; have yU := yD.out; have zU := zD.out; have aV := aE.out; have bV := bE.out
         have aDP : xF.cell? ⟨z, 3, none⟩ = some (.slice none 0 0) := bc cB 3
         have mZ := AB cB.out 3
         have hW := qC.out; have iW := Z.out; have jW := rC.out; have kW := sC.out; have lW := tC.out; have cV := xD.out; have dV := yD.out; have eV := zD.out; have fV := aE.out; have gV := bE.out
         have aDQ : xF.cell? ⟨z, 4, none⟩ = some (.slice none 0 0) := bc cB 4
         have nZ := AB cB.out 4
         have mW := qC.out; have nW := Z.out; have oW := rC.out; have pW := sC.out; have qW := tC.out; have hV := xD.out; have iV := yD.out; have jV := zD.out; have kV := aE.out; have lV := bE.out
         refine Fu (w1 := ?_) (by rfl) rfl ?_ ?_
         rotate_left
         ·go_simp
          rfl
         refine hK.out _ _ ⟨((cell_far (p := ⟨z, _, none⟩) Z.out _).trans (((cell_far (p := ⟨z, _, none⟩) Z.out _).trans (((cell_far (p := ⟨z, _, none⟩) Z.out _).trans (((cell_far (p := ⟨z, _, none⟩) Z.out _).trans (((cell_far (p := ⟨z, _, none⟩) Z.out _).trans (Y.1)))))))))), ((cell_far (p := ⟨z, _, none⟩) Z.out _).trans (((cell_far (p := ⟨z, _, none⟩) Z.out _).trans (((cell_far (p := ⟨z, _, none⟩) Z.out _).trans (((cell_far (p := ⟨z, _, none⟩) Z.out _).trans (((cell_far (p := ⟨z, _, none⟩) Z.out _).trans (Y.2.1)))))))))), ((cell_far (p := ⟨z, _, none⟩) Z.out _).trans (((cell_far (p := ⟨z, _, none⟩) Z.out _).trans (((cell_far (p := ⟨z, _, none⟩) Z.out _).trans (((cell_far (p := ⟨z, _, none⟩) Z.out _).trans (((cell_far (p := ⟨z, _, none⟩) Z.out _).trans (Y.2.2.1)))))))))), ((cell_far (p := ⟨z, _, none⟩) Z.out _).trans (((cell_far (p := ⟨z, _, none⟩) Z.out _).trans (((cell_far (p := ⟨z, _, none⟩) Z.out _).trans (((cell_far (p := ⟨z, _, none⟩) Z.out _).trans (((cell_far (p := ⟨z, _, none⟩) Z.out _).trans (Y.2.2.2.1)))))))))), ((cell_far (p := ⟨z, _, none⟩) Z.out _).trans (((cell_far (p := ⟨z, _, none⟩) Z.out _).trans (((cell_far (p := ⟨z, _, none⟩) Z.out _).trans (((cell_far (p := ⟨z, _, none⟩) Z.out _).trans (((cell_far (p := ⟨z, _, none⟩) Z.out _).trans (Y.2.2.2.2))))))))))⟩ (fun Y => ?_)
         clear hK K
         refine Dv (Cu uB.out (by kernel_rfl)) ?_
         try go_wp2
         go_loopg [122] gL (fun kq v122 w' => ∃ (y : Int) (cF : List (S63)) (u401004 : Value), v122 = .int .i64 y ∧ Aside0 (AJ.l2 kq l3 (l3.length : Int) y a2 l4 fI gI dC dG cF = some (r1, r2, r3, r4, r5, r6)) ∧ Aside0 (kq ≤ gL) ∧ Aside0 (Kd.V k30 30 w' w.heap.size (fun a => ((eB a ∨ fB a ∨ fC a) ∨ w.heap.size ≤ a) ∧ some a ≠ ((.slice aC dC.length cC) : Value).ownBlock ∧ some a ≠ (u401004 : Value).ownBlock ∧ a ≠ T ∧ a ≠ D ∧ a ≠ U ∧ a ≠ X ∧ a ≠ W ∧ a ≠ z) (.slice A3 l3.length c3) l3) ∧ Aside0 (Kd.V k30 30 w' w.heap.size (fun a => ((eB a ∨ fB a ∨ fC a) ∨ w.heap.size ≤ a) ∧ some a ≠ ((.slice aC dC.length cC) : Value).ownBlock ∧ some a ≠ (u401004 : Value).ownBlock ∧ a ≠ T ∧ a ≠ D ∧ a ≠ U ∧ a ≠ X ∧ a ≠ W ∧ a ≠ z) (.slice sD mB.length uD) mB) ∧ Aside0 (Kd.V k63 63 w' w.heap.size (fun a => ((eB a ∨ fB a ∨ fC a) ∨ w.heap.size ≤ a) ∧ some a ≠ ((.slice aC dC.length cC) : Value).ownBlock ∧ some a ≠ (u401004 : Value).ownBlock ∧ a ≠ T ∧ a ≠ D ∧ a ≠ U ∧ a ≠ X ∧ a ≠ W ∧ a ≠ z) (.slice tD dB.length aD) dB) ∧ Aside0 (Kd.R (Kd.int .u8) 73 w' w.heap.size (fun a => (w.heap.size ≤ a)) (.slice aC dC.length cC) dC) ∧ Aside0 (Kd.V k30 30 w' w.heap.size (fun a => ((eB a ∨ fB a ∨ fC a) ∨ w.heap.size ≤ a) ∧ some a ≠ ((.slice aC dC.length cC) : Value).ownBlock ∧ some a ≠ (u401004 : Value).ownBlock ∧ a ≠ T ∧ a ≠ D ∧ a ≠ U ∧ a ≠ X ∧ a ≠ W ∧ a ≠ z) (.slice kI dG.length mI) dG) ∧ Aside0 (Kd.N k63 63 w' w.heap.size (fun a => ((eB a ∨ fB a ∨ fC a) ∨ w.heap.size ≤ a) ∧ some a ≠ ((.slice aC dC.length cC) : Value).ownBlock ∧ a ≠ T ∧ a ≠ D ∧ a ≠ U ∧ a ≠ X ∧ a ≠ W ∧ a ≠ z) u401004 cF) ∧ Aside0 (w'.heap[T]? = some (.cells #[.int .i64 dD, .int .i64 eD, .string fD, (.slice qF nC.length sF), (.slice rF oC.length tF)] 26 (0, 0))) ∧ Aside0 (w'.heap[D]? = some (.cells #[.int .i64 uC, .int .i64 vC, (.slice dF kC.length mF), (.slice sD mB.length uD), (.slice tD dB.length aD)] 33 (0, 0))) ∧ Aside0 (w'.heap[U]? = some (.cells #[.int .i64 a2] 3 (0, 0))) ∧ Aside0 (w'.heap[X]? = some (.cells #[(.slice A4 l4.length c4)] 38 (0, 0))) ∧ Aside0 (w'.heap[W]? = some (.cells #[.int .i64 yB, .int .i64 zB, (.slice none 0 0), (.slice none 0 0), (.slice none 0 0)] 33 (0, 0))) ∧ Aside0 (w'.heap[z]? = some (.cells #[.int .i64 fI, .int .i64 gI, (.slice aC dC.length cC), (.slice kI dG.length mI), u401004] 33 (0, 0))) ∧ Aside0 (Below w.heap.size w w'))
         case atStart => exact ⟨(0), (vJ), (.slice zS vJ.length vT), rfl, H', ⟨Nat.le_refl _⟩, ⟨BO (Kd.AL (vI (q := z) (Kd.AL gB.out (fun a l => (⟨l, l.2.2.2.2.2.2.2.2⟩ : _ ∧ a ≠ z))) (fun _ l => l.2)) (fun _ l => ⟨l.1.1, ⟨l.1.2.1, ⟨l.1.2.2.1, ⟨l.1.2.2.2.1, ⟨l.1.2.2.2.2.1, ⟨l.1.2.2.2.2.2.1, ⟨l.1.2.2.2.2.2.2.1, ⟨l.1.2.2.2.2.2.2.2.1, l.1.2.2.2.2.2.2.2.2⟩⟩⟩⟩⟩⟩⟩⟩))⟩, ⟨BO (Kd.AL (vI (q := z) (Kd.AL m.out (fun a l => (⟨l, l.2.2.2.2.2.2.2.2⟩ : _ ∧ a ≠ z))) (fun _ l => l.2)) (fun _ l => ⟨l.1.1, ⟨l.1.2.1, ⟨l.1.2.2.1, ⟨l.1.2.2.2.1, ⟨l.1.2.2.2.2.1, ⟨l.1.2.2.2.2.2.1, ⟨l.1.2.2.2.2.2.2.1, ⟨l.1.2.2.2.2.2.2.2.1, l.1.2.2.2.2.2.2.2.2⟩⟩⟩⟩⟩⟩⟩⟩))⟩, ⟨BO (Kd.AL (vI (q := z) (Kd.AL d.out (fun a l => (⟨l, l.2.2.2.2.2.2.2.2⟩ : _ ∧ a ≠ z))) (fun _ l => l.2)) (fun _ l => ⟨l.1.1, ⟨l.1.2.1, ⟨l.1.2.2.1, ⟨l.1.2.2.2.1, ⟨l.1.2.2.2.2.1, ⟨l.1.2.2.2.2.2.1, ⟨l.1.2.2.2.2.2.2.1, ⟨l.1.2.2.2.2.2.2.2.1, l.1.2.2.2.2.2.2.2.2⟩⟩⟩⟩⟩⟩⟩⟩))⟩, ⟨DZ (Kd.BC (rI (q := z) (Kd.Ao gD.out cB.out (by decide)) (fun _ l => l.2)) (fun _ l => l.1))⟩, ⟨BO (Kd.AL (vI (q := z) (Kd.AL dE.out (fun a l => (⟨l, l.2.2.2.2.2.2.2.2⟩ : _ ∧ a ≠ z))) (fun _ l => l.2)) (fun _ l => ⟨l.1.1, ⟨l.1.2.1, ⟨l.1.2.2.1, ⟨l.1.2.2.2.1, ⟨l.1.2.2.2.2.1, ⟨l.1.2.2.2.2.2.1, ⟨l.1.2.2.2.2.2.2.1, ⟨l.1.2.2.2.2.2.2.2.1, l.1.2.2.2.2.2.2.2.2⟩⟩⟩⟩⟩⟩⟩⟩))⟩, ⟨DL (Kd.Av (nI (q := z) (Kd.Av nG.out (fun a l => (⟨l, l.2.2.2.2.2.2.2⟩ : _ ∧ a ≠ z))) (fun _ l => l.2)) (fun _ l => ⟨l.1.1, ⟨l.1.2.1, ⟨l.1.2.2.1, ⟨l.1.2.2.2.1, ⟨l.1.2.2.2.2.1, ⟨l.1.2.2.2.2.2.1, ⟨l.1.2.2.2.2.2.2.1, l.1.2.2.2.2.2.2.2⟩⟩⟩⟩⟩⟩⟩))⟩, ⟨bF qC r⟩, ⟨bF Z b⟩, ⟨bF rC s⟩, ⟨bF sC u⟩, ⟨bF tC x⟩, ⟨pB cB⟩, ⟨be6 HB G I J L O hC⟩⟩
         case round =>
          clear H'
          try clear c1; try clear c3; try clear c4; try clear hL
          obtain ⟨y, cF, u401004, rfl, HA, bX, lE, m, d, wB, eC, jB, r, b, s, u, x, cB, HB⟩ := hrel
          cases gk with
          | zero => exact absurd HA.out (by simp [AJ.l2])
          | succ k5 =>
           have H := HA.out; clear HA
           simp only [AJ.l2] at H
           replace H := iD' H; obtain ⟨-, vR, H⟩ | ⟨-, vR, H⟩ := H
           ·simp only [Option.some.injEq, Prod.mk.injEq] at H
            obtain ⟨rfl, rfl, rfl, rfl, rfl, rfl⟩ := H
            have ⟨g2, p7⟩ := no xD qC; have ⟨i2, q7⟩ := no yD Z; have ⟨m2, r7⟩ := no zD rC; have ⟨n2, y7⟩ := no aE sC; have ⟨o2, z7⟩ := no bE tC
            have aEP := cells5 cB.out
            have ⟨p2, a8⟩ := no wD vD; have ⟨q2, b8⟩ := no cD bD; have ⟨y2, d8⟩ := no hE gE; have ⟨z2, e8⟩ := no gG fG
            have aEQ := cells5 x.out
            obtain ⟨cT, yT, zT⟩ := Kd.Ce jB.out
            subst zT
            go_wp2
            refine bodyPost_ret (EB rfl _ _ W 33 #[.int .i64 fI, .int .i64 gI, .slice aC dC.length cC, .slice kI dG.length mI, .slice cT cF.length yT] (0, 0) _ rfl (pB x) Try.underlying33 rfl (by kernel_rfl)) rfl ?_
            exact ⟨_, _, _, rfl, by exact DZ (Kd.BC (rI (q := W) (Kd.Ao wB.out x.out (by decide)) (fun _ l => l.2)) (fun _ l => l.1)), by exact BO (Kd.AL (vI (q := W) (Kd.AL eC.out (fun a l => (⟨l, l.2.2.2.2.2.2.2.1⟩ : _ ∧ a ≠ W))) (fun _ l => l.2)) (fun _ l => ⟨l.1.1, ⟨l.1.2.1, l.1.2.2.1⟩⟩)), by exact DL (Kd.Av (nI (q := W) (Kd.Av jB.out (fun a l => (⟨l, l.2.2.2.2.2.2.1⟩ : _ ∧ a ≠ W))) (fun _ l => l.2)) (fun _ l => ⟨l.1.1, l.1.2.1⟩)), be6 HB G I J L O hC⟩
           replace H := iN H; obtain ⟨-, gZ, H⟩ := H
           replace H := iN H; obtain ⟨-, hZ, H⟩ := H
           replace H := iN H; obtain ⟨-, iZ, H⟩ := H
           replace H := Option.bind_eq_some_iff.mp H
           obtain ⟨⟨tN, uN, uI, vN⟩, aQ, H⟩ := H
           replace H : (if cF.length < 1954687338268 then (AJ.l2 k5 l3 (l3.length : Int) (wrap64 (y + 1)) a2 l4 fI gI dC dG (cF ++ [(⟨wrap64 (a2 + (rd l4 y)), (⟨tN, uN, uI, vN⟩ : S30)⟩ : S63)])) else (none)) = some (r1, r2, r3, r4, r5, r6) := H
           have yW := mk0 aQ; clear aQ
           by_cases c236 : cF.length < 1954687338268
           rotate_left
           ·rw [if_neg c236] at H
            exact absurd H (by simp)
           rw [if_pos c236] at H; have tR := mk0 c236; clear c236
           obtain ⟨rR, qM⟩ : ∃ y_ : List (S63), y_ = (cF ++ [(⟨wrap64 (a2 + (rd l4 y)), (⟨tN, uN, uI, vN⟩ : S30)⟩ : S63)]) := ⟨_, rfl⟩
           replace H : (AJ.l2 k5 l3 (l3.length : Int) (wrap64 (y + 1)) a2 l4 fI gI dC dG rR) = some (r1, r2, r3, r4, r5, r6) := by first | (rw [qM]; with_reducible exact H) | (have yN := (Option.bind_some _ _).symm.trans H; rw [qM]; with_reducible exact yN) | (have yN := (Option.bind_some _ _).symm.trans H; with_reducible exact yN) | with_reducible exact H | (rw [qM]; exact H) | exact H
           have fT := mk0 qM; clear qM
           have H' := mk0 H
           clear H
           have eP : 0 ≤ (y : Int) := od
           have fP : y < (l3.length : Int) := od
           obtain ⟨hT, wC, yC, xC, zC, dX, fY, gY, aR, bR, pN, nN, qN, oN⟩ := Dy (Kd.AO lE.out).2.2 y eP fP
           cases dX
           obtain ⟨m8, xR, wR, fN⟩ := Kd.FQ lE.out z30 y eP (by first | exact fP | exact of_decide_eq_true (by assumption) | (have e_ := (Kd.AO lE.out).1; omega))
           obtain ⟨jY, lY, kY, mY, rfl, sM, jM, tM, kM⟩ := FR wR
           have uK := fN 2 _ rfl
           rw [BZ _ _ 2 (by omega)] at uK
           replace uK := Option.some.inj (uK.symm.trans aR)
           injection uK with hva_ hvn_ hvc_
           rw [hva_] at jM
           rw [hvc_] at sM
           have jE := mk0 (show Kd.V (Kd.int .u8) 73 _ w.heap.size _ _ ((AC l3 y).f2) from Kd.C8 sM jM)
           clear hva_ hvn_ hvc_ jM sM
           have vK := fN 3 _ rfl
           rw [BZ _ _ 3 (by omega)] at vK
           replace vK := Option.some.inj (vK.symm.trans bR)
           injection vK with hva_ hvn_ hvc_
           rw [hva_] at kM
           rw [hvc_] at tM
           have kE := mk0 (show Kd.V k30 30 _ w.heap.size _ _ ((AC l3 y).f3) from Kd.C8 tM kM)
           clear hva_ hvn_ hvc_ kM tM; clear fN xR; have kN := mk0 nN; have bQ := mk0 pN; clear nN pN; have lN := mk0 oN; have aX := mk0 qN; clear oN qN; replace eP := eq_true eP; replace fP := eq_true fP
           try go_wp2_with ((with_reducible refine AP rfl (N := 20) rfl (cs := #[.int .i64 0, .int .i64 0, .slice none 0 0, .slice none 0 0]) (t := 30) ?hr ?_); (case hr => first | (go_simp; done) | (go_simp; rfl)); intro B hg wG mE hb; obtain ⟨lE, m, d, eC, jB, jE, kE⟩ := tg7 hg hb lE m d eC jB jE kE; obtain ⟨wB, kN, lN⟩ := tb3 hb wB kN lN; have bC := mk0 (mE); have hI := bs (be6 HB G I J L O hC) hg; replace HB := kh6 HB G I J L O hC hb; have ⟨yL, lO⟩ := nn r hg; have ⟨zL, mO⟩ := nn b hg; have ⟨aM, nO⟩ := nn s hg; have ⟨bM, oO⟩ := nn u hg; have ⟨cM, pO⟩ := nn x hg; have ⟨eK, dM⟩ := nn cB hg; obtain ⟨r, b, s, u, x, cB⟩ := tb6 hb r b s u x cB; clear hb mE hg; have ⟨q1, i7⟩ := no lO yL; have ⟨y1, j7⟩ := no mO zL; have ⟨z1, l7⟩ := no nO aM; have ⟨b2, m7⟩ := no oO bM; have ⟨d2, n7⟩ := no pO cM; have ⟨e2, o7⟩ := no dM eK; have aEO := BN bC.out)
           have jD : Aside0 (Kd.V k30 30 ((((wG.setCell ⟨B, 0, none⟩ (.int .i64 ((AC l3 y).f0))).setCell ⟨B, 1, none⟩ (.int .i64 ((AC l3 y).f1))).setCell ⟨B, 2, none⟩ (.slice wC ((AC l3 y).f2).length yC)).setCell ⟨B, 3, none⟩ (.slice xC ((AC l3 y).f3).length zC)) w.heap.size (fun a => ((eB a ∨ fB a ∨ fC a) ∨ w.heap.size ≤ a) ∧ some a ≠ (.slice aC dC.length cC : Value).ownBlock ∧ some a ≠ (u401004 : Value).ownBlock ∧ a ≠ T ∧ a ≠ D ∧ a ≠ U ∧ a ≠ X ∧ a ≠ W ∧ a ≠ z ∧ a ≠ B) (.slice (some hT) l3.length c3) l3) := ⟨BO (Kd.AL (vI (q := B) (Kd.AL lE.out (fun a l => (⟨l, l.2⟩ : _ ∧ a ≠ B))) (fun _ l => l.2)) (fun _ l => ⟨l.1.1.1, ⟨l.1.1.2.1, ⟨l.1.1.2.2.1, ⟨l.1.1.2.2.2.1, ⟨l.1.1.2.2.2.2.1, ⟨l.1.1.2.2.2.2.2.1, ⟨l.1.1.2.2.2.2.2.2.1, ⟨l.1.1.2.2.2.2.2.2.2.1, ⟨l.1.1.2.2.2.2.2.2.2.2, l.1.2⟩⟩⟩⟩⟩⟩⟩⟩⟩))⟩
           have kD : Aside0 (Kd.V k30 30 ((((wG.setCell ⟨B, 0, none⟩ (.int .i64 ((AC l3 y).f0))).setCell ⟨B, 1, none⟩ (.int .i64 ((AC l3 y).f1))).setCell ⟨B, 2, none⟩ (.slice wC ((AC l3 y).f2).length yC)).setCell ⟨B, 3, none⟩ (.slice xC ((AC l3 y).f3).length zC)) w.heap.size (fun a => ((eB a ∨ fB a ∨ fC a) ∨ w.heap.size ≤ a) ∧ some a ≠ (.slice aC dC.length cC : Value).ownBlock ∧ some a ≠ (u401004 : Value).ownBlock ∧ a ≠ T ∧ a ≠ D ∧ a ≠ U ∧ a ≠ X ∧ a ≠ W ∧ a ≠ z ∧ a ≠ B) (.slice sD mB.length uD) mB) := ⟨BO (Kd.AL (vI (q := B) (Kd.AL m.out (fun a l => (⟨l, l.2⟩ : _ ∧ a ≠ B))) (fun _ l => l.2)) (fun _ l => ⟨l.1.1.1, ⟨l.1.1.2.1, ⟨l.1.1.2.2.1, ⟨l.1.1.2.2.2.1, ⟨l.1.1.2.2.2.2.1, ⟨l.1.1.2.2.2.2.2.1, ⟨l.1.1.2.2.2.2.2.2.1, ⟨l.1.1.2.2.2.2.2.2.2.1, ⟨l.1.1.2.2.2.2.2.2.2.2, l.1.2⟩⟩⟩⟩⟩⟩⟩⟩⟩))⟩
           have lD : Aside0 (Kd.V k63 63 ((((wG.setCell ⟨B, 0, none⟩ (.int .i64 ((AC l3 y).f0))).setCell ⟨B, 1, none⟩ (.int .i64 ((AC l3 y).f1))).setCell ⟨B, 2, none⟩ (.slice wC ((AC l3 y).f2).length yC)).setCell ⟨B, 3, none⟩ (.slice xC ((AC l3 y).f3).length zC)) w.heap.size (fun a => ((eB a ∨ fB a ∨ fC a) ∨ w.heap.size ≤ a) ∧ some a ≠ (.slice aC dC.length cC : Value).ownBlock ∧ some a ≠ (u401004 : Value).ownBlock ∧ a ≠ T ∧ a ≠ D ∧ a ≠ U ∧ a ≠ X ∧ a ≠ W ∧ a ≠ z ∧ a ≠ B) (.slice tD dB.length aD) dB) := ⟨BO (Kd.AL (vI (q := B) (Kd.AL d.out (fun a l => (⟨l, l.2⟩ : _ ∧ a ≠ B))) (fun _ l => l.2)) (fun _ l => ⟨l.1.1.1, ⟨l.1.1.2.1, ⟨l.1.1.2.2.1, ⟨l.1.1.2.2.2.1, ⟨l.1.1.2.2.2.2.1, ⟨l.1.1.2.2.2.2.2.1, ⟨l.1.1.2.2.2.2.2.2.1, ⟨l.1.1.2.2.2.2.2.2.2.1, ⟨l.1.1.2.2.2.2.2.2.2.2, l.1.2⟩⟩⟩⟩⟩⟩⟩⟩⟩))⟩
           have mD : Aside0 (Kd.R (Kd.int .u8) 73 ((((wG.setCell ⟨B, 0, none⟩ (.int .i64 ((AC l3 y).f0))).setCell ⟨B, 1, none⟩ (.int .i64 ((AC l3 y).f1))).setCell ⟨B, 2, none⟩ (.slice wC ((AC l3 y).f2).length yC)).setCell ⟨B, 3, none⟩ (.slice xC ((AC l3 y).f3).length zC)) w.heap.size (fun a => (w.heap.size ≤ a)) (.slice aC dC.length cC) dC) := ⟨DZ (Kd.BC (rI (q := B) (Kd.Ao wB.out bC.out (by decide)) (fun _ l => l.2)) (fun _ l => l.1))⟩
           have nD : Aside0 (Kd.V k30 30 ((((wG.setCell ⟨B, 0, none⟩ (.int .i64 ((AC l3 y).f0))).setCell ⟨B, 1, none⟩ (.int .i64 ((AC l3 y).f1))).setCell ⟨B, 2, none⟩ (.slice wC ((AC l3 y).f2).length yC)).setCell ⟨B, 3, none⟩ (.slice xC ((AC l3 y).f3).length zC)) w.heap.size (fun a => ((eB a ∨ fB a ∨ fC a) ∨ w.heap.size ≤ a) ∧ some a ≠ (.slice aC dC.length cC : Value).ownBlock ∧ some a ≠ (u401004 : Value).ownBlock ∧ a ≠ T ∧ a ≠ D ∧ a ≠ U ∧ a ≠ X ∧ a ≠ W ∧ a ≠ z ∧ a ≠ B) (.slice kI dG.length mI) dG) := ⟨BO (Kd.AL (vI (q := B) (Kd.AL eC.out (fun a l => (⟨l, l.2⟩ : _ ∧ a ≠ B))) (fun _ l => l.2)) (fun _ l => ⟨l.1.1.1, ⟨l.1.1.2.1, ⟨l.1.1.2.2.1, ⟨l.1.1.2.2.2.1, ⟨l.1.1.2.2.2.2.1, ⟨l.1.1.2.2.2.2.2.1, ⟨l.1.1.2.2.2.2.2.2.1, ⟨l.1.1.2.2.2.2.2.2.2.1, ⟨l.1.1.2.2.2.2.2.2.2.2, l.1.2⟩⟩⟩⟩⟩⟩⟩⟩⟩))⟩
           have oD : Aside0 (Kd.N k63 63 ((((wG.setCell ⟨B, 0, none⟩ (.int .i64 ((AC l3 y).f0))).setCell ⟨B, 1, none⟩ (.int .i64 ((AC l3 y).f1))).setCell ⟨B, 2, none⟩ (.slice wC ((AC l3 y).f2).length yC)).setCell ⟨B, 3, none⟩ (.slice xC ((AC l3 y).f3).length zC)) w.heap.size (fun a => ((eB a ∨ fB a ∨ fC a) ∨ w.heap.size ≤ a) ∧ some a ≠ (.slice aC dC.length cC : Value).ownBlock ∧ a ≠ T ∧ a ≠ D ∧ a ≠ U ∧ a ≠ X ∧ a ≠ W ∧ a ≠ z ∧ a ≠ B) u401004 cF) := ⟨DL (Kd.Av (nI (q := B) (Kd.Av jB.out (fun a l => (⟨l, l.2⟩ : _ ∧ a ≠ B))) (fun _ l => l.2)) (fun _ l => ⟨l.1.1.1, ⟨l.1.1.2.1, ⟨l.1.1.2.2.1, ⟨l.1.1.2.2.2.1, ⟨l.1.1.2.2.2.2.1, ⟨l.1.1.2.2.2.2.2.1, ⟨l.1.1.2.2.2.2.2.2.1, ⟨l.1.1.2.2.2.2.2.2.2, l.1.2⟩⟩⟩⟩⟩⟩⟩⟩))⟩
           have pD : Aside0 (Kd.V (Kd.int .u8) 73 ((((wG.setCell ⟨B, 0, none⟩ (.int .i64 ((AC l3 y).f0))).setCell ⟨B, 1, none⟩ (.int .i64 ((AC l3 y).f1))).setCell ⟨B, 2, none⟩ (.slice wC ((AC l3 y).f2).length yC)).setCell ⟨B, 3, none⟩ (.slice xC ((AC l3 y).f3).length zC)) w.heap.size (fun a => ((eB a ∨ fB a ∨ fC a) ∨ w.heap.size ≤ a) ∧ some a ≠ (.slice aC dC.length cC : Value).ownBlock ∧ some a ≠ (u401004 : Value).ownBlock ∧ a ≠ T ∧ a ≠ D ∧ a ≠ U ∧ a ≠ X ∧ a ≠ W ∧ a ≠ z ∧ a ≠ B) (.slice wC ((AC l3 y).f2).length yC) ((AC l3 y).f2)) := ⟨BO (Kd.AL (vI (q := B) (Kd.AL jE.out (fun a l => (⟨l, l.2⟩ : _ ∧ a ≠ B))) (fun _ l => l.2)) (fun _ l => ⟨l.1.1.1, ⟨l.1.1.2.1, ⟨l.1.1.2.2.1, ⟨l.1.1.2.2.2.1, ⟨l.1.1.2.2.2.2.1, ⟨l.1.1.2.2.2.2.2.1, ⟨l.1.1.2.2.2.2.2.2.1, ⟨l.1.1.2.2.2.2.2.2.2.1, ⟨l.1.1.2.2.2.2.2.2.2.2, l.1.2⟩⟩⟩⟩⟩⟩⟩⟩⟩))⟩
           have qD : Aside0 (Kd.V k30 30 ((((wG.setCell ⟨B, 0, none⟩ (.int .i64 ((AC l3 y).f0))).setCell ⟨B, 1, none⟩ (.int .i64 ((AC l3 y).f1))).setCell ⟨B, 2, none⟩ (.slice wC ((AC l3 y).f2).length yC)).setCell ⟨B, 3, none⟩ (.slice xC ((AC l3 y).f3).length zC)) w.heap.size (fun a => ((eB a ∨ fB a ∨ fC a) ∨ w.heap.size ≤ a) ∧ some a ≠ (.slice aC dC.length cC : Value).ownBlock ∧ some a ≠ (u401004 : Value).ownBlock ∧ a ≠ T ∧ a ≠ D ∧ a ≠ U ∧ a ≠ X ∧ a ≠ W ∧ a ≠ z ∧ a ≠ B) (.slice xC ((AC l3 y).f3).length zC) ((AC l3 y).f3)) := ⟨BO (Kd.AL (vI (q := B) (Kd.AL kE.out (fun a l => (⟨l, l.2⟩ : _ ∧ a ≠ B))) (fun _ l => l.2)) (fun _ l => ⟨l.1.1.1, ⟨l.1.1.2.1, ⟨l.1.1.2.2.1, ⟨l.1.1.2.2.2.1, ⟨l.1.1.2.2.2.2.1, ⟨l.1.1.2.2.2.2.2.1, ⟨l.1.1.2.2.2.2.2.2.1, ⟨l.1.1.2.2.2.2.2.2.2.1, ⟨l.1.1.2.2.2.2.2.2.2.2, l.1.2⟩⟩⟩⟩⟩⟩⟩⟩⟩))⟩
           have rD : Aside0 (((((wG.setCell ⟨B, 0, none⟩ (.int .i64 ((AC l3 y).f0))).setCell ⟨B, 1, none⟩ (.int .i64 ((AC l3 y).f1))).setCell ⟨B, 2, none⟩ (.slice wC ((AC l3 y).f2).length yC)).setCell ⟨B, 3, none⟩ (.slice xC ((AC l3 y).f3).length zC)).heap[T]? = some (.cells #[.int .i64 dD, .int .i64 eD, .string fD, .slice qF nC.length sF, .slice rF oC.length tF] 26 (0, 0))) := ⟨bF yL r⟩
           have tE : Aside0 (((((wG.setCell ⟨B, 0, none⟩ (.int .i64 ((AC l3 y).f0))).setCell ⟨B, 1, none⟩ (.int .i64 ((AC l3 y).f1))).setCell ⟨B, 2, none⟩ (.slice wC ((AC l3 y).f2).length yC)).setCell ⟨B, 3, none⟩ (.slice xC ((AC l3 y).f3).length zC)).heap[D]? = some (.cells #[.int .i64 uC, .int .i64 vC, .slice dF kC.length mF, .slice sD mB.length uD, .slice tD dB.length aD] 33 (0, 0))) := ⟨bF zL b⟩
           have iC : Aside0 (((((wG.setCell ⟨B, 0, none⟩ (.int .i64 ((AC l3 y).f0))).setCell ⟨B, 1, none⟩ (.int .i64 ((AC l3 y).f1))).setCell ⟨B, 2, none⟩ (.slice wC ((AC l3 y).f2).length yC)).setCell ⟨B, 3, none⟩ (.slice xC ((AC l3 y).f3).length zC)).heap[U]? = some (.cells #[.int .i64 a2] 3 (0, 0))) := ⟨bF aM s⟩
           have jC : Aside0 (((((wG.setCell ⟨B, 0, none⟩ (.int .i64 ((AC l3 y).f0))).setCell ⟨B, 1, none⟩ (.int .i64 ((AC l3 y).f1))).setCell ⟨B, 2, none⟩ (.slice wC ((AC l3 y).f2).length yC)).setCell ⟨B, 3, none⟩ (.slice xC ((AC l3 y).f3).length zC)).heap[X]? = some (.cells #[.slice A4 l4.length c4] 38 (0, 0))) := ⟨bF bM u⟩
           have pC : Aside0 (((((wG.setCell ⟨B, 0, none⟩ (.int .i64 ((AC l3 y).f0))).setCell ⟨B, 1, none⟩ (.int .i64 ((AC l3 y).f1))).setCell ⟨B, 2, none⟩ (.slice wC ((AC l3 y).f2).length yC)).setCell ⟨B, 3, none⟩ (.slice xC ((AC l3 y).f3).length zC)).heap[W]? = some (.cells #[.int .i64 yB, .int .i64 zB, .slice none 0 0, .slice none 0 0, .slice none 0 0] 33 (0, 0))) := ⟨bF cM x⟩
           have cE : Aside0 (((((wG.setCell ⟨B, 0, none⟩ (.int .i64 ((AC l3 y).f0))).setCell ⟨B, 1, none⟩ (.int .i64 ((AC l3 y).f1))).setCell ⟨B, 2, none⟩ (.slice wC ((AC l3 y).f2).length yC)).setCell ⟨B, 3, none⟩ (.slice xC ((AC l3 y).f3).length zC)).heap[z]? = some (.cells #[.int .i64 fI, .int .i64 gI, .slice aC dC.length cC, .slice kI dG.length mI, u401004] 33 (0, 0))) := ⟨bF eK cB⟩
           have rE : Aside0 (((((wG.setCell ⟨B, 0, none⟩ (.int .i64 ((AC l3 y).f0))).setCell ⟨B, 1, none⟩ (.int .i64 ((AC l3 y).f1))).setCell ⟨B, 2, none⟩ (.slice wC ((AC l3 y).f2).length yC)).setCell ⟨B, 3, none⟩ (.slice xC ((AC l3 y).f3).length zC)).heap[B]? = some (.cells #[.int .i64 ((AC l3 y).f0), .int .i64 ((AC l3 y).f1), .slice wC ((AC l3 y).f2).length yC, .slice xC ((AC l3 y).f3).length zC] 30 (0, 0))) := ⟨pB bC⟩
           have sE : Aside0 (Below w.heap.size w ((((wG.setCell ⟨B, 0, none⟩ (.int .i64 ((AC l3 y).f0))).setCell ⟨B, 1, none⟩ (.int .i64 ((AC l3 y).f1))).setCell ⟨B, 2, none⟩ (.slice wC ((AC l3 y).f2).length yC)).setCell ⟨B, 3, none⟩ (.slice xC ((AC l3 y).f3).length zC))) := ⟨be7 HB G I J L O hC hI⟩
           try clear lE
           try clear m
           try clear d
           try clear wB
           try clear eC
           try clear jB
           try clear jE
           try clear kE
           try clear r
           try clear b
           try clear s
           try clear u
           try clear x
           try clear cB
           try clear bC
           try clear HB
           generalize ((((wG.setCell ⟨B, 0, none⟩ (.int .i64 ((AC l3 y).f0))).setCell ⟨B, 1, none⟩ (.int .i64 ((AC l3 y).f1))).setCell ⟨B, 2, none⟩ (.slice wC ((AC l3 y).f2).length yC)).setCell ⟨B, 3, none⟩ (.slice xC ((AC l3 y).f3).length zC)) = qY at jD kD lD mD nD oD pD qD rD tE iC jC pC cE rE sE ⊢
           have lE := jD; have m := kD; have d := lD; have wB := mD; have eC := nD; have jB := oD; have jE := pD; have kE := qD; have r := rD; have b := tE; have s := iC; have u := jC; have x := pC; have cB := cE; have bC := rE; have HB := sE; clear jD kD lD mD nD oD pD qD rD tE iC jC pC cE rE sE
           have jD := mk0 (Kd.BU lE.out)
           have kD := mk0 (Kd.BU m.out)
           have lD := mk0 (Kd.BU d.out)
           have mD := mk0 (Kd.ED wB.out)
           have nD := mk0 (Kd.BU eC.out)
           have oD := mk0 (Kd.DR jB.out)
           have pD := mk0 (Kd.BU jE.out)
           have qD := mk0 (Kd.BU kE.out)
           have rD := mk0 (AX r.out)
           have tE := mk0 (AX b.out)
           have iC := mk0 (AX s.out)
           have jC := mk0 (AX u.out)
           have pC := mk0 (AX x.out)
           have cE := mk0 (AX cB.out)
           have rE := mk0 (AX bC.out)
           have sE := mk0 (Ad HB.out)
           clear lE; clear m; clear d; clear wB; clear eC; clear jB; clear jE; clear kE; clear r; clear b; clear s; clear u; clear x; clear cB; clear bC; clear HB; have lE := jD; have m := kD; have d := lD; have wB := mD; have eC := nD; have jB := oD; have jE := pD; have kE := qD; have r := rD; have b := tE; have s := iC; have u := jC; have x := pC; have cB := cE; have bC := rE; have HB := sE; clear jD kD lD mD nD oD pD qD rD tE iC jC pC cE rE sE
           have cR : 0 ≤ (y : Int) := od
           have eR : y < (l4.length : Int) := od
           obtain ⟨eM, eX, wK⟩ := Kd.Dc eT.out y cR eR
           have mJ := wK; cases eX
           replace wK := Ae HB.out wK
           replace cR := eq_true cR; replace eR := eq_true eR
           refine Cz (n := 15) (S := fun w' => w'.cell? ⟨z, 0, none⟩ = some (.int .i64 fI) ∧ w'.cell? ⟨z, 1, none⟩ = some (.int .i64 gI) ∧ w'.cell? ⟨z, 2, none⟩ = some (.slice aC dC.length cC) ∧ w'.cell? ⟨z, 3, none⟩ = some (.slice kI dG.length mI) ∧ w'.cell? ⟨z, 4, none⟩ = some (u401004) ∧ w'.cell? ⟨U, 0, none⟩ = some (.int .i64 a2) ∧ w'.cell? ⟨X, 0, none⟩ = some (.slice (some eM) l4.length c4) ∧ w'.cell? ⟨B, 0, none⟩ = some (.int .i64 ((AC l3 y).f0)) ∧ w'.cell? ⟨B, 1, none⟩ = some (.int .i64 ((AC l3 y).f1)) ∧ w'.cell? ⟨B, 2, none⟩ = some (.slice wC ((AC l3 y).f2).length yC) ∧ w'.cell? ⟨B, 3, none⟩ = some (.slice xC ((AC l3 y).f3).length zC) ∧ w'.cell? (eM.add (y).toNat) = some (.int .i64 (rd l4 y))) (ds := [14]) (tf 0 15) (by kernel_rfl) rfl rfl ⟨bc cB 0, bc cB 1, bc cB 2, bc cB 3, bc cB 4, bc s 0, bc u 0, bc bC 0, bc bC 1, bc bC 2, bc bC 3, (Ae HB.out mJ)⟩ (fun Y => ?_); refine Bz AJ.Pj AJ.O0 (fun uB lI => ?_)
           generalize qY.drew = aFQ at lE m d wB eC jB jE kE r b s u x cB bC HB wK Y ⊢
           refine pv 0 127 (tf 1 14) uB ?_
           refine pv 4 131 #[true, false, false, false, true, false, false, false, false, false, false, false, false, false, false] uB ?_
           refine Bl (i := 1) (N := some 128) (v := ?_) (a' := ?_) #[true, true, false, false, true, false, false, false, false, false, false, false, false, false, false] rfl rfl (Aj uB.out lI.out (by kernel_rfl)) (fun _ _ _ h => h) (Or.inl ⟨by rfl, ?_⟩) Y ?_ ?_
           rotate_left
           ·rintro w' ⟨s0, s1, s2, s3, s4, s5, s6, s7, s8, s9, kL, lL⟩
            go_simp
            with_reducible rfl
           rotate_left
           ·simp only [ps]
            rfl
           refine Bl (i := 2) (N := some 129) (v := ?_) (a' := ?_) #[true, true, true, false, true, false, false, false, false, false, false, false, false, false, false] rfl rfl (Aj uB.out lI.out (by kernel_rfl)) (fun _ _ _ h => h) (Or.inl ⟨by rfl, ?_⟩) Y ?_ ?_
           rotate_left
           ·rintro w' ⟨s0, s1, s2, s3, s4, s5, s6, s7, s8, s9, kL, lL⟩
            go_simp
            with_reducible rfl
           rotate_left
           ·simp only [ps]
            rfl
           refine Bl (i := 3) (N := some 130) (v := ?_) (a' := ?_) (tf 5 10) rfl rfl (Aj uB.out lI.out (by kernel_rfl)) (fun _ _ _ h => h) (Or.inl ⟨by rfl, ?_⟩) Y ?_ ?_
           rotate_left
           ·rintro w' ⟨s0, s1, s2, s3, s4, s5, s6, s7, s8, s9, kL, lL⟩
            go_simp
            with_reducible rfl
           rotate_left
           ·simp only [ps]
            rfl
           refine pv 5 132 (tf 6 9) uB ?_
           refine Bl (i := 6) (N := some 133) (v := ?_) (a' := ?_) (tf 7 8) rfl rfl (Aj uB.out lI.out (by kernel_rfl)) (fun _ _ _ h => h) (Or.inl ⟨by rfl, ?_⟩) Y ?_ ?_
           rotate_left
           ·rintro w' ⟨s0, s1, s2, s3, s4, s5, s6, s7, s8, s9, kL, lL⟩
            go_simp
            with_reducible rfl
           rotate_left
           ·simp only [ps]
            rfl
           refine pv 7 134 (tf 8 7) uB ?_
           refine Bl (i := 8) (N := some 135) (v := ?_) (a' := ?_) (tf 9 6) rfl rfl (Aj uB.out lI.out (by kernel_rfl)) (fun _ _ _ h => h) (Or.inl ⟨by rfl, ?_⟩) Y ?_ ?_
           rotate_left
           ·rintro w' ⟨s0, s1, s2, s3, s4, s5, s6, s7, s8, s9, kL, lL⟩
            go_simp
            with_reducible rfl
           rotate_left
           ·simp only [ps]
            rfl
           refine DN (i := 9) (N := some 136) (tf 10 5) rfl rfl (Bv uB.out (by kernel_rfl)) (by decide) (fun K hK => ?_)
           refine Cx Try.func51 (by kernel_rfl) rfl #[.agg #[.int .i64 ((AC l3 y).f0), .int .i64 ((AC l3 y).f1), .slice wC ((AC l3 y).f2).length yC, .slice xC ((AC l3 y).f3).length zC]] (by rfl) rfl rfl (by (try simp only [List.map_toArray, List.map_cons, List.map_nil]); first | done | rfl | (simp only [List.length_drop, List.length_take]; rfl)) ?_
           with_reducible refine (drivers_copied.calls (fun a => (((eB a ∨ fB a ∨ fC a) ∨ w.heap.size ≤ a) ∧ (some a ≠ (.slice aC dC.length cC : Value).ownBlock ∧ (some a ≠ (u401004 : Value).ownBlock ∧ (a ≠ T ∧ (a ≠ D ∧ (a ≠ U ∧ (a ≠ X ∧ (a ≠ W ∧ (a ≠ z ∧ a ≠ B)))))))))) ?side1 ?side2 ?side3 yW.out).mono ?_
           (case side1 => exact ((Kd.AO (Bj jE.out)).2.2))
           (case side2 => exact bQ.out)
           (case side3 => exact kE.out)
           rintro e aFR ⟨v407, v410, rfl, nE, rN, hb⟩
           refine ⟨_, rfl, ?_⟩
           have jD := mk0 (Kd.Az (Bj lE.out) (Kd.BG nE) hb)
           have kD := mk0 (Kd.Az (Bj m.out) (Kd.BG nE) hb)
           have lD := mk0 (Kd.Az (Bj d.out) (Kd.BG nE) hb)
           have mD := mk0 (Kd.Fy (DC wB.out) (Kd.BG nE) hb)
           have nD := mk0 (Kd.Az (Bj eC.out) (Kd.BG nE) hb)
           have oD := mk0 (Kd.Fz (D9 jB.out) (Kd.BG nE) hb)
           have pD := mk0 (Kd.Az (Bj jE.out) (Kd.BG nE) hb)
           have qD := mk0 (Kd.Az (Bj kE.out) (Kd.BG nE) hb)
           have rD := mk0 (Kd.CS (Kd.Ff (Kd.Dn (M := fun a => (w.heap.size ≤ a)) (Kd.BC (ok' := fun a => True) nE (fun _ hD => trivial)) (AQ (be7 HB G I J L O hC hI)) (fun a h_ => h_)) (Kd.En (DC wB.out))) (AQ (be7 HB G I J L O hC hI)))
           have tE := mk0 (Kd.Dm (Kd.AL (ok' := fun a => ((eB a ∨ fB a ∨ fC a) ∨ w.heap.size ≤ a) ∧ some a ≠ (v407 : Value).ownBlock ∧ some a ≠ (.slice aC dC.length cC : Value).ownBlock ∧ some a ≠ (u401004 : Value).ownBlock ∧ a ≠ T ∧ a ≠ D ∧ a ≠ U ∧ a ≠ X ∧ a ≠ W ∧ a ≠ z ∧ a ≠ B) rN (fun a hD => ⟨Or.elim hD.1 (fun tB => tB.1) (fun sB => (.inr (Nat.le_trans (AQ (be7 HB G I J L O hC hI)) sB))), hD.2, Or.elim hD.1 (fun tB => tB.2.1) (fun sB => (Kd.fresh' (Kd.En (DC wB.out)) a sB)), Or.elim hD.1 (fun tB => tB.2.2.1) (fun sB => (Kd.fresh' (Kd.Gy (D9 jB.out)) a sB)), Or.elim hD.1 (fun tB => tB.2.2.2.1) (fun sB => (Kd.Al (g := T) (o := .cells #[.int .i64 dD, .int .i64 eD, .string fD, .slice qF nC.length sF, .slice rF oC.length tF] 26 (0, 0)) (AY r.out) a sB)), Or.elim hD.1 (fun tB => tB.2.2.2.2.1) (fun sB => (Kd.Al (g := D) (o := .cells #[.int .i64 uC, .int .i64 vC, .slice dF kC.length mF, .slice sD mB.length uD, .slice tD dB.length aD] 33 (0, 0)) (AY b.out) a sB)), Or.elim hD.1 (fun tB => tB.2.2.2.2.2.1) (fun sB => (Kd.Al (g := U) (o := .cells #[.int .i64 a2] 3 (0, 0)) (AY s.out) a sB)), Or.elim hD.1 (fun tB => tB.2.2.2.2.2.2.1) (fun sB => (Kd.Al (g := X) (o := .cells #[.slice (some eM) l4.length c4] 38 (0, 0)) (AY u.out) a sB)), Or.elim hD.1 (fun tB => tB.2.2.2.2.2.2.2.1) (fun sB => (Kd.Al (g := W) (o := .cells #[.int .i64 yB, .int .i64 zB, .slice none 0 0, .slice none 0 0, .slice none 0 0] 33 (0, 0)) (AY x.out) a sB)), Or.elim hD.1 (fun tB => tB.2.2.2.2.2.2.2.2.1) (fun sB => (Kd.Al (g := z) (o := .cells #[.int .i64 fI, .int .i64 gI, .slice aC dC.length cC, .slice kI dG.length mI, u401004] 33 (0, 0)) (AY cB.out) a sB)), Or.elim hD.1 (fun tB => tB.2.2.2.2.2.2.2.2.2) (fun sB => (Kd.Al (g := B) (o := .cells #[.int .i64 ((AC l3 y).f0), .int .i64 ((AC l3 y).f1), .slice wC ((AC l3 y).f2).length yC, .slice xC ((AC l3 y).f3).length zC] 30 (0, 0)) (AY bC.out) a sB))⟩)) (AQ (be7 HB G I J L O hC hI)))
           have iC := kb r hb
           have jC := kb b hb
           have pC := kb s hb
           have cE := kb u hb
           have rE := kb x hb
           have sE := kb cB hb
           have cG := kb bC hb
           have eI := kh7 HB G I J L O hC hI hb
           clear lE; clear m; clear d; clear wB; clear eC; clear jB; clear jE; clear kE; clear r; clear b; clear s; clear u; clear x; clear cB; clear bC; clear HB; have lE := jD; have m := kD; have d := lD; have wB := mD; have eC := nD; have jB := oD; have jE := pD; have kE := qD; have xM := rD; have fL := tE; have r := iC; have b := jC; have s := pC; have u := cE; have x := rE; have cB := sE; have bC := cG; have HB := eI; clear jD kD lD mD nD oD pD qD rD tE iC jC pC cE rE sE cG eI
           try clear hb
           try clear l
           try clear hi
           try clear nE
           try clear rN
           obtain ⟨aT, wT, nQ⟩ := Kd.Bu fL.out
           (first | subst nQ | (injection nQ with f1_ f2_ f3_; have oG := f1_.symm; have pG := f3_.symm; clear f1_ f2_ f3_; subst oG; subst pG))
           obtain ⟨wI, xI, oQ⟩ := Kd.Bn xM.out
           (first | subst oQ | (injection oQ with f1_ f2_ f3_; have oG := f1_.symm; have pG := f3_.symm; clear f1_ f2_ f3_; subst oG; subst pG))
           refine hK.out _ _ ⟨bc cB 0, bc cB 1, bc cB 2, bc cB 3, bc cB 4, bc s 0, bc u 0, bc bC 0, bc bC 1, bc bC 2, bc bC 3, (Ae HB.out mJ)⟩ (fun Y => ?_)
           clear hK K
           refine CJ (a' := ?_) ?_ ?_
           rotate_left
           ·show Act.put _ (some 136) _ = _
            simp only [ps]
            rfl
           refine pv 10 137 (tf 11 4) uB ?_
           refine DN (i := 11) (N := some 138) (tf 12 3) rfl rfl (Bv uB.out (by kernel_rfl)) (by decide) (fun K hK => ?_)
           refine CU (w1 := ?_) (v := ?_) (by rfl) rfl ?_ ?_
           rotate_left 2
           ·go_simp
            constructor
            ·rfl
            ·rfl
           refine hK.out _ _ ⟨(Ai (Ac cB.out _) 0).trans rfl, (Ai (Ac cB.out _) 1).trans rfl, (Ai (Ac cB.out _) 2).trans rfl, (Ai (Ac cB.out _) 3).trans rfl, (Ai (Ac cB.out _) 4).trans rfl, (Ai (Ac s.out _) 0).trans rfl, (Ai (Ac u.out _) 0).trans rfl, (Ai (Ac bC.out _) 0).trans rfl, (Ai (Ac bC.out _) 1).trans rfl, (Ai (Ac bC.out _) 2).trans rfl, (Ai (Ac bC.out _) 3).trans rfl, (World.cell?_alloc_lt _ _ _ (World.block_lt_of_cell? _ _ ((Ae HB.out mJ)))).trans ((Ae HB.out mJ))⟩ (fun Y => ?_)
           clear hK K
           refine CJ (a' := ?_) ?_ ?_
           rotate_left
           ·show Act.put _ (some 138) _ = _
            simp only [ps]
            rfl
           refine DN (i := 12) (N := some 139) (tf 13 2) rfl rfl (Bv uB.out (by kernel_rfl)) (by decide) (fun K hK => ?_)
           refine Kd.E5 k63 (w0 := w) w.heap.size (by rfl) (.tmp 128) (.tmp 138) 31 63 (.agg #[(.int .i64 0), (.int .i64 0), (.int .i64 0), (.slice none 0 0), (.slice none 0 0)]) 72 rfl Try.underlying31 E9 rfl (by decide) (by omega) u401004 cF (⟨wrap64 (a2 + (rd l4 y)), (⟨tN, uN, uI, vN⟩ : S30)⟩ : S63) [.int .i64 (wrap64 (a2 + (rd l4 y))), .int .i64 tN, .int .i64 uN, .slice wI uI.length xI, .slice aT vN.length wT] (fun a => ((eB a ∨ fB a ∨ fC a) ∨ w.heap.size ≤ a) ∧ some a ≠ (.slice aC dC.length cC : Value).ownBlock ∧ a ≠ T ∧ a ≠ D ∧ a ≠ U ∧ a ≠ X ∧ a ≠ W ∧ a ≠ z ∧ a ≠ B) (fun a => ((fun a => ((eB a ∨ fB a ∨ fC a) ∨ w.heap.size ≤ a) ∧ some a ≠ (.slice aC dC.length cC : Value).ownBlock ∧ a ≠ T ∧ a ≠ D ∧ a ≠ U ∧ a ≠ X ∧ a ≠ W ∧ a ≠ z ∧ a ≠ B)) a ∧ some a ≠ (u401004 : Value).ownBlock) rfl rfl ?aP (fun _ l => l) ?aF ?aO ?aB ?aS ?aL ?_
           (case aP => exact (Gp _ _ (⟨wrap64 (a2 + (rd l4 y)), (⟨tN, uN, uI, vN⟩ : S30)⟩ : S63) (Kd.C9 (Kd.BC (ok' := (fun a => ((fun a => ((eB a ∨ fB a ∨ fC a) ∨ w.heap.size ≤ a) ∧ some a ≠ (.slice aC dC.length cC : Value).ownBlock ∧ a ≠ T ∧ a ≠ D ∧ a ≠ U ∧ a ≠ X ∧ a ≠ W ∧ a ≠ z ∧ a ≠ B)) a ∧ some a ≠ (u401004 : Value).ownBlock)) (Kd.Ao (Kd.Ao (Kd.Ao (Kd.Ao (Kd.Ao (Kd.Ao (Kd.Ao (Kd.Ca (xM.out) (Kd.DD jB.out) (by decide)) r.out (by decide)) b.out (by decide)) s.out (by decide)) u.out (by decide)) x.out (by decide)) cB.out (by decide)) bC.out (by decide)) (fun a l => ⟨⟨(.inr (l.1.1.1.1.1.1.1.1.1.1)), ⟨l.1.1.1.1.1.1.1.1.2, ⟨l.1.1.1.1.1.1.2, ⟨l.1.1.1.1.1.2, ⟨l.1.1.1.1.2, ⟨l.1.1.1.2, ⟨l.1.1.2, ⟨l.1.2, l.2⟩⟩⟩⟩⟩⟩⟩⟩, l.1.1.1.1.1.1.1.2⟩))).2.1 (Kd.R_F (Kd.BC (ok' := (fun a => ((fun a => ((eB a ∨ fB a ∨ fC a) ∨ w.heap.size ≤ a) ∧ some a ≠ (.slice aC dC.length cC : Value).ownBlock ∧ a ≠ T ∧ a ≠ D ∧ a ≠ U ∧ a ≠ X ∧ a ≠ W ∧ a ≠ z ∧ a ≠ B)) a ∧ some a ≠ (u401004 : Value).ownBlock)) (Kd.Ao (Kd.Ao (Kd.Ao (Kd.Ao (Kd.Ao (Kd.Ao (Kd.Ao (Kd.Ca (xM.out) (Kd.DD jB.out) (by decide)) r.out (by decide)) b.out (by decide)) s.out (by decide)) u.out (by decide)) x.out (by decide)) cB.out (by decide)) bC.out (by decide)) (fun a l => ⟨⟨(.inr (l.1.1.1.1.1.1.1.1.1.1)), ⟨l.1.1.1.1.1.1.1.1.2, ⟨l.1.1.1.1.1.1.2, ⟨l.1.1.1.1.1.2, ⟨l.1.1.1.1.2, ⟨l.1.1.1.2, ⟨l.1.1.2, ⟨l.1.2, l.2⟩⟩⟩⟩⟩⟩⟩⟩, l.1.1.1.1.1.1.1.2⟩))) (Kd.AO (Kd.AL (ok' := (fun a => ((fun a => ((eB a ∨ fB a ∨ fC a) ∨ w.heap.size ≤ a) ∧ some a ≠ (.slice aC dC.length cC : Value).ownBlock ∧ a ≠ T ∧ a ≠ D ∧ a ≠ U ∧ a ≠ X ∧ a ≠ W ∧ a ≠ z ∧ a ≠ B)) a ∧ some a ≠ (u401004 : Value).ownBlock)) (fL.out) (fun a l => ⟨⟨l.1, ⟨l.2.2.1, ⟨l.2.2.2.2.1, ⟨l.2.2.2.2.2.1, ⟨l.2.2.2.2.2.2.1, ⟨l.2.2.2.2.2.2.2.1, ⟨l.2.2.2.2.2.2.2.2.1, ⟨l.2.2.2.2.2.2.2.2.2.1, l.2.2.2.2.2.2.2.2.2.2⟩⟩⟩⟩⟩⟩⟩⟩, l.2.2.2.1⟩))).2.1 (Kd.V_F (Kd.AL (ok' := (fun a => ((fun a => ((eB a ∨ fB a ∨ fC a) ∨ w.heap.size ≤ a) ∧ some a ≠ (.slice aC dC.length cC : Value).ownBlock ∧ a ≠ T ∧ a ≠ D ∧ a ≠ U ∧ a ≠ X ∧ a ≠ W ∧ a ≠ z ∧ a ≠ B)) a ∧ some a ≠ (u401004 : Value).ownBlock)) (fL.out) (fun a l => ⟨⟨l.1, ⟨l.2.2.1, ⟨l.2.2.2.2.1, ⟨l.2.2.2.2.2.1, ⟨l.2.2.2.2.2.2.1, ⟨l.2.2.2.2.2.2.2.1, ⟨l.2.2.2.2.2.2.2.2.1, ⟨l.2.2.2.2.2.2.2.2.2.1, l.2.2.2.2.2.2.2.2.2.2⟩⟩⟩⟩⟩⟩⟩⟩, l.2.2.2.1⟩)))))
           (case aB => exact (be7 HB G I J L O hC hI))
           (case aF => exact (fun a l => ⟨(.inr (Nat.le_trans (AQ (be7 HB G I J L O hC hI)) l)), Kd.fresh' (Kd.En (DC wB.out)) a l, Kd.Al (g := T) (o := .cells #[.int .i64 dD, .int .i64 eD, .string fD, .slice qF nC.length sF, .slice rF oC.length tF] 26 (0, 0)) (AY r.out) a l, Kd.Al (g := D) (o := .cells #[.int .i64 uC, .int .i64 vC, .slice dF kC.length mF, .slice sD mB.length uD, .slice tD dB.length aD] 33 (0, 0)) (AY b.out) a l, Kd.Al (g := U) (o := .cells #[.int .i64 a2] 3 (0, 0)) (AY s.out) a l, Kd.Al (g := X) (o := .cells #[.slice (some eM) l4.length c4] 38 (0, 0)) (AY u.out) a l, Kd.Al (g := W) (o := .cells #[.int .i64 yB, .int .i64 zB, .slice none 0 0, .slice none 0 0, .slice none 0 0] 33 (0, 0)) (AY x.out) a l, Kd.Al (g := z) (o := .cells #[.int .i64 fI, .int .i64 gI, .slice aC dC.length cC, .slice kI dG.length mI, u401004] 33 (0, 0)) (AY cB.out) a l, Kd.Al (g := B) (o := .cells #[.int .i64 ((AC l3 y).f0), .int .i64 ((AC l3 y).f1), .slice wC ((AC l3 y).f2).length yC, .slice xC ((AC l3 y).f3).length zC] 30 (0, 0)) (AY bC.out) a l⟩))
           (case aO => exact (DL (Kd.Av jB.out (fun _ l => ⟨l.1.1, ⟨l.1.2.1, ⟨l.1.2.2.1, ⟨l.1.2.2.2.1, ⟨l.1.2.2.2.2.1, ⟨l.1.2.2.2.2.2.1, ⟨l.1.2.2.2.2.2.2.1, ⟨l.1.2.2.2.2.2.2.2.1, l.1.2.2.2.2.2.2.2.2⟩⟩⟩⟩⟩⟩⟩⟩))))
           (case aS => exact (AQ (be7 HB G I J L O hC hI)))
           (case aL => have := tR.out; omega)
           intro v413 rY ho hb hg mN
           rw [← fT.out] at ho
           have jD := mk0 (Kd.Bt (ok := (fun a => ((eB a ∨ fB a ∨ fC a) ∨ w.heap.size ≤ a) ∧ some a ≠ (.slice aC dC.length cC : Value).ownBlock ∧ some a ≠ (.slice wI uI.length xI : Value).ownBlock ∧ a ≠ T ∧ a ≠ D ∧ a ≠ U ∧ a ≠ X ∧ a ≠ W ∧ a ≠ z ∧ a ≠ B)) (BO (Kd.AL lE.out (fun _ l => ⟨⟨l.1.1, ⟨l.1.2.1, ⟨l.2, ⟨l.1.2.2.2.1, ⟨l.1.2.2.2.2.1, ⟨l.1.2.2.2.2.2.1, ⟨l.1.2.2.2.2.2.2.1, ⟨l.1.2.2.2.2.2.2.2.1, ⟨l.1.2.2.2.2.2.2.2.2.1, l.1.2.2.2.2.2.2.2.2.2⟩⟩⟩⟩⟩⟩⟩⟩⟩, l.1.2.2.1⟩))) hg mN)
           have kD := mk0 (Kd.Bt (ok := (fun a => ((eB a ∨ fB a ∨ fC a) ∨ w.heap.size ≤ a) ∧ some a ≠ (.slice aC dC.length cC : Value).ownBlock ∧ some a ≠ (.slice wI uI.length xI : Value).ownBlock ∧ a ≠ T ∧ a ≠ D ∧ a ≠ U ∧ a ≠ X ∧ a ≠ W ∧ a ≠ z ∧ a ≠ B)) (BO (Kd.AL m.out (fun _ l => ⟨⟨l.1.1, ⟨l.1.2.1, ⟨l.2, ⟨l.1.2.2.2.1, ⟨l.1.2.2.2.2.1, ⟨l.1.2.2.2.2.2.1, ⟨l.1.2.2.2.2.2.2.1, ⟨l.1.2.2.2.2.2.2.2.1, ⟨l.1.2.2.2.2.2.2.2.2.1, l.1.2.2.2.2.2.2.2.2.2⟩⟩⟩⟩⟩⟩⟩⟩⟩, l.1.2.2.1⟩))) hg mN)
           have lD := mk0 (Kd.Bt (ok := (fun a => ((eB a ∨ fB a ∨ fC a) ∨ w.heap.size ≤ a) ∧ some a ≠ (.slice aC dC.length cC : Value).ownBlock ∧ some a ≠ (.slice wI uI.length xI : Value).ownBlock ∧ a ≠ T ∧ a ≠ D ∧ a ≠ U ∧ a ≠ X ∧ a ≠ W ∧ a ≠ z ∧ a ≠ B)) (BO (Kd.AL d.out (fun _ l => ⟨⟨l.1.1, ⟨l.1.2.1, ⟨l.2, ⟨l.1.2.2.2.1, ⟨l.1.2.2.2.2.1, ⟨l.1.2.2.2.2.2.1, ⟨l.1.2.2.2.2.2.2.1, ⟨l.1.2.2.2.2.2.2.2.1, ⟨l.1.2.2.2.2.2.2.2.2.1, l.1.2.2.2.2.2.2.2.2.2⟩⟩⟩⟩⟩⟩⟩⟩⟩, l.1.2.2.1⟩))) hg mN)
           have mD := mk0 (Kd.Ht (DC wB.out) (Kd.DD (D9 jB.out)) (by decide) hg)
           have nD := mk0 (Kd.Bt (ok := (fun a => ((eB a ∨ fB a ∨ fC a) ∨ w.heap.size ≤ a) ∧ some a ≠ (.slice aC dC.length cC : Value).ownBlock ∧ some a ≠ (.slice wI uI.length xI : Value).ownBlock ∧ a ≠ T ∧ a ≠ D ∧ a ≠ U ∧ a ≠ X ∧ a ≠ W ∧ a ≠ z ∧ a ≠ B)) (BO (Kd.AL eC.out (fun _ l => ⟨⟨l.1.1, ⟨l.1.2.1, ⟨l.2, ⟨l.1.2.2.2.1, ⟨l.1.2.2.2.2.1, ⟨l.1.2.2.2.2.2.1, ⟨l.1.2.2.2.2.2.2.1, ⟨l.1.2.2.2.2.2.2.2.1, ⟨l.1.2.2.2.2.2.2.2.2.1, l.1.2.2.2.2.2.2.2.2.2⟩⟩⟩⟩⟩⟩⟩⟩⟩, l.1.2.2.1⟩))) hg mN)
           have oD := mk0 (Bg (g := T) (o := .cells #[.int .i64 dD, .int .i64 eD, .string fD, .slice qF nC.length sF, .slice rF oC.length tF] 26 (0, 0)) (AY r.out) hg (Kd.Fx jB.out r.out (by decide)))
           have pD := mk0 (Bg (g := D) (o := .cells #[.int .i64 uC, .int .i64 vC, .slice dF kC.length mF, .slice sD mB.length uD, .slice tD dB.length aD] 33 (0, 0)) (AY b.out) hg (Kd.Fx jB.out b.out (by decide)))
           have qD := mk0 (Bg (g := U) (o := .cells #[.int .i64 a2] 3 (0, 0)) (AY s.out) hg (Kd.Fx jB.out s.out (by decide)))
           have rD := mk0 (Bg (g := X) (o := .cells #[.slice (some eM) l4.length c4] 38 (0, 0)) (AY u.out) hg (Kd.Fx jB.out u.out (by decide)))
           have tE := mk0 (Bg (g := W) (o := .cells #[.int .i64 yB, .int .i64 zB, .slice none 0 0, .slice none 0 0, .slice none 0 0] 33 (0, 0)) (AY x.out) hg (Kd.Fx jB.out x.out (by decide)))
           have iC := mk0 (Bg (g := z) (o := .cells #[.int .i64 fI, .int .i64 gI, .slice aC dC.length cC, .slice kI dG.length mI, u401004] 33 (0, 0)) (AY cB.out) hg (Kd.Fx jB.out cB.out (by decide)))
           have jC := mk0 (Kd.Bt (ok := (fun a => ((eB a ∨ fB a ∨ fC a) ∨ w.heap.size ≤ a) ∧ some a ≠ (.slice aC dC.length cC : Value).ownBlock ∧ some a ≠ (.slice wI uI.length xI : Value).ownBlock ∧ a ≠ T ∧ a ≠ D ∧ a ≠ U ∧ a ≠ X ∧ a ≠ W ∧ a ≠ z ∧ a ≠ B)) (BO (Kd.AL jE.out (fun _ l => ⟨⟨l.1.1, ⟨l.1.2.1, ⟨l.2, ⟨l.1.2.2.2.1, ⟨l.1.2.2.2.2.1, ⟨l.1.2.2.2.2.2.1, ⟨l.1.2.2.2.2.2.2.1, ⟨l.1.2.2.2.2.2.2.2.1, ⟨l.1.2.2.2.2.2.2.2.2.1, l.1.2.2.2.2.2.2.2.2.2⟩⟩⟩⟩⟩⟩⟩⟩⟩, l.1.2.2.1⟩))) hg mN)
           have pC := mk0 (Kd.Bt (ok := (fun a => ((eB a ∨ fB a ∨ fC a) ∨ w.heap.size ≤ a) ∧ some a ≠ (.slice aC dC.length cC : Value).ownBlock ∧ some a ≠ (.slice wI uI.length xI : Value).ownBlock ∧ a ≠ T ∧ a ≠ D ∧ a ≠ U ∧ a ≠ X ∧ a ≠ W ∧ a ≠ z ∧ a ≠ B)) (BO (Kd.AL kE.out (fun _ l => ⟨⟨l.1.1, ⟨l.1.2.1, ⟨l.2, ⟨l.1.2.2.2.1, ⟨l.1.2.2.2.2.1, ⟨l.1.2.2.2.2.2.1, ⟨l.1.2.2.2.2.2.2.1, ⟨l.1.2.2.2.2.2.2.2.1, ⟨l.1.2.2.2.2.2.2.2.2.1, l.1.2.2.2.2.2.2.2.2.2⟩⟩⟩⟩⟩⟩⟩⟩⟩, l.1.2.2.1⟩))) hg mN)
           have cE := mk0 (Bg (g := B) (o := .cells #[.int .i64 ((AC l3 y).f0), .int .i64 ((AC l3 y).f1), .slice wC ((AC l3 y).f2).length yC, .slice xC ((AC l3 y).f3).length zC] 30 (0, 0)) (AY bC.out) hg (Kd.Fx jB.out bC.out (by decide)))
           have rE := mk0 (Kd.Bt (ok := (fun a => ((eB a ∨ fB a ∨ fC a) ∨ w.heap.size ≤ a) ∧ some a ≠ (.slice aC dC.length cC : Value).ownBlock ∧ some a ≠ (.slice wI uI.length xI : Value).ownBlock ∧ a ≠ T ∧ a ≠ D ∧ a ≠ U ∧ a ≠ X ∧ a ≠ W ∧ a ≠ z ∧ a ≠ B)) (BO (Kd.AL fL.out (fun _ l => ⟨⟨l.1, ⟨l.2.2.1, ⟨l.2.1, ⟨l.2.2.2.2.1, ⟨l.2.2.2.2.2.1, ⟨l.2.2.2.2.2.2.1, ⟨l.2.2.2.2.2.2.2.1, ⟨l.2.2.2.2.2.2.2.2.1, ⟨l.2.2.2.2.2.2.2.2.2.1, l.2.2.2.2.2.2.2.2.2.2⟩⟩⟩⟩⟩⟩⟩⟩⟩, l.2.2.2.1⟩))) hg mN)
           have sE := mk0 (hb)
           have cG := mk0 (ho)
           clear lE; clear m; clear d; clear wB; clear eC; clear r; clear b; clear s; clear u; clear x; clear cB; clear jE; clear kE; clear bC; clear fL; clear HB; clear jB; clear xM; have lE := jD; have m := kD; have d := lD; have wB := mD; have eC := nD; have r := oD; have b := pD; have s := qD; have u := rD; have x := tE; have cB := iC; have jE := jC; have kE := pC; have bC := cE; have fL := rE; have HB := sE; have eQ := cG; clear jD kD lD mD nD oD pD qD rD tE iC jC pC cE rE sE cG; clear ho hb hg mN
           obtain ⟨bT, xT, pQ⟩ := Kd.Ce eQ.out
           (first | subst pQ | (injection pQ with f1_ f2_ f3_; have oG := f1_.symm; have pG := f3_.symm; clear f1_ f2_ f3_; subst oG; subst pG))
           refine hK.out _ _ ⟨bc cB 0, bc cB 1, bc cB 2, bc cB 3, bc cB 4, bc s 0, bc u 0, bc bC 0, bc bC 1, bc bC 2, bc bC 3, (Ae HB.out mJ)⟩ (fun Y => ?_)
           clear hK K
           refine CJ (a' := ?_) ?_ ?_
           rotate_left
           ·show Act.put _ (some 139) _ = _
            simp only [ps]
            rfl
           refine pv 13 140 (tf 14 1) uB ?_
           refine Me (i := 14) (N := none) (tf 15 0) rfl rfl (Bv uB.out (by kernel_rfl)) (by decide) (fun K hK => ?_)
           have aDR : rY.cell? ⟨z, 4, none⟩ = some (u401004) := bc cB 4
           have oZ := AB cB.out 4
           have rW := qC.out; have sW := Z.out; have tW := rC.out; have uW := sC.out; have vW := tC.out; have wW := dM.out; have mV := xD.out; have nV := yD.out; have oV := zD.out; have pV := aE.out; have qV := bE.out; have rV := eK.out
           refine Fu (w1 := ?_) (by rfl) rfl ?_ ?_
           rotate_left
           ·go_simp
            rfl
           refine hK.out _ _ ?_
           clear hK K
           refine Dv (Cu uB.out (by kernel_rfl)) ?_
           try go_wp2
           go_roundg k5
           case measure => have := wL.out; have := xL.out; have := yJ.out; have := dQ.out; have := bX.out; omega
           case rel => exact ⟨(wrap64 (y + 1)), (rR), (.slice bT rR.length xT), rfl, H', ⟨by have := wL.out; have := xL.out; have := yJ.out; have := dQ.out; have := bX.out; omega⟩, ⟨BO (Kd.AL (vI (q := z) (Kd.AL lE.out (fun a l => (⟨l, l.1.2.2.2.2.2.2.2.2.1⟩ : _ ∧ a ≠ z))) (fun _ l => l.2)) (fun _ l => ⟨l.1.1.1, ⟨l.1.1.2.1, ⟨l.1.2, ⟨l.1.1.2.2.2.1, ⟨l.1.1.2.2.2.2.1, ⟨l.1.1.2.2.2.2.2.1, ⟨l.1.1.2.2.2.2.2.2.1, ⟨l.1.1.2.2.2.2.2.2.2.1, l.1.1.2.2.2.2.2.2.2.2.1⟩⟩⟩⟩⟩⟩⟩⟩))⟩, ⟨BO (Kd.AL (vI (q := z) (Kd.AL m.out (fun a l => (⟨l, l.1.2.2.2.2.2.2.2.2.1⟩ : _ ∧ a ≠ z))) (fun _ l => l.2)) (fun _ l => ⟨l.1.1.1, ⟨l.1.1.2.1, ⟨l.1.2, ⟨l.1.1.2.2.2.1, ⟨l.1.1.2.2.2.2.1, ⟨l.1.1.2.2.2.2.2.1, ⟨l.1.1.2.2.2.2.2.2.1, ⟨l.1.1.2.2.2.2.2.2.2.1, l.1.1.2.2.2.2.2.2.2.2.1⟩⟩⟩⟩⟩⟩⟩⟩))⟩, ⟨BO (Kd.AL (vI (q := z) (Kd.AL d.out (fun a l => (⟨l, l.1.2.2.2.2.2.2.2.2.1⟩ : _ ∧ a ≠ z))) (fun _ l => l.2)) (fun _ l => ⟨l.1.1.1, ⟨l.1.1.2.1, ⟨l.1.2, ⟨l.1.1.2.2.2.1, ⟨l.1.1.2.2.2.2.1, ⟨l.1.1.2.2.2.2.2.1, ⟨l.1.1.2.2.2.2.2.2.1, ⟨l.1.1.2.2.2.2.2.2.2.1, l.1.1.2.2.2.2.2.2.2.2.1⟩⟩⟩⟩⟩⟩⟩⟩))⟩, ⟨DZ (Kd.BC (rI (q := z) (Kd.Ao wB.out cB.out (by decide)) (fun _ l => l.2)) (fun _ l => l.1.1))⟩, ⟨BO (Kd.AL (vI (q := z) (Kd.AL eC.out (fun a l => (⟨l, l.1.2.2.2.2.2.2.2.2.1⟩ : _ ∧ a ≠ z))) (fun _ l => l.2)) (fun _ l => ⟨l.1.1.1, ⟨l.1.1.2.1, ⟨l.1.2, ⟨l.1.1.2.2.2.1, ⟨l.1.1.2.2.2.2.1, ⟨l.1.1.2.2.2.2.2.1, ⟨l.1.1.2.2.2.2.2.2.1, ⟨l.1.1.2.2.2.2.2.2.2.1, l.1.1.2.2.2.2.2.2.2.2.1⟩⟩⟩⟩⟩⟩⟩⟩))⟩, ⟨DL (Kd.Av (nI (q := z) (Kd.Av eQ.out (fun a l => (⟨l, l.2.2.2.2.2.2.2.1⟩ : _ ∧ a ≠ z))) (fun _ l => l.2)) (fun _ l => ⟨l.1.1, ⟨l.1.2.1, ⟨l.1.2.2.1, ⟨l.1.2.2.2.1, ⟨l.1.2.2.2.2.1, ⟨l.1.2.2.2.2.2.1, ⟨l.1.2.2.2.2.2.2.1, l.1.2.2.2.2.2.2.2.1⟩⟩⟩⟩⟩⟩⟩))⟩, ⟨bF qC r⟩, ⟨bF Z b⟩, ⟨bF rC s⟩, ⟨bF sC u⟩, ⟨bF tC x⟩, ⟨pB cB⟩, ⟨be7 HB G I J L O hC hI⟩⟩
end Go.Proofs.Ytojankgmedccdaa.PGn
