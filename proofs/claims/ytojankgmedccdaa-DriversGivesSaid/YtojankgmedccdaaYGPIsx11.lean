/- Lemmas for LawDriversGives. -/
import Derived.Test.YtojankgmedccdaaYGPIsx10
namespace Go.Proofs.Ytojankgmedccdaa.PIs
open Go.RowKit Own PTy Hand YtojankgmedccdaaW.PrintWords YtojankgmedccdaaW.PrintLast YtojankgmedccdaaW.PrintMore
attribute [local go_sem] BI BJ Be Bf Ar Au BK BL
set_option linter.unusedVariables false
set_option linter.unusedSimpArgs false
mutual
def Aq.j0 : Nat → Bool → Int → Int → ByteArray → List ByteArray → List (S26) → Int → Int → List Int → List (S30) → List (S63) → Option (Bool)
 | 0, _, _, _, _, _, _, _, _, _, _, _ => none
 | k + 1, o, a, b, c, d, e, i, j, l, m, g => if o = true then (some false) else (Aq.l0 k (-1) g (g.length : Int) 0 a b c d e)
def Aq.l0 : Nat → Int → List (S63) → Int → Int → Int → Int → ByteArray → List ByteArray → List (S26) → Option (Bool)
 | 0, _, _, _, _, _, _, _, _, _ => none
 | k + 1, x5, x25, n, x27, a, b, c, d, e => if x27 < n then (if 0 ≤ x27 then (if x27 < (x25.length : Int) then (if ((AA x25 x27).f0) ≤ x5 then (some false) else (if ((AA x25 x27).f0) > 2000000 then (some false) else ((CL.f k a b c d e ((AA x25 x27).f1.f0) ((AA x25 x27).f1.f1) ((AA x25 x27).f1.f2) ((AA x25 x27).f1.f3)).bind fun h => (if h = true then (Aq.l0 k ((AA x25 x27).f0) x25 n (wrap64 (x27 + 1)) a b c d e) else (some false))))) else (none)) else (none)) else (some true)
end
def Aq.f (k : Nat) (a : Int) (b : Int) (c : ByteArray) (d : List ByteArray) (e : List (S26)) (g : Int) (h : Int) (i : List Int) (j : List (S30)) (l : List (S63)) : Option (Bool) := (CE.f k a b c d e).bind fun t198 => (if t198 = true then ((CL.f k a b c d e g h i j).bind fun m => (if m = true then (Aq.j0 k (decide ((l.length : Int) > 64)) a b c d e g h i j l) else (Aq.j0 k true a b c d e g h i j l))) else (Aq.j0 k true a b c d e g h i j l))
set_option maxHeartbeats 8000000 in
set_option maxRecDepth 100000 in
theorem Aq.calls (k : Nat) (eB : Int) (fB : Int) (gB : ByteArray) (bC : Option Addr) (gC : Nat) (Y : List ByteArray) (cC : Option Addr) (hC : Nat) (Z : List (S26)) (yB : Int) (zB : Int) (dC : Option Addr) (iC : Nat) (tB : List Int) (eC : Option Addr) (jC : Nat) (uB : List (S30)) (fC : Option Addr) (kC : Nat) (l : List (S63)) (r : Bool) (w : World) (hG : D8 w) (yC : Kd.C Kd.string w bC Y.length Y) (tC : Y.length ≤ gC) (zC : Kd.C k26 w cC Z.length Z) (uC : Z.length ≤ hC) (aD : Kd.C (Kd.int .u8) w dC tB.length tB) (vC : tB.length ≤ iC) (bD : Kd.C k30 w eC uB.length uB) (wC : uB.length ≤ jC) (cD : Kd.C k63 w fC l.length l) (xC : l.length ≤ kC) (h : Aq.f k eB fB gB Y Z yB zB tB uB l = some r) :
  Calls Try.prog 19 #[.agg #[.int .i64 eB, .int .i64 fB, .string gB, .slice bC Y.length gC, .slice cC Z.length hC], .agg #[.int .i64 yB, .int .i64 zB, .slice dC tB.length iC, .slice eC uB.length jC, .slice fC l.length kC]] w fun e w' => e = .returned (.bool r) ∧ Below w.heap.size w w' := by
 have HG := mk0 hG; clear hG
 have aF := Try.underlying26
 have dF := Try.underlying33
 have cF := Try.underlying30
 have eF := Try.underlying63
 have kB := mk0 yC; have hB := mk0 tC; clear yC tC; have lB := mk0 zC; have jB := mk0 uC; clear zC uC; have pC := mk0 aD; have nC := mk0 vC; clear aD vC; have qC := mk0 bD; have oC := mk0 wC; clear bD wC; have aC := mk0 cD; have sD := mk0 xC; clear cD xC
 have j := mk0 (Below.refl w.heap.size w)
 have H := h; unfold Aq.f at H
 clear h; have gD := mk0 H; clear H
 go_enter Try.func19, Try.ntmps19
 go_upto_region 1 with (first | ((with_reducible refine AP rfl (N := 2) rfl (cs := #[.int .i64 eB, .int .i64 fB, .string gB, .slice bC Y.length gC, .slice cC Z.length hC]) (t := 26) ?hr ?_); (case hr => first | (go_simp; done) | (go_simp; rfl)); intro rC hg w4 O U; have a := mk0 (O); have b := bs (be j) hg; replace j := kh j U; clear U O hg) | ((with_reducible refine AP rfl (N := 3) rfl (cs := #[.int .i64 yB, .int .i64 zB, .slice dC tB.length iC, .slice eC uB.length jC, .slice fC l.length kC]) (t := 33) ?hr ?_); (case hr => first | (go_simp; done) | (go_simp; rfl)); intro sC hg w5 O U; have d := mk0 (O); have c := bs (be1 j b) hg; replace j := kh1 j b U; have ⟨J, L⟩ := nn a hg; replace a := kb a U; clear U O hg))
 (try simp only [Act.put, List.setIfInBounds_toArray, List.set_cons_zero, List.set_cons_succ])
 go_cut [23] (fun v23 wc => ∃ (kq : Nat) (mC : Bool), v23 = .bool mC ∧ Aside0 (Aq.j0 kq mC eB fB gB Y Z yB zB tB uB l = some r) ∧ Aside0 (kq ≤ k) ∧ Aside0 (wc.heap[rC]? = some (.cells #[.int .i64 eB, .int .i64 fB, .string gB, (.slice bC Y.length gC), (.slice cC Z.length hC)] 26 (0, 0))) ∧ Aside0 (wc.heap[sC]? = some (.cells #[.int .i64 yB, .int .i64 zB, (.slice dC tB.length iC), (.slice eC uB.length jC), (.slice fC l.length kC)] 33 (0, 0))) ∧ Aside0 (Below w.heap.size w wc))
 case first =>
  have H := gD.out; clear gD
  replace H := bS H; obtain ⟨t198, A6, H⟩ := H
  replace H := iB' H; obtain ⟨rfl, H⟩ | ⟨rfl, H⟩ := H
  ·have H' := mk0 H
   clear H; have ⟨xD, mE⟩ := no J L
   have z24 := cells5 a.out
   go_wp2_with ((with_reducible refine AR (f := 17) rfl ?_); refine CO Try.func17 (CE.calls k eB fB gB _ _ Y _ _ Z false _ (AZ HG.out (be2 j b c)) (cu kB j) hB.out (cu lB j) jB.out A6.out) ?_; intro pF U; obtain ⟨a, d⟩ := tb2 U a d; replace j := kh2 j b c U)
   go_meet
   case rel => exact ⟨_, (true), rfl, H', ⟨by omega⟩, ⟨bu a⟩, ⟨bu d⟩, ⟨be2 j b c⟩⟩
  replace H := bS H; obtain ⟨fF, A8, H⟩ := H
  replace H := iB H; obtain ⟨rfl, H⟩ | ⟨rfl, H⟩ := H
  ·have H' := mk0 H
   clear H; have ⟨vD, kE⟩ := no J L
   have xF := cells5 a.out
   go_wp2_with (first | ((with_reducible refine AR (f := 17) rfl ?_); refine CO Try.func17 (CE.calls k eB fB gB _ _ Y _ _ Z true _ (AZ HG.out (be2 j b c)) (cu kB j) hB.out (cu lB j) jB.out A6.out) ?_; intro jF U; obtain ⟨a, d⟩ := tb2 U a d; replace j := kh2 j b c U; have yF := cells5 a.out; have zF := cells5 d.out) | (go_at_call 45; refine (CL.calls (AZ HG.out (be2 j b c)) (cu kB j) hB.out (cu lB j) jB.out (cu pC j) nC.out (cu qC j) oC.out A8.out).mono ?_; rintro e lF ⟨rfl, U⟩; obtain ⟨a, d⟩ := tb2 U a d; replace j := kh2 j b c U; have aG := cells5 d.out))
   go_meet
   case rel => exact ⟨_, (decide ((l.length : Int) > 64)), rfl, H', ⟨by omega⟩, ⟨bu a⟩, ⟨bu d⟩, ⟨be2 j b c⟩⟩
  have H' := mk0 H
  clear H; have ⟨wD, lE⟩ := no J L
  have bG := cells5 a.out
  go_wp2_with (first | ((with_reducible refine AR (f := 17) rfl ?_); refine CO Try.func17 (CE.calls k eB fB gB _ _ Y _ _ Z true _ (AZ HG.out (be2 j b c)) (cu kB j) hB.out (cu lB j) jB.out A6.out) ?_; intro mF U; obtain ⟨a, d⟩ := tb2 U a d; replace j := kh2 j b c U; have z20 := cells5 a.out; have z21 := cells5 d.out) | (go_at_call 45; refine (CL.calls (AZ HG.out (be2 j b c)) (cu kB j) hB.out (cu lB j) jB.out (cu pC j) nC.out (cu qC j) oC.out A8.out).mono ?_; rintro e oF ⟨rfl, U⟩; obtain ⟨a, d⟩ := tb2 U a d; replace j := kh2 j b c U))
  go_meet
  case rel => exact ⟨_, (true), rfl, H', ⟨by omega⟩, ⟨bu a⟩, ⟨bu d⟩, ⟨be2 j b c⟩⟩
 case rest =>
  clear gD
  obtain ⟨kq, mC, rfl, HA, oD, a, d, j⟩ := hcut
  cases kq with
  | zero => exact absurd HA.out (by simp [Aq.j0])
  | succ qD =>
   have H := HA.out; clear HA
   simp only [Aq.j0] at H
   replace H := iB H; obtain ⟨rfl, H⟩ | ⟨rfl, H⟩ := H
   ·obtain rfl := sI H
    go_wp2
    go_ret
    exact ⟨rfl, be2 j b c⟩
   have H' := mk0 H
   clear H; have ⟨yD, nE⟩ := no L J
   have z28 := cells5 d.out
   go_wp2
   go_loopg [5, 27] qD (fun kq v5 v27 w' => ∃ (dD : Int) (i : Int), v5 = .int .i64 dD ∧ v27 = .int .i64 i ∧ Aside0 (Aq.l0 kq dD l (l.length : Int) i eB fB gB Y Z = some r) ∧ Aside0 (kq ≤ qD) ∧ Aside0 (w'.heap[rC]? = some (.cells #[.int .i64 eB, .int .i64 fB, .string gB, (.slice bC Y.length gC), (.slice cC Z.length hC)] 26 (0, 0))) ∧ Aside0 (w'.heap[sC]? = some (.cells #[.int .i64 yB, .int .i64 zB, (.slice dC tB.length iC), (.slice eC uB.length jC), (.slice fC l.length kC)] 33 (0, 0))) ∧ Aside0 (Below w.heap.size w w'))
   case atStart => exact ⟨((-1)), (0), rfl, rfl, H', ⟨Nat.le_refl _⟩, ⟨bu a⟩, ⟨bu d⟩, ⟨be2 j b c⟩⟩
   case round =>
    clear H'
    obtain ⟨dD, i, rfl, rfl, HA, pD, a, d, j⟩ := hrel
    cases gk with
    | zero => exact absurd HA.out (by simp [Aq.l0])
    | succ k2 =>
     have H := HA.out; clear HA
     simp only [Aq.l0] at H
     replace H := iD' H; obtain ⟨-, jD, H⟩ | ⟨-, jD, H⟩ := H
     ·obtain rfl := sI H
      go_wp2
      go_ret
      exact ⟨rfl, be2 j b c⟩
     replace H := iN H; obtain ⟨-, tD, H⟩ := H
     replace H := iN H; obtain ⟨-, uD, H⟩ := H
     replace H := iD H; obtain ⟨-, kD, H⟩ | ⟨-, kD, H⟩ := H
     ·obtain rfl := sI H
      have W : 0 ≤ (i : Int) := od
      have X : i < (l.length : Int) := od
      obtain ⟨lC, mB, qB, oB, sB, wB, x, y, z, B, D, u, q, v, s⟩ := DV aC.out i W X
      cases wB
      replace x := Ae j.out x
      replace y := Ae j.out y
      replace z := Ae j.out z
      replace B := Ae j.out B
      replace D := Ae j.out D
      have cB := mk0 q; have aB := mk0 u; clear q u; have dB := mk0 s; have bB := mk0 v; clear s v; replace W := eq_true W; replace X := eq_true X
      go_wp2_with ((with_reducible refine AP rfl (N := 7) rfl (cs := #[.int .i64 0, .int .i64 0, .int .i64 0, .slice none 0 0, .slice none 0 0]) (t := 63) ?hr ?_); (case hr => first | (go_simp; done) | (go_simp; rfl)); intro xB hg qF O U; have T := mk0 (O); have m := bs (be2 j b c) hg; replace j := kh2 j b c U; have ⟨n, G⟩ := nn a hg; have ⟨p, I⟩ := nn d hg; obtain ⟨a, d⟩ := tb2 U a d; clear U O hg; have ⟨zD, oE⟩ := no G n; have ⟨aE, pE⟩ := no I p; have z36 := cells5 T.out)
      go_ret
      exact ⟨rfl, be3 j b c m⟩
     by_cases c37 : ((AA l i).f0) > 2000000
     ·rw [if_pos c37] at H
      have lD : decide (2000000 < ((AA l i).f0)) = true := decide_eq_true c37; clear c37; obtain rfl := sI H
      have W : 0 ≤ (i : Int) := od
      have X : i < (l.length : Int) := od
      obtain ⟨lC, mB, qB, oB, sB, wB, x, y, z, B, D, u, q, v, s⟩ := DV aC.out i W X
      cases wB
      replace x := Ae j.out x
      replace y := Ae j.out y
      replace z := Ae j.out z
      replace B := Ae j.out B
      replace D := Ae j.out D
      have cB := mk0 q; have aB := mk0 u; clear q u; have dB := mk0 s; have bB := mk0 v; clear s v; replace W := eq_true W; replace X := eq_true X
      go_wp2_with ((with_reducible refine AP rfl (N := 7) rfl (cs := #[.int .i64 0, .int .i64 0, .int .i64 0, .slice none 0 0, .slice none 0 0]) (t := 63) ?hr ?_); (case hr => first | (go_simp; done) | (go_simp; rfl)); intro xB hg rF O U; have T := mk0 (O); have m := bs (be2 j b c) hg; replace j := kh2 j b c U; have ⟨n, G⟩ := nn a hg; have ⟨p, I⟩ := nn d hg; obtain ⟨a, d⟩ := tb2 U a d; clear U O hg; have ⟨bE, qE⟩ := no G n; have ⟨cE, rE⟩ := no I p; have z41 := cells5 T.out)
      go_ret
      exact ⟨rfl, be3 j b c m⟩
     rw [if_neg c37] at H; have lD : decide (2000000 < ((AA l i).f0)) = false := decide_eq_false c37; clear c37
     replace H := bS H; obtain ⟨gF, nD, H⟩ := H
     replace H := iB' H; obtain ⟨rfl, H⟩ | ⟨rfl, H⟩ := H
     ·obtain rfl := sI H
      have W : 0 ≤ (i : Int) := od
      have X : i < (l.length : Int) := od
      obtain ⟨lC, mB, qB, oB, sB, wB, x, y, z, B, D, u, q, v, s⟩ := DV aC.out i W X
      cases wB
      replace x := Ae j.out x
      replace y := Ae j.out y
      replace z := Ae j.out z
      replace B := Ae j.out B
      replace D := Ae j.out D
      have cB := mk0 q; have aB := mk0 u; clear q u; have dB := mk0 s; have bB := mk0 v; clear s v; replace W := eq_true W; replace X := eq_true X
      go_wp2_with (first | ((with_reducible refine AP rfl (N := 7) rfl (cs := #[.int .i64 0, .int .i64 0, .int .i64 0, .slice none 0 0, .slice none 0 0]) (t := 63) ?hr ?_); (case hr => first | (go_simp; done) | (go_simp; rfl)); intro xB hg uF O U; have T := mk0 (O); have m := bs (be2 j b c) hg; replace j := kh2 j b c U; have ⟨n, G⟩ := nn a hg; have ⟨p, I⟩ := nn d hg; obtain ⟨a, d⟩ := tb2 U a d; clear U O hg; have ⟨gE, vE⟩ := no G n; have ⟨hE, wE⟩ := no I p; have z55 := cells5 T.out; have ⟨jE, xE⟩ := no J L; have z57 := cells5 a.out) | (go_at_call 45; refine (CL.calls (AZ HG.out (be3 j b c m)) (Kd.BR kB.out (be3 j b c m)) hB.out (Kd.BR lB.out (be3 j b c m)) jB.out (Kd.BR cB.out (be3 j b c m)) aB.out (Kd.BR dB.out (be3 j b c m)) bB.out nD.out).mono ?_; rintro e wF ⟨rfl, U⟩; replace a := kF n a U; replace d := kF p d U; replace T := mk0 (Aa (g := xB) (o := .cells #[.int .i64 ((AA l i).f0), .int .i64 ((AA l i).f1.f0), .int .i64 ((AA l i).f1.f1), .slice mB ((AA l i).f1.f2).length qB, .slice oB ((AA l i).f1.f3).length sB] 63 (0, 0)) (pB T) U); replace j := kh3 j b c m U))
      go_ret
      exact ⟨rfl, be3 j b c m⟩
     have H' := mk0 H
     clear H
     have W : 0 ≤ (i : Int) := od
     have X : i < (l.length : Int) := od
     obtain ⟨lC, mB, qB, oB, sB, wB, x, y, z, B, D, u, q, v, s⟩ := DV aC.out i W X
     cases wB
     replace x := Ae j.out x
     replace y := Ae j.out y
     replace z := Ae j.out z
     replace B := Ae j.out B
     replace D := Ae j.out D
     have cB := mk0 q; have aB := mk0 u; clear q u; have dB := mk0 s; have bB := mk0 v; clear s v; replace W := eq_true W; replace X := eq_true X
     go_wp2_with (first | ((with_reducible refine AP rfl (N := 7) rfl (cs := #[.int .i64 0, .int .i64 0, .int .i64 0, .slice none 0 0, .slice none 0 0]) (t := 63) ?hr ?_); (case hr => first | (go_simp; done) | (go_simp; rfl)); intro xB hg sF O U; have T := mk0 (O); have m := bs (be2 j b c) hg; replace j := kh2 j b c U; have ⟨n, G⟩ := nn a hg; have ⟨p, I⟩ := nn d hg; obtain ⟨a, d⟩ := tb2 U a d; clear U O hg; have ⟨dE, sE⟩ := no G n; have ⟨eE, tE⟩ := no I p; have z47 := cells5 T.out; have ⟨fE, uE⟩ := no J L; have z49 := cells5 a.out) | (go_at_call 45; refine (CL.calls (AZ HG.out (be3 j b c m)) (Kd.BR kB.out (be3 j b c m)) hB.out (Kd.BR lB.out (be3 j b c m)) jB.out (Kd.BR cB.out (be3 j b c m)) aB.out (Kd.BR dB.out (be3 j b c m)) bB.out nD.out).mono ?_; rintro e tF ⟨rfl, U⟩; replace a := kF n a U; replace d := kF p d U; replace T := mk0 (Aa (g := xB) (o := .cells #[.int .i64 ((AA l i).f0), .int .i64 ((AA l i).f1.f0), .int .i64 ((AA l i).f1.f1), .slice mB ((AA l i).f1.f2).length qB, .slice oB ((AA l i).f1.f3).length sB] 63 (0, 0)) (pB T) U); replace j := kh3 j b c m U; have z51 := cells5 T.out))
     go_roundg k2
     case measure => have := oD.out; have := pD.out; omega
     case rel => exact ⟨((AA l i).f0), (wrap64 (i + 1)), rfl, rfl, H', ⟨by have := oD.out; have := pD.out; omega⟩, ⟨bu a⟩, ⟨bu d⟩, ⟨be3 j b c m⟩⟩
end Go.Proofs.Ytojankgmedccdaa.PIs
