/- Lemmas. -/
import Derived.Test.YtojankgmedccdaaYNPIsx10
set_option maxHeartbeats 8000000
set_option maxRecDepth 100000
namespace Go.Proofs.Ytojankgmedccdaa.PIs
open Go.RowKit Own PTy Hand Wo
attribute [local go_sem] BS BU Bf Bg BC BD BX BZ
set_option linter.unusedVariables false
set_option linter.unusedSimpArgs false
mutual
def BI.j0 : Nat → Bool → Int → Int → ByteArray → List ByteArray → List (S26) → Int → Int → List Int → List (S30) → List (S63) → Option (Bool)
 | 0, _, _, _, _, _, _, _, _, _, _, _ => none
 | k + 1, o, a, b, c, d, e, i, j, l, m, g => if o = true then (some false) else (BI.l0 k (-1) g (g.length : Int) 0 a b c d e)
def BI.l0 : Nat → Int → List (S63) → Int → Int → Int → Int → ByteArray → List ByteArray → List (S26) → Option (Bool)
 | 0, _, _, _, _, _, _, _, _, _ => none
 | k + 1, x5, x25, n, x27, a, b, c, d, e => if x27 < n then (if 0 ≤ x27 then (if x27 < (x25.length : Int) then (if ((AA x25 x27).f0) ≤ x5 then (some false) else (if ((AA x25 x27).f0) > 2000000 then (some false) else ((Ca.f k a b c d e ((AA x25 x27).f1.f0) ((AA x25 x27).f1.f1) ((AA x25 x27).f1.f2) ((AA x25 x27).f1.f3)).bind fun h => (if h = true then (BI.l0 k ((AA x25 x27).f0) x25 n (wrap64 (x27 + 1)) a b c d e) else (some false))))) else (none)) else (none)) else (some true)
end
def BI.f (k : Nat) (a : Int) (b : Int) (c : ByteArray) (d : List ByteArray) (e : List (S26)) (g : Int) (h : Int) (i : List Int) (j : List (S30)) (l : List (S63)) : Option (Bool) := (CP.f k a b c d e).bind fun t198 => (if t198 = true then ((Ca.f k a b c d e g h i j).bind fun m => (if m = true then (BI.j0 k (decide ((l.length : Int) > 64)) a b c d e g h i j l) else (BI.j0 k true a b c d e g h i j l))) else (BI.j0 k true a b c d e g h i j l))
theorem BI.calls (k : Nat) (eB : Int) (fB : Int) (gB : ByteArray) (cC : Option Addr) (hC : Nat) (Y : List ByteArray) (dC : Option Addr) (iC : Nat) (Z : List (S26)) (zB : Int) (aC : Int) (eC : Option Addr) (jC : Nat) (uB : List Int) (fC : Option Addr) (kC : Nat) (wB : List (S30)) (gC : Option Addr) (lC : Nat) (l : List (S63)) (r : Bool) (w : World) (hG : EP w) (zC : Kd.C Kd.string w cC Y.length Y) (uC : Y.length ≤ hC) (aD : Kd.C k26 w dC Z.length Z) (vC : Z.length ≤ iC) (bD : Kd.C (Kd.int .u8) w eC uB.length uB) (wC : uB.length ≤ jC) (cD : Kd.C k30 w fC wB.length wB) (xC : wB.length ≤ kC) (dD : Kd.C k63 w gC l.length l) (yC : l.length ≤ lC) (h : BI.f k eB fB gB Y Z zB aC uB wB l = some r) :
  Calls Try.prog 19 #[.agg #[.int .i64 eB, .int .i64 fB, .string gB, .slice cC Y.length hC, .slice dC Z.length iC], .agg #[.int .i64 zB, .int .i64 aC, .slice eC uB.length jC, .slice fC wB.length kC, .slice gC l.length lC]] w fun e w' => e = .returned (.bool r) ∧ Below w.heap.size w w' := by
 have HG := mk0 hG; clear hG
 have cF := Try.underlying26
 have eF := Try.underlying33
 have dF := Try.underlying30
 have fF := Try.underlying63
 have kB := mk0 zC; have hB := mk0 uC; clear zC uC; have lB := mk0 aD; have jB := mk0 vC; clear aD vC; have qC := mk0 bD; have oC := mk0 wC; clear bD wC; have rC := mk0 cD; have pC := mk0 xC; clear cD xC; have bC := mk0 dD; have tD := mk0 yC; clear dD yC
 have j := mk0 (Below.refl w.heap.size w)
 have H := h; unfold BI.f at H
 clear h; have hD := mk0 H; clear H
 go_enter Try.func19, Try.ntmps19
 go_upto_region 1 with (first | ((with_reducible refine AQ rfl (N := 2) rfl (cs := #[.int .i64 eB, .int .i64 fB, .string gB, .slice cC Y.length hC, .slice dC Z.length iC]) (t := 26) ?hr ?_); (case hr => first | (go_simp; done) | (go_simp; rfl)); intro sC hg w4 O U; have a := mk0 (O); have b := bs (be j) hg; replace j := kh j U; clear U O hg) | ((with_reducible refine AQ rfl (N := 3) rfl (cs := #[.int .i64 zB, .int .i64 aC, .slice eC uB.length jC, .slice fC wB.length kC, .slice gC l.length lC]) (t := 33) ?hr ?_); (case hr => first | (go_simp; done) | (go_simp; rfl)); intro tC hg w5 O U; have d := mk0 (O); have c := bs (be1 j b) hg; replace j := kh1 j b U; have ⟨J, L⟩ := nn a hg; replace a := kb a U; clear U O hg))
 (try simp only [Act.put, List.setIfInBounds_toArray, List.set_cons_zero, List.set_cons_succ])
 go_cut [23] (fun v23 wc => ∃ (kq : Nat) (nC : Bool), v23 = .bool nC ∧ Aside0 (BI.j0 kq nC eB fB gB Y Z zB aC uB wB l = some r) ∧ Aside0 (kq ≤ k) ∧ Aside0 (bk wc sC 26 #[.int .i64 eB, .int .i64 fB, .string gB, (.slice cC Y.length hC), (.slice dC Z.length iC)]) ∧ Aside0 (bk wc tC 33 #[.int .i64 zB, .int .i64 aC, (.slice eC uB.length jC), (.slice fC wB.length kC), (.slice gC l.length lC)]) ∧ Aside0 (Below w.heap.size w wc))
 case first =>
  have H := hD.out; clear hD; replace H := bS H; obtain ⟨t198, A6, H⟩ := H; replace H := iB' H; obtain ⟨rfl, H⟩ | ⟨rfl, H⟩ := H
  ·have H' := mk0 H; clear H; have ⟨yD, nE⟩ := no J L; have z24 := cells5 a.out; go_wp2_with ((with_reducible refine AJ (f := 17) rfl ?_); refine CS Try.func17 (CP.calls k eB fB gB _ _ Y _ _ Z false _ (Aa HG.out (be2 j b c)) (cu kB j) hB.out (cu lB j) jB.out A6.out) ?_; intro qF U; obtain ⟨a, d⟩ := tb2 U a d; replace j := kh2 j b c U); go_meet
   case rel => exact ⟨_, (true), rfl, H', ⟨by omega⟩, ⟨bu a⟩, ⟨bu d⟩, ⟨be2 j b c⟩⟩
  replace H := bS H; obtain ⟨gF, A8, H⟩ := H; replace H := iB H; obtain ⟨rfl, H⟩ | ⟨rfl, H⟩ := H
  ·have H' := mk0 H; clear H; have ⟨wD, lE⟩ := no J L; have yF := cells5 a.out; go_wp2_with (first | ((with_reducible refine AJ (f := 17) rfl ?_); refine CS Try.func17 (CP.calls k eB fB gB _ _ Y _ _ Z true _ (Aa HG.out (be2 j b c)) (cu kB j) hB.out (cu lB j) jB.out A6.out) ?_; intro lF U; obtain ⟨a, d⟩ := tb2 U a d; replace j := kh2 j b c U; have zF := cells5 a.out; have aG := cells5 d.out) | (go_at_call 45; refine (Ca.calls (Aa HG.out (be2 j b c)) (cu kB j) hB.out (cu lB j) jB.out (cu qC j) oC.out (cu rC j) pC.out A8.out).mono ?_; rintro e mF ⟨rfl, U⟩; obtain ⟨a, d⟩ := tb2 U a d; replace j := kh2 j b c U; have bG := cells5 d.out)); go_meet
   case rel => exact ⟨_, (decide ((l.length : Int) > 64)), rfl, H', ⟨by omega⟩, ⟨bu a⟩, ⟨bu d⟩, ⟨be2 j b c⟩⟩
  have H' := mk0 H; clear H; have ⟨xD, mE⟩ := no J L; have cG := cells5 a.out; go_wp2_with (first | ((with_reducible refine AJ (f := 17) rfl ?_); refine CS Try.func17 (CP.calls k eB fB gB _ _ Y _ _ Z true _ (Aa HG.out (be2 j b c)) (cu kB j) hB.out (cu lB j) jB.out A6.out) ?_; intro oF U; obtain ⟨a, d⟩ := tb2 U a d; replace j := kh2 j b c U; have z20 := cells5 a.out; have z21 := cells5 d.out) | (go_at_call 45; refine (Ca.calls (Aa HG.out (be2 j b c)) (cu kB j) hB.out (cu lB j) jB.out (cu qC j) oC.out (cu rC j) pC.out A8.out).mono ?_; rintro e pF ⟨rfl, U⟩; obtain ⟨a, d⟩ := tb2 U a d; replace j := kh2 j b c U)); go_meet
  case rel => exact ⟨_, (true), rfl, H', ⟨by omega⟩, ⟨bu a⟩, ⟨bu d⟩, ⟨be2 j b c⟩⟩
 case rest =>
  clear hD; obtain ⟨kq, nC, rfl, HA, pD, a, d, j⟩ := hcut; cases kq with
  | zero => exact absurd HA.out (by simp [BI.j0])
  | succ rD =>
   have H := HA.out; clear HA; simp only [BI.j0] at H; replace H := iB H; obtain ⟨rfl, H⟩ | ⟨rfl, H⟩ := H
   ·obtain rfl := sI H; go_wp2; go_ret; exact ⟨rfl, be2 j b c⟩
   have H' := mk0 H; clear H; have ⟨zD, oE⟩ := no L J; have z28 := cells5 d.out; go_wp2; go_loopg [5, 27] rD (fun kq v5 v27 w' => ∃ (eD : Int) (i : Int), v5 = .int .i64 eD ∧ v27 = .int .i64 i ∧ Aside0 (BI.l0 kq eD l (l.length : Int) i eB fB gB Y Z = some r) ∧ Aside0 (kq ≤ rD) ∧ Aside0 (bk w' sC 26 #[.int .i64 eB, .int .i64 fB, .string gB, (.slice cC Y.length hC), (.slice dC Z.length iC)]) ∧ Aside0 (bk w' tC 33 #[.int .i64 zB, .int .i64 aC, (.slice eC uB.length jC), (.slice fC wB.length kC), (.slice gC l.length lC)]) ∧ Aside0 (Below w.heap.size w w'))
   case atStart => exact ⟨((-1)), (0), rfl, rfl, H', ⟨Nat.le_refl _⟩, ⟨bu a⟩, ⟨bu d⟩, ⟨be2 j b c⟩⟩
   case round =>
    clear H'; obtain ⟨eD, i, rfl, rfl, HA, qD, a, d, j⟩ := hrel; cases gk with
    | zero => exact absurd HA.out (by simp [BI.l0])
    | succ k2 =>
     have H := HA.out; clear HA; simp only [BI.l0] at H; replace H := iD' H; obtain ⟨-, kD, H⟩ | ⟨-, kD, H⟩ := H
     ·obtain rfl := sI H; go_wp2; go_ret; exact ⟨rfl, be2 j b c⟩
     replace H := iN H; obtain ⟨-, uD, H⟩ := H; replace H := iN H; obtain ⟨-, vD, H⟩ := H; replace H := iD H; obtain ⟨-, lD, H⟩ | ⟨-, lD, H⟩ := H
     ·obtain rfl := sI H; have W : 0 ≤ (i : Int) := od; have X : i < (l.length : Int) := od; obtain ⟨mC, mB, sB, qB, tB, xB, x, y, z, B, D, u, q, v, s⟩ := Cy bC.out i W X; cases xB; replace x := AP j.out x; replace y := AP j.out y; replace z := AP j.out z; replace B := AP j.out B; replace D := AP j.out D; have cB := mk0 q; have aB := mk0 u; clear q u; have dB := mk0 s; have bB := mk0 v; clear s v; replace W := eq_true W; replace X := eq_true X; go_wp2_with ((with_reducible refine AQ rfl (N := 7) rfl (cs := #[.int .i64 0, .int .i64 0, .int .i64 0, .slice none 0 0, .slice none 0 0]) (t := 63) ?hr ?_); (case hr => first | (go_simp; done) | (go_simp; rfl)); intro yB hg rF O U; have T := mk0 (O); have m := bs (be2 j b c) hg; replace j := kh2 j b c U; have ⟨n, G⟩ := nn a hg; have ⟨p, I⟩ := nn d hg; obtain ⟨a, d⟩ := tb2 U a d; clear U O hg; have ⟨aE, pE⟩ := no G n; have ⟨bE, qE⟩ := no I p; have z36 := cells5 T.out); go_ret; exact ⟨rfl, be3 j b c m⟩
     by_cases c37 : ((AA l i).f0) > 2000000
     ·rw [if_pos c37] at H; have mD : decide (2000000 < ((AA l i).f0)) = true := decide_eq_true c37; clear c37; obtain rfl := sI H; have W : 0 ≤ (i : Int) := od; have X : i < (l.length : Int) := od; obtain ⟨mC, mB, sB, qB, tB, xB, x, y, z, B, D, u, q, v, s⟩ := Cy bC.out i W X; cases xB; replace x := AP j.out x; replace y := AP j.out y; replace z := AP j.out z; replace B := AP j.out B; replace D := AP j.out D; have cB := mk0 q; have aB := mk0 u; clear q u; have dB := mk0 s; have bB := mk0 v; clear s v; replace W := eq_true W; replace X := eq_true X; go_wp2_with ((with_reducible refine AQ rfl (N := 7) rfl (cs := #[.int .i64 0, .int .i64 0, .int .i64 0, .slice none 0 0, .slice none 0 0]) (t := 63) ?hr ?_); (case hr => first | (go_simp; done) | (go_simp; rfl)); intro yB hg sF O U; have T := mk0 (O); have m := bs (be2 j b c) hg; replace j := kh2 j b c U; have ⟨n, G⟩ := nn a hg; have ⟨p, I⟩ := nn d hg; obtain ⟨a, d⟩ := tb2 U a d; clear U O hg; have ⟨cE, rE⟩ := no G n; have ⟨dE, sE⟩ := no I p; have z41 := cells5 T.out); go_ret; exact ⟨rfl, be3 j b c m⟩
     rw [if_neg c37] at H; have mD : decide (2000000 < ((AA l i).f0)) = false := decide_eq_false c37; clear c37; replace H := bS H; obtain ⟨hF, oD, H⟩ := H; replace H := iB' H; obtain ⟨rfl, H⟩ | ⟨rfl, H⟩ := H
     ·obtain rfl := sI H; have W : 0 ≤ (i : Int) := od; have X : i < (l.length : Int) := od; obtain ⟨mC, mB, sB, qB, tB, xB, x, y, z, B, D, u, q, v, s⟩ := Cy bC.out i W X; cases xB; replace x := AP j.out x; replace y := AP j.out y; replace z := AP j.out z; replace B := AP j.out B; replace D := AP j.out D; have cB := mk0 q; have aB := mk0 u; clear q u; have dB := mk0 s; have bB := mk0 v; clear s v; replace W := eq_true W; replace X := eq_true X; go_wp2_with (first | ((with_reducible refine AQ rfl (N := 7) rfl (cs := #[.int .i64 0, .int .i64 0, .int .i64 0, .slice none 0 0, .slice none 0 0]) (t := 63) ?hr ?_); (case hr => first | (go_simp; done) | (go_simp; rfl)); intro yB hg wF O U; have T := mk0 (O); have m := bs (be2 j b c) hg; replace j := kh2 j b c U; have ⟨n, G⟩ := nn a hg; have ⟨p, I⟩ := nn d hg; obtain ⟨a, d⟩ := tb2 U a d; clear U O hg; have ⟨hE, wE⟩ := no G n; have ⟨jE, xE⟩ := no I p; have z55 := cells5 T.out; have ⟨kE, yE⟩ := no J L; have z57 := cells5 a.out) | (go_at_call 45; refine (Ca.calls (Aa HG.out (be3 j b c m)) (Kd.Ap kB.out (be3 j b c m)) hB.out (Kd.Ap lB.out (be3 j b c m)) jB.out (Kd.Ap cB.out (be3 j b c m)) aB.out (Kd.Ap dB.out (be3 j b c m)) bB.out oD.out).mono ?_; rintro e xF ⟨rfl, U⟩; replace a := kF n a U; replace d := kF p d U; replace T := mk0 (AX (g := yB) (o := .cells #[.int .i64 ((AA l i).f0), .int .i64 ((AA l i).f1.f0), .int .i64 ((AA l i).f1.f1), .slice mB ((AA l i).f1.f2).length sB, .slice qB ((AA l i).f1.f3).length tB] 63 (0, 0)) (pB T) U); replace j := kh3 j b c m U)); go_ret; exact ⟨rfl, be3 j b c m⟩
     have H' := mk0 H; clear H; have W : 0 ≤ (i : Int) := od; have X : i < (l.length : Int) := od; obtain ⟨mC, mB, sB, qB, tB, xB, x, y, z, B, D, u, q, v, s⟩ := Cy bC.out i W X; cases xB; replace x := AP j.out x; replace y := AP j.out y; replace z := AP j.out z; replace B := AP j.out B; replace D := AP j.out D; have cB := mk0 q; have aB := mk0 u; clear q u; have dB := mk0 s; have bB := mk0 v; clear s v; replace W := eq_true W; replace X := eq_true X; go_wp2_with (first | ((with_reducible refine AQ rfl (N := 7) rfl (cs := #[.int .i64 0, .int .i64 0, .int .i64 0, .slice none 0 0, .slice none 0 0]) (t := 63) ?hr ?_); (case hr => first | (go_simp; done) | (go_simp; rfl)); intro yB hg tF O U; have T := mk0 (O); have m := bs (be2 j b c) hg; replace j := kh2 j b c U; have ⟨n, G⟩ := nn a hg; have ⟨p, I⟩ := nn d hg; obtain ⟨a, d⟩ := tb2 U a d; clear U O hg; have ⟨eE, tE⟩ := no G n; have ⟨fE, uE⟩ := no I p; have z47 := cells5 T.out; have ⟨gE, vE⟩ := no J L; have z49 := cells5 a.out) | (go_at_call 45; refine (Ca.calls (Aa HG.out (be3 j b c m)) (Kd.Ap kB.out (be3 j b c m)) hB.out (Kd.Ap lB.out (be3 j b c m)) jB.out (Kd.Ap cB.out (be3 j b c m)) aB.out (Kd.Ap dB.out (be3 j b c m)) bB.out oD.out).mono ?_; rintro e uF ⟨rfl, U⟩; replace a := kF n a U; replace d := kF p d U; replace T := mk0 (AX (g := yB) (o := .cells #[.int .i64 ((AA l i).f0), .int .i64 ((AA l i).f1.f0), .int .i64 ((AA l i).f1.f1), .slice mB ((AA l i).f1.f2).length sB, .slice qB ((AA l i).f1.f3).length tB] 63 (0, 0)) (pB T) U); replace j := kh3 j b c m U; have z51 := cells5 T.out)); go_roundg k2
     case measure => have := pD.out; have := qD.out; omega
     case rel => exact ⟨((AA l i).f0), (wrap64 (i + 1)), rfl, rfl, H', ⟨by have := pD.out; have := qD.out; omega⟩, ⟨bu a⟩, ⟨bu d⟩, ⟨be3 j b c m⟩⟩
def Gn.f (a0 : Int) : Option (Bool) := if a0 = 0 then (some true) else (if a0 = 1 then (some true) else (if a0 = 2 then (some true) else (some (a0 == 3))))
theorem Gn.calls {a0 : Int} {r : Bool} {w : World} (h : Gn.f a0 = some r) :
  Calls Try.prog 71 #[.int .u8 a0] w fun e w' => e = .returned (.bool r) ∧ Ar w w' := by
 have H := h; unfold Gn.f at H
 clear h
 replace H := iE H; obtain ⟨a, b, H⟩ | ⟨j, a, b, H⟩ := H
 ·obtain rfl := sI H; go_enter Try.func71, Try.ntmps71; go_wp2; go_ret; exact dn
 replace H := iE H; obtain ⟨c, d, H⟩ | ⟨k, c, d, H⟩ := H
 ·obtain rfl := sI H; go_enter Try.func71, Try.ntmps71; go_wp2; go_ret; exact dn
 replace H := iE' H; obtain ⟨c4, g, i, H⟩ | ⟨g, i, H⟩ := H
 ·obtain rfl := sI H; go_enter Try.func71, Try.ntmps71; go_wp2; go_ret; exact dn
 obtain rfl := sI H
 go_enter Try.func71, Try.ntmps71
 go_wp2
 go_ret
 exact dn
def EJ.l0 : Nat → List Int → List Int → Int → Int → Option (Bool)
 | 0, _, _, _, _ => none
 | k + 1, x0, x5, x6, x7 => if x7 < x6 then (if 0 ≤ x7 then (if x7 < (x5.length : Int) then ((Gn.f (rd x5 x7)).bind fun a => (if a = true then (EJ.l0 k x0 x5 x6 (wrap64 (x7 + 1))) else (some false))) else (none)) else (none)) else (if (x0.length : Int) ≥ 1 then (some (decide ((x0.length : Int) ≤ 64))) else (some false))
def EJ.f (k : Nat) (l0 : List Int) : Option (Bool) := EJ.l0 k l0 l0 (l0.length : Int) 0
theorem EJ.calls {k : Nat} {v : Option Addr} {y : Nat} {l0 : List Int} {r : Bool} {w : World} (q : Kd.C (Kd.int .u8) w v l0.length l0) (p : l0.length ≤ y) (h : EJ.f k l0 = some r) :
  Calls Try.prog 57 #[.slice v l0.length y] w fun e w' => e = .returned (.bool r) ∧ Ar w w' := by
 have l := mk0 q; have I := mk0 p; clear q p
 have H : (EJ.l0 k l0 l0 (l0.length : Int) 0) = some r := h
 clear h
 have s := mk0 H
 clear H
 go_enter Try.func57, Try.ntmps57
 go_wp2
 go_loopg [7] k (fun D v7 w' => ∃ (a : Int), v7 = .int .i64 a ∧ Aside0 (EJ.l0 D l0 l0 (l0.length : Int) a = some r) ∧ Aside0 (D ≤ k) ∧ Ar w w')
 case atStart => exact ⟨(0), rfl, s, ⟨Nat.le_refl _⟩, dr⟩
 case round =>
  clear s; obtain ⟨a, rfl, u, j, O, rfl⟩ := hrel; cases gk with
  | zero => exact absurd u.out (by simp [EJ.l0])
  | succ J =>
   have H := u.out; clear u; simp only [EJ.l0] at H; replace H := iD' H; obtain ⟨-, m, H⟩ | ⟨-, m, H⟩ := H
   ·by_cases c7 : (l0.length : Int) ≥ 1
    ·rw [if_pos c7] at H; have n : decide (1 ≤ (l0.length : Int)) = true := decide_eq_true c7; have o : decide (1 ≤ l0.length) = true := decide_eq_true (by omega); clear c7; obtain rfl := sI H; go_wp2; go_ret; exact dn
    rw [if_neg c7] at H; have n : decide (1 ≤ (l0.length : Int)) = false := decide_eq_false c7; have o : decide (1 ≤ l0.length) = false := decide_eq_false (by omega); clear c7; obtain rfl := sI H; go_wp2; go_ret; exact dn
   replace H := iN H; obtain ⟨-, z, H⟩ := H; replace H := iN H; obtain ⟨-, B, H⟩ := H; replace H := bS H; obtain ⟨G, x, H⟩ := H; replace H := iB' H; obtain ⟨rfl, H⟩ | ⟨rfl, H⟩ := H
   ·obtain rfl := sI H; have b : 0 ≤ (a : Int) := od; have c : a < (l0.length : Int) := od; obtain ⟨i, d, g⟩ := Kd.D5 l.out a b c; cases d; replace b := eq_true b; replace c := eq_true c; go_wp2_with ((with_reducible refine AJ (f := 71) rfl ?_); refine FM Try.func71 (Gn.calls x.out) ?_; intro L); go_ret; exact dn
   have s := mk0 H; clear H; have b : 0 ≤ (a : Int) := od; have c : a < (l0.length : Int) := od; obtain ⟨i, d, g⟩ := Kd.D5 l.out a b c; cases d; replace b := eq_true b; replace c := eq_true c; go_wp2_with ((with_reducible refine AJ (f := 71) rfl ?_); refine FM Try.func71 (Gn.calls x.out) ?_; intro L); go_roundg J
   case measure => have := j.out; omega
   case rel => exact ⟨(wrap64 (a + 1)), rfl, s, ⟨by have := j.out; omega⟩, dr⟩
def Fu.f (a0 : Int) : Option (Bool) := if a0 ≥ (-2147483648) then (some (decide (a0 ≤ 2147483647))) else (some false)
theorem Fu.calls {a0 : Int} {r : Bool} {w : World} (h : Fu.f a0 = some r) :
  Calls Try.prog 58 #[.int .i64 a0] w fun e w' => e = .returned (.bool r) ∧ Ar w w' := by
 have H := h; unfold Fu.f at H
 clear h
 by_cases c2 : a0 ≥ (-2147483648)
 ·rw [if_pos c2] at H; have a : decide ((-2147483648) ≤ a0) = true := decide_eq_true c2; clear c2; obtain rfl := sI H; go_enter Try.func58, Try.ntmps58; go_wp2; go_ret; exact dn
 rw [if_neg c2] at H; have a : decide ((-2147483648) ≤ a0) = false := decide_eq_false c2; clear c2; obtain rfl := sI H
 go_enter Try.func58, Try.ntmps58
 go_wp2
 go_ret
 exact dn
end Go.Proofs.Ytojankgmedccdaa.PIs
