/- Lemmas for LawDriversTakes. -/
import Derived.Test.YtojankgmedccdaaYTPIsx12
namespace Go.Proofs.Ytojankgmedccdaa.PIs
open Go.RowKit Own PTy Hand YtojankgmedccdaaW.PrintWords YtojankgmedccdaaW.PrintLast YtojankgmedccdaaW.PrintMore
attribute [local go_sem] BN BO Be Bf Az BA BR BS
set_option linter.unusedVariables false
set_option linter.unusedSimpArgs false
mutual
def DV.j0 : Nat → Bool → Int → Int → ByteArray → List ByteArray → List (S26) → Int → Int → List Int → List (S30) → List (S63) → Option (Bool)
 | 0, _, _, _, _, _, _, _, _, _, _, _ => none
 | k + 1, o, a, b, c, d, e, i, j, l, m, g => if o = true then (some false) else (DV.l0 k (-1) g (g.length : Int) 0 a b c d e)
def DV.l0 : Nat → Int → List (S63) → Int → Int → Int → Int → ByteArray → List ByteArray → List (S26) → Option (Bool)
 | 0, _, _, _, _, _, _, _, _, _ => none
 | k + 1, x5, x25, n, x27, a, b, c, d, e => if x27 < n then (if 0 ≤ x27 then (if x27 < (x25.length : Int) then (if ((AA x25 x27).f0) ≤ x5 then (some false) else (if ((AA x25 x27).f0) > 2000000 then (some false) else ((CX.f k a b c d e ((AA x25 x27).f1.f0) ((AA x25 x27).f1.f1) ((AA x25 x27).f1.f2) ((AA x25 x27).f1.f3)).bind fun h => (if h = true then (DV.l0 k ((AA x25 x27).f0) x25 n (wrap64 (x27 + 1)) a b c d e) else (some false))))) else (none)) else (none)) else (some true)
end
def DV.f (k : Nat) (a : Int) (b : Int) (c : ByteArray) (d : List ByteArray) (e : List (S26)) (g : Int) (h : Int) (i : List Int) (j : List (S30)) (l : List (S63)) : Option (Bool) := (Dy.f k a b c d e).bind fun m => (if m = true then ((CX.f k a b c d e g h i j).bind fun t218 => (if t218 = true then (DV.j0 k (decide ((l.length : Int) > 64)) a b c d e g h i j l) else (DV.j0 k true a b c d e g h i j l))) else (DV.j0 k true a b c d e g h i j l))
set_option maxHeartbeats 8000000 in
set_option maxRecDepth 100000 in
theorem DV.calls {k : Nat} {eB fB : Int} {gB : ByteArray} {bC : Option Addr} {gC : Nat} {Y : List ByteArray} {cC : Option Addr} {hC : Nat} {Z : List (S26)} {wB xB : Int} {dC : Option Addr} {iC : Nat} {hB : List Int} {eC : Option Addr} {jC : Nat} {jB : List (S30)} {fC : Option Addr} {kC : Nat} {j : List (S63)} {r : Bool} {w : World} (yC : Kd.C Kd.string w bC Y.length Y) (tC : Y.length ≤ gC) (zC : Kd.C k26 w cC Z.length Z) (uC : Z.length ≤ hC) (aD : Kd.C (Kd.int .u8) w dC hB.length hB) (vC : hB.length ≤ iC) (bD : Kd.C k30 w eC jB.length jB) (wC : jB.length ≤ jC) (cD : Kd.C k63 w fC j.length j) (xC : j.length ≤ kC) (h : DV.f k eB fB gB Y Z wB xB hB jB j = some r) :
  Calls Try.prog 20 #[.agg #[.int .i64 eB, .int .i64 fB, .string gB, .slice bC Y.length gC, .slice cC Z.length hC], .agg #[.int .i64 wB, .int .i64 xB, .slice dC hB.length iC, .slice eC jB.length jC, .slice fC j.length kC]] w fun e w' => e = .returned (.bool r) ∧ Below w.heap.size w w' := by
 have zE := Try.underlying26
 have cF := Try.underlying33
 have aF := Try.underlying30
 have dF := Try.underlying63
 have mB := mk0 yC; have kB := mk0 tC; clear yC tC; have oB := mk0 zC; have lB := mk0 uC; clear zC uC; have pC := mk0 aD; have nC := mk0 vC; clear aD vC; have qC := mk0 bD; have oC := mk0 wC; clear bD wC; have aC := mk0 cD; have rD := mk0 xC; clear cD xC
 have l := mk0 (Below.refl w.heap.size w)
 have H := h; unfold DV.f at H
 clear h; have gD := mk0 H; clear H
 go_enter Try.func20, Try.ntmps20
 go_upto_region 1 with (first | ((with_reducible refine AJ rfl (N := 2) rfl (cs := #[.int .i64 eB, .int .i64 fB, .string gB, .slice bC Y.length gC, .slice cC Z.length hC]) (t := 26) ?hr ?_); (case hr => first | (go_simp; done) | (go_simp; rfl)); intro rC hg w4 O U; have a := mk0 (O); have d := bs (be l) hg; replace l := kh l U; clear U O hg) | ((with_reducible refine AJ rfl (N := 3) rfl (cs := #[.int .i64 wB, .int .i64 xB, .slice dC hB.length iC, .slice eC jB.length jC, .slice fC j.length kC]) (t := 33) ?hr ?_); (case hr => first | (go_simp; done) | (go_simp; rfl)); intro sC hg w5 O U; have c := mk0 (O); have i := bs (be1 l d) hg; replace l := kh1 l d U; have ⟨J, L⟩ := nn a hg; replace a := kb a U; clear U O hg))
 (try simp only [Act.put, List.setIfInBounds_toArray, List.set_cons_zero, List.set_cons_succ])
 go_cut [23] (fun v23 wc => ∃ (kq : Nat) (mC : Bool), v23 = .bool mC ∧ Aside0 (DV.j0 kq mC eB fB gB Y Z wB xB hB jB j = some r) ∧ Aside0 (kq ≤ k) ∧ Aside0 (wc.heap[rC]? = some (.cells #[.int .i64 eB, .int .i64 fB, .string gB, (.slice bC Y.length gC), (.slice cC Z.length hC)] 26 (0, 0))) ∧ Aside0 (wc.heap[sC]? = some (.cells #[.int .i64 wB, .int .i64 xB, (.slice dC hB.length iC), (.slice eC jB.length jC), (.slice fC j.length kC)] 33 (0, 0))) ∧ Aside0 (Below w.heap.size w wc))
 case first =>
  have H := gD.out; clear gD
  replace H := bS H; obtain ⟨eF, A6, H⟩ := H
  replace H := iB' H; obtain ⟨rfl, H⟩ | ⟨rfl, H⟩ := H
  ·have H' := mk0 H
   clear H; have ⟨wD, lE⟩ := no J L
   have z24 := cells5 a.out
   go_wp2_with ((with_reducible refine AL (f := 18) rfl ?_); refine CV Try.func18 (Dy.calls (cu mB l) kB.out (cu oB l) lB.out A6.out) ?_; intro mF U; obtain ⟨a, c⟩ := tb2 U a c; replace l := kh2 l d i U)
   go_meet
   case rel => exact ⟨_, (true), rfl, H', ⟨by omega⟩, ⟨bu a⟩, ⟨bu c⟩, ⟨be2 l d i⟩⟩
  replace H := bS H; obtain ⟨t218, A8, H⟩ := H
  replace H := iB H; obtain ⟨rfl, H⟩ | ⟨rfl, H⟩ := H
  ·have H' := mk0 H
   clear H; have ⟨uD, jE⟩ := no J L
   have wF := cells5 a.out
   go_wp2_with (first | ((with_reducible refine AL (f := 18) rfl ?_); refine CV Try.func18 (Dy.calls (cu mB l) kB.out (cu oB l) lB.out A6.out) ?_; intro gF U; obtain ⟨a, c⟩ := tb2 U a c; replace l := kh2 l d i U; have xF := cells5 a.out; have yF := cells5 c.out) | (go_at_call 37; refine (CX.calls k eB fB gB _ _ Y _ _ Z wB xB _ _ hB _ _ jB true _ (cu mB l) kB.out (cu oB l) lB.out (cu pC l) nC.out (cu qC l) oC.out A8.out).mono ?_; rintro e hF ⟨rfl, U⟩; obtain ⟨a, c⟩ := tb2 U a c; replace l := kh2 l d i U; have zF := cells5 c.out))
   go_meet
   case rel => exact ⟨_, (decide ((j.length : Int) > 64)), rfl, H', ⟨by omega⟩, ⟨bu a⟩, ⟨bu c⟩, ⟨be2 l d i⟩⟩
  have H' := mk0 H
  clear H; have ⟨vD, kE⟩ := no J L
  have aG := cells5 a.out
  go_wp2_with (first | ((with_reducible refine AL (f := 18) rfl ?_); refine CV Try.func18 (Dy.calls (cu mB l) kB.out (cu oB l) lB.out A6.out) ?_; intro jF U; obtain ⟨a, c⟩ := tb2 U a c; replace l := kh2 l d i U; have z20 := cells5 a.out; have z21 := cells5 c.out) | (go_at_call 37; refine (CX.calls k eB fB gB _ _ Y _ _ Z wB xB _ _ hB _ _ jB false _ (cu mB l) kB.out (cu oB l) lB.out (cu pC l) nC.out (cu qC l) oC.out A8.out).mono ?_; rintro e lF ⟨rfl, U⟩; obtain ⟨a, c⟩ := tb2 U a c; replace l := kh2 l d i U))
  go_meet
  case rel => exact ⟨_, (true), rfl, H', ⟨by omega⟩, ⟨bu a⟩, ⟨bu c⟩, ⟨be2 l d i⟩⟩
 case rest =>
  clear gD
  obtain ⟨kq, mC, rfl, HA, nD, a, c, l⟩ := hcut
  cases kq with
  | zero => exact absurd HA.out (by simp [DV.j0])
  | succ pD =>
   have H := HA.out; clear HA
   simp only [DV.j0] at H
   replace H := iB H; obtain ⟨rfl, H⟩ | ⟨rfl, H⟩ := H
   ·obtain rfl := sI H
    go_wp2
    go_ret
    exact ⟨rfl, be2 l d i⟩
   have H' := mk0 H
   clear H; have ⟨xD, mE⟩ := no L J
   have z28 := cells5 c.out
   go_wp2
   go_loopg [5, 27] pD (fun kq v5 v27 w' => ∃ (dD : Int) (b : Int), v5 = .int .i64 dD ∧ v27 = .int .i64 b ∧ Aside0 (DV.l0 kq dD j (j.length : Int) b eB fB gB Y Z = some r) ∧ Aside0 (kq ≤ pD) ∧ Aside0 (w'.heap[rC]? = some (.cells #[.int .i64 eB, .int .i64 fB, .string gB, (.slice bC Y.length gC), (.slice cC Z.length hC)] 26 (0, 0))) ∧ Aside0 (w'.heap[sC]? = some (.cells #[.int .i64 wB, .int .i64 xB, (.slice dC hB.length iC), (.slice eC jB.length jC), (.slice fC j.length kC)] 33 (0, 0))) ∧ Aside0 (Below w.heap.size w w'))
   case atStart => exact ⟨((-1)), (0), rfl, rfl, H', ⟨Nat.le_refl _⟩, ⟨bu a⟩, ⟨bu c⟩, ⟨be2 l d i⟩⟩
   case round =>
    clear H'
    obtain ⟨dD, b, rfl, rfl, HA, oD, a, c, l⟩ := hrel
    cases gk with
    | zero => exact absurd HA.out (by simp [DV.l0])
    | succ k2 =>
     have H := HA.out; clear HA
     simp only [DV.l0] at H
     replace H := iD' H; obtain ⟨-, hD, H⟩ | ⟨-, hD, H⟩ := H
     ·obtain rfl := sI H
      go_wp2
      go_ret
      exact ⟨rfl, be2 l d i⟩
     replace H := iN H; obtain ⟨-, sD, H⟩ := H
     replace H := iN H; obtain ⟨-, tD, H⟩ := H
     replace H := iD H; obtain ⟨-, jD, H⟩ | ⟨-, jD, H⟩ := H
     ·obtain rfl := sI H
      have W : 0 ≤ (b : Int) := od
      have X : b < (j.length : Int) := od
      obtain ⟨lC, qB, tB, sB, uB, yB, x, y, z, B, D, u, q, v, s⟩ := Cg aC.out b W X
      cases yB
      replace x := AC l.out x
      replace y := AC l.out y
      replace z := AC l.out z
      replace B := AC l.out B
      replace D := AC l.out D
      have cB := mk0 q; have aB := mk0 u; clear q u; have dB := mk0 s; have bB := mk0 v; clear s v; replace W := eq_true W; replace X := eq_true X
      go_wp2_with ((with_reducible refine AJ rfl (N := 7) rfl (cs := #[.int .i64 0, .int .i64 0, .int .i64 0, .slice none 0 0, .slice none 0 0]) (t := 63) ?hr ?_); (case hr => first | (go_simp; done) | (go_simp; rfl)); intro zB hg oF O U; have T := mk0 (O); have p := bs (be2 l d i) hg; replace l := kh2 l d i U; have ⟨m, G⟩ := nn a hg; have ⟨n, I⟩ := nn c hg; obtain ⟨a, c⟩ := tb2 U a c; clear U O hg; have ⟨yD, nE⟩ := no G m; have ⟨zD, oE⟩ := no I n; have z36 := cells5 T.out)
      go_ret
      exact ⟨rfl, be3 l d i p⟩
     by_cases c37 : ((AA j b).f0) > 2000000
     ·rw [if_pos c37] at H
      have kD : decide (2000000 < ((AA j b).f0)) = true := decide_eq_true c37; clear c37; obtain rfl := sI H
      have W : 0 ≤ (b : Int) := od
      have X : b < (j.length : Int) := od
      obtain ⟨lC, qB, tB, sB, uB, yB, x, y, z, B, D, u, q, v, s⟩ := Cg aC.out b W X
      cases yB
      replace x := AC l.out x
      replace y := AC l.out y
      replace z := AC l.out z
      replace B := AC l.out B
      replace D := AC l.out D
      have cB := mk0 q; have aB := mk0 u; clear q u; have dB := mk0 s; have bB := mk0 v; clear s v; replace W := eq_true W; replace X := eq_true X
      go_wp2_with ((with_reducible refine AJ rfl (N := 7) rfl (cs := #[.int .i64 0, .int .i64 0, .int .i64 0, .slice none 0 0, .slice none 0 0]) (t := 63) ?hr ?_); (case hr => first | (go_simp; done) | (go_simp; rfl)); intro zB hg pF O U; have T := mk0 (O); have p := bs (be2 l d i) hg; replace l := kh2 l d i U; have ⟨m, G⟩ := nn a hg; have ⟨n, I⟩ := nn c hg; obtain ⟨a, c⟩ := tb2 U a c; clear U O hg; have ⟨aE, pE⟩ := no G m; have ⟨bE, qE⟩ := no I n; have z41 := cells5 T.out)
      go_ret
      exact ⟨rfl, be3 l d i p⟩
     rw [if_neg c37] at H; have kD : decide (2000000 < ((AA j b).f0)) = false := decide_eq_false c37; clear c37
     replace H := bS H; obtain ⟨fF, mD, H⟩ := H
     replace H := iB' H; obtain ⟨rfl, H⟩ | ⟨rfl, H⟩ := H
     ·obtain rfl := sI H
      have W : 0 ≤ (b : Int) := od
      have X : b < (j.length : Int) := od
      obtain ⟨lC, qB, tB, sB, uB, yB, x, y, z, B, D, u, q, v, s⟩ := Cg aC.out b W X
      cases yB
      replace x := AC l.out x
      replace y := AC l.out y
      replace z := AC l.out z
      replace B := AC l.out B
      replace D := AC l.out D
      have cB := mk0 q; have aB := mk0 u; clear q u; have dB := mk0 s; have bB := mk0 v; clear s v; replace W := eq_true W; replace X := eq_true X
      go_wp2_with (first | ((with_reducible refine AJ rfl (N := 7) rfl (cs := #[.int .i64 0, .int .i64 0, .int .i64 0, .slice none 0 0, .slice none 0 0]) (t := 63) ?hr ?_); (case hr => first | (go_simp; done) | (go_simp; rfl)); intro zB hg tF O U; have T := mk0 (O); have p := bs (be2 l d i) hg; replace l := kh2 l d i U; have ⟨m, G⟩ := nn a hg; have ⟨n, I⟩ := nn c hg; obtain ⟨a, c⟩ := tb2 U a c; clear U O hg; have ⟨fE, uE⟩ := no G m; have ⟨gE, vE⟩ := no I n; have z55 := cells5 T.out; have ⟨hE, wE⟩ := no J L; have z57 := cells5 a.out) | (go_at_call 37; refine (CX.calls k2 eB fB gB _ _ Y _ _ Z ((AA j b).f1.f0) ((AA j b).f1.f1) _ _ ((AA j b).f1.f2) _ _ ((AA j b).f1.f3) false _ (Kd.BH mB.out (be3 l d i p)) kB.out (Kd.BH oB.out (be3 l d i p)) lB.out (Kd.BH cB.out (be3 l d i p)) aB.out (Kd.BH dB.out (be3 l d i p)) bB.out mD.out).mono ?_; rintro e uF ⟨rfl, U⟩; replace a := kF m a U; replace c := kF n c U; replace T := mk0 (AY (g := zB) (o := .cells #[.int .i64 ((AA j b).f0), .int .i64 ((AA j b).f1.f0), .int .i64 ((AA j b).f1.f1), .slice qB ((AA j b).f1.f2).length tB, .slice sB ((AA j b).f1.f3).length uB] 63 (0, 0)) (pB T) U); replace l := kh3 l d i p U))
      go_ret
      exact ⟨rfl, be3 l d i p⟩
     have H' := mk0 H
     clear H
     have W : 0 ≤ (b : Int) := od
     have X : b < (j.length : Int) := od
     obtain ⟨lC, qB, tB, sB, uB, yB, x, y, z, B, D, u, q, v, s⟩ := Cg aC.out b W X
     cases yB
     replace x := AC l.out x
     replace y := AC l.out y
     replace z := AC l.out z
     replace B := AC l.out B
     replace D := AC l.out D
     have cB := mk0 q; have aB := mk0 u; clear q u; have dB := mk0 s; have bB := mk0 v; clear s v; replace W := eq_true W; replace X := eq_true X
     go_wp2_with (first | ((with_reducible refine AJ rfl (N := 7) rfl (cs := #[.int .i64 0, .int .i64 0, .int .i64 0, .slice none 0 0, .slice none 0 0]) (t := 63) ?hr ?_); (case hr => first | (go_simp; done) | (go_simp; rfl)); intro zB hg qF O U; have T := mk0 (O); have p := bs (be2 l d i) hg; replace l := kh2 l d i U; have ⟨m, G⟩ := nn a hg; have ⟨n, I⟩ := nn c hg; obtain ⟨a, c⟩ := tb2 U a c; clear U O hg; have ⟨cE, rE⟩ := no G m; have ⟨dE, sE⟩ := no I n; have z47 := cells5 T.out; have ⟨eE, tE⟩ := no J L; have z49 := cells5 a.out) | (go_at_call 37; refine (CX.calls k2 eB fB gB _ _ Y _ _ Z ((AA j b).f1.f0) ((AA j b).f1.f1) _ _ ((AA j b).f1.f2) _ _ ((AA j b).f1.f3) true _ (Kd.BH mB.out (be3 l d i p)) kB.out (Kd.BH oB.out (be3 l d i p)) lB.out (Kd.BH cB.out (be3 l d i p)) aB.out (Kd.BH dB.out (be3 l d i p)) bB.out mD.out).mono ?_; rintro e sF ⟨rfl, U⟩; replace a := kF m a U; replace c := kF n c U; replace T := mk0 (AY (g := zB) (o := .cells #[.int .i64 ((AA j b).f0), .int .i64 ((AA j b).f1.f0), .int .i64 ((AA j b).f1.f1), .slice qB ((AA j b).f1.f2).length tB, .slice sB ((AA j b).f1.f3).length uB] 63 (0, 0)) (pB T) U); replace l := kh3 l d i p U; have z51 := cells5 T.out))
     go_roundg k2
     case measure => have := nD.out; have := oD.out; omega
     case rel => exact ⟨((AA j b).f0), (wrap64 (b + 1)), rfl, rfl, H', ⟨by have := nD.out; have := oD.out; omega⟩, ⟨bu a⟩, ⟨bu c⟩, ⟨be3 l d i p⟩⟩
end Go.Proofs.Ytojankgmedccdaa.PIs
