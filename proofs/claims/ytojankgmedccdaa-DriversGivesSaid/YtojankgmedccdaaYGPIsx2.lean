/- Lemmas for LawDriversGives. -/
import Derived.Test.YtojankgmedccdaaYGPIsx1
namespace Go.Proofs.Ytojankgmedccdaa.PIs
open Go.RowKit Own PTy Hand YtojankgmedccdaaW.PrintWords YtojankgmedccdaaW.PrintLast YtojankgmedccdaaW.PrintMore
attribute [local go_sem] BI BJ Be Bf Ar Au BK BL
set_option linter.unusedVariables false
set_option linter.unusedSimpArgs false
mutual
def BB.j0 : Nat → List (S30) → Bool → Int → Int → ByteArray → List ByteArray → List (S26) → Option (Bool)
 | 0, _, _, _, _, _, _, _ => none
 | k + 1, x1, p, c, d, e, a, b => if p = true then (some false) else (BB.l0 k x1 a (a.length : Int) 0 c d e a b)
def BB.l0 : Nat → List (S30) → List ByteArray → Int → Int → Int → Int → ByteArray → List ByteArray → List (S26) → Option (Bool)
 | 0, _, _, _, _, _, _, _, _, _ => none
 | k + 1, x1, x28, x29, x30, c, d, e, a, b => if x30 < x29 then (if 0 ≤ x30 then (if x30 < (x28.length : Int) then (if ((EZ ByteArray.empty x28 x30).size : Int) > 100 then (some false) else (BB.l0 k x1 x28 x29 (wrap64 (x30 + 1)) c d e a b)) else (none)) else (none)) else (BB.l1 k x1 b (b.length : Int) 0)
def BB.l1 : Nat → List (S30) → List (S26) → Int → Int → Option (Bool)
 | 0, _, _, _, _ => none
 | k + 1, x1, x39, x40, x41 => if x41 < x40 then (if 0 ≤ x41 then (if x41 < (x39.length : Int) then (if (((Bc x39 x41).f4).length : Int) > 2 then (some false) else ((BB.f k ((Bc x39 x41).f0) ((Bc x39 x41).f1) ((Bc x39 x41).f2) ((Bc x39 x41).f3) ((Bc x39 x41).f4) ([] : List (S30))).bind fun t109 => (if t109 = true then (BB.l1 k x1 x39 x40 (wrap64 (x41 + 1))) else (some false)))) else (none)) else (none)) else (BB.l2 k x1 (x1.length : Int) 0)
def BB.l2 : Nat → List (S30) → Int → Int → Option (Bool)
 | 0, _, _, _ => none
 | k + 1, x55, o, g => if g < o then (if 0 ≤ g then (if g < (x55.length : Int) then ((CK.f k ((AC x55 g).f0) ((AC x55 g).f1) ((AC x55 g).f2) ((AC x55 g).f3) 9000).bind fun n => (if n < 0 then (some false) else (BB.l2 k x55 o (wrap64 (g + 1))))) else (none)) else (none)) else (some true)
def BB.f : Nat → Int → Int → ByteArray → List ByteArray → List (S26) → List (S30) → Option (Bool)
 | 0, _, _, _, _, _, _ => none
 | k + 1, l, m, h, i, j, l1 => if (h.size : Int) > 300 then (BB.j0 k l1 true l m h i j) else (if (i.length : Int) > 40 then (BB.j0 k l1 true l m h i j) else (BB.j0 k l1 (decide ((j.length : Int) > 3)) l m h i j))
end
set_option maxHeartbeats 8000000 in
set_option maxRecDepth 100000 in
theorem BB.calls (k : Nat) : ∀ (kB : Int) (lB : Int) (L : ByteArray) (wB : Option Addr) (yB : Nat) (j : List ByteArray) (xB : Option Addr) (zB : Nat) (b : List (S26)) (A1 : Option Addr) (c1 : Nat) (l1 : List (S30)) (r : Bool) (w : World) (bD : Kd.C Kd.string w wB j.length j) (zC : j.length ≤ yB) (cD : Kd.C k26 w xB b.length b) (aD : b.length ≤ zB) (yD : Kd.C k30 w A1 l1.length l1) (xD : l1.length ≤ c1) (h : BB.f k kB lB L j b l1 = some r),
  Calls Try.prog 42 #[.agg #[.int .i64 kB, .int .i64 lB, .string L, .slice wB j.length yB, .slice xB b.length zB], .slice A1 l1.length c1] w fun e w' => e = .returned (.bool r) ∧ Below w.heap.size w w' := by
 induction k using Nat.strongRecOn with
 | _ k ih =>
 intro kB lB L wB yB j xB zB b A1 c1 l1 r w bD zC cD aD yD xD h
 cases k with
 | zero => exact absurd h (by simp [BB.f])
 | succ k =>
 simp only [BB.f] at h
 have fF := Try.underlying26
 have gF := Try.underlying30
 have gD := mk0 bD; have kE := mk0 zC; clear bD zC; have wC := mk0 cD; have lE := mk0 aD; clear cD aD; have cE := mk0 yD; have hF := mk0 xD; clear yD xD
 have l := mk0 (Below.refl w.heap.size w)
 have H := h; unfold BB.f at H
 clear h; have nD := mk0 H; clear H
 go_enter Try.func42, Try.ntmps42
 go_upto_region 1 with ((with_reducible refine AP rfl (N := 2) rfl (cs := #[.int .i64 kB, .int .i64 lB, .string L, .slice wB j.length yB, .slice xB b.length zB]) (t := 26) ?hr ?_); (case hr => first | (go_simp; done) | (go_simp; rfl)); intro pC hg w4 p U; have c := mk0 (p); have d := bs (be l) hg; replace l := kh l U; clear U p hg)
 (try simp only [Act.put, List.setIfInBounds_toArray, List.set_cons_zero, List.set_cons_succ])
 go_cut [26] (fun v26 wc => ∃ (kq : Nat) (dD : Bool), v26 = .bool dD ∧ Aside0 (BB.j0 kq l1 dD kB lB L j b = some r) ∧ Aside0 (kq ≤ k) ∧ Aside0 (wc.heap[pC]? = some (.cells #[.int .i64 kB, .int .i64 lB, .string L, (.slice wB j.length yB), (.slice xB b.length zB)] 26 (0, 0))) ∧ Aside0 (Below w.heap.size w wc))
 case first =>
  have H := nD.out; clear nD
  by_cases c5 : (L.size : Int) > 300
  ·rw [if_pos c5] at H
   have tC : decide (300 < (L.size : Int)) = true := decide_eq_true c5
   have dE : decide (300 < L.size) = true := decide_eq_true (by omega)
   clear c5
   (first | rw [tC] | (simp only [CP, Dj]; rw [tC]) | skip)
   have H' := mk0 H
   clear H
   have z6 := cells5 c.out
   go_wp2
   go_meet
   case rel => exact ⟨_, (true), rfl, H', ⟨by omega⟩, ⟨bu c⟩, ⟨be1 l d⟩⟩
  rw [if_neg c5] at H; have tC : decide (300 < (L.size : Int)) = false := decide_eq_false c5
  have dE : decide (300 < L.size) = false := decide_eq_false (by omega)
  clear c5
  (first | rw [tC] | (simp only [CP, Dj]; rw [tC]) | skip)
  by_cases c7 : (j.length : Int) > 40
  rotate_left
  ·rw [if_neg c7] at H
   have eE : decide (40 < (j.length : Int)) = false := decide_eq_false c7
   have fE : decide (40 < j.length) = false := decide_eq_false (by omega)
   clear c7
   have H' := mk0 H
   clear H
   have z9 := cells5 c.out
   go_wp2
   go_meet
   case rel => exact ⟨_, (decide ((b.length : Int) > 3)), rfl, H', ⟨by omega⟩, ⟨bu c⟩, ⟨be1 l d⟩⟩
  rw [if_pos c7] at H; have eE : decide (40 < (j.length : Int)) = true := decide_eq_true c7
  have fE : decide (40 < j.length) = true := decide_eq_true (by omega)
  clear c7
  have H' := mk0 H
  clear H
  have z8 := cells5 c.out
  go_wp2
  go_meet
  case rel => exact ⟨_, (true), rfl, H', ⟨by omega⟩, ⟨bu c⟩, ⟨be1 l d⟩⟩
 case rest =>
  clear nD; try clear c1
  obtain ⟨kq, dD, rfl, HA, rC, c, l⟩ := hcut
  cases kq with
  | zero => exact absurd HA.out (by simp [BB.j0])
  | succ hE =>
   have H := HA.out; clear HA
   simp only [BB.j0] at H
   replace H := iB H; obtain ⟨rfl, H⟩ | ⟨rfl, H⟩ := H
   ·obtain rfl := sI H
    go_wp2
    go_ret
    exact ⟨rfl, be1 l d⟩
   have H' := mk0 H
   clear H
   have uF := cells5 c.out
   go_wp2
   go_loopg [30] hE (fun kq v30 w' => ∃ (n : Int), v30 = .int .i64 n ∧ Aside0 (BB.l0 kq l1 j (j.length : Int) n kB lB L j b = some r) ∧ Aside0 (kq ≤ hE) ∧ Aside0 (w'.heap[pC]? = some (.cells #[.int .i64 kB, .int .i64 lB, .string L, (.slice wB j.length yB), (.slice xB b.length zB)] 26 (0, 0))) ∧ Aside0 (Below w.heap.size w w'))
   case atStart => exact ⟨(0), rfl, H', ⟨Nat.le_refl _⟩, ⟨bu c⟩, ⟨be1 l d⟩⟩
   case round =>
    clear H'
    try clear c1
    obtain ⟨n, rfl, HA, sC, c, l⟩ := hrel
    cases gk with
    | zero => exact absurd HA.out (by simp [BB.l0])
    | succ k2 =>
     have H := HA.out; clear HA
     simp only [BB.l0] at H
     replace H := iD H; obtain ⟨-, xC, H⟩ | ⟨-, xC, H⟩ := H
     ·replace H := iN H; obtain ⟨-, mE, H⟩ := H
      replace H := iN H; obtain ⟨-, nE, H⟩ := H
      by_cases c15 : ((EZ ByteArray.empty j n).size : Int) > 100
      ·rw [if_pos c15] at H
       have rD : decide (100 < ((EZ ByteArray.empty j n).size : Int)) = true := decide_eq_true c15
       have sD : decide (100 < (EZ ByteArray.empty j n).size) = true := decide_eq_true (by omega)
       clear c15; obtain rfl := sI H
       have gC : 0 ≤ (n : Int) := od
       have iC : n < (j.length : Int) := od
       obtain ⟨oD, kD, aB⟩ := Kd.EN gD.out n gC iC
       cases kD
       replace aB := Ae l.out aB
       replace gC := eq_true gC; replace iC := eq_true iC
       go_wp2
       go_ret
       exact ⟨rfl, be1 l d⟩
      rw [if_neg c15] at H; have rD : decide (100 < ((EZ ByteArray.empty j n).size : Int)) = false := decide_eq_false c15
      have sD : decide (100 < (EZ ByteArray.empty j n).size) = false := decide_eq_false (by omega)
      clear c15
      have H' := mk0 H
      clear H
      have gC : 0 ≤ (n : Int) := od
      have iC : n < (j.length : Int) := od
      obtain ⟨oD, kD, aB⟩ := Kd.EN gD.out n gC iC
      cases kD
      replace aB := Ae l.out aB
      replace gC := eq_true gC; replace iC := eq_true iC
      go_wp2
      go_roundg k2
      case measure => have := rC.out; have := sC.out; omega
      case rel => exact ⟨(wrap64 (n + 1)), rfl, H', ⟨by have := rC.out; have := sC.out; omega⟩, ⟨bu c⟩, ⟨be1 l d⟩⟩
     have H' := mk0 H
     clear H
     have wF := cells5 c.out
     go_wp2
     go_loopg [41] k2 (fun kq v41 w' => ∃ (a : Int), v41 = .int .i64 a ∧ Aside0 (BB.l1 kq l1 b (b.length : Int) a = some r) ∧ Aside0 (kq ≤ k2) ∧ Aside0 (w'.heap[pC]? = some (.cells #[.int .i64 kB, .int .i64 lB, .string L, (.slice wB j.length yB), (.slice xB b.length zB)] 26 (0, 0))) ∧ Aside0 (Below w.heap.size w w'))
     case atStart => exact ⟨(0), rfl, H', ⟨Nat.le_refl _⟩, ⟨bu c⟩, ⟨be1 l d⟩⟩
     case round =>
      clear H'
      try clear c1; try clear xC
      obtain ⟨a, rfl, HA, eD, c, l⟩ := hrel
      cases gk with
      | zero => exact absurd HA.out (by simp [BB.l1])
      | succ k3 =>
       have H := HA.out; clear HA
       simp only [BB.l1] at H
       replace H := iD' H; obtain ⟨-, jD, H⟩ | ⟨-, jD, H⟩ := H
       ·have H' := mk0 H
        clear H
        go_wp2
        go_loopg [57] k3 (fun kq v57 w' => ∃ (i : Int), v57 = .int .i64 i ∧ Aside0 (BB.l2 kq l1 (l1.length : Int) i = some r) ∧ Aside0 (kq ≤ k3) ∧ Aside0 (w'.heap[pC]? = some (.cells #[.int .i64 kB, .int .i64 lB, .string L, (.slice wB j.length yB), (.slice xB b.length zB)] 26 (0, 0))) ∧ Aside0 (Below w.heap.size w w'))
        case atStart => exact ⟨(0), rfl, H', ⟨Nat.le_refl _⟩, ⟨bu c⟩, ⟨be1 l d⟩⟩
        case round =>
         clear H'
         try clear c1; try clear xC; try clear jD
         obtain ⟨i, rfl, HA, bE, c, l⟩ := hrel
         cases gk with
         | zero => exact absurd HA.out (by simp [BB.l2])
         | succ k4 =>
          have H := HA.out; clear HA
          simp only [BB.l2] at H
          replace H := iD' H; obtain ⟨-, vD, H⟩ | ⟨-, vD, H⟩ := H
          ·obtain rfl := sI H
           go_wp2
           go_ret
           exact ⟨rfl, be1 l d⟩
          replace H := iN H; obtain ⟨-, qE, H⟩ := H
          replace H := iN H; obtain ⟨-, rE, H⟩ := H
          replace H := bS H; obtain ⟨mD, aE, H⟩ := H
          replace H := iD H; obtain ⟨-, wD, H⟩ | ⟨-, wD, H⟩ := H
          ·obtain rfl := sI H
           have hC : 0 ≤ (i : Int) := od
           have jC : i < (l1.length : Int) := od
           obtain ⟨pD, lC, nC, mC, oC, lD, bB, cB, dB, eB, Y, W, Z, X⟩ := Dy cE.out i hC jC
           cases lD
           replace bB := Ae l.out bB
           replace cB := Ae l.out cB
           replace dB := Ae l.out dB
           replace eB := Ae l.out eB
           have eC := mk0 W; have cC := mk0 Y; clear W Y; have fC := mk0 X; have dC := mk0 Z; clear X Z; replace hC := eq_true hC; replace jC := eq_true jC
           go_wp2_with (first | ((with_reducible refine AP rfl (N := 10) rfl (cs := #[.int .i64 0, .int .i64 0, .slice none 0 0, .slice none 0 0]) (t := 30) ?hr ?_); (case hr => first | (go_simp; done) | (go_simp; rfl)); intro yC hg qF p U; have mB := mk0 (p); have T := bs (be1 l d) hg; replace l := kh1 l d U; have ⟨I, oB⟩ := nn c hg; replace c := kb c U; clear U p hg; have ⟨vE, aF⟩ := no oB I; have z41 := BN mB.out) | ((with_reducible refine AR (f := 62) rfl ?_); refine CO Try.func62 (CK.calls k4 ((AC l1 i).f0) ((AC l1 i).f1) _ _ ((AC l1 i).f2) _ _ ((AC l1 i).f3) 9000 mD _ (Kd.BR eC.out (be2 l d T)) cC.out (Kd.BR fC.out (be2 l d T)) dC.out aE.out) ?_; intro rF U; replace c := kF I c U; replace mB := mk0 (Aa (g := yC) (o := .cells #[.int .i64 ((AC l1 i).f0), .int .i64 ((AC l1 i).f1), .slice lC ((AC l1 i).f2).length nC, .slice mC ((AC l1 i).f3).length oC] 30 (0, 0)) (pB mB) U); replace l := kh2 l d T U))
           go_ret
           exact ⟨rfl, be2 l d T⟩
          have H' := mk0 H
          clear H
          have hC : 0 ≤ (i : Int) := od
          have jC : i < (l1.length : Int) := od
          obtain ⟨pD, lC, nC, mC, oC, lD, bB, cB, dB, eB, Y, W, Z, X⟩ := Dy cE.out i hC jC
          cases lD
          replace bB := Ae l.out bB
          replace cB := Ae l.out cB
          replace dB := Ae l.out dB
          replace eB := Ae l.out eB
          have eC := mk0 W; have cC := mk0 Y; clear W Y; have fC := mk0 X; have dC := mk0 Z; clear X Z; replace hC := eq_true hC; replace jC := eq_true jC
          go_wp2_with (first | ((with_reducible refine AP rfl (N := 10) rfl (cs := #[.int .i64 0, .int .i64 0, .slice none 0 0, .slice none 0 0]) (t := 30) ?hr ?_); (case hr => first | (go_simp; done) | (go_simp; rfl)); intro yC hg sF p U; have mB := mk0 (p); have T := bs (be1 l d) hg; replace l := kh1 l d U; have ⟨I, oB⟩ := nn c hg; replace c := kb c U; clear U p hg; have ⟨wE, cF⟩ := no oB I; have z45 := BN mB.out) | ((with_reducible refine AR (f := 62) rfl ?_); refine CO Try.func62 (CK.calls k4 ((AC l1 i).f0) ((AC l1 i).f1) _ _ ((AC l1 i).f2) _ _ ((AC l1 i).f3) 9000 mD _ (Kd.BR eC.out (be2 l d T)) cC.out (Kd.BR fC.out (be2 l d T)) dC.out aE.out) ?_; intro tF U; replace c := kF I c U; replace mB := mk0 (Aa (g := yC) (o := .cells #[.int .i64 ((AC l1 i).f0), .int .i64 ((AC l1 i).f1), .slice lC ((AC l1 i).f2).length nC, .slice mC ((AC l1 i).f3).length oC] 30 (0, 0)) (pB mB) U); replace l := kh2 l d T U))
          go_roundg k4
          case measure => have := rC.out; have := sC.out; have := eD.out; have := bE.out; omega
          case rel => exact ⟨(wrap64 (i + 1)), rfl, H', ⟨by have := rC.out; have := sC.out; have := eD.out; have := bE.out; omega⟩, ⟨bu c⟩, ⟨be2 l d T⟩⟩
       replace H := iN H; obtain ⟨-, oE, H⟩ := H
       replace H := iN H; obtain ⟨-, pE, H⟩ := H
       by_cases c20 : (((Bc b a).f4).length : Int) > 2
       ·rw [if_pos c20] at H
        have tD : decide (2 < (((Bc b a).f4).length : Int)) = true := decide_eq_true c20
        have uD : decide (2 < ((Bc b a).f4).length) = true := decide_eq_true (by omega)
        clear c20; obtain rfl := sI H
        have fB : 0 ≤ (a : Int) := od
        have gB : a < (b.length : Int) := od
        obtain ⟨hD, hB, jB, aC, bC, uC, x, y, z, B, D, u, q, v, s⟩ := G7 wC.out a fB gB
        cases uC
        replace x := Ae l.out x
        replace y := Ae l.out y
        replace z := Ae l.out z
        replace B := Ae l.out B
        replace D := Ae l.out D
        have tB := mk0 q; have qB := mk0 u; clear q u; have uB := mk0 s; have sB := mk0 v; clear s v; replace fB := eq_true fB; replace gB := eq_true gB
        go_wp2_with ((with_reducible refine AP rfl (N := 8) rfl (cs := #[.int .i64 0, .int .i64 0, .string (⟨#[]⟩ : ByteArray), .slice none 0 0, .slice none 0 0]) (t := 26) ?hr ?_); (case hr => first | (go_simp; done) | (go_simp; rfl)); intro qC hg jF p U; have O := mk0 (p); have G := bs (be1 l d) hg; replace l := kh1 l d U; have ⟨m, J⟩ := nn c hg; replace c := kb c U; clear U p hg; have ⟨sE, xE⟩ := no J m; have z23 := cells5 O.out)
        go_ret
        exact ⟨rfl, be2 l d G⟩
       rw [if_neg c20] at H; have tD : decide (2 < (((Bc b a).f4).length : Int)) = false := decide_eq_false c20
       have uD : decide (2 < ((Bc b a).f4).length) = false := decide_eq_false (by omega)
       clear c20
       replace H := bS H; obtain ⟨t109, zD, H⟩ := H
       replace H := iB' H; obtain ⟨rfl, H⟩ | ⟨rfl, H⟩ := H
       ·obtain rfl := sI H
        have fB : 0 ≤ (a : Int) := od
        have gB : a < (b.length : Int) := od
        obtain ⟨hD, hB, jB, aC, bC, uC, x, y, z, B, D, u, q, v, s⟩ := G7 wC.out a fB gB
        cases uC
        replace x := Ae l.out x
        replace y := Ae l.out y
        replace z := Ae l.out z
        replace B := Ae l.out B
        replace D := Ae l.out D
        have tB := mk0 q; have qB := mk0 u; clear q u; have uB := mk0 s; have sB := mk0 v; clear s v; replace fB := eq_true fB; replace gB := eq_true gB
        go_wp2_with (first | ((with_reducible refine AP rfl (N := 8) rfl (cs := #[.int .i64 0, .int .i64 0, .string (⟨#[]⟩ : ByteArray), .slice none 0 0, .slice none 0 0]) (t := 26) ?hr ?_); (case hr => first | (go_simp; done) | (go_simp; rfl)); intro qC hg oF p U; have O := mk0 (p); have G := bs (be1 l d) hg; replace l := kh1 l d U; have ⟨m, J⟩ := nn c hg; replace c := kb c U; clear U p hg; have ⟨uE, zE⟩ := no J m; have z32 := cells5 O.out) | (go_at_call 42; (refine (ih k3 (by have := rC.out; have := sC.out; have := eD.out; omega) ((Bc b a).f0) ((Bc b a).f1) ((Bc b a).f2) _ _ ((Bc b a).f3) _ _ ((Bc b a).f4) _ _ ([] : List (S30)) false _ ?side1 ?side2 ?side3 ?side4 ?side5 ?side6 zD.out).mono ?_); (case side1 => exact Kd.BR tB.out (be2 l d G)); (case side2 => exact qB.out); (case side3 => exact Kd.BR uB.out (be2 l d G)); (case side4 => exact sB.out); (case side5 => exact Kd.Jc _ _); (case side6 => exact Nat.le_refl _); rintro e pF ⟨rfl, U⟩; replace c := kF m c U; replace O := mk0 (Aa (g := qC) (o := .cells #[.int .i64 ((Bc b a).f0), .int .i64 ((Bc b a).f1), .string ((Bc b a).f2), .slice hB ((Bc b a).f3).length jB, .slice aC ((Bc b a).f4).length bC] 26 (0, 0)) (by refine Dt ?_; refine CV (cs := #[.int .i64 ((Bc b a).f0), .int .i64 ((Bc b a).f1), .string ((Bc b a).f2), .slice hB ((Bc b a).f3).length jB, .slice none 0 0]) ?_ 4 _ rfl; refine Dt ?_; refine CV (cs := #[.int .i64 ((Bc b a).f0), .int .i64 ((Bc b a).f1), .string ((Bc b a).f2), .slice none 0 0, .slice none 0 0]) ?_ 3 _ rfl; refine Dt ?_; refine CV (cs := #[.int .i64 ((Bc b a).f0), .int .i64 ((Bc b a).f1), .string (⟨#[]⟩ : ByteArray), .slice none 0 0, .slice none 0 0]) ?_ 2 _ rfl; refine Dt ?_; refine CV (cs := #[.int .i64 ((Bc b a).f0), .int .i64 0, .string (⟨#[]⟩ : ByteArray), .slice none 0 0, .slice none 0 0]) ?_ 1 _ rfl; refine Dt ?_; refine CV (cs := #[.int .i64 0, .int .i64 0, .string (⟨#[]⟩ : ByteArray), .slice none 0 0, .slice none 0 0]) ?_ 0 _ rfl; refine Dt ?_; exact O.out) U); replace l := kh2 l d G U))
        go_ret
        exact ⟨rfl, be2 l d G⟩
       have H' := mk0 H
       clear H
       have fB : 0 ≤ (a : Int) := od
       have gB : a < (b.length : Int) := od
       obtain ⟨hD, hB, jB, aC, bC, uC, x, y, z, B, D, u, q, v, s⟩ := G7 wC.out a fB gB
       cases uC
       replace x := Ae l.out x
       replace y := Ae l.out y
       replace z := Ae l.out z
       replace B := Ae l.out B
       replace D := Ae l.out D
       have tB := mk0 q; have qB := mk0 u; clear q u; have uB := mk0 s; have sB := mk0 v; clear s v; replace fB := eq_true fB; replace gB := eq_true gB
       go_wp2_with (first | ((with_reducible refine AP rfl (N := 8) rfl (cs := #[.int .i64 0, .int .i64 0, .string (⟨#[]⟩ : ByteArray), .slice none 0 0, .slice none 0 0]) (t := 26) ?hr ?_); (case hr => first | (go_simp; done) | (go_simp; rfl)); intro qC hg lF p U; have O := mk0 (p); have G := bs (be1 l d) hg; replace l := kh1 l d U; have ⟨m, J⟩ := nn c hg; replace c := kb c U; clear U p hg; have ⟨tE, yE⟩ := no J m; have z28 := cells5 O.out) | (go_at_call 42; (refine (ih k3 (by have := rC.out; have := sC.out; have := eD.out; omega) ((Bc b a).f0) ((Bc b a).f1) ((Bc b a).f2) _ _ ((Bc b a).f3) _ _ ((Bc b a).f4) _ _ ([] : List (S30)) true _ ?side1 ?side2 ?side3 ?side4 ?side5 ?side6 zD.out).mono ?_); (case side1 => exact Kd.BR tB.out (be2 l d G)); (case side2 => exact qB.out); (case side3 => exact Kd.BR uB.out (be2 l d G)); (case side4 => exact sB.out); (case side5 => exact Kd.Jc _ _); (case side6 => exact Nat.le_refl _); rintro e mF ⟨rfl, U⟩; replace c := kF m c U; replace O := mk0 (Aa (g := qC) (o := .cells #[.int .i64 ((Bc b a).f0), .int .i64 ((Bc b a).f1), .string ((Bc b a).f2), .slice hB ((Bc b a).f3).length jB, .slice aC ((Bc b a).f4).length bC] 26 (0, 0)) (by refine Dt ?_; refine CV (cs := #[.int .i64 ((Bc b a).f0), .int .i64 ((Bc b a).f1), .string ((Bc b a).f2), .slice hB ((Bc b a).f3).length jB, .slice none 0 0]) ?_ 4 _ rfl; refine Dt ?_; refine CV (cs := #[.int .i64 ((Bc b a).f0), .int .i64 ((Bc b a).f1), .string ((Bc b a).f2), .slice none 0 0, .slice none 0 0]) ?_ 3 _ rfl; refine Dt ?_; refine CV (cs := #[.int .i64 ((Bc b a).f0), .int .i64 ((Bc b a).f1), .string (⟨#[]⟩ : ByteArray), .slice none 0 0, .slice none 0 0]) ?_ 2 _ rfl; refine Dt ?_; refine CV (cs := #[.int .i64 ((Bc b a).f0), .int .i64 0, .string (⟨#[]⟩ : ByteArray), .slice none 0 0, .slice none 0 0]) ?_ 1 _ rfl; refine Dt ?_; refine CV (cs := #[.int .i64 0, .int .i64 0, .string (⟨#[]⟩ : ByteArray), .slice none 0 0, .slice none 0 0]) ?_ 0 _ rfl; refine Dt ?_; exact O.out) U); replace l := kh2 l d G U))
       go_roundg k3
       case measure => have := rC.out; have := sC.out; have := eD.out; omega
       case rel => exact ⟨(wrap64 (a + 1)), rfl, H', ⟨by have := rC.out; have := sC.out; have := eD.out; omega⟩, ⟨bu c⟩, ⟨be2 l d G⟩⟩
end Go.Proofs.Ytojankgmedccdaa.PIs
