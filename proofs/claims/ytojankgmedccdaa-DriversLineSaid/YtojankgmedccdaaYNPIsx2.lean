/- Lemmas. -/
import Derived.Test.YtojankgmedccdaaYNPIsx1
namespace Go.Proofs.Ytojankgmedccdaa.PIs
open Go.RowKit Own PTy Hand Wo
attribute [local go_sem] BS BU Bf Bg BC BD BX BZ
set_option linter.unusedVariables false
set_option linter.unusedSimpArgs false
mutual
def BL.j0 : Nat → List (S30) → Bool → Int → Int → ByteArray → List ByteArray → List (S26) → Option (Bool)
 | 0, _, _, _, _, _, _, _ => none
 | k + 1, x1, p, c, d, e, a, b => if p = true then (some false) else (BL.l0 k x1 a (a.length : Int) 0 c d e a b)
def BL.l0 : Nat → List (S30) → List ByteArray → Int → Int → Int → Int → ByteArray → List ByteArray → List (S26) → Option (Bool)
 | 0, _, _, _, _, _, _, _, _, _ => none
 | k + 1, x1, x28, x29, x30, c, d, e, a, b => if x30 < x29 then (if 0 ≤ x30 then (if x30 < (x28.length : Int) then (if ((EI ByteArray.empty x28 x30).size : Int) > 100 then (some false) else (BL.l0 k x1 x28 x29 (wrap64 (x30 + 1)) c d e a b)) else (none)) else (none)) else (BL.l1 k x1 b (b.length : Int) 0)
def BL.l1 : Nat → List (S30) → List (S26) → Int → Int → Option (Bool)
 | 0, _, _, _, _ => none
 | k + 1, x1, x39, x40, x41 => if x41 < x40 then (if 0 ≤ x41 then (if x41 < (x39.length : Int) then (if (((Al x39 x41).f4).length : Int) > 2 then (some false) else ((BL.f k ((Al x39 x41).f0) ((Al x39 x41).f1) ((Al x39 x41).f2) ((Al x39 x41).f3) ((Al x39 x41).f4) ([] : List (S30))).bind fun t109 => (if t109 = true then (BL.l1 k x1 x39 x40 (wrap64 (x41 + 1))) else (some false)))) else (none)) else (none)) else (BL.l2 k x1 (x1.length : Int) 0)
def BL.l2 : Nat → List (S30) → Int → Int → Option (Bool)
 | 0, _, _, _ => none
 | k + 1, x55, o, g => if g < o then (if 0 ≤ g then (if g < (x55.length : Int) then ((CZ.f k ((AB x55 g).f0) ((AB x55 g).f1) ((AB x55 g).f2) ((AB x55 g).f3) 9000).bind fun n => (if n < 0 then (some false) else (BL.l2 k x55 o (wrap64 (g + 1))))) else (none)) else (none)) else (some true)
def BL.f : Nat → Int → Int → ByteArray → List ByteArray → List (S26) → List (S30) → Option (Bool)
 | 0, _, _, _, _, _, _ => none
 | k + 1, l, m, h, i, j, l1 => if (h.size : Int) > 300 then (BL.j0 k l1 true l m h i j) else (if (i.length : Int) > 40 then (BL.j0 k l1 true l m h i j) else (BL.j0 k l1 (decide ((j.length : Int) > 3)) l m h i j))
end
set_option maxHeartbeats 8000000 in
set_option maxRecDepth 100000 in
theorem BL.calls (k : Nat) : ∀ (kB : Int) (lB : Int) (L : ByteArray) (xB : Option Addr) (zB : Nat) (j : List ByteArray) (yB : Option Addr) (aC : Nat) (b : List (S26)) (A1 : Option Addr) (c1 : Nat) (l1 : List (S30)) (r : Bool) (w : World) (cD : Kd.C Kd.string w xB j.length j) (aD : j.length ≤ zB) (dD : Kd.C k26 w yB b.length b) (bD : b.length ≤ aC) (zD : Kd.C k30 w A1 l1.length l1) (yD : l1.length ≤ c1) (h : BL.f k kB lB L j b l1 = some r),
  Calls Try.prog 42 #[.agg #[.int .i64 kB, .int .i64 lB, .string L, .slice xB j.length zB, .slice yB b.length aC], .slice A1 l1.length c1] w fun e w' => e = .returned (.bool r) ∧ Below w.heap.size w w' := by
 induction k using Nat.strongRecOn with
 | _ k ih =>
 intro kB lB L xB zB j yB aC b A1 c1 l1 r w cD aD dD bD zD yD h
 cases k with
 | zero => exact absurd h (by simp [BL.f])
 | succ k =>
 simp only [BL.f] at h
 have gF := Try.underlying26
 have hF := Try.underlying30
 have hD := mk0 cD; have lE := mk0 aD; clear cD aD; have xC := mk0 dD; have mE := mk0 bD; clear dD bD; have dE := mk0 zD; have jF := mk0 yD; clear zD yD
 have l := mk0 (Below.refl w.heap.size w)
 have H := h; unfold BL.f at H
 clear h; have oD := mk0 H; clear H
 go_enter Try.func42, Try.ntmps42
 go_upto_region 1 with ((with_reducible refine AQ rfl (N := 2) rfl (cs := #[.int .i64 kB, .int .i64 lB, .string L, .slice xB j.length zB, .slice yB b.length aC]) (t := 26) ?hr ?_); (case hr => first | (go_simp; done) | (go_simp; rfl)); intro qC hg w4 p U; have c := mk0 (p); have d := bs (be l) hg; replace l := kh l U; clear U p hg)
 (try simp only [Act.put, List.setIfInBounds_toArray, List.set_cons_zero, List.set_cons_succ])
 go_cut [26] (fun v26 wc => ∃ (kq : Nat) (eD : Bool), v26 = .bool eD ∧ Aside0 (BL.j0 kq l1 eD kB lB L j b = some r) ∧ Aside0 (kq ≤ k) ∧ Aside0 (bk wc qC 26 #[.int .i64 kB, .int .i64 lB, .string L, (.slice xB j.length zB), (.slice yB b.length aC)]) ∧ Aside0 (Below w.heap.size w wc))
 case first =>
  have H := oD.out; clear oD; by_cases c5 : (L.size : Int) > 300
  ·rw [if_pos c5] at H; have uC : decide (300 < (L.size : Int)) = true := decide_eq_true c5; have eE : decide (300 < L.size) = true := decide_eq_true (by omega); clear c5; (first | rw [uC] | (simp only [Bw, DI]; rw [uC]) | skip); have H' := mk0 H; clear H; have z6 := cells5 c.out; go_wp2; go_meet
   case rel => exact ⟨_, (true), rfl, H', ⟨by omega⟩, ⟨bu c⟩, ⟨be1 l d⟩⟩
  rw [if_neg c5] at H; have uC : decide (300 < (L.size : Int)) = false := decide_eq_false c5; have eE : decide (300 < L.size) = false := decide_eq_false (by omega); clear c5; (first | rw [uC] | (simp only [Bw, DI]; rw [uC]) | skip); by_cases c7 : (j.length : Int) > 40; rotate_left
  ·rw [if_neg c7] at H; have fE : decide (40 < (j.length : Int)) = false := decide_eq_false c7; have gE : decide (40 < j.length) = false := decide_eq_false (by omega); clear c7; have H' := mk0 H; clear H; have z9 := cells5 c.out; go_wp2; go_meet
   case rel => exact ⟨_, (decide ((b.length : Int) > 3)), rfl, H', ⟨by omega⟩, ⟨bu c⟩, ⟨be1 l d⟩⟩
  rw [if_pos c7] at H; have fE : decide (40 < (j.length : Int)) = true := decide_eq_true c7; have gE : decide (40 < j.length) = true := decide_eq_true (by omega); clear c7; have H' := mk0 H; clear H; have z8 := cells5 c.out; go_wp2; go_meet
  case rel => exact ⟨_, (true), rfl, H', ⟨by omega⟩, ⟨bu c⟩, ⟨be1 l d⟩⟩
 case rest =>
  clear oD; try clear c1
  obtain ⟨kq, eD, rfl, HA, sC, c, l⟩ := hcut; cases kq with
  | zero => exact absurd HA.out (by simp [BL.j0])
  | succ jE =>
   have H := HA.out; clear HA; simp only [BL.j0] at H; replace H := iB H; obtain ⟨rfl, H⟩ | ⟨rfl, H⟩ := H
   ·obtain rfl := sI H; go_wp2; go_ret; exact ⟨rfl, be1 l d⟩
   have H' := mk0 H; clear H; have wF := cells5 c.out; go_wp2; go_loopg [30] jE (fun kq v30 w' => ∃ (n : Int), v30 = .int .i64 n ∧ Aside0 (BL.l0 kq l1 j (j.length : Int) n kB lB L j b = some r) ∧ Aside0 (kq ≤ jE) ∧ Aside0 (bk w' qC 26 #[.int .i64 kB, .int .i64 lB, .string L, (.slice xB j.length zB), (.slice yB b.length aC)]) ∧ Aside0 (Below w.heap.size w w'))
   case atStart => exact ⟨(0), rfl, H', ⟨Nat.le_refl _⟩, ⟨bu c⟩, ⟨be1 l d⟩⟩
   case round =>
    clear H'; try clear c1
    obtain ⟨n, rfl, HA, tC, c, l⟩ := hrel; cases gk with
    | zero => exact absurd HA.out (by simp [BL.l0])
    | succ k2 =>
     have H := HA.out; clear HA; simp only [BL.l0] at H; replace H := iD H; obtain ⟨-, yC, H⟩ | ⟨-, yC, H⟩ := H
     ·replace H := iN H; obtain ⟨-, nE, H⟩ := H; replace H := iN H; obtain ⟨-, oE, H⟩ := H; by_cases c15 : ((EI ByteArray.empty j n).size : Int) > 100
      ·rw [if_pos c15] at H; have sD : decide (100 < ((EI ByteArray.empty j n).size : Int)) = true := decide_eq_true c15; have tD : decide (100 < (EI ByteArray.empty j n).size) = true := decide_eq_true (by omega); clear c15; obtain rfl := sI H; have hC : 0 ≤ (n : Int) := od; have jC : n < (j.length : Int) := od; obtain ⟨pD, lD, aB⟩ := Kd.Dh hD.out n hC jC; cases lD; replace aB := AP l.out aB; replace hC := eq_true hC; replace jC := eq_true jC; go_wp2; go_ret; exact ⟨rfl, be1 l d⟩
      rw [if_neg c15] at H; have sD : decide (100 < ((EI ByteArray.empty j n).size : Int)) = false := decide_eq_false c15; have tD : decide (100 < (EI ByteArray.empty j n).size) = false := decide_eq_false (by omega); clear c15; have H' := mk0 H; clear H; have hC : 0 ≤ (n : Int) := od; have jC : n < (j.length : Int) := od; obtain ⟨pD, lD, aB⟩ := Kd.Dh hD.out n hC jC; cases lD; replace aB := AP l.out aB; replace hC := eq_true hC; replace jC := eq_true jC; go_wp2; go_roundg k2
      case measure => have := sC.out; have := tC.out; omega
      case rel => exact ⟨(wrap64 (n + 1)), rfl, H', ⟨by have := sC.out; have := tC.out; omega⟩, ⟨bu c⟩, ⟨be1 l d⟩⟩
     have H' := mk0 H; clear H; have xF := cells5 c.out; go_wp2; go_loopg [41] k2 (fun kq v41 w' => ∃ (a : Int), v41 = .int .i64 a ∧ Aside0 (BL.l1 kq l1 b (b.length : Int) a = some r) ∧ Aside0 (kq ≤ k2) ∧ Aside0 (bk w' qC 26 #[.int .i64 kB, .int .i64 lB, .string L, (.slice xB j.length zB), (.slice yB b.length aC)]) ∧ Aside0 (Below w.heap.size w w'))
     case atStart => exact ⟨(0), rfl, H', ⟨Nat.le_refl _⟩, ⟨bu c⟩, ⟨be1 l d⟩⟩
     case round =>
      clear H'; try clear c1; try clear yC
      obtain ⟨a, rfl, HA, fD, c, l⟩ := hrel; cases gk with
      | zero => exact absurd HA.out (by simp [BL.l1])
      | succ k3 =>
       have H := HA.out; clear HA; simp only [BL.l1] at H; replace H := iD' H; obtain ⟨-, kD, H⟩ | ⟨-, kD, H⟩ := H
       ·have H' := mk0 H; clear H; go_wp2; go_loopg [57] k3 (fun kq v57 w' => ∃ (i : Int), v57 = .int .i64 i ∧ Aside0 (BL.l2 kq l1 (l1.length : Int) i = some r) ∧ Aside0 (kq ≤ k3) ∧ Aside0 (bk w' qC 26 #[.int .i64 kB, .int .i64 lB, .string L, (.slice xB j.length zB), (.slice yB b.length aC)]) ∧ Aside0 (Below w.heap.size w w'))
        case atStart => exact ⟨(0), rfl, H', ⟨Nat.le_refl _⟩, ⟨bu c⟩, ⟨be1 l d⟩⟩
        case round =>
         clear H'; try clear c1; try clear yC; try clear kD
         obtain ⟨i, rfl, HA, cE, c, l⟩ := hrel; cases gk with
         | zero => exact absurd HA.out (by simp [BL.l2])
         | succ k4 =>
          have H := HA.out; clear HA; simp only [BL.l2] at H; replace H := iD' H; obtain ⟨-, wD, H⟩ | ⟨-, wD, H⟩ := H
          ·obtain rfl := sI H; go_wp2; go_ret; exact ⟨rfl, be1 l d⟩
          replace H := iN H; obtain ⟨-, rE, H⟩ := H; replace H := iN H; obtain ⟨-, sE, H⟩ := H; replace H := bS H; obtain ⟨nD, bE, H⟩ := H; replace H := iD H; obtain ⟨-, xD, H⟩ | ⟨-, xD, H⟩ := H
          ·obtain rfl := sI H; have iC : 0 ≤ (i : Int) := od; have kC : i < (l1.length : Int) := od; obtain ⟨qD, mC, oC, nC, pC, mD, bB, cB, dB, eB, Y, W, Z, X⟩ := D8 dE.out i iC kC; cases mD; replace bB := AP l.out bB; replace cB := AP l.out cB; replace dB := AP l.out dB; replace eB := AP l.out eB; have fC := mk0 W; have dC := mk0 Y; clear W Y; have gC := mk0 X; have eC := mk0 Z; clear X Z; replace iC := eq_true iC; replace kC := eq_true kC; go_wp2_with (first | ((with_reducible refine AQ rfl (N := 10) rfl (cs := #[.int .i64 0, .int .i64 0, .slice none 0 0, .slice none 0 0]) (t := 30) ?hr ?_); (case hr => first | (go_simp; done) | (go_simp; rfl)); intro zC hg rF p U; have mB := mk0 (p); have T := bs (be1 l d) hg; replace l := kh1 l d U; have ⟨I, qB⟩ := nn c hg; replace c := kb c U; clear U p hg; have ⟨wE, cF⟩ := no qB I; have z41 := Ay mB.out) | ((with_reducible refine AJ (f := 62) rfl ?_); refine CS Try.func62 (CZ.calls k4 ((AB l1 i).f0) ((AB l1 i).f1) _ _ ((AB l1 i).f2) _ _ ((AB l1 i).f3) 9000 nD _ (Kd.Ap fC.out (be2 l d T)) dC.out (Kd.Ap gC.out (be2 l d T)) eC.out bE.out) ?_; intro sF U; replace c := kF I c U; replace mB := mk0 (AX (g := zC) (o := .cells #[.int .i64 ((AB l1 i).f0), .int .i64 ((AB l1 i).f1), .slice mC ((AB l1 i).f2).length oC, .slice nC ((AB l1 i).f3).length pC] 30 (0, 0)) (pB mB) U); replace l := kh2 l d T U)); go_ret; exact ⟨rfl, be2 l d T⟩
          have H' := mk0 H; clear H; have iC : 0 ≤ (i : Int) := od; have kC : i < (l1.length : Int) := od; obtain ⟨qD, mC, oC, nC, pC, mD, bB, cB, dB, eB, Y, W, Z, X⟩ := D8 dE.out i iC kC; cases mD; replace bB := AP l.out bB; replace cB := AP l.out cB; replace dB := AP l.out dB; replace eB := AP l.out eB; have fC := mk0 W; have dC := mk0 Y; clear W Y; have gC := mk0 X; have eC := mk0 Z; clear X Z; replace iC := eq_true iC; replace kC := eq_true kC; go_wp2_with (first | ((with_reducible refine AQ rfl (N := 10) rfl (cs := #[.int .i64 0, .int .i64 0, .slice none 0 0, .slice none 0 0]) (t := 30) ?hr ?_); (case hr => first | (go_simp; done) | (go_simp; rfl)); intro zC hg tF p U; have mB := mk0 (p); have T := bs (be1 l d) hg; replace l := kh1 l d U; have ⟨I, qB⟩ := nn c hg; replace c := kb c U; clear U p hg; have ⟨xE, dF⟩ := no qB I; have z45 := Ay mB.out) | ((with_reducible refine AJ (f := 62) rfl ?_); refine CS Try.func62 (CZ.calls k4 ((AB l1 i).f0) ((AB l1 i).f1) _ _ ((AB l1 i).f2) _ _ ((AB l1 i).f3) 9000 nD _ (Kd.Ap fC.out (be2 l d T)) dC.out (Kd.Ap gC.out (be2 l d T)) eC.out bE.out) ?_; intro uF U; replace c := kF I c U; replace mB := mk0 (AX (g := zC) (o := .cells #[.int .i64 ((AB l1 i).f0), .int .i64 ((AB l1 i).f1), .slice mC ((AB l1 i).f2).length oC, .slice nC ((AB l1 i).f3).length pC] 30 (0, 0)) (pB mB) U); replace l := kh2 l d T U)); go_roundg k4
          case measure => have := sC.out; have := tC.out; have := fD.out; have := cE.out; omega
          case rel => exact ⟨(wrap64 (i + 1)), rfl, H', ⟨by have := sC.out; have := tC.out; have := fD.out; have := cE.out; omega⟩, ⟨bu c⟩, ⟨be2 l d T⟩⟩
       replace H := iN H; obtain ⟨-, pE, H⟩ := H; replace H := iN H; obtain ⟨-, qE, H⟩ := H; by_cases c20 : (((Al b a).f4).length : Int) > 2
       ·rw [if_pos c20] at H; have uD : decide (2 < (((Al b a).f4).length : Int)) = true := decide_eq_true c20; have vD : decide (2 < ((Al b a).f4).length) = true := decide_eq_true (by omega); clear c20; obtain rfl := sI H; have fB : 0 ≤ (a : Int) := od; have gB : a < (b.length : Int) := od; obtain ⟨jD, hB, jB, bC, cC, vC, x, y, z, B, D, u, q, v, s⟩ := Fe xC.out a fB gB; cases vC; replace x := AP l.out x; replace y := AP l.out y; replace z := AP l.out z; replace B := AP l.out B; replace D := AP l.out D; have uB := mk0 q; have sB := mk0 u; clear q u; have wB := mk0 s; have tB := mk0 v; clear s v; replace fB := eq_true fB; replace gB := eq_true gB; go_wp2_with ((with_reducible refine AQ rfl (N := 8) rfl (cs := #[.int .i64 0, .int .i64 0, .string (⟨#[]⟩ : ByteArray), .slice none 0 0, .slice none 0 0]) (t := 26) ?hr ?_); (case hr => first | (go_simp; done) | (go_simp; rfl)); intro rC hg lF p U; have O := mk0 (p); have G := bs (be1 l d) hg; replace l := kh1 l d U; have ⟨m, J⟩ := nn c hg; replace c := kb c U; clear U p hg; have ⟨tE, yE⟩ := no J m; have z23 := cells5 O.out); go_ret; exact ⟨rfl, be2 l d G⟩
       rw [if_neg c20] at H; have uD : decide (2 < (((Al b a).f4).length : Int)) = false := decide_eq_false c20; have vD : decide (2 < ((Al b a).f4).length) = false := decide_eq_false (by omega); clear c20; replace H := bS H; obtain ⟨t109, aE, H⟩ := H; replace H := iB' H; obtain ⟨rfl, H⟩ | ⟨rfl, H⟩ := H
       ·obtain rfl := sI H; have fB : 0 ≤ (a : Int) := od; have gB : a < (b.length : Int) := od; obtain ⟨jD, hB, jB, bC, cC, vC, x, y, z, B, D, u, q, v, s⟩ := Fe xC.out a fB gB; cases vC; replace x := AP l.out x; replace y := AP l.out y; replace z := AP l.out z; replace B := AP l.out B; replace D := AP l.out D; have uB := mk0 q; have sB := mk0 u; clear q u; have wB := mk0 s; have tB := mk0 v; clear s v; replace fB := eq_true fB; replace gB := eq_true gB; go_wp2_with (first | ((with_reducible refine AQ rfl (N := 8) rfl (cs := #[.int .i64 0, .int .i64 0, .string (⟨#[]⟩ : ByteArray), .slice none 0 0, .slice none 0 0]) (t := 26) ?hr ?_); (case hr => first | (go_simp; done) | (go_simp; rfl)); intro rC hg pF p U; have O := mk0 (p); have G := bs (be1 l d) hg; replace l := kh1 l d U; have ⟨m, J⟩ := nn c hg; replace c := kb c U; clear U p hg; have ⟨vE, aF⟩ := no J m; have z32 := cells5 O.out) | (go_at_call 42; (refine (ih k3 (by have := sC.out; have := tC.out; have := fD.out; omega) ((Al b a).f0) ((Al b a).f1) ((Al b a).f2) _ _ ((Al b a).f3) _ _ ((Al b a).f4) _ _ ([] : List (S30)) false _ ?side1 ?side2 ?side3 ?side4 ?side5 ?side6 aE.out).mono ?_); (case side1 => exact Kd.Ap uB.out (be2 l d G)); (case side2 => exact sB.out); (case side3 => exact Kd.Ap wB.out (be2 l d G)); (case side4 => exact tB.out); (case side5 => exact Kd.GY _ _); (case side6 => exact Nat.le_refl _); rintro e qF ⟨rfl, U⟩; replace c := kF m c U; replace O := mk0 (AX (g := rC) (o := .cells #[.int .i64 ((Al b a).f0), .int .i64 ((Al b a).f1), .string ((Al b a).f2), .slice hB ((Al b a).f3).length jB, .slice bC ((Al b a).f4).length cC] 26 (0, 0)) (by refine De ?_; refine CU (cs := #[.int .i64 ((Al b a).f0), .int .i64 ((Al b a).f1), .string ((Al b a).f2), .slice hB ((Al b a).f3).length jB, .slice none 0 0]) ?_ 4 _ rfl; refine De ?_; refine CU (cs := #[.int .i64 ((Al b a).f0), .int .i64 ((Al b a).f1), .string ((Al b a).f2), .slice none 0 0, .slice none 0 0]) ?_ 3 _ rfl; refine De ?_; refine CU (cs := #[.int .i64 ((Al b a).f0), .int .i64 ((Al b a).f1), .string (⟨#[]⟩ : ByteArray), .slice none 0 0, .slice none 0 0]) ?_ 2 _ rfl; refine De ?_; refine CU (cs := #[.int .i64 ((Al b a).f0), .int .i64 0, .string (⟨#[]⟩ : ByteArray), .slice none 0 0, .slice none 0 0]) ?_ 1 _ rfl; refine De ?_; refine CU (cs := #[.int .i64 0, .int .i64 0, .string (⟨#[]⟩ : ByteArray), .slice none 0 0, .slice none 0 0]) ?_ 0 _ rfl; refine De ?_; exact O.out) U); replace l := kh2 l d G U)); go_ret; exact ⟨rfl, be2 l d G⟩
       have H' := mk0 H; clear H; have fB : 0 ≤ (a : Int) := od; have gB : a < (b.length : Int) := od; obtain ⟨jD, hB, jB, bC, cC, vC, x, y, z, B, D, u, q, v, s⟩ := Fe xC.out a fB gB; cases vC; replace x := AP l.out x; replace y := AP l.out y; replace z := AP l.out z; replace B := AP l.out B; replace D := AP l.out D; have uB := mk0 q; have sB := mk0 u; clear q u; have wB := mk0 s; have tB := mk0 v; clear s v; replace fB := eq_true fB; replace gB := eq_true gB; go_wp2_with (first | ((with_reducible refine AQ rfl (N := 8) rfl (cs := #[.int .i64 0, .int .i64 0, .string (⟨#[]⟩ : ByteArray), .slice none 0 0, .slice none 0 0]) (t := 26) ?hr ?_); (case hr => first | (go_simp; done) | (go_simp; rfl)); intro rC hg mF p U; have O := mk0 (p); have G := bs (be1 l d) hg; replace l := kh1 l d U; have ⟨m, J⟩ := nn c hg; replace c := kb c U; clear U p hg; have ⟨uE, zE⟩ := no J m; have z28 := cells5 O.out) | (go_at_call 42; (refine (ih k3 (by have := sC.out; have := tC.out; have := fD.out; omega) ((Al b a).f0) ((Al b a).f1) ((Al b a).f2) _ _ ((Al b a).f3) _ _ ((Al b a).f4) _ _ ([] : List (S30)) true _ ?side1 ?side2 ?side3 ?side4 ?side5 ?side6 aE.out).mono ?_); (case side1 => exact Kd.Ap uB.out (be2 l d G)); (case side2 => exact sB.out); (case side3 => exact Kd.Ap wB.out (be2 l d G)); (case side4 => exact tB.out); (case side5 => exact Kd.GY _ _); (case side6 => exact Nat.le_refl _); rintro e oF ⟨rfl, U⟩; replace c := kF m c U; replace O := mk0 (AX (g := rC) (o := .cells #[.int .i64 ((Al b a).f0), .int .i64 ((Al b a).f1), .string ((Al b a).f2), .slice hB ((Al b a).f3).length jB, .slice bC ((Al b a).f4).length cC] 26 (0, 0)) (by refine De ?_; refine CU (cs := #[.int .i64 ((Al b a).f0), .int .i64 ((Al b a).f1), .string ((Al b a).f2), .slice hB ((Al b a).f3).length jB, .slice none 0 0]) ?_ 4 _ rfl; refine De ?_; refine CU (cs := #[.int .i64 ((Al b a).f0), .int .i64 ((Al b a).f1), .string ((Al b a).f2), .slice none 0 0, .slice none 0 0]) ?_ 3 _ rfl; refine De ?_; refine CU (cs := #[.int .i64 ((Al b a).f0), .int .i64 ((Al b a).f1), .string (⟨#[]⟩ : ByteArray), .slice none 0 0, .slice none 0 0]) ?_ 2 _ rfl; refine De ?_; refine CU (cs := #[.int .i64 ((Al b a).f0), .int .i64 0, .string (⟨#[]⟩ : ByteArray), .slice none 0 0, .slice none 0 0]) ?_ 1 _ rfl; refine De ?_; refine CU (cs := #[.int .i64 0, .int .i64 0, .string (⟨#[]⟩ : ByteArray), .slice none 0 0, .slice none 0 0]) ?_ 0 _ rfl; refine De ?_; exact O.out) U); replace l := kh2 l d G U)); go_roundg k3
       case measure => have := sC.out; have := tC.out; have := fD.out; omega
       case rel => exact ⟨(wrap64 (a + 1)), rfl, H', ⟨by have := sC.out; have := tC.out; have := fD.out; omega⟩, ⟨bu c⟩, ⟨be2 l d G⟩⟩
end Go.Proofs.Ytojankgmedccdaa.PIs
