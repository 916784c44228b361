/- Lemmas. -/
import Derived.Test.YtojankgmedccdaaYOPIsx1
namespace Go.Proofs.Ytojankgmedccdaa.PIs
open Go.RowKit Own PTy Hand Wo
attribute [local go_sem] BI BJ Ba Bc Ao Ap BL BM
set_option linter.unusedVariables false
set_option linter.unusedSimpArgs false
mutual
def BD.j0 : Nat → List (S30) → Bool → Int → Int → ByteArray → List ByteArray → List (S26) → Option (Bool)
 | 0, _, _, _, _, _, _, _ => none
 | k + 1, x1, v, c, e, h, a, b => if v = true then (some false) else (BD.l0 k x1 a (a.length : Int) 0 c e h a b)
def BD.l0 : Nat → List (S30) → List ByteArray → Int → Int → Int → Int → ByteArray → List ByteArray → List (S26) → Option (Bool)
 | 0, _, _, _, _, _, _, _, _, _ => none
 | k + 1, x1, x28, x29, x30, c, e, h, a, b => if x30 < x29 then (if 0 ≤ x30 then (if x30 < (x28.length : Int) then (if ((Ec ByteArray.empty x28 x30).size : Int) > 100 then (some false) else (BD.l0 k x1 x28 x29 (wrap64 (x30 + 1)) c e h a b)) else (none)) else (none)) else (BD.l1 k x1 b (b.length : Int) 0)
def BD.l1 : Nat → List (S30) → List (S26) → Int → Int → Option (Bool)
 | 0, _, _, _, _ => none
 | k + 1, x1, x39, x40, x41 => if x41 < x40 then (if 0 ≤ x41 then (if x41 < (x39.length : Int) then (if (((Bd x39 x41).f4).length : Int) > 2 then (some false) else ((BD.f k ((Bd x39 x41).f0) ((Bd x39 x41).f1) ((Bd x39 x41).f2) ((Bd x39 x41).f3) ((Bd x39 x41).f4) ([] : List (S30))).bind fun t109 => (if t109 = true then (BD.l1 k x1 x39 x40 (wrap64 (x41 + 1))) else (some false)))) else (none)) else (none)) else (BD.l2 k x1 (x1.length : Int) 0)
def BD.l2 : Nat → List (S30) → Int → Int → Option (Bool)
 | 0, _, _, _ => none
 | k + 1, x55, u, i => if i < u then (if 0 ≤ i then (if i < (x55.length : Int) then ((CF.f k ((AB x55 i).f0) ((AB x55 i).f1) ((AB x55 i).f2) ((AB x55 i).f3) 9000).bind fun s => (if s < 0 then (some false) else (BD.l2 k x55 u (wrap64 (i + 1))))) else (none)) else (none)) else (some true)
def BD.f : Nat → Int → Int → ByteArray → List ByteArray → List (S26) → List (S30) → Option (Bool)
 | 0, _, _, _, _, _, _ => none
 | k + 1, q, r, j, l, o, l1 => if (j.size : Int) > 300 then (BD.j0 k l1 true q r j l o) else (if (l.length : Int) > 40 then (BD.j0 k l1 true q r j l o) else (BD.j0 k l1 (decide ((o.length : Int) > 3)) q r j l o))
end
set_option maxHeartbeats 8000000 in
set_option maxRecDepth 100000 in
theorem BD.calls (k : Nat) : ∀ (uB : Int) (wB : Int) (Y : ByteArray) (dC : Option Addr) (fC : Nat) (l : List ByteArray) (eC : Option Addr) (gC : Nat) (b : List (S26)) (A1 : Option Addr) (c1 : Nat) (l1 : List (S30)) (r : Bool) (w : World) (jD : Kd.C Kd.string w dC l.length l) (gD : l.length ≤ fC) (kD : Kd.C k26 w eC b.length b) (hD : b.length ≤ gC) (fE : Kd.C k30 w A1 l1.length l1) (eE : l1.length ≤ c1) (h : BD.f k uB wB Y l b l1 = some r),
  Calls Try.prog 42 #[.agg #[.int .i64 uB, .int .i64 wB, .string Y, .slice dC l.length fC, .slice eC b.length gC], .slice A1 l1.length c1] w fun e w' => e = .returned (.bool r) ∧ Below w.heap.size w w' := by
 induction k using Nat.strongRecOn with
 | _ k ih =>
 intro uB wB Y dC fC l eC gC b A1 c1 l1 r w jD gD kD hD fE eE h
 cases k with
 | zero => exact absurd h (by simp [BD.f])
 | succ k =>
 simp only [BD.f] at h
 have pF := Try.underlying26
 have qF := Try.underlying30
 have oD := mk0 jD; have rE := mk0 gD; clear jD gD; have dD := mk0 kD; have sE := mk0 hD; clear kD hD; have kE := mk0 fE; have rF := mk0 eE; clear fE eE
 have q := mk0 (Below.refl w.heap.size w)
 have H := h; unfold BD.f at H
 clear h; have uD := mk0 H; clear H
 go_enter Try.func42, Try.ntmps42
 go_upto_region 1 with ((with_reducible refine AU rfl (N := 2) rfl (cs := #[.int .i64 uB, .int .i64 wB, .string Y, .slice dC l.length fC, .slice eC b.length gC]) (t := 26) ?hr ?_); (case hr => first | (go_simp; done) | (go_simp; rfl)); intro wC hg w4 v hb; have c := mk0 (v); have i := bs (be q) hg; replace q := kh q hb; clear hb v hg)
 (try simp only [Act.put, List.setIfInBounds_toArray, List.set_cons_zero, List.set_cons_succ])
 go_cut [26] (fun v26 wc => ∃ (kq : Nat) (lD : Bool), v26 = .bool lD ∧ Aside0 (BD.j0 kq l1 lD uB wB Y l b = some r) ∧ Aside0 (kq ≤ k) ∧ Aside0 (bk wc wC 26 #[.int .i64 uB, .int .i64 wB, .string Y, (.slice dC l.length fC), (.slice eC b.length gC)]) ∧ Aside0 (Below w.heap.size w wc))
 case first =>
  have H := uD.out; clear uD; by_cases c5 : (Y.size : Int) > 300
  ·rw [if_pos c5] at H; have aD : decide (300 < (Y.size : Int)) = true := decide_eq_true c5; have lE : decide (300 < Y.size) = true := decide_eq_true (by omega); clear c5; (first | rw [aD] | (simp only [CG, DK]; rw [aD]) | skip); have H' := mk0 H; clear H; have z6 := cells5 c.out; go_wp2; go_meet
   case rel => exact ⟨_, (true), rfl, H', ⟨by omega⟩, ⟨bu c⟩, ⟨be1 q i⟩⟩
  rw [if_neg c5] at H; have aD : decide (300 < (Y.size : Int)) = false := decide_eq_false c5; have lE : decide (300 < Y.size) = false := decide_eq_false (by omega); clear c5; (first | rw [aD] | (simp only [CG, DK]; rw [aD]) | skip); by_cases c7 : (l.length : Int) > 40; rotate_left
  ·rw [if_neg c7] at H; have mE : decide (40 < (l.length : Int)) = false := decide_eq_false c7; have nE : decide (40 < l.length) = false := decide_eq_false (by omega); clear c7; have H' := mk0 H; clear H; have z9 := cells5 c.out; go_wp2; go_meet
   case rel => exact ⟨_, (decide ((b.length : Int) > 3)), rfl, H', ⟨by omega⟩, ⟨bu c⟩, ⟨be1 q i⟩⟩
  rw [if_pos c7] at H; have mE : decide (40 < (l.length : Int)) = true := decide_eq_true c7; have nE : decide (40 < l.length) = true := decide_eq_true (by omega); clear c7; have H' := mk0 H; clear H; have z8 := cells5 c.out; go_wp2; go_meet
  case rel => exact ⟨_, (true), rfl, H', ⟨by omega⟩, ⟨bu c⟩, ⟨be1 q i⟩⟩
 case rest =>
  clear uD; try clear c1
  obtain ⟨kq, lD, rfl, HA, yC, c, q⟩ := hcut; cases kq with
  | zero => exact absurd HA.out (by simp [BD.j0])
  | succ pE =>
   have H := HA.out; clear HA; simp only [BD.j0] at H; replace H := iB H; obtain ⟨rfl, H⟩ | ⟨rfl, H⟩ := H
   ·obtain rfl := sI H; go_wp2; go_ret; exact ⟨rfl, be1 q i⟩
   have H' := mk0 H; clear H; have cG := cells5 c.out; go_wp2; go_loopg [30] pE (fun kq v30 w' => ∃ (u : Int), v30 = .int .i64 u ∧ Aside0 (BD.l0 kq l1 l (l.length : Int) u uB wB Y l b = some r) ∧ Aside0 (kq ≤ pE) ∧ Aside0 (bk w' wC 26 #[.int .i64 uB, .int .i64 wB, .string Y, (.slice dC l.length fC), (.slice eC b.length gC)]) ∧ Aside0 (Below w.heap.size w w'))
   case atStart => exact ⟨(0), rfl, H', ⟨Nat.le_refl _⟩, ⟨bu c⟩, ⟨be1 q i⟩⟩
   case round =>
    clear H'; try clear c1
    obtain ⟨u, rfl, HA, zC, c, q⟩ := hrel; cases gk with
    | zero => exact absurd HA.out (by simp [BD.l0])
    | succ k2 =>
     have H := HA.out; clear HA; simp only [BD.l0] at H; replace H := iD H; obtain ⟨-, eD, H⟩ | ⟨-, eD, H⟩ := H
     ·replace H := iN H; obtain ⟨-, tE, H⟩ := H; replace H := iN H; obtain ⟨-, uE, H⟩ := H; by_cases c15 : ((Ec ByteArray.empty l u).size : Int) > 100
      ·rw [if_pos c15] at H; have yD : decide (100 < ((Ec ByteArray.empty l u).size : Int)) = true := decide_eq_true c15; have zD : decide (100 < (Ec ByteArray.empty l u).size) = true := decide_eq_true (by omega); clear c15; obtain rfl := sI H; have nC : 0 ≤ (u : Int) := od; have pC : u < (l.length : Int) := od; obtain ⟨vD, rD, gB⟩ := Kd.EK oD.out u nC pC; cases rD; replace gB := AY q.out gB; replace nC := eq_true nC; replace pC := eq_true pC; go_wp2; go_ret; exact ⟨rfl, be1 q i⟩
      rw [if_neg c15] at H; have yD : decide (100 < ((Ec ByteArray.empty l u).size : Int)) = false := decide_eq_false c15; have zD : decide (100 < (Ec ByteArray.empty l u).size) = false := decide_eq_false (by omega); clear c15; have H' := mk0 H; clear H; have nC : 0 ≤ (u : Int) := od; have pC : u < (l.length : Int) := od; obtain ⟨vD, rD, gB⟩ := Kd.EK oD.out u nC pC; cases rD; replace gB := AY q.out gB; replace nC := eq_true nC; replace pC := eq_true pC; go_wp2; go_roundg k2
      case measure => have := yC.out; have := zC.out; omega
      case rel => exact ⟨(wrap64 (u + 1)), rfl, H', ⟨by have := yC.out; have := zC.out; omega⟩, ⟨bu c⟩, ⟨be1 q i⟩⟩
     have H' := mk0 H; clear H; have dG := cells5 c.out; go_wp2; go_loopg [41] k2 (fun kq v41 w' => ∃ (a : Int), v41 = .int .i64 a ∧ Aside0 (BD.l1 kq l1 b (b.length : Int) a = some r) ∧ Aside0 (kq ≤ k2) ∧ Aside0 (bk w' wC 26 #[.int .i64 uB, .int .i64 wB, .string Y, (.slice dC l.length fC), (.slice eC b.length gC)]) ∧ Aside0 (Below w.heap.size w w'))
     case atStart => exact ⟨(0), rfl, H', ⟨Nat.le_refl _⟩, ⟨bu c⟩, ⟨be1 q i⟩⟩
     case round =>
      clear H'; try clear c1; try clear eD
      obtain ⟨a, rfl, HA, mD, c, q⟩ := hrel; cases gk with
      | zero => exact absurd HA.out (by simp [BD.l1])
      | succ k3 =>
       have H := HA.out; clear HA; simp only [BD.l1] at H; replace H := iD' H; obtain ⟨-, qD, H⟩ | ⟨-, qD, H⟩ := H
       ·have H' := mk0 H; clear H; go_wp2; go_loopg [57] k3 (fun kq v57 w' => ∃ (j : Int), v57 = .int .i64 j ∧ Aside0 (BD.l2 kq l1 (l1.length : Int) j = some r) ∧ Aside0 (kq ≤ k3) ∧ Aside0 (bk w' wC 26 #[.int .i64 uB, .int .i64 wB, .string Y, (.slice dC l.length fC), (.slice eC b.length gC)]) ∧ Aside0 (Below w.heap.size w w'))
        case atStart => exact ⟨(0), rfl, H', ⟨Nat.le_refl _⟩, ⟨bu c⟩, ⟨be1 q i⟩⟩
        case round =>
         clear H'; try clear c1; try clear eD; try clear qD
         obtain ⟨j, rfl, HA, jE, c, q⟩ := hrel; cases gk with
         | zero => exact absurd HA.out (by simp [BD.l2])
         | succ k4 =>
          have H := HA.out; clear HA; simp only [BD.l2] at H; replace H := iD' H; obtain ⟨-, cE, H⟩ | ⟨-, cE, H⟩ := H
          ·obtain rfl := sI H; go_wp2; go_ret; exact ⟨rfl, be1 q i⟩
          replace H := iN H; obtain ⟨-, xE, H⟩ := H; replace H := iN H; obtain ⟨-, yE, H⟩ := H; replace H := bS H; obtain ⟨tD, hE, H⟩ := H; replace H := iD H; obtain ⟨-, dE, H⟩ | ⟨-, dE, H⟩ := H
          ·obtain rfl := sI H; have oC : 0 ≤ (j : Int) := od; have qC : j < (l1.length : Int) := od; obtain ⟨wD, sC, uC, tC, vC, sD, hB, jB, kB, lB, eB, cB, fB, dB⟩ := DV kE.out j oC qC; cases sD; replace hB := AY q.out hB; replace jB := AY q.out jB; replace kB := AY q.out kB; replace lB := AY q.out lB; have lC := mk0 cB; have jC := mk0 eB; clear cB eB; have mC := mk0 dB; have kC := mk0 fB; clear dB fB; replace oC := eq_true oC; replace qC := eq_true qC; go_wp2_with (first | ((with_reducible refine AU rfl (N := 10) rfl (cs := #[.int .i64 0, .int .i64 0, .slice none 0 0, .slice none 0 0]) (t := 30) ?hr ?_); (case hr => first | (go_simp; done) | (go_simp; rfl)); intro fD hg yF v hb; have xB := mk0 (v); have aB := bs (be1 q i) hg; replace q := kh1 q i hb; have ⟨W, yB⟩ := nn c hg; replace c := kb c hb; clear hb v hg; have ⟨dF, jF⟩ := no yB W; have z41 := Ar xB.out) | ((with_reducible refine AP (f := 62) rfl ?_); refine CS Try.func62 (CF.calls k4 ((AB l1 j).f0) ((AB l1 j).f1) _ _ ((AB l1 j).f2) _ _ ((AB l1 j).f3) 9000 tD _ (Kd.Ak lC.out (be2 q i aB)) jC.out (Kd.Ak mC.out (be2 q i aB)) kC.out hE.out) ?_; intro zF hb; replace c := kF W c hb; replace xB := mk0 (AL (g := fD) (o := .cells #[.int .i64 ((AB l1 j).f0), .int .i64 ((AB l1 j).f1), .slice sC ((AB l1 j).f2).length uC, .slice tC ((AB l1 j).f3).length vC] 30 (0, 0)) (pB xB) hb); replace q := kh2 q i aB hb)); go_ret; exact ⟨rfl, be2 q i aB⟩
          have H' := mk0 H; clear H; have oC : 0 ≤ (j : Int) := od; have qC : j < (l1.length : Int) := od; obtain ⟨wD, sC, uC, tC, vC, sD, hB, jB, kB, lB, eB, cB, fB, dB⟩ := DV kE.out j oC qC; cases sD; replace hB := AY q.out hB; replace jB := AY q.out jB; replace kB := AY q.out kB; replace lB := AY q.out lB; have lC := mk0 cB; have jC := mk0 eB; clear cB eB; have mC := mk0 dB; have kC := mk0 fB; clear dB fB; replace oC := eq_true oC; replace qC := eq_true qC; go_wp2_with (first | ((with_reducible refine AU rfl (N := 10) rfl (cs := #[.int .i64 0, .int .i64 0, .slice none 0 0, .slice none 0 0]) (t := 30) ?hr ?_); (case hr => first | (go_simp; done) | (go_simp; rfl)); intro fD hg aG v hb; have xB := mk0 (v); have aB := bs (be1 q i) hg; replace q := kh1 q i hb; have ⟨W, yB⟩ := nn c hg; replace c := kb c hb; clear hb v hg; have ⟨eF, lF⟩ := no yB W; have z45 := Ar xB.out) | ((with_reducible refine AP (f := 62) rfl ?_); refine CS Try.func62 (CF.calls k4 ((AB l1 j).f0) ((AB l1 j).f1) _ _ ((AB l1 j).f2) _ _ ((AB l1 j).f3) 9000 tD _ (Kd.Ak lC.out (be2 q i aB)) jC.out (Kd.Ak mC.out (be2 q i aB)) kC.out hE.out) ?_; intro bG hb; replace c := kF W c hb; replace xB := mk0 (AL (g := fD) (o := .cells #[.int .i64 ((AB l1 j).f0), .int .i64 ((AB l1 j).f1), .slice sC ((AB l1 j).f2).length uC, .slice tC ((AB l1 j).f3).length vC] 30 (0, 0)) (pB xB) hb); replace q := kh2 q i aB hb)); go_roundg k4
          case measure => have := yC.out; have := zC.out; have := mD.out; have := jE.out; omega
          case rel => exact ⟨(wrap64 (j + 1)), rfl, H', ⟨by have := yC.out; have := zC.out; have := mD.out; have := jE.out; omega⟩, ⟨bu c⟩, ⟨be2 q i aB⟩⟩
       replace H := iN H; obtain ⟨-, vE, H⟩ := H; replace H := iN H; obtain ⟨-, wE, H⟩ := H; by_cases c20 : (((Bd b a).f4).length : Int) > 2
       ·rw [if_pos c20] at H; have aE : decide (2 < (((Bd b a).f4).length : Int)) = true := decide_eq_true c20; have bE : decide (2 < ((Bd b a).f4).length) = true := decide_eq_true (by omega); clear c20; obtain rfl := sI H; have mB : 0 ≤ (a : Int) := od; have qB : a < (b.length : Int) := od; obtain ⟨pD, sB, tB, hC, iC, bD, I, J, L, O, T, D, z, G, B⟩ := Hw dD.out a mB qB; cases bD; replace I := AY q.out I; replace J := AY q.out J; replace L := AY q.out L; replace O := AY q.out O; replace T := AY q.out T; have bC := mk0 z; have zB := mk0 D; clear z D; have cC := mk0 B; have aC := mk0 G; clear B G; replace mB := eq_true mB; replace qB := eq_true qB; go_wp2_with ((with_reducible refine AU rfl (N := 8) rfl (cs := #[.int .i64 0, .int .i64 0, .string (⟨#[]⟩ : ByteArray), .slice none 0 0, .slice none 0 0]) (t := 26) ?hr ?_); (case hr => first | (go_simp; done) | (go_simp; rfl)); intro xC hg sF v hb; have Z := mk0 (v); have U := bs (be1 q i) hg; replace q := kh1 q i hb; have ⟨s, X⟩ := nn c hg; replace c := kb c hb; clear hb v hg; have ⟨zE, fF⟩ := no X s; have z23 := cells5 Z.out); go_ret; exact ⟨rfl, be2 q i U⟩
       rw [if_neg c20] at H; have aE : decide (2 < (((Bd b a).f4).length : Int)) = false := decide_eq_false c20; have bE : decide (2 < ((Bd b a).f4).length) = false := decide_eq_false (by omega); clear c20; replace H := bS H; obtain ⟨t109, gE, H⟩ := H; replace H := iB' H; obtain ⟨rfl, H⟩ | ⟨rfl, H⟩ := H
       ·obtain rfl := sI H; have mB : 0 ≤ (a : Int) := od; have qB : a < (b.length : Int) := od; obtain ⟨pD, sB, tB, hC, iC, bD, I, J, L, O, T, D, z, G, B⟩ := Hw dD.out a mB qB; cases bD; replace I := AY q.out I; replace J := AY q.out J; replace L := AY q.out L; replace O := AY q.out O; replace T := AY q.out T; have bC := mk0 z; have zB := mk0 D; clear z D; have cC := mk0 B; have aC := mk0 G; clear B G; replace mB := eq_true mB; replace qB := eq_true qB; go_wp2_with (first | ((with_reducible refine AU rfl (N := 8) rfl (cs := #[.int .i64 0, .int .i64 0, .string (⟨#[]⟩ : ByteArray), .slice none 0 0, .slice none 0 0]) (t := 26) ?hr ?_); (case hr => first | (go_simp; done) | (go_simp; rfl)); intro xC hg wF v hb; have Z := mk0 (v); have U := bs (be1 q i) hg; replace q := kh1 q i hb; have ⟨s, X⟩ := nn c hg; replace c := kb c hb; clear hb v hg; have ⟨cF, hF⟩ := no X s; have z32 := cells5 Z.out) | (go_at_call 42; (refine (ih k3 (by have := yC.out; have := zC.out; have := mD.out; omega) ((Bd b a).f0) ((Bd b a).f1) ((Bd b a).f2) _ _ ((Bd b a).f3) _ _ ((Bd b a).f4) _ _ ([] : List (S30)) false _ ?side1 ?side2 ?side3 ?side4 ?side5 ?side6 gE.out).mono ?_); (case side1 => exact Kd.Ak bC.out (be2 q i U)); (case side2 => exact zB.out); (case side3 => exact Kd.Ak cC.out (be2 q i U)); (case side4 => exact aC.out); (case side5 => exact Kd.GD _ _); (case side6 => exact Nat.le_refl _); rintro e xF ⟨rfl, hb⟩; replace c := kF s c hb; replace Z := mk0 (AL (g := xC) (o := .cells #[.int .i64 ((Bd b a).f0), .int .i64 ((Bd b a).f1), .string ((Bd b a).f2), .slice sB ((Bd b a).f3).length tB, .slice hC ((Bd b a).f4).length iC] 26 (0, 0)) (by refine Dl ?_; refine CP (cs := #[.int .i64 ((Bd b a).f0), .int .i64 ((Bd b a).f1), .string ((Bd b a).f2), .slice sB ((Bd b a).f3).length tB, .slice none 0 0]) ?_ 4 _ rfl; refine Dl ?_; refine CP (cs := #[.int .i64 ((Bd b a).f0), .int .i64 ((Bd b a).f1), .string ((Bd b a).f2), .slice none 0 0, .slice none 0 0]) ?_ 3 _ rfl; refine Dl ?_; refine CP (cs := #[.int .i64 ((Bd b a).f0), .int .i64 ((Bd b a).f1), .string (⟨#[]⟩ : ByteArray), .slice none 0 0, .slice none 0 0]) ?_ 2 _ rfl; refine Dl ?_; refine CP (cs := #[.int .i64 ((Bd b a).f0), .int .i64 0, .string (⟨#[]⟩ : ByteArray), .slice none 0 0, .slice none 0 0]) ?_ 1 _ rfl; refine Dl ?_; refine CP (cs := #[.int .i64 0, .int .i64 0, .string (⟨#[]⟩ : ByteArray), .slice none 0 0, .slice none 0 0]) ?_ 0 _ rfl; refine Dl ?_; exact Z.out) hb); replace q := kh2 q i U hb)); go_ret; exact ⟨rfl, be2 q i U⟩
       have H' := mk0 H; clear H; have mB : 0 ≤ (a : Int) := od; have qB : a < (b.length : Int) := od; obtain ⟨pD, sB, tB, hC, iC, bD, I, J, L, O, T, D, z, G, B⟩ := Hw dD.out a mB qB; cases bD; replace I := AY q.out I; replace J := AY q.out J; replace L := AY q.out L; replace O := AY q.out O; replace T := AY q.out T; have bC := mk0 z; have zB := mk0 D; clear z D; have cC := mk0 B; have aC := mk0 G; clear B G; replace mB := eq_true mB; replace qB := eq_true qB; go_wp2_with (first | ((with_reducible refine AU rfl (N := 8) rfl (cs := #[.int .i64 0, .int .i64 0, .string (⟨#[]⟩ : ByteArray), .slice none 0 0, .slice none 0 0]) (t := 26) ?hr ?_); (case hr => first | (go_simp; done) | (go_simp; rfl)); intro xC hg tF v hb; have Z := mk0 (v); have U := bs (be1 q i) hg; replace q := kh1 q i hb; have ⟨s, X⟩ := nn c hg; replace c := kb c hb; clear hb v hg; have ⟨aF, gF⟩ := no X s; have z28 := cells5 Z.out) | (go_at_call 42; (refine (ih k3 (by have := yC.out; have := zC.out; have := mD.out; omega) ((Bd b a).f0) ((Bd b a).f1) ((Bd b a).f2) _ _ ((Bd b a).f3) _ _ ((Bd b a).f4) _ _ ([] : List (S30)) true _ ?side1 ?side2 ?side3 ?side4 ?side5 ?side6 gE.out).mono ?_); (case side1 => exact Kd.Ak bC.out (be2 q i U)); (case side2 => exact zB.out); (case side3 => exact Kd.Ak cC.out (be2 q i U)); (case side4 => exact aC.out); (case side5 => exact Kd.GD _ _); (case side6 => exact Nat.le_refl _); rintro e uF ⟨rfl, hb⟩; replace c := kF s c hb; replace Z := mk0 (AL (g := xC) (o := .cells #[.int .i64 ((Bd b a).f0), .int .i64 ((Bd b a).f1), .string ((Bd b a).f2), .slice sB ((Bd b a).f3).length tB, .slice hC ((Bd b a).f4).length iC] 26 (0, 0)) (by refine Dl ?_; refine CP (cs := #[.int .i64 ((Bd b a).f0), .int .i64 ((Bd b a).f1), .string ((Bd b a).f2), .slice sB ((Bd b a).f3).length tB, .slice none 0 0]) ?_ 4 _ rfl; refine Dl ?_; refine CP (cs := #[.int .i64 ((Bd b a).f0), .int .i64 ((Bd b a).f1), .string ((Bd b a).f2), .slice none 0 0, .slice none 0 0]) ?_ 3 _ rfl; refine Dl ?_; refine CP (cs := #[.int .i64 ((Bd b a).f0), .int .i64 ((Bd b a).f1), .string (⟨#[]⟩ : ByteArray), .slice none 0 0, .slice none 0 0]) ?_ 2 _ rfl; refine Dl ?_; refine CP (cs := #[.int .i64 ((Bd b a).f0), .int .i64 0, .string (⟨#[]⟩ : ByteArray), .slice none 0 0, .slice none 0 0]) ?_ 1 _ rfl; refine Dl ?_; refine CP (cs := #[.int .i64 0, .int .i64 0, .string (⟨#[]⟩ : ByteArray), .slice none 0 0, .slice none 0 0]) ?_ 0 _ rfl; refine Dl ?_; exact Z.out) hb); replace q := kh2 q i U hb)); go_roundg k3
       case measure => have := yC.out; have := zC.out; have := mD.out; omega
       case rel => exact ⟨(wrap64 (a + 1)), rfl, H', ⟨by have := yC.out; have := zC.out; have := mD.out; omega⟩, ⟨bu c⟩, ⟨be2 q i U⟩⟩
end Go.Proofs.Ytojankgmedccdaa.PIs
