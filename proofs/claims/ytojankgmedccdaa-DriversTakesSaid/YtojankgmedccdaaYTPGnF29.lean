/- Lemmas for LawDriversTakes. -/
import Derived.Test.YtojankgmedccdaaYTPGnF49
namespace Go.Proofs.Ytojankgmedccdaa.PGn
open Go.RowKit Own PTy Hand PIs PAw YtojankgmedccdaaW.PrintWords YtojankgmedccdaaW.PrintLast YtojankgmedccdaaW.PrintMore
attribute [local go_sem] BN BO Be Bf Az BA BR BS
set_option linter.unusedVariables false
set_option linter.unusedSimpArgs false
mutual
def Bh.j0 : Nat → Int → Bool → Int → Int → List Int → List (S30) → List (S63) → Option (Int × Int × List Int × (List (S30)) × (List (S63)) × Bool × Int)
 | 0, _, _, _, _, _, _, _ => none
 | k + 1, x2, x24, i, j, l, m, d => if x24 = true then (some (0, 0, ([] : List Int), ([] : List (S30)), ([] : List (S63)), false, 2)) else ((EW.f i j l m d x2).bind fun s => (if s = true then (some (0, 0, ([] : List Int), ([] : List (S30)), ([] : List (S63)), false, 5)) else ((FT.f i j l m).bind fun e => (Bh.l0 k x2 false d (d.length : Int) 0 e.1 e.2.1 e.2.2.1 e.2.2.2 ([] : List (S63))))))
def Bh.l0 : Nat → Int → Bool → List (S63) → Int → Int → Int → Int → List Int → List (S30) → List (S63) → Option (Int × Int × List Int × (List (S30)) × (List (S63)) × Bool × Int)
 | 0, _, _, _, _, _, _, _, _, _, _ => none
 | k + 1, x2, u, c, r, a, n, o, p, q, b => if a < r then (if 0 ≤ a then (if a < (c.length : Int) then (if ((AA c a).f0) = x2 then ((FT.f ((AA c a).f1.f0) ((AA c a).f1.f1) ((AA c a).f1.f2) ((AA c a).f1.f3)).bind fun g => (Bh.l0 k x2 true c r (wrap64 (a + 1)) g.1 g.2.1 g.2.2.1 g.2.2.2 b)) else ((FT.f ((AA c a).f1.f0) ((AA c a).f1.f1) ((AA c a).f1.f2) ((AA c a).f1.f3)).bind fun h => (if b.length < 1954687338268 then (Bh.l0 k x2 u c r (wrap64 (a + 1)) n o p q (b ++ [(⟨(AA c a).f0, (⟨h.1, h.2.1, h.2.2.1, h.2.2.2⟩ : S30)⟩ : S63)])) else (none)))) else (none)) else (none)) else (some (n, o, p, q, b, u, 0))
end
def Bh.f (k : Nat) (g : Int) (h : Int) (i : ByteArray) (l : List ByteArray) (m : List (S26)) (a : Int) (b : Int) (c : List Int) (d : List (S30)) (e : List (S63)) (j : Int) : Option (Int × Int × List Int × (List (S30)) × (List (S63)) × Bool × Int) := (DV.f k g h i l m a b c d e).bind fun n => (if n = true then (if j < 0 then (Bh.j0 k j true a b c d e) else (Bh.j0 k j (decide (j > 2000000)) a b c d e)) else (Bh.j0 k j true a b c d e))
def Bh.T11 : Bool × List (List Nat × List Nat) := (true, [([], []), ([0], [0]), ([], []), ([2], [2]), ([], []), ([4], [4]), ([5], [5]), ([3, 6], [3, 6]), ([7], [7]), ([1, 8, 6], [1, 8]), ([0, 1, 2, 3, 4, 5, 6, 7, 8, 9], []), ([10, 9, 9, 0, 1, 2, 3, 4, 5, 6, 7, 8, 9], [9, 10])])
def Bh.B11 : List Nat := [0, 1, 0, 4, 0, 16, 48, 124, 252, 511, 1023, 2047]
theorem Bh.Pq : C9 .any (opsOf Try.f29 11) = Bh.T11 := by kernel_rfl
theorem Bh.O6 : Ca Bh.T11.2 Bh.B11 = true := by kernel_rfl
set_option maxHeartbeats 8000000 in
set_option maxRecDepth 100000 in
theorem Bh.calls {k : Nat} {zD aE : Int} {bE : ByteArray} {sD : Option Addr} {cE : Nat} {nC : List ByteArray} {tD : Option Addr} {dE : Nat} {oC : List (S26)} {uC vC : Int} {dD : Option Addr} {fD : Nat} {bC : List Int} {eD : Option Addr} {gD : Nat} {cC : List (S30)} {pE : Option Addr} {fE : Nat} {b : List (S63)} {a2 r1 r2 : Int} {r3 : List Int} {r4 : List (S30)} {r5 : List (S63)} {r6 : Bool} {r7 : Int} {w : World} (xF : Kd.C Kd.string w sD nC.length nC) (qF : nC.length ≤ cE) (yF : Kd.C k26 w tD oC.length oC) (sF : oC.length ≤ dE) (zF : Kd.C (Kd.int .u8) w dD bC.length bC) (tF : bC.length ≤ fD) (aG : Kd.C k30 w eD cC.length cC) (uF : cC.length ≤ gD) (bG : Kd.C k63 w pE b.length b) (wF : b.length ≤ fE) (h : Bh.f k zD aE bE nC oC uC vC bC cC b a2 = some (r1, r2, r3, r4, r5, r6, r7)) :
  Calls Try.prog 29 #[.agg #[.int .i64 zD, .int .i64 aE, .string bE, .slice sD nC.length cE, .slice tD oC.length dE], .agg #[.int .i64 uC, .int .i64 vC, .slice dD bC.length fD, .slice eD cC.length gD, .slice pE b.length fE], .int .i64 a2] w fun e w' => ∃ kG oH fJ : Value, e = .returned (.tuple #[.agg #[.int .i64 r1, .int .i64 r2, kG, oH, fJ], .bool r6, .int .i64 r7]) ∧ Kd.R (Kd.int .u8) 73 w' w.heap.size (fun _ => True) kG r3 ∧ Kd.R k30 30 w' w.heap.size (fun k_ => some k_ ≠ (kG : Value).ownBlock) oH r4 ∧ Kd.R k63 63 w' w.heap.size (fun k_ => some k_ ≠ (kG : Value).ownBlock ∧ some k_ ≠ (oH : Value).ownBlock) fJ r5 ∧ Below w.heap.size w w' := by
 have lM := Try.underlying26
 have nM := Try.underlying33
 have mM := Try.underlying30
 have oM := Try.underlying63
 have zE := mk0 xF; have vE := mk0 qF; clear xF qF; have cF := mk0 yF; have wE := mk0 sF; clear yF sF; have zC := mk0 zF; have xC := mk0 tF; clear zF tF; have aD := mk0 aG; have yC := mk0 uF; clear aG uF; have pC := mk0 bG; have uD := mk0 wF; clear bG wF
 have D := mk0 (Below.refl w.heap.size w)
 have H := h; unfold Bh.f at H
 clear h; have fH := mk0 H; clear H
 go_enter Try.func29, Try.ntmps29
 go_upto_region 1 with (first | ((with_reducible refine AJ rfl (N := 3) rfl (cs := #[.int .i64 zD, .int .i64 aE, .string bE, .slice sD nC.length cE, .slice tD oC.length dE]) (t := 26) ?hr ?_); (case hr => first | (go_simp; done) | (go_simp; rfl)); intro nE hg w5 mB hb; have p := mk0 (mB); have x := bs (be D) hg; replace D := kh D hb; clear hb mB hg) | ((with_reducible refine AJ rfl (N := 4) rfl (cs := #[.int .i64 uC, .int .i64 vC, .slice dD bC.length fD, .slice eD cC.length gD, .slice pE b.length fE]) (t := 33) ?hr ?_); (case hr => first | (go_simp; done) | (go_simp; rfl)); intro oE hg w6 mB hb; have l := mk0 (mB); have y := bs (be1 D x) hg; replace D := kh1 D x hb; have ⟨oB, sB⟩ := nn p hg; replace p := kb p hb; clear hb mB hg) | ((with_reducible refine AJ rfl (N := 6) rfl (cs := #[.int .i64 0, .int .i64 0, .slice none 0 0, .slice none 0 0, .slice none 0 0]) (t := 33) ?hr ?_); (case hr => first | (go_simp; done) | (go_simp; rfl)); intro wB hg w7 mB hb; have r := mk0 (mB); have z := bs (be2 D x y) hg; replace D := kh2 D x y hb; have ⟨jB, kB⟩ := nn p hg; have ⟨dB, fB⟩ := nn l hg; obtain ⟨p, l⟩ := tb2 hb p l; clear hb mB hg))
 (try simp only [Act.put, List.setIfInBounds_toArray, List.set_cons_zero, List.set_cons_succ])
 go_cut [24] (fun v24 wc => ∃ (kq : Nat) (eF : Bool), v24 = .bool eF ∧ Aside0 (Bh.j0 kq a2 eF uC vC bC cC b = some (r1, r2, r3, r4, r5, r6, r7)) ∧ Aside0 (kq ≤ k) ∧ Aside0 (wc.heap[nE]? = some (.cells #[.int .i64 zD, .int .i64 aE, .string bE, (.slice sD nC.length cE), (.slice tD oC.length dE)] 26 (0, 0))) ∧ Aside0 (wc.heap[oE]? = some (.cells #[.int .i64 uC, .int .i64 vC, (.slice dD bC.length fD), (.slice eD cC.length gD), (.slice pE b.length fE)] 33 (0, 0))) ∧ Aside0 (wc.heap[wB]? = some (.cells #[.int .i64 0, .int .i64 0, (.slice none 0 0), (.slice none 0 0), (.slice none 0 0)] 33 (0, 0))) ∧ Aside0 (Below w.heap.size w wc))
 case first =>
  have H := fH.out; clear fH
  replace H := bS H; obtain ⟨zM, A8, H⟩ := H
  replace H := iB' H; obtain ⟨rfl, H⟩ | ⟨rfl, H⟩ := H
  ·have H' := mk0 H
   clear H; have ⟨uJ, fL⟩ := no oB sB; have ⟨vJ, gL⟩ := no jB kB
   have fN := cells5 p.out
   have ⟨wJ, hL⟩ := no dB fB
   have gN := cells5 l.out
   go_wp2_with ((with_reducible refine AL (f := 20) rfl ?_); refine CV Try.func20 (DV.calls (cu zE D) vE.out (cu cF D) wE.out (cu zC D) xC.out (cu aD D) yC.out (cu pC D) uD.out A8.out) ?_; intro wN hb; obtain ⟨p, l, r⟩ := tb3 hb p l r; replace D := kh3 D x y z hb)
   go_meet
   case rel => exact ⟨_, (true), rfl, H', ⟨by omega⟩, ⟨bu p⟩, ⟨bu l⟩, ⟨bu r⟩, ⟨be3 D x y z⟩⟩
  replace H := iD' H; obtain ⟨-, eE, H⟩ | ⟨-, eE, H⟩ := H
  ·(first | rw [eE] | (simp only [CO, Da]; rw [eE]) | skip)
   have H' := mk0 H
   clear H; have ⟨rJ, cL⟩ := no oB sB; have ⟨sJ, dL⟩ := no jB kB
   have dN := cells5 p.out
   have ⟨tJ, eL⟩ := no dB fB
   have eN := cells5 l.out
   go_wp2_with ((with_reducible refine AL (f := 20) rfl ?_); refine CV Try.func20 (DV.calls (cu zE D) vE.out (cu cF D) wE.out (cu zC D) xC.out (cu aD D) yC.out (cu pC D) uD.out A8.out) ?_; intro vN hb; obtain ⟨p, l, r⟩ := tb3 hb p l r; replace D := kh3 D x y z hb)
   go_meet
   case rel => exact ⟨_, (decide (a2 > 2000000)), rfl, H', ⟨by omega⟩, ⟨bu p⟩, ⟨bu l⟩, ⟨bu r⟩, ⟨be3 D x y z⟩⟩
  (first | rw [eE] | (simp only [CO, Da]; rw [eE]) | skip)
  have H' := mk0 H
  clear H; have ⟨oJ, yK⟩ := no oB sB; have ⟨pJ, zK⟩ := no jB kB
  have bN := cells5 p.out
  have ⟨qJ, bL⟩ := no dB fB
  have cN := cells5 l.out
  go_wp2_with ((with_reducible refine AL (f := 20) rfl ?_); refine CV Try.func20 (DV.calls (cu zE D) vE.out (cu cF D) wE.out (cu zC D) xC.out (cu aD D) yC.out (cu pC D) uD.out A8.out) ?_; intro uN hb; obtain ⟨p, l, r⟩ := tb3 hb p l r; replace D := kh3 D x y z hb)
  go_meet
  case rel => exact ⟨_, (true), rfl, H', ⟨by omega⟩, ⟨bu p⟩, ⟨bu l⟩, ⟨bu r⟩, ⟨be3 D x y z⟩⟩
 case rest =>
  clear fH
  obtain ⟨kq, eF, rfl, HA, hG, p, l, r, D⟩ := hcut
  cases kq with
  | zero => exact absurd HA.out (by simp [Bh.j0])
  | succ mH =>
   have H := HA.out; clear HA
   simp only [Bh.j0] at H
   replace H := iB H; obtain ⟨rfl, H⟩ | ⟨rfl, H⟩ := H
   ·simp only [Option.some.injEq, Prod.mk.injEq] at H
    obtain ⟨rfl, rfl, rfl, rfl, rfl, rfl, rfl⟩ := H
    have ⟨xJ, iL⟩ := no kB jB; have ⟨yJ, jL⟩ := no fB dB
    have hN := cells5 r.out
    go_wp2
    refine bodyPost_ret (EB rfl _ _ wB 33 #[.int .i64 0, .int .i64 0, .slice none 0 0, .slice none 0 0, .slice none 0 0] (0, 0) _ rfl (pB r) Try.underlying33 rfl (by kernel_rfl)) rfl ?_
    exact ⟨_, _, _, rfl, by first | exact Kd.D5 _ _ _ _ _ | exact Kd.ET _ _ _ _ _ | exact Kd.D7 _ _ _ _ _ | exact Kd.ER _ _ _ _ _ | exact Kd.ES _ _ _ _ _, by first | exact Kd.D5 _ _ _ _ _ | exact Kd.ET _ _ _ _ _ | exact Kd.D7 _ _ _ _ _ | exact Kd.ER _ _ _ _ _ | exact Kd.ES _ _ _ _ _, by first | exact Kd.D5 _ _ _ _ _ | exact Kd.ET _ _ _ _ _ | exact Kd.D7 _ _ _ _ _ | exact Kd.ER _ _ _ _ _ | exact Kd.ES _ _ _ _ _, be3 D x y z⟩
   replace H := bS H; obtain ⟨aN, pH, H⟩ := H
   replace H := iB H; obtain ⟨rfl, H⟩ | ⟨rfl, H⟩ := H
   ·simp only [Option.some.injEq, Prod.mk.injEq] at H
    obtain ⟨rfl, rfl, rfl, rfl, rfl, rfl, rfl⟩ := H
    have ⟨zJ, kL⟩ := no sB oB; have ⟨aK, lL⟩ := no dB fB
    have jN := cells5 l.out
    go_wp2_with ((with_reducible refine AL (f := 47) rfl ?_); refine CV Try.func47 (EW.calls (cu zC D) xC.out (cu aD D) yC.out (cu pC D) uD.out pH.out) ?_; intro xN hb; obtain ⟨p, l, r⟩ := tb3 hb p l r; replace D := kh3 D x y z hb; have ⟨bK, mL⟩ := no kB jB; have kN := cells5 r.out)
    refine bodyPost_ret (EB rfl _ _ wB 33 #[.int .i64 0, .int .i64 0, .slice none 0 0, .slice none 0 0, .slice none 0 0] (0, 0) _ rfl (pB r) Try.underlying33 rfl (by kernel_rfl)) rfl ?_
    exact ⟨_, _, _, rfl, by first | exact Kd.D5 _ _ _ _ _ | exact Kd.ET _ _ _ _ _ | exact Kd.D7 _ _ _ _ _ | exact Kd.ER _ _ _ _ _ | exact Kd.ES _ _ _ _ _, by first | exact Kd.D5 _ _ _ _ _ | exact Kd.ET _ _ _ _ _ | exact Kd.D7 _ _ _ _ _ | exact Kd.ER _ _ _ _ _ | exact Kd.ES _ _ _ _ _, by first | exact Kd.D5 _ _ _ _ _ | exact Kd.ET _ _ _ _ _ | exact Kd.D7 _ _ _ _ _ | exact Kd.ER _ _ _ _ _ | exact Kd.ES _ _ _ _ _, be3 D x y z⟩
   replace H := Option.bind_eq_some_iff.mp H
   obtain ⟨⟨zG, aH, cG, dG⟩, lG, H⟩ := H
   replace H : (Bh.l0 mH a2 false b (b.length : Int) 0 zG aH cG dG ([] : List (S63))) = some (r1, r2, r3, r4, r5, r6, r7) := H
   have gJ := mk0 lG; clear lG
   have H' := mk0 H
   clear H; have ⟨cK, nL⟩ := no sB oB; have ⟨dK, oL⟩ := no dB fB
   have lN := cells5 l.out
   go_wp2_with (first | ((with_reducible refine AL (f := 47) rfl ?_); refine CV Try.func47 (EW.calls (cu zC D) xC.out (cu aD D) yC.out (cu pC D) uD.out pH.out) ?_; intro yN hb; obtain ⟨p, l, r⟩ := tb3 hb p l r; replace D := kh3 D x y z hb; have mN := cells5 l.out) | ((with_reducible refine AL (f := 49) rfl ?_); refine H9 Try.func49 #[.agg #[.int .i64 uC, .int .i64 vC, .slice dD bC.length fD, .slice eD cC.length gD]] ?_; (with_reducible refine (FT.calls ?side1 ?side2 ?side3 ?side4 gJ.out).mono ?_); (case side1 => exact cu zC D); (case side2 => exact xC.out); (case side3 => exact cu aD D); (case side4 => exact yC.out); rintro e zN ⟨v264, v267, rfl, wC, hD, hb⟩; refine ⟨_, rfl, ?_⟩; have lE := mk0 (Kd.CF wC (AP (be3 D x y z))); have mE := mk0 (Kd.CF hD (AP (be3 D x y z))); obtain ⟨p, l, r⟩ := tb3 hb p l r; replace D := kh3 D x y z hb; (try clear wC); (try clear hD); obtain ⟨qH, aI, kI⟩ := Kd.Bg mE.out; subst kI; obtain ⟨rH, bI, lI⟩ := Kd.Bg lE.out; subst lI) | ((with_reducible refine AJ rfl (N := 9) rfl (cs := #[.int .i64 0, .int .i64 0, .slice none 0 0, .slice none 0 0, .slice none 0 0]) (t := 33) ?hr ?_); (case hr => first | (go_simp; done) | (go_simp; rfl)); intro X hg bO mB hb; obtain ⟨lE, mE⟩ := tb2 hb lE mE; have j := mk0 (mB); have W := bs (be3 D x y z) hg; replace D := kh3 D x y z hb; have ⟨cB, xB⟩ := nn p hg; have ⟨eB, yB⟩ := nn l hg; have ⟨gB, zB⟩ := nn r hg; obtain ⟨p, l, r⟩ := tb3 hb p l r; clear hb mB hg; have ⟨eK, pL⟩ := no xB cB; have ⟨fK, qL⟩ := no yB eB; have ⟨gK, rL⟩ := no zB gB; have nN := cells5 j.out; have oN := cells5 l.out))
   go_loopg [10, 37] mH (fun kq v10 v37 w' => ∃ (cD : Bool) (a : Int) (T : Int) (U : Int) (Y : List Int) (Z : List (S30)) (B : List (S63)) (u270002 : Value) (u270003 : Value) (u270004 : Value), v10 = .bool cD ∧ v37 = .int .i64 a ∧ Aside0 (Bh.l0 kq a2 cD b (b.length : Int) a T U Y Z B = some (r1, r2, r3, r4, r5, r6, r7)) ∧ Aside0 (kq ≤ mH) ∧ Aside0 (Kd.R (Kd.int .u8) 73 w' w.heap.size (fun _ => True) u270002 Y) ∧ Aside0 (Kd.R k30 30 w' w.heap.size (fun k_ => some k_ ≠ (u270002 : Value).ownBlock) u270003 Z) ∧ Aside0 (Kd.R k63 63 w' w.heap.size (fun k_ => some k_ ≠ (u270002 : Value).ownBlock ∧ some k_ ≠ (u270003 : Value).ownBlock) u270004 B) ∧ Aside0 (w'.heap[nE]? = some (.cells #[.int .i64 zD, .int .i64 aE, .string bE, (.slice sD nC.length cE), (.slice tD oC.length dE)] 26 (0, 0))) ∧ Aside0 (w'.heap[oE]? = some (.cells #[.int .i64 uC, .int .i64 vC, (.slice dD bC.length fD), (.slice eD cC.length gD), (.slice pE b.length fE)] 33 (0, 0))) ∧ Aside0 (w'.heap[wB]? = some (.cells #[.int .i64 0, .int .i64 0, (.slice none 0 0), (.slice none 0 0), (.slice none 0 0)] 33 (0, 0))) ∧ Aside0 (w'.heap[X]? = some (.cells #[.int .i64 T, .int .i64 U, u270002, u270003, u270004] 33 (0, 0))) ∧ Aside0 (Below w.heap.size w w'))
   case atStart => exact ⟨(false), (0), (zG), (aH), (cG), (dG), (([] : List (S63))), (.slice rH cG.length bI), (.slice qH dG.length aI), (.slice none 0 0), rfl, rfl, H', ⟨Nat.le_refl _⟩, ⟨CS (Kd.Ai (rI (q := X) (Kd.Ao lE.out j.out (by decide)) (fun _ O => O.2)) (fun _ O => trivial))⟩, ⟨CS (Kd.Ai (rI (q := X) (Kd.Ao mE.out j.out (by decide)) (fun _ O => O.2)) (fun _ O => O.1))⟩, ⟨by first | exact Kd.D5 _ _ _ _ _ | exact Kd.ET _ _ _ _ _ | exact Kd.D7 _ _ _ _ _ | exact Kd.ER _ _ _ _ _ | exact Kd.ES _ _ _ _ _⟩, ⟨bF cB p⟩, ⟨bF eB l⟩, ⟨bF gB r⟩, ⟨pB j⟩, ⟨be4 D x y z W⟩⟩
   case round =>
    clear H'
    obtain ⟨cD, a, T, U, Y, Z, B, u270002, u270003, u270004, rfl, rfl, HA, iG, m, s, d, p, l, r, j, D⟩ := hrel
    cases gk with
    | zero => exact absurd HA.out (by simp [Bh.l0])
    | succ k2 =>
     have H := HA.out; clear HA
     simp only [Bh.l0] at H
     replace H := iD' H; obtain ⟨-, jH, H⟩ | ⟨-, jH, H⟩ := H
     ·simp only [Option.some.injEq, Prod.mk.injEq] at H
      obtain ⟨rfl, rfl, rfl, rfl, rfl, rfl, rfl⟩ := H
      have ⟨tK, dM⟩ := no xB cB; have ⟨uK, eM⟩ := no yB eB; have ⟨vK, fM⟩ := no zB gB
      have sN := cells5 j.out
      have ⟨wK, gM⟩ := no kB jB; have ⟨xK, hM⟩ := no fB dB
      have tN := cells5 r.out
      obtain ⟨xH, hI, pI⟩ := Kd.Bg m.out
      subst pI
      obtain ⟨yH, iI, qI⟩ := Kd.Bg s.out
      subst qI
      obtain ⟨zH, jI, tI⟩ := Kd.Bg d.out
      subst tI
      go_wp2
      refine bodyPost_ret (EB rfl _ _ wB 33 #[.int .i64 T, .int .i64 U, .slice xH Y.length hI, .slice yH Z.length iI, .slice zH B.length jI] (0, 0) _ rfl (pB r) Try.underlying33 rfl (by kernel_rfl)) rfl ?_
      exact ⟨_, _, _, rfl, by exact CS (Kd.Ai (rI (q := wB) (Kd.Ao m.out r.out (by decide)) (fun _ O => O.2)) (fun _ O => trivial)), by exact CS (Kd.Ai (rI (q := wB) (Kd.Ao s.out r.out (by decide)) (fun _ O => O.2)) (fun _ O => O.1)), by exact CS (Kd.Ai (rI (q := wB) (Kd.Ao d.out r.out (by decide)) (fun _ O => O.2)) (fun _ O => ⟨O.1.1, O.1.2⟩)), be4 D x y z W⟩
     replace H := iN H; obtain ⟨-, kJ, H⟩ := H
     replace H := iN H; obtain ⟨-, lJ, H⟩ := H
     replace H := iE H; obtain ⟨kH, lH, H⟩ | ⟨c59, kH, lH, H⟩ := H
     ·replace H := Option.bind_eq_some_iff.mp H
      obtain ⟨⟨bH, cH, eG, fG⟩, mG, H⟩ := H
      replace H : (Bh.l0 k2 a2 true b (b.length : Int) (wrap64 (a + 1)) bH cH eG fG B) = some (r1, r2, r3, r4, r5, r6, r7) := H
      have hJ := mk0 mG; clear mG
      have H' := mk0 H
      clear H
      have hE : 0 ≤ (a : Int) := od
      have jE : a < (b.length : Int) := od
      obtain ⟨dF, G, J, I, L, lF, hC, iC, jC, kC, lC, fC, dC, gC, eC⟩ := Cg pC.out a hE jE
      cases lF
      replace hC := AC D.out hC
      replace iC := AC D.out iC
      replace jC := AC D.out jC
      replace kC := AC D.out kC
      replace lC := AC D.out lC
      have xD := mk0 dC; have vD := mk0 fC; clear dC fC; have yD := mk0 eC; have wD := mk0 gC; clear eC gC; replace hE := eq_true hE; replace jE := eq_true jE
      go_wp2_with (first | ((with_reducible refine AJ rfl (N := 12) rfl (cs := #[.int .i64 0, .int .i64 0, .int .i64 0, .slice none 0 0, .slice none 0 0]) (t := 63) ?hr ?_); (case hr => first | (go_simp; done) | (go_simp; rfl)); intro c hg cO mB hb; replace d := rB d hg hb; obtain ⟨m, s⟩ := tb2 hb m s; have u := mk0 (mB); have hB := bs (be4 D x y z W) hg; replace D := kh4 D x y z W hb; have ⟨qB, qC⟩ := nn p hg; have ⟨tB, rC⟩ := nn l hg; have ⟨uB, sC⟩ := nn r hg; have ⟨lB, aC⟩ := nn j hg; obtain ⟨p, l, r, j⟩ := tb4 hb p l r j; clear hb mB hg; have ⟨iK, sL⟩ := no qC qB; have ⟨jK, tL⟩ := no rC tB; have ⟨kK, uL⟩ := no sC uB; have ⟨lK, vL⟩ := no aC lB; have pN := cells5 u.out) | ((with_reducible refine AL (f := 49) rfl ?_); refine H9 Try.func49 #[.agg #[.int .i64 ((AA b a).f1.f0), .int .i64 ((AA b a).f1.f1), .slice G ((AA b a).f1.f2).length J, .slice I ((AA b a).f1.f3).length L]] ?_; (with_reducible refine (FT.calls ?side1 ?side2 ?side3 ?side4 hJ.out).mono ?_); (case side1 => exact Kd.BH xD.out (be5 D x y z W hB)); (case side2 => exact vD.out); (case side3 => exact Kd.BH yD.out (be5 D x y z W hB)); (case side4 => exact wD.out); rintro e dO ⟨v275, v278, rfl, wC, hD, hb⟩; refine ⟨_, rfl, ?_⟩; replace d := mk0 (Kd.Ai (Kd.Ea (Kd.Ea (Kd.Ib (CS ((rF (q := c) d (fun _ O => O.2)))) hb) (Kd.Am wC)) (Kd.Am hD)) (fun _ h_ => h_.1)); have gF := mk0 (Kd.CF (Kd.DY wC (Kd.Cz (CS ((Kd.Ai (rI (q := c) (Kd.Ao m.out u.out (by decide)) (fun _ O => O.2)) (fun _ h_ => h_.1)))))) (AP (be5 D x y z W hB))); have hF := mk0 (Kd.CF (Kd.DY (Kd.DY hD (Kd.Cz (CS ((Kd.Ai (rI (q := c) (Kd.Ao m.out u.out (by decide)) (fun _ O => O.2)) (fun _ h_ => h_.1)))))) (Kd.Cz (CS ((Kd.Ai (rI (q := c) (Kd.Ao s.out u.out (by decide)) (fun _ O => O.2)) (fun _ h_ => h_.1)))))) (AP (be5 D x y z W hB))); replace m := mk0 (Kd.DT (CS ((Kd.Ai (rI (q := c) (Kd.Ao m.out u.out (by decide)) (fun _ O => O.2)) (fun _ h_ => h_.1)))) (Kd.Am wC) hb); replace s := mk0 (Kd.Ai (Kd.Ea (Kd.Ea (Kd.Ib (CS ((Kd.Ai (rI (q := c) (Kd.Ao s.out u.out (by decide)) (fun _ O => O.2)) (fun _ h_ => h_.1)))) hb) (Kd.Am wC)) (Kd.Am hD)) (fun _ h_ => h_.1)); replace p := kF qB p hb; replace l := kF tB l hb; replace r := kF uB r hb; replace j := kF lB j hb; replace u := mk0 (AY (g := c) (o := .cells #[.int .i64 ((AA b a).f0), .int .i64 ((AA b a).f1.f0), .int .i64 ((AA b a).f1.f1), .slice G ((AA b a).f1.f2).length J, .slice I ((AA b a).f1.f3).length L] 63 (0, 0)) (pB u) hb); replace D := kh5 D x y z W hB hb; (try clear wC); (try clear hD); have ⟨mK, wL⟩ := no xB cB; have ⟨nK, xL⟩ := no yB eB; have ⟨oK, yL⟩ := no zB gB; have qN := cells5 j.out; obtain ⟨sH, cI, mI⟩ := Kd.Bg gF.out; subst mI; obtain ⟨tH, dI, oI⟩ := Kd.Bg hF.out; subst oI))
      go_roundg k2
      case measure => have := hG.out; have := iG.out; omega
      case rel => exact ⟨(true), (wrap64 (a + 1)), (bH), (cH), (eG), (fG), (B), (.slice sH eG.length cI), (.slice tH fG.length dI), (u270004), rfl, rfl, H', ⟨by have := hG.out; have := iG.out; omega⟩, ⟨CS (Kd.Ai (rI (q := X) (Kd.Ao gF.out j.out (by decide)) (fun _ O => O.2)) (fun _ O => trivial))⟩, ⟨CS (Kd.Ai (rI (q := X) (Kd.Ao hF.out j.out (by decide)) (fun _ O => O.2)) (fun _ O => O.1.1.1))⟩, ⟨CS (Kd.Ai (rI (q := X) (Kd.Ao d.out j.out (by decide)) (fun _ O => O.2)) (fun _ O => ⟨O.1.1.2, O.1.2⟩))⟩, ⟨bF cB p⟩, ⟨bF eB l⟩, ⟨bF gB r⟩, ⟨pB j⟩, ⟨be5 D x y z W hB⟩⟩
     replace H := Option.bind_eq_some_iff.mp H
     obtain ⟨⟨rE, sE, tE, uE⟩, nG, H⟩ := H
     replace H : (if B.length < 1954687338268 then (Bh.l0 k2 a2 cD b (b.length : Int) (wrap64 (a + 1)) T U Y Z (B ++ [(⟨(AA b a).f0, (⟨rE, sE, tE, uE⟩ : S30)⟩ : S63)])) else (none)) = some (r1, r2, r3, r4, r5, r6, r7) := H
     have iJ := mk0 nG; clear nG
     by_cases c75 : B.length < 1954687338268
     rotate_left
     ·rw [if_neg c75] at H
      exact absurd H (by simp)
     rw [if_pos c75] at H; have hH := mk0 c75; clear c75
     obtain ⟨gG, gE⟩ : ∃ y_ : List (S63), y_ = (B ++ [(⟨(AA b a).f0, (⟨rE, sE, tE, uE⟩ : S30)⟩ : S63)]) := ⟨_, rfl⟩
     replace H : (Bh.l0 k2 a2 cD b (b.length : Int) (wrap64 (a + 1)) T U Y Z gG) = some (r1, r2, r3, r4, r5, r6, r7) := by first | (rw [gE]; with_reducible exact H) | (have dH := (Option.bind_some _ _).symm.trans H; rw [gE]; with_reducible exact dH) | (have dH := (Option.bind_some _ _).symm.trans H; with_reducible exact dH) | with_reducible exact H | (rw [gE]; exact H) | exact H
     have iH := mk0 gE; clear gE
     have H' := mk0 H
     clear H
     have hE : 0 ≤ (a : Int) := od
     have jE : a < (b.length : Int) := od
     obtain ⟨dF, G, J, I, L, lF, hC, iC, jC, kC, lC, fC, dC, gC, eC⟩ := Cg pC.out a hE jE
     cases lF
     replace hC := AC D.out hC
     replace iC := AC D.out iC
     replace jC := AC D.out jC
     replace kC := AC D.out kC
     replace lC := AC D.out lC
     have xD := mk0 dC; have vD := mk0 fC; clear dC fC; have yD := mk0 eC; have wD := mk0 gC; clear eC gC; replace hE := eq_true hE; replace jE := eq_true jE
     try go_wp2_with ((with_reducible refine AJ rfl (N := 12) rfl (cs := #[.int .i64 0, .int .i64 0, .int .i64 0, .slice none 0 0, .slice none 0 0]) (t := 63) ?hr ?_); (case hr => first | (go_simp; done) | (go_simp; rfl)); intro c hg kE mB hb; replace d := rB d hg hb; obtain ⟨m, s⟩ := tb2 hb m s; have u := mk0 (mB); have hB := bs (be4 D x y z W) hg; replace D := kh4 D x y z W hb; have ⟨qB, qC⟩ := nn p hg; have ⟨tB, rC⟩ := nn l hg; have ⟨uB, sC⟩ := nn r hg; have ⟨lB, aC⟩ := nn j hg; obtain ⟨p, l, r, j⟩ := tb4 hb p l r j; clear hb mB hg; have ⟨pK, zL⟩ := no qC qB; have ⟨qK, aM⟩ := no rC tB; have ⟨rK, bM⟩ := no sC uB; have ⟨sK, cM⟩ := no aC lB; have rN := cells5 u.out)
     have jD : Aside0 (Kd.R (Kd.int .u8) 73 (((((kE.setCell ⟨c, 0, none⟩ (.int .i64 ((AA b a).f0))).setCell ⟨c, 1, none⟩ (.int .i64 ((AA b a).f1.f0))).setCell ⟨c, 2, none⟩ (.int .i64 ((AA b a).f1.f1))).setCell ⟨c, 3, none⟩ (.slice G ((AA b a).f1.f2).length J)).setCell ⟨c, 4, none⟩ (.slice I ((AA b a).f1.f3).length L)) w.heap.size (fun _ => True) u270002 Y) := ⟨CS (Kd.Ai (rI (q := c) (Kd.Ao m.out u.out (by decide)) (fun _ O => O.2)) (fun _ O => trivial))⟩
     have kD : Aside0 (Kd.R k30 30 (((((kE.setCell ⟨c, 0, none⟩ (.int .i64 ((AA b a).f0))).setCell ⟨c, 1, none⟩ (.int .i64 ((AA b a).f1.f0))).setCell ⟨c, 2, none⟩ (.int .i64 ((AA b a).f1.f1))).setCell ⟨c, 3, none⟩ (.slice G ((AA b a).f1.f2).length J)).setCell ⟨c, 4, none⟩ (.slice I ((AA b a).f1.f3).length L)) w.heap.size (fun k_ => some k_ ≠ (u270002 : Value).ownBlock) u270003 Z) := ⟨CS (Kd.Ai (rI (q := c) (Kd.Ao s.out u.out (by decide)) (fun _ O => O.2)) (fun _ O => O.1))⟩
     have lD : Aside0 (Kd.R k63 63 (((((kE.setCell ⟨c, 0, none⟩ (.int .i64 ((AA b a).f0))).setCell ⟨c, 1, none⟩ (.int .i64 ((AA b a).f1.f0))).setCell ⟨c, 2, none⟩ (.int .i64 ((AA b a).f1.f1))).setCell ⟨c, 3, none⟩ (.slice G ((AA b a).f1.f2).length J)).setCell ⟨c, 4, none⟩ (.slice I ((AA b a).f1.f3).length L)) w.heap.size (fun k_ => some k_ ≠ (u270002 : Value).ownBlock ∧ some k_ ≠ (u270003 : Value).ownBlock ∧ k_ ≠ c) u270004 B) := ⟨CS (Kd.Ai (rI (q := c) (Kd.Ai d.out (fun k_ O => (⟨O, O.2⟩ : _ ∧ k_ ≠ c))) (fun _ O => O.2)) (fun _ O => ⟨O.1.1.1, ⟨O.1.1.2, O.1.2⟩⟩))⟩
     have mD : Aside0 ((((((kE.setCell ⟨c, 0, none⟩ (.int .i64 ((AA b a).f0))).setCell ⟨c, 1, none⟩ (.int .i64 ((AA b a).f1.f0))).setCell ⟨c, 2, none⟩ (.int .i64 ((AA b a).f1.f1))).setCell ⟨c, 3, none⟩ (.slice G ((AA b a).f1.f2).length J)).setCell ⟨c, 4, none⟩ (.slice I ((AA b a).f1.f3).length L)).heap[nE]? = some (.cells #[.int .i64 zD, .int .i64 aE, .string bE, .slice sD nC.length cE, .slice tD oC.length dE] 26 (0, 0))) := ⟨bF qB p⟩
     have nD : Aside0 ((((((kE.setCell ⟨c, 0, none⟩ (.int .i64 ((AA b a).f0))).setCell ⟨c, 1, none⟩ (.int .i64 ((AA b a).f1.f0))).setCell ⟨c, 2, none⟩ (.int .i64 ((AA b a).f1.f1))).setCell ⟨c, 3, none⟩ (.slice G ((AA b a).f1.f2).length J)).setCell ⟨c, 4, none⟩ (.slice I ((AA b a).f1.f3).length L)).heap[oE]? = some (.cells #[.int .i64 uC, .int .i64 vC, .slice dD bC.length fD, .slice eD cC.length gD, .slice (some dF) b.length fE] 33 (0, 0))) := ⟨bF tB l⟩
     have oD : Aside0 ((((((kE.setCell ⟨c, 0, none⟩ (.int .i64 ((AA b a).f0))).setCell ⟨c, 1, none⟩ (.int .i64 ((AA b a).f1.f0))).setCell ⟨c, 2, none⟩ (.int .i64 ((AA b a).f1.f1))).setCell ⟨c, 3, none⟩ (.slice G ((AA b a).f1.f2).length J)).setCell ⟨c, 4, none⟩ (.slice I ((AA b a).f1.f3).length L)).heap[wB]? = some (.cells #[.int .i64 0, .int .i64 0, .slice none 0 0, .slice none 0 0, .slice none 0 0] 33 (0, 0))) := ⟨bF uB r⟩
     have pD : Aside0 ((((((kE.setCell ⟨c, 0, none⟩ (.int .i64 ((AA b a).f0))).setCell ⟨c, 1, none⟩ (.int .i64 ((AA b a).f1.f0))).setCell ⟨c, 2, none⟩ (.int .i64 ((AA b a).f1.f1))).setCell ⟨c, 3, none⟩ (.slice G ((AA b a).f1.f2).length J)).setCell ⟨c, 4, none⟩ (.slice I ((AA b a).f1.f3).length L)).heap[X]? = some (.cells #[.int .i64 T, .int .i64 U, u270002, u270003, u270004] 33 (0, 0))) := ⟨bF lB j⟩
     have qD : Aside0 ((((((kE.setCell ⟨c, 0, none⟩ (.int .i64 ((AA b a).f0))).setCell ⟨c, 1, none⟩ (.int .i64 ((AA b a).f1.f0))).setCell ⟨c, 2, none⟩ (.int .i64 ((AA b a).f1.f1))).setCell ⟨c, 3, none⟩ (.slice G ((AA b a).f1.f2).length J)).setCell ⟨c, 4, none⟩ (.slice I ((AA b a).f1.f3).length L)).heap[c]? = some (.cells #[.int .i64 ((AA b a).f0), .int .i64 ((AA b a).f1.f0), .int .i64 ((AA b a).f1.f1), .slice G ((AA b a).f1.f2).length J, .slice I ((AA b a).f1.f3).length L] 63 (0, 0))) := ⟨pB u⟩
     have rD : Aside0 (Below w.heap.size w (((((kE.setCell ⟨c, 0, none⟩ (.int .i64 ((AA b a).f0))).setCell ⟨c, 1, none⟩ (.int .i64 ((AA b a).f1.f0))).setCell ⟨c, 2, none⟩ (.int .i64 ((AA b a).f1.f1))).setCell ⟨c, 3, none⟩ (.slice G ((AA b a).f1.f2).length J)).setCell ⟨c, 4, none⟩ (.slice I ((AA b a).f1.f3).length L))) := ⟨be5 D x y z W hB⟩
     try clear m
     try clear s
     try clear d
     try clear p
     try clear l
     try clear r
     try clear j
     try clear u
     try clear D
     generalize (((((kE.setCell ⟨c, 0, none⟩ (.int .i64 ((AA b a).f0))).setCell ⟨c, 1, none⟩ (.int .i64 ((AA b a).f1.f0))).setCell ⟨c, 2, none⟩ (.int .i64 ((AA b a).f1.f1))).setCell ⟨c, 3, none⟩ (.slice G ((AA b a).f1.f2).length J)).setCell ⟨c, 4, none⟩ (.slice I ((AA b a).f1.f3).length L)) = iM at jD kD lD mD nD oD pD qD rD ⊢
     have m := jD; have s := kD; have d := lD; have p := mD; have l := nD; have r := oD; have j := pD; have u := qD; have D := rD; clear jD kD lD mD nD oD pD qD rD
     have jD := mk0 (Kd.Ey m.out)
     have kD := mk0 (Kd.Ey s.out)
     have lD := mk0 (Kd.Ey d.out)
     have mD := mk0 (AV p.out)
     have nD := mk0 (AV l.out)
     have oD := mk0 (AV r.out)
     have pD := mk0 (AV j.out)
     have qD := mk0 (AV u.out)
     have rD := mk0 (AZ D.out)
     clear m; clear s; clear d; clear p; clear l; clear r; clear j; clear u; clear D; have m := jD; have s := kD; have d := lD; have p := mD; have l := nD; have r := oD; have j := pD; have u := qD; have D := rD; clear jD kD lD mD nD oD pD qD rD
     refine DU (n := 12) (S := fun w' => w'.cell? ⟨X, 0, none⟩ = some (.int .i64 T) ∧ w'.cell? ⟨X, 1, none⟩ = some (.int .i64 U) ∧ w'.cell? ⟨X, 2, none⟩ = some (u270002) ∧ w'.cell? ⟨X, 3, none⟩ = some (u270003) ∧ w'.cell? ⟨X, 4, none⟩ = some (u270004) ∧ w'.cell? ⟨c, 0, none⟩ = some (.int .i64 ((AA b a).f0)) ∧ w'.cell? ⟨c, 1, none⟩ = some (.int .i64 ((AA b a).f1.f0)) ∧ w'.cell? ⟨c, 2, none⟩ = some (.int .i64 ((AA b a).f1.f1)) ∧ w'.cell? ⟨c, 3, none⟩ = some (.slice G ((AA b a).f1.f2).length J) ∧ w'.cell? ⟨c, 4, none⟩ = some (.slice I ((AA b a).f1.f3).length L)) (ds := [11]) (tf 0 12) (by kernel_rfl) rfl rfl ⟨bc j 0, bc j 1, bc j 2, bc j 3, bc j 4, bc u 0, bc u 1, bc u 2, bc u 3, bc u 4⟩ (fun tC => ?_); refine CQ Bh.Pq Bh.O6 (fun bD gH => ?_)
     generalize iM.drew = eO at m s d p l r j u D tC ⊢
     refine pv 0 49 (tf 1 11) bD ?_
     refine pv 2 51 #[true, false, true, false, false, false, false, false, false, false, false, false] bD ?_
     refine pv 4 53 #[true, false, true, false, true, false, false, false, false, false, false, false] bD ?_
     refine Bj (i := 1) (N := some 50) (v := ?_) (a' := ?_) #[true, true, true, false, true, false, false, false, false, false, false, false] rfl rfl (Av bD.out gH.out (by kernel_rfl)) (fun _ _ _ h => h) (Or.inl ⟨by rfl, ?_⟩) tC ?_ ?_
     rotate_left
     ·rintro w' ⟨s0, s1, s2, s3, s4, s5, s6, s7, s8, s9⟩
      go_simp
      with_reducible rfl
     rotate_left
     ·simp only [ps]
      rfl
     refine Bj (i := 3) (N := some 52) (v := ?_) (a' := ?_) (tf 5 7) rfl rfl (Av bD.out gH.out (by kernel_rfl)) (fun _ _ _ h => h) (Or.inl ⟨by rfl, ?_⟩) tC ?_ ?_
     rotate_left
     ·rintro w' ⟨s0, s1, s2, s3, s4, s5, s6, s7, s8, s9⟩
      go_simp
      with_reducible rfl
     rotate_left
     ·simp only [ps]
      rfl
     refine Bj (i := 5) (N := some 54) (v := ?_) (a' := ?_) (tf 6 6) rfl rfl (Av bD.out gH.out (by kernel_rfl)) (fun _ _ _ h => h) (Or.inl ⟨by rfl, ?_⟩) tC ?_ ?_
     rotate_left
     ·rintro w' ⟨s0, s1, s2, s3, s4, s5, s6, s7, s8, s9⟩
      go_simp
      with_reducible rfl
     rotate_left
     ·simp only [ps]
      rfl
     refine DL (i := 6) (N := some 55) (tf 7 5) rfl rfl (Bo bD.out (by kernel_rfl)) (by decide) (fun K hK => ?_)
     refine Co Try.func49 (by kernel_rfl) rfl #[.agg #[.int .i64 ((AA b a).f1.f0), .int .i64 ((AA b a).f1.f1), .slice G ((AA b a).f1.f2).length J, .slice I ((AA b a).f1.f3).length L]] (by rfl) rfl rfl (by (try simp only [List.map_toArray, List.map_cons, List.map_nil]); first | done | rfl | (simp only [List.length_drop, List.length_take]; rfl)) ?_
     with_reducible refine (FT.calls ?side1 ?side2 ?side3 ?side4 iJ.out).mono ?_
     (case side1 => exact cu xD D)
     (case side2 => exact vD.out)
     (case side3 => exact cu yD D)
     (case side4 => exact wD.out)
     rintro e fO ⟨v283, v286, rfl, wC, hD, hb⟩
     refine ⟨_, rfl, ?_⟩
     have jD := mk0 (Kd.DT (CP m.out) (Kd.Am wC) hb)
     have kD := mk0 (Kd.Ai (Kd.Ea (Kd.Ea (Kd.Ib (CP s.out) hb) (Kd.Am wC)) (Kd.Am hD)) (fun _ h_ => h_.1))
     have lD := mk0 (Kd.Ai (Kd.Ea (Kd.Ea (Kd.Ib (CP d.out) hb) (Kd.Am wC)) (Kd.Am hD)) (fun _ h_ => h_.1))
     have mD := mk0 (Kd.CF (Kd.DY wC (Kd.Cz (CP m.out))) (AP (be5 D x y z W hB)))
     have nD := mk0 (Kd.CF (Kd.DY (Kd.DY hD (Kd.Cz (CP m.out))) (Kd.Cz (CP s.out))) (AP (be5 D x y z W hB)))
     have oD := kb p hb
     have pD := kb l hb
     have qD := kb r hb
     have rD := kb j hb
     have eJ := kb u hb
     have rG := kh5 D x y z W hB hb
     clear m; clear s; clear d; clear p; clear l; clear r; clear j; clear u; clear D; have m := jD; have s := kD; have d := lD; have xE := mD; have yE := nD; have p := oD; have l := pD; have r := qD; have j := rD; have u := eJ; have D := rG; clear jD kD lD mD nD oD pD qD rD eJ rG
     try clear hb
     try clear O
     try clear wC
     try clear hD
     obtain ⟨uH, eI, oG⟩ := Kd.Bg yE.out
     (first | subst oG | (injection oG with f1_ f2_ f3_; have mF := f1_.symm; have oF := f3_.symm; clear f1_ f2_ f3_; subst mF; subst oF))
     obtain ⟨vH, fI, pG⟩ := Kd.Bg xE.out
     (first | subst pG | (injection pG with f1_ f2_ f3_; have mF := f1_.symm; have oF := f3_.symm; clear f1_ f2_ f3_; subst mF; subst oF))
     refine hK.out _ _ ⟨bc j 0, bc j 1, bc j 2, bc j 3, bc j 4, bc u 0, bc u 1, bc u 2, bc u 3, bc u 4⟩ (fun tC => ?_)
     clear hK K
     refine Br (a' := ?_) ?_ ?_
     rotate_left
     ·show Act.put _ (some 55) _ = _
      simp only [ps]
      rfl
     refine pv 7 56 (tf 8 4) bD ?_
     refine DL (i := 8) (N := some 57) (tf 9 3) rfl rfl (Bo bD.out (by kernel_rfl)) (by decide) (fun K hK => ?_)
     refine CW (w1 := ?_) (v := ?_) (by rfl) rfl ?_ ?_
     rotate_left 2
     ·go_simp
      constructor
      ·rfl
      ·rfl
     refine hK.out _ _ ⟨(Af (AX j.out _) 0).trans rfl, (Af (AX j.out _) 1).trans rfl, (Af (AX j.out _) 2).trans rfl, (Af (AX j.out _) 3).trans rfl, (Af (AX j.out _) 4).trans rfl, (Af (AX u.out _) 0).trans rfl, (Af (AX u.out _) 1).trans rfl, (Af (AX u.out _) 2).trans rfl, (Af (AX u.out _) 3).trans rfl, (Af (AX u.out _) 4).trans rfl⟩ (fun tC => ?_)
     clear hK K
     refine Br (a' := ?_) ?_ ?_
     rotate_left
     ·show Act.put _ (some 57) _ = _
      simp only [ps]
      rfl
     refine DL (i := 9) (N := some 58) (tf 10 2) rfl rfl (Bo bD.out (by kernel_rfl)) (by decide) (fun K hK => ?_)
     refine Kd.Em k63 (w0 := w) w.heap.size (by rfl) (.tmp 50) (.tmp 57) 31 63 (.agg #[(.int .i64 0), (.int .i64 0), (.int .i64 0), (.slice none 0 0), (.slice none 0 0)]) 72 rfl Try.underlying31 Ff rfl (by decide) (by omega) u270004 B (⟨(AA b a).f0, (⟨rE, sE, tE, uE⟩ : S30)⟩ : S63) [.int .i64 ((AA b a).f0), .int .i64 rE, .int .i64 sE, .slice vH tE.length fI, .slice uH uE.length eI] (fun k_ => some k_ ≠ (u270002 : Value).ownBlock ∧ some k_ ≠ (u270003 : Value).ownBlock ∧ k_ ≠ c) (fun k_ => ((fun k_ => some k_ ≠ (u270002 : Value).ownBlock ∧ some k_ ≠ (u270003 : Value).ownBlock ∧ k_ ≠ c)) k_ ∧ some k_ ≠ (u270004 : Value).ownBlock) rfl rfl ?aP (fun _ O => O) ?aF ?aO ?aB ?aS ?aL ?_
     (case aP => exact LH _ _ _ (⟨(AA b a).f0, (⟨rE, sE, tE, uE⟩ : S30)⟩ : S63) (Kd.Ai (Kd.Ao (Kd.DR (Kd.DR (xE.out) (Kd.Dm s.out) (by decide)) (Kd.Dm d.out) (by decide)) u.out (by decide)) (fun k_ O => ⟨⟨O.1.1.1.2, ⟨O.1.1.2, O.2⟩⟩, O.1.2⟩)) (Kd.Ai (Kd.Ao (Kd.DR (yE.out) (Kd.Dm d.out) (by decide)) u.out (by decide)) (fun k_ O => ⟨⟨O.1.1.1.2, ⟨O.1.1.2, O.2⟩⟩, O.1.2⟩)))
     (case aB => exact (be5 D x y z W hB))
     (case aF => exact (fun k_ O => ⟨Kd.fresh' (Kd.Cz (CP m.out)) k_ O, Kd.fresh' (Kd.Cz (CP s.out)) k_ O, Kd.Aq (g := c) (o := .cells #[.int .i64 ((AA b a).f0), .int .i64 ((AA b a).f1.f0), .int .i64 ((AA b a).f1.f1), .slice G ((AA b a).f1.f2).length J, .slice I ((AA b a).f1.f3).length L] 63 (0, 0)) (AU u.out) k_ O⟩))
     (case aO => exact (CS (Kd.Ai d.out (fun _ O => ⟨O.1.1.1, ⟨O.1.1.2.1, O.1.1.2.2⟩⟩))))
     (case aS => exact (AP (be5 D x y z W hB)))
     (case aL => have := hH.out; omega)
     intro v289 jM ho hb hg mJ
     rw [← iH.out] at ho
     have jD := mk0 (Kd.GY (CP m.out) (Kd.Dm (CP d.out)) (by decide) hg)
     have kD := mk0 (Kd.GY (CP s.out) (Kd.Dm (CP d.out)) (by decide) hg)
     have lD := mk0 (Bc (g := nE) (o := .cells #[.int .i64 zD, .int .i64 aE, .string bE, .slice sD nC.length cE, .slice tD oC.length dE] 26 (0, 0)) (AU p.out) hg (Kd.F3 d.out p.out (by decide)))
     have mD := mk0 (Bc (g := oE) (o := .cells #[.int .i64 uC, .int .i64 vC, .slice dD bC.length fD, .slice eD cC.length gD, .slice (some dF) b.length fE] 33 (0, 0)) (AU l.out) hg (Kd.F3 d.out l.out (by decide)))
     have nD := mk0 (Bc (g := wB) (o := .cells #[.int .i64 0, .int .i64 0, .slice none 0 0, .slice none 0 0, .slice none 0 0] 33 (0, 0)) (AU r.out) hg (Kd.F3 d.out r.out (by decide)))
     have oD := mk0 (Bc (g := X) (o := .cells #[.int .i64 T, .int .i64 U, u270002, u270003, u270004] 33 (0, 0)) (AU j.out) hg (Kd.F3 d.out j.out (by decide)))
     have pD := mk0 (Bc (g := c) (o := .cells #[.int .i64 ((AA b a).f0), .int .i64 ((AA b a).f1.f0), .int .i64 ((AA b a).f1.f1), .slice G ((AA b a).f1.f2).length J, .slice I ((AA b a).f1.f3).length L] 63 (0, 0)) (AU u.out) hg (Kd.G8 d.out (fun _ O => O.1.1.2.2)))
     have qD := mk0 (hb)
     have rD := mk0 (ho)
     clear m; clear s; clear p; clear l; clear r; clear j; clear u; clear D; clear d; clear xE; clear yE; have m := jD; have s := kD; have p := lD; have l := mD; have r := nD; have j := oD; have u := pD; have D := qD; have jF := rD; clear jD kD lD mD nD oD pD qD rD; clear ho hb hg mJ
     obtain ⟨wH, gI, qG⟩ := Kd.Bg jF.out
     (first | subst qG | (injection qG with f1_ f2_ f3_; have mF := f1_.symm; have oF := f3_.symm; clear f1_ f2_ f3_; subst mF; subst oF))
     refine hK.out _ _ ⟨bc j 0, bc j 1, bc j 2, bc j 3, bc j 4, bc u 0, bc u 1, bc u 2, bc u 3, bc u 4⟩ (fun tC => ?_)
     clear hK K
     refine Br (a' := ?_) ?_ ?_
     rotate_left
     ·show Act.put _ (some 58) _ = _
      simp only [ps]
      rfl
     refine pv 10 59 (tf 11 1) bD ?_
     refine K8 (i := 11) (N := none) (tf 12 0) rfl rfl (Bo bD.out (by kernel_rfl)) (by decide) (fun K hK => ?_)
     have kM : jM.cell? ⟨X, 4, none⟩ = some (u270004) := bc j 4
     have nJ := Aa j.out 4
     have zI := cB.out; have aJ := eB.out; have bJ := gB.out; have cJ := aC.out; have uI := xB.out; have wI := yB.out; have xI := zB.out; have yI := lB.out
     refine Fp (w1 := ?_) (by rfl) rfl ?_ ?_
     rotate_left
     ·go_simp
      rfl
     refine hK.out _ _ ?_
     clear hK K
     refine EG (DW bD.out (by kernel_rfl)) ?_
     try go_wp2
     go_roundg k2
     case measure => have := hG.out; have := iG.out; omega
     case rel => exact ⟨(cD), (wrap64 (a + 1)), (T), (U), (Y), (Z), (gG), (u270002), (u270003), (.slice wH gG.length gI), rfl, rfl, H', ⟨by have := hG.out; have := iG.out; omega⟩, ⟨CS (Kd.Ai (rI (q := X) (Kd.Ao m.out j.out (by decide)) (fun _ O => O.2)) (fun _ O => trivial))⟩, ⟨CS (Kd.Ai (rI (q := X) (Kd.Ao s.out j.out (by decide)) (fun _ O => O.2)) (fun _ O => O.1.1.1))⟩, ⟨CS (Kd.Ai (rI (q := X) (Kd.Ao jF.out j.out (by decide)) (fun _ O => O.2)) (fun _ O => ⟨O.1.1, O.1.2.1⟩))⟩, ⟨bF cB p⟩, ⟨bF eB l⟩, ⟨bF gB r⟩, ⟨pB j⟩, ⟨be5 D x y z W hB⟩⟩
end Go.Proofs.Ytojankgmedccdaa.PGn
