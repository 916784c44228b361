/- Lemmas for LawDriversTakes. -/
import Derived.Test.YtojankgmedccdaaYTPIsx11
namespace Go.Proofs.Ytojankgmedccdaa.PIs
open Go.RowKit Own PTy Hand YtojankgmedccdaaW.PrintWords YtojankgmedccdaaW.PrintLast YtojankgmedccdaaW.PrintMore
attribute [local go_sem] BN BO Be Bf Az BA BR BS
set_option linter.unusedVariables false
set_option linter.unusedSimpArgs false
mutual
def CX.j0 : Nat → Bool → Int → Int → ByteArray → List ByteArray → List (S26) → Int → Int → List Int → List (S30) → Option (Bool)
 | 0, _, _, _, _, _, _, _, _, _, _ => none
 | k + 1, G, d, g, i, h, a, j, e, b, c => if G = true then (some false) else (if d = 1 then (if e = 0 then (if (b.length : Int) = 1 then ((EC.f k b).bind fun t208 => (if t208 = true then (some ((c.length : Int) == 0)) else (some false))) else (some false)) else (some false)) else (if d = 2 then (if e = 0 then (if (b.length : Int) = 0 then (some ((c.length : Int) == 0)) else (some false)) else (if e = 1 then (if (b.length : Int) = 0 then (some ((c.length : Int) == 0)) else (some false)) else (some false))) else (if d = 3 then ((FY.f e).bind fun z => (if z = true then (if (b.length : Int) = 0 then (some ((c.length : Int) == 0)) else (some false)) else (some false))) else (if d = 4 then (if e = 0 then (if (b.length : Int) = g then ((EC.f k b).bind fun t210 => (if t210 = true then (some ((c.length : Int) == 0)) else (some false))) else (some false)) else (some false)) else (if d = 5 then (if e ≥ 0 then (if e < (h.length : Int) then (if (b.length : Int) = 0 then (some ((c.length : Int) == 0)) else (some false)) else (some false)) else (some false)) else (if e = 0 then (if (b.length : Int) = 0 then (CX.j1 k ((c.length : Int) != g) d g i h a j e b c) else (CX.j1 k true d g i h a j e b c)) else (CX.j1 k true d g i h a j e b c)))))))
def CX.j1 : Nat → Bool → Int → Int → ByteArray → List ByteArray → List (S26) → Int → Int → List Int → List (S30) → Option (Bool)
 | 0, _, _, _, _, _, _, _, _, _, _ => none
 | k + 1, D, d, g, i, h, a, j, e, b, c => if D = true then (some false) else (CX.l0 k c (c.length : Int) 0 d g i h a)
def CX.l0 : Nat → List (S30) → Int → Int → Int → Int → ByteArray → List ByteArray → List (S26) → Option (Bool)
 | 0, _, _, _, _, _, _, _, _ => none
 | k + 1, m, x, l, d, g, i, h, a => if l < x then (if 0 ≤ l then (if l < (m.length : Int) then (if 0 < (a.length : Int) then ((CX.f k ((Aj a 0).f0) ((Aj a 0).f1) ((Aj a 0).f2) ((Aj a 0).f3) ((Aj a 0).f4) ((AB m l).f0) ((AB m l).f1) ((AB m l).f2) ((AB m l).f3)).bind fun B => (if B = true then (CX.l0 k m x (wrap64 (l + 1)) d g i h a) else (some false))) else (none)) else (none)) else (none)) else (some true)
def CX.f : Nat → Int → Int → ByteArray → List ByteArray → List (S26) → Int → Int → List Int → List (S30) → Option (Bool)
 | 0, _, _, _, _, _, _, _, _, _ => none
 | k + 1, n, o, p, r, s, q, u, v, w => (Ag.f k n o p r s).bind fun y => (if y = true then (CX.j0 k (q != n) n o p r s q u v w) else (CX.j0 k true n o p r s q u v w))
end
set_option maxHeartbeats 8000000 in
set_option maxRecDepth 100000 in
theorem CX.calls (k : Nat) : ∀ (bB : Int) (cB : Int) (dB : ByteArray) (qB : Option Addr) (uB : Nat) (Z : List ByteArray) (oC : Option Addr) (wB : Nat) (p : List (S26)) (oB : Int) (hB : Int) (pC : Option Addr) (tC : Nat) (aB : List Int) (xC : Option Addr) (uC : Nat) (c : List (S30)) (r : Bool) (w : World) (fE : Kd.C Kd.string w qB Z.length Z) (bE : Z.length ≤ uB) (gE : Kd.C k26 w oC p.length p) (cE : p.length ≤ wB) (hE : Kd.C (Kd.int .u8) w pC aB.length aB) (dE : aB.length ≤ tC) (jE : Kd.C k30 w xC c.length c) (eE : c.length ≤ uC) (h : CX.f k bB cB dB Z p oB hB aB c = some r),
  Calls Try.prog 37 #[.agg #[.int .i64 bB, .int .i64 cB, .string dB, .slice qB Z.length uB, .slice oC p.length wB], .agg #[.int .i64 oB, .int .i64 hB, .slice pC aB.length tC, .slice xC c.length uC]] w fun e w' => e = .returned (.bool r) ∧ Below w.heap.size w w' := by
 induction k using Nat.strongRecOn with
 | _ k ih =>
 intro bB cB dB qB uB Z oC wB p oB hB pC tC aB xC uC c r w fE bE gE cE hE dE jE eE h
 cases k with
 | zero => exact absurd h (by simp [CX.f])
 | succ k =>
 simp only [CX.f] at h
 have pK := Try.underlying26
 have qK := Try.underlying30
 have rE := mk0 fE; have pE := mk0 bE; clear fE bE; have mD := mk0 gE; have qE := mk0 cE; clear gE cE; have nD := mk0 hE; have lD := mk0 dE; clear hE dE; have sE := mk0 jE; have gI := mk0 eE; clear jE eE
 have s := mk0 (Below.refl w.heap.size w)
 have H := h; unfold CX.f at H
 clear h; have lF := mk0 H; clear H
 go_enter Try.func37, Try.ntmps37
 go_upto_region 1 with (first | ((with_reducible refine AJ rfl (N := 2) rfl (cs := #[.int .i64 bB, .int .i64 cB, .string dB, .slice qB Z.length uB, .slice oC p.length wB]) (t := 26) ?hr ?_); (case hr => first | (go_simp; done) | (go_simp; rfl)); intro Y hg w4 xB hb; have b := mk0 (xB); have m := bs (be s) hg; replace s := kh s hb; clear hb xB hg) | ((with_reducible refine AJ rfl (N := 3) rfl (cs := #[.int .i64 oB, .int .i64 hB, .slice pC aB.length tC, .slice xC c.length uC]) (t := 30) ?hr ?_); (case hr => first | (go_simp; done) | (go_simp; rfl)); intro eD hg w5 xB hb; have d := mk0 (xB); have o := bs (be1 s m) hg; replace s := kh1 s m hb; have ⟨g, j⟩ := nn b hg; replace b := kb b hb; clear hb xB hg))
 (try simp only [Act.put, List.setIfInBounds_toArray, List.set_cons_zero, List.set_cons_succ])
 go_cut [16] (fun v16 wc => ∃ (kq : Nat) (kE : Bool), v16 = .bool kE ∧ Aside0 (CX.j0 kq kE bB cB dB Z p oB hB aB c = some r) ∧ Aside0 (kq ≤ k) ∧ Aside0 (wc.heap[Y]? = some (.cells #[.int .i64 bB, .int .i64 cB, .string dB, (.slice qB Z.length uB), (.slice oC p.length wB)] 26 (0, 0))) ∧ Aside0 (wc.heap[eD]? = some (.cells #[.int .i64 oB, .int .i64 hB, (.slice pC aB.length tC), (.slice xC c.length uC)] 30 (0, 0))) ∧ Aside0 (Below w.heap.size w wc))
 case first =>
  have H := lF.out; clear lF
  replace H := bS H; obtain ⟨rK, A6, H⟩ := H
  replace H := iB H; obtain ⟨rfl, H⟩ | ⟨rfl, H⟩ := H
  ·have H' := mk0 H
   clear H; have ⟨nK, oK⟩ := no g j
   have z9 := cells5 b.out
   go_wp2_with ((with_reducible refine AL (f := 44) rfl ?_); refine CV Try.func44 (Ag.calls k bB cB dB _ _ Z _ _ p true _ (cu rE s) pE.out (cu mD s) qE.out A6.out) ?_; intro jL hb; obtain ⟨b, d⟩ := tb2 hb b d; replace s := kh2 s m o hb; have lL := Au d.out; have z12 := cells5 b.out)
   go_meet
   case rel => exact ⟨_, ((oB != bB)), rfl, H', ⟨by omega⟩, ⟨bu b⟩, ⟨bu d⟩, ⟨be2 s m o⟩⟩
  have H' := mk0 H
  clear H; have ⟨pI, nJ⟩ := no g j
  have mL := cells5 b.out
  go_wp2_with ((with_reducible refine AL (f := 44) rfl ?_); refine CV Try.func44 (Ag.calls k bB cB dB _ _ Z _ _ p false _ (cu rE s) pE.out (cu mD s) qE.out A6.out) ?_; intro kL hb; obtain ⟨b, d⟩ := tb2 hb b d; replace s := kh2 s m o hb)
  go_meet
  case rel => exact ⟨_, (true), rfl, H', ⟨by omega⟩, ⟨bu b⟩, ⟨bu d⟩, ⟨be2 s m o⟩⟩
 case rest =>
  clear lF
  obtain ⟨kq, kE, rfl, HA, rD, b, d, s⟩ := hcut
  cases kq with
  | zero => exact absurd HA.out (by simp [CX.j0])
  | succ kK =>
   have H := HA.out; clear HA
   simp only [CX.j0] at H
   replace H := iB H; obtain ⟨rfl, H⟩ | ⟨rfl, H⟩ := H
   ·obtain rfl := sI H
    go_wp2
    go_ret
    exact ⟨rfl, be2 s m o⟩
   replace H := iE H; obtain ⟨mF, oF, H⟩ | ⟨cL, mF, oF, H⟩ := H
   ·replace H := iE' H; obtain ⟨dL, pF, qF, H⟩ | ⟨pF, qF, H⟩ := H
    ·obtain rfl := sI H; have ⟨wI, rJ⟩ := no g j
     have z32 := cells5 b.out
     have z33 := Au d.out
     go_wp2
     go_ret
     exact ⟨rfl, be2 s m o⟩
    replace H := iE' H; obtain ⟨eL, sF, tF, H⟩ | ⟨sF, tF, H⟩ := H
    ·obtain rfl := sI H; have ⟨uI, qJ⟩ := no g j
     have z29 := cells5 b.out
     have z30 := Au d.out
     go_wp2
     go_ret
     exact ⟨rfl, be2 s m o⟩
    replace H := bS H; obtain ⟨t208, pG, H⟩ := H
    replace H := iB H; obtain ⟨rfl, H⟩ | ⟨rfl, H⟩ := H
    ·obtain rfl := sI H; have ⟨qI, oJ⟩ := no g j
     have z23 := cells5 b.out
     have z24 := Au d.out
     go_wp2_with (go_at_call 57; refine (EC.calls (cu nD s) lD.out pG.out).mono ?_; rintro e w' ⟨rfl, ⟨nd, rfl⟩⟩)
     go_ret
     exact ⟨rfl, be2 s m o⟩
    obtain rfl := sI H; have ⟨tI, pJ⟩ := no g j
    have z26 := cells5 b.out
    have z27 := Au d.out
    go_wp2_with (go_at_call 57; refine (EC.calls (cu nD s) lD.out pG.out).mono ?_; rintro e w' ⟨rfl, ⟨nd, rfl⟩⟩)
    go_ret
    exact ⟨rfl, be2 s m o⟩
   replace H := iE H; obtain ⟨tD, uD, H⟩ | ⟨c34, tD, uD, H⟩ := H
   ·replace H := iE H; obtain ⟨uF, wF, H⟩ | ⟨fL, uF, wF, H⟩ := H
    ·replace H := iE' H; obtain ⟨hI, xF, yF, H⟩ | ⟨xF, yF, H⟩ := H
     ·have iI : ¬ (aB = []) := fun h_ => hI (by rw [h_]; rfl)
      obtain rfl := sI H; have ⟨yI, tJ⟩ := no g j
      have z41 := cells5 b.out
      have z42 := Au d.out
      go_wp2
      go_ret
      exact ⟨rfl, be2 s m o⟩
     obtain rfl := sI H; have ⟨xI, sJ⟩ := no g j
     have z38 := cells5 b.out
     have z39 := Au d.out
     go_wp2
     go_ret
     exact ⟨rfl, be2 s m o⟩
    replace H := iE' H; obtain ⟨gL, zF, aG, H⟩ | ⟨zF, aG, H⟩ := H
    ·obtain rfl := sI H; have ⟨bJ, wJ⟩ := no g j
     have z52 := cells5 b.out
     have z53 := Au d.out
     go_wp2
     go_ret
     exact ⟨rfl, be2 s m o⟩
    replace H := iE' H; obtain ⟨jI, bG, cG, H⟩ | ⟨bG, cG, H⟩ := H
    ·have kI : ¬ (aB = []) := fun h_ => jI (by rw [h_]; rfl)
     obtain rfl := sI H; have ⟨aJ, vJ⟩ := no g j
     have z49 := cells5 b.out
     have z50 := Au d.out
     go_wp2
     go_ret
     exact ⟨rfl, be2 s m o⟩
    obtain rfl := sI H; have ⟨zI, uJ⟩ := no g j
    have z46 := cells5 b.out
    have z47 := Au d.out
    go_wp2
    go_ret
    exact ⟨rfl, be2 s m o⟩
   replace H := iE H; obtain ⟨vD, wD, H⟩ | ⟨tG, vD, wD, H⟩ := H
   ·replace H := bS H; obtain ⟨sK, jF, H⟩ := H
    replace H := iB' H; obtain ⟨rfl, H⟩ | ⟨rfl, H⟩ := H
    ·obtain rfl := sI H; have ⟨eJ, zJ⟩ := no g j
     have z65 := cells5 b.out
     have z66 := Au d.out
     go_wp2_with ((with_reducible refine AL (f := 58) rfl ?_); refine FI Try.func58 (FY.calls jF.out) ?_; intro nd)
     go_ret
     exact ⟨rfl, be2 s m o⟩
    replace H := iE' H; obtain ⟨lI, dG, eG, H⟩ | ⟨dG, eG, H⟩ := H
    ·have mI : ¬ (aB = []) := fun h_ => lI (by rw [h_]; rfl)
     obtain rfl := sI H; have ⟨dJ, yJ⟩ := no g j
     have z62 := cells5 b.out
     have z63 := Au d.out
     go_wp2_with ((with_reducible refine AL (f := 58) rfl ?_); refine FI Try.func58 (FY.calls jF.out) ?_; intro nd)
     go_ret
     exact ⟨rfl, be2 s m o⟩
    obtain rfl := sI H; have ⟨cJ, xJ⟩ := no g j
    have z59 := cells5 b.out
    have z60 := Au d.out
    go_wp2_with ((with_reducible refine AL (f := 58) rfl ?_); refine FI Try.func58 (FY.calls jF.out) ?_; intro nd)
    go_ret
    exact ⟨rfl, be2 s m o⟩
   replace H := iE H; obtain ⟨xD, yD, H⟩ | ⟨uG, xD, yD, H⟩ := H
   ·replace H := iE' H; obtain ⟨hL, fG, gG, H⟩ | ⟨fG, gG, H⟩ := H
    ·obtain rfl := sI H; have ⟨iJ, dK⟩ := no g j
     have z82 := cells5 b.out
     have z83 := Au d.out
     go_wp2
     go_ret
     exact ⟨rfl, be2 s m o⟩
    replace H := iE' H; obtain ⟨iL, hG, iG, H⟩ | ⟨hG, iG, H⟩ := H
    ·obtain rfl := sI H; have ⟨hJ, cK⟩ := no g j
     have z79 := cells5 b.out
     have z80 := Au d.out
     go_wp2
     go_ret
     exact ⟨rfl, be2 s m o⟩
    replace H := bS H; obtain ⟨t210, qG, H⟩ := H
    replace H := iB H; obtain ⟨rfl, H⟩ | ⟨rfl, H⟩ := H
    ·obtain rfl := sI H; have ⟨fJ, aK⟩ := no g j
     have z73 := cells5 b.out
     have z74 := Au d.out
     go_wp2_with (go_at_call 57; refine (EC.calls (cu nD s) lD.out qG.out).mono ?_; rintro e w' ⟨rfl, ⟨nd, rfl⟩⟩)
     go_ret
     exact ⟨rfl, be2 s m o⟩
    obtain rfl := sI H; have ⟨gJ, bK⟩ := no g j
    have z76 := cells5 b.out
    have z77 := Au d.out
    go_wp2_with (go_at_call 57; refine (EC.calls (cu nD s) lD.out qG.out).mono ?_; rintro e w' ⟨rfl, ⟨nd, rfl⟩⟩)
    go_ret
    exact ⟨rfl, be2 s m o⟩
   replace H := iE H; obtain ⟨zD, aE, H⟩ | ⟨vG, zD, aE, H⟩ := H
   ·by_cases c85 : hB ≥ 0
    rotate_left
    ·rw [if_neg c85] at H
     have jG : decide (0 ≤ hB) = false := decide_eq_false c85; clear c85; obtain rfl := sI H; have ⟨mJ, iK⟩ := no g j
     have rL := cells5 b.out
     have sL := Au d.out
     go_wp2
     go_ret
     exact ⟨rfl, be2 s m o⟩
    rw [if_pos c85] at H; have jG : decide (0 ≤ hB) = true := decide_eq_true c85; clear c85
    replace H := iD' H; obtain ⟨-, kG, H⟩ | ⟨-, kG, H⟩ := H
    ·obtain rfl := sI H; have ⟨lJ, gK⟩ := no g j
     have pL := cells5 b.out
     have qL := Au d.out
     go_wp2
     go_ret
     exact ⟨rfl, be2 s m o⟩
    replace H := iE' H; obtain ⟨c87, lG, mG, H⟩ | ⟨lG, mG, H⟩ := H
    ·have oI : ¬ (aB = []) := fun h_ => c87 (by rw [h_]; rfl)
     obtain rfl := sI H; have ⟨kJ, fK⟩ := no g j
     have oL := cells5 b.out
     have z93 := Au d.out
     go_wp2
     go_ret
     exact ⟨rfl, be2 s m o⟩
    obtain rfl := sI H; have ⟨jJ, eK⟩ := no g j
    have z89 := cells5 b.out
    have nL := Au d.out
    go_wp2
    go_ret
    exact ⟨rfl, be2 s m o⟩
   have qD := mk0 H; clear H; have ⟨oH, xH⟩ := no g j
   have yK := cells5 b.out
   go_upto_region 14 with (fail)
   go_cut [145] (fun v145 wc => ∃ (kq : Nat) (kD : Bool), v145 = .bool kD ∧ Aside0 (CX.j1 kq kD bB cB dB Z p oB hB aB c = some r) ∧ Aside0 (kq ≤ kK) ∧ Aside0 (wc.heap[Y]? = some (.cells #[.int .i64 bB, .int .i64 cB, .string dB, (.slice qB Z.length uB), (.slice oC p.length wB)] 26 (0, 0))) ∧ Aside0 (wc.heap[eD]? = some (.cells #[.int .i64 oB, .int .i64 hB, (.slice pC aB.length tC), (.slice xC c.length uC)] 30 (0, 0))) ∧ Aside0 (Below w.heap.size w wc))
   case first =>
    have H := qD.out; clear qD
    replace H := iE' H; obtain ⟨mK, sC, aF, H⟩ | ⟨sC, aF, H⟩ := H
    ·(first | rw [sC] | (simp only [CO, Da]; rw [sC]) | skip)
     have H' := mk0 H
     clear H; have ⟨rH, aI⟩ := no j g
     have aL := Au d.out
     go_wp2
     go_meet
     case rel => exact ⟨_, (true), rfl, H', ⟨by have := rD.out; omega⟩, ⟨bu b⟩, ⟨bu d⟩, ⟨be2 s m o⟩⟩
    (first | rw [sC] | (simp only [CO, Da]; rw [sC]) | skip)
    replace H := iE' H; obtain ⟨rG, cF, dF, H⟩ | ⟨cF, dF, H⟩ := H
    ·have jH : ¬ (aB = []) := fun h_ => rG (by rw [h_]; rfl)
     have H' := mk0 H
     clear H; have ⟨qH, zH⟩ := no j g
     have z109 := Au d.out
     go_wp2
     go_meet
     case rel => exact ⟨_, (true), rfl, H', ⟨by have := rD.out; omega⟩, ⟨bu b⟩, ⟨bu d⟩, ⟨be2 s m o⟩⟩
    have H' := mk0 H
    clear H; have ⟨pH, yH⟩ := no j g
    have zK := Au d.out
    have z107 := cells5 b.out
    go_wp2
    go_meet
    case rel => exact ⟨_, (((c.length : Int) != cB)), rfl, H', ⟨by have := rD.out; omega⟩, ⟨bu b⟩, ⟨bu d⟩, ⟨be2 s m o⟩⟩
   case rest =>
    clear qD; try clear c34; try clear tD; try clear uD; try clear tG; try clear vD; try clear wD; try clear uG; try clear xD; try clear yD; try clear vG; try clear zD; try clear aE
    obtain ⟨kq, kD, rfl, HA, mE, b, d, s⟩ := hcut
    cases kq with
    | zero => exact absurd HA.out (by simp [CX.j1])
    | succ hF =>
     have H := HA.out; clear HA
     simp only [CX.j1] at H
     replace H := iB H; obtain ⟨rfl, H⟩ | ⟨rfl, H⟩ := H
     ·obtain rfl := sI H
      go_wp2
      go_ret
      exact ⟨rfl, be2 s m o⟩
     have H' := mk0 H
     clear H; have ⟨sH, bI⟩ := no j g
     have bL := Au d.out
     go_wp2
     go_loopg [149] hF (fun kq v149 w' => ∃ (a : Int), v149 = .int .i64 a ∧ Aside0 (CX.l0 kq c (c.length : Int) a bB cB dB Z p = some r) ∧ Aside0 (kq ≤ hF) ∧ Aside0 (w'.heap[Y]? = some (.cells #[.int .i64 bB, .int .i64 cB, .string dB, (.slice qB Z.length uB), (.slice oC p.length wB)] 26 (0, 0))) ∧ Aside0 (w'.heap[eD]? = some (.cells #[.int .i64 oB, .int .i64 hB, (.slice pC aB.length tC), (.slice xC c.length uC)] 30 (0, 0))) ∧ Aside0 (Below w.heap.size w w'))
     case atStart => exact ⟨(0), rfl, H', ⟨Nat.le_refl _⟩, ⟨bu b⟩, ⟨bu d⟩, ⟨be2 s m o⟩⟩
     case round =>
      clear H'
      try clear c34; try clear tD; try clear uD; try clear tG; try clear vD; try clear wD; try clear uG; try clear xD; try clear yD; try clear vG; try clear zD; try clear aE
      obtain ⟨a, rfl, HA, zE, b, d, s⟩ := hrel
      cases gk with
      | zero => exact absurd HA.out (by simp [CX.l0])
      | succ k3 =>
       have H := HA.out; clear HA
       simp only [CX.l0] at H
       replace H := iD' H; obtain ⟨-, eF, H⟩ | ⟨-, eF, H⟩ := H
       ·obtain rfl := sI H
        go_wp2
        go_ret
        exact ⟨rfl, be2 s m o⟩
       replace H := iN H; obtain ⟨-, kH, H⟩ := H
       replace H := iN H; obtain ⟨-, lH, H⟩ := H
       replace H := iN H; obtain ⟨sG, mH, H⟩ := H
       have nH : decide (0 < p.length) = true := decide_eq_true (by omega)
       clear sG
       replace H := bS H; obtain ⟨tK, gF, H⟩ := H
       replace H := iB' H; obtain ⟨rfl, H⟩ | ⟨rfl, H⟩ := H
       ·obtain rfl := sI H
        have fD : 0 ≤ (a : Int) := od
        have hD : a < (c.length : Int) := od
        obtain ⟨sD, D, I, G, J, tE, gC, hC, iC, jC, cC, yB, dC, zB⟩ := EP sE.out a fD hD
        cases tE
        replace gC := AC s.out gC
        replace hC := AC s.out hC
        replace iC := AC s.out iC
        replace jC := AC s.out jC
        have cD := mk0 yB; have yC := mk0 cC; clear yB cC; have dD := mk0 zB; have zC := mk0 dC; clear zB dC; replace fD := eq_true fD; replace hD := eq_true hD
        try go_wp2_with ((with_reducible refine AJ rfl (N := 6) rfl (cs := #[.int .i64 0, .int .i64 0, .slice none 0 0, .slice none 0 0]) (t := 30) ?hr ?_); (case hr => first | (go_simp; done) | (go_simp; rfl)); intro l hg pD xB hb; have q := mk0 (xB); have lC := bs (be2 s m o) hg; replace s := kh2 s m o hb; have ⟨eB, mC⟩ := nn b hg; have ⟨fB, nC⟩ := nn d hg; obtain ⟨b, d⟩ := tb2 hb b d; clear hb xB hg; have ⟨vH, eI⟩ := no mC eB; have ⟨wH, fI⟩ := no nC fB; have z131 := Au q.out)
        have jB : Aside0 (((((pD.setCell ⟨l, 0, none⟩ (.int .i64 ((AB c a).f0))).setCell ⟨l, 1, none⟩ (.int .i64 ((AB c a).f1))).setCell ⟨l, 2, none⟩ (.slice D ((AB c a).f2).length I)).setCell ⟨l, 3, none⟩ (.slice G ((AB c a).f3).length J)).heap[Y]? = some (.cells #[.int .i64 bB, .int .i64 cB, .string dB, .slice qB Z.length uB, .slice oC p.length wB] 26 (0, 0))) := ⟨bF eB b⟩
        have kB : Aside0 (((((pD.setCell ⟨l, 0, none⟩ (.int .i64 ((AB c a).f0))).setCell ⟨l, 1, none⟩ (.int .i64 ((AB c a).f1))).setCell ⟨l, 2, none⟩ (.slice D ((AB c a).f2).length I)).setCell ⟨l, 3, none⟩ (.slice G ((AB c a).f3).length J)).heap[eD]? = some (.cells #[.int .i64 oB, .int .i64 hB, .slice pC aB.length tC, .slice (some sD) c.length uC] 30 (0, 0))) := ⟨bF fB d⟩
        have lB : Aside0 (((((pD.setCell ⟨l, 0, none⟩ (.int .i64 ((AB c a).f0))).setCell ⟨l, 1, none⟩ (.int .i64 ((AB c a).f1))).setCell ⟨l, 2, none⟩ (.slice D ((AB c a).f2).length I)).setCell ⟨l, 3, none⟩ (.slice G ((AB c a).f3).length J)).heap[l]? = some (.cells #[.int .i64 ((AB c a).f0), .int .i64 ((AB c a).f1), .slice D ((AB c a).f2).length I, .slice G ((AB c a).f3).length J] 30 (0, 0))) := ⟨pB q⟩
        have mB : Aside0 (Below w.heap.size w ((((pD.setCell ⟨l, 0, none⟩ (.int .i64 ((AB c a).f0))).setCell ⟨l, 1, none⟩ (.int .i64 ((AB c a).f1))).setCell ⟨l, 2, none⟩ (.slice D ((AB c a).f2).length I)).setCell ⟨l, 3, none⟩ (.slice G ((AB c a).f3).length J))) := ⟨be3 s m o lC⟩
        try clear b
        try clear d
        try clear q
        try clear s
        generalize ((((pD.setCell ⟨l, 0, none⟩ (.int .i64 ((AB c a).f0))).setCell ⟨l, 1, none⟩ (.int .i64 ((AB c a).f1))).setCell ⟨l, 2, none⟩ (.slice D ((AB c a).f2).length I)).setCell ⟨l, 3, none⟩ (.slice G ((AB c a).f3).length J)) = iH at jB kB lB mB ⊢
        have b := jB; have d := kB; have q := lB; have s := mB; clear jB kB lB mB
        have jB := mk0 (AV b.out)
        have kB := mk0 (AV d.out)
        have lB := mk0 (AV q.out)
        have mB := mk0 (AZ s.out)
        clear b; clear d; clear q; clear s; have b := jB; have d := kB; have q := lB; have s := mB; clear jB kB lB mB
        have gD : 0 ≤ (0 : Int) := (by omega)
        have jD : 0 < (p.length : Int) := od
        obtain ⟨L, qC, vC, rC, wC, uE, u, x, y, z, B, eC, aC, fC, bC⟩ := FR mD.out 0 gD jD
        have X := B
        (try rw [show ((0 : Int)).toNat = 0 from rfl] at X)
        (try rw [show 0 * 5 = 0 from rfl] at X)
        (try rw [Addr.add_zero'] at X)
        have W := z
        (try rw [show ((0 : Int)).toNat = 0 from rfl] at W)
        (try rw [show 0 * 5 = 0 from rfl] at W)
        (try rw [Addr.add_zero'] at W)
        have U := y
        (try rw [show ((0 : Int)).toNat = 0 from rfl] at U)
        (try rw [show 0 * 5 = 0 from rfl] at U)
        (try rw [Addr.add_zero'] at U)
        have T := x
        (try rw [show ((0 : Int)).toNat = 0 from rfl] at T)
        (try rw [show 0 * 5 = 0 from rfl] at T)
        (try rw [Addr.add_zero'] at T)
        have O := u
        (try rw [show ((0 : Int)).toNat = 0 from rfl] at O)
        (try rw [show 0 * 5 = 0 from rfl] at O)
        (try rw [Addr.add_zero'] at O)
        cases uE
        have nG : (0 < p.length) = True := eq_true (by omega)
        (try rw [show ((0 : Int)).toNat = 0 from rfl] at u)
        (try rw [show 0 * 5 = 0 from rfl] at u)
        (try rw [Addr.add_zero'] at u)
        (try rw [show ((0 : Int)).toNat = 0 from rfl] at x)
        (try rw [show 0 * 5 = 0 from rfl] at x)
        (try rw [Addr.add_zero'] at x)
        (try rw [show ((0 : Int)).toNat = 0 from rfl] at y)
        (try rw [show 0 * 5 = 0 from rfl] at y)
        (try rw [Addr.add_zero'] at y)
        (try rw [show ((0 : Int)).toNat = 0 from rfl] at z)
        (try rw [show 0 * 5 = 0 from rfl] at z)
        (try rw [Addr.add_zero'] at z)
        (try rw [show ((0 : Int)).toNat = 0 from rfl] at B)
        (try rw [show 0 * 5 = 0 from rfl] at B)
        (try rw [Addr.add_zero'] at B)
        replace u := AC s.out u
        replace x := AC s.out x
        replace y := AC s.out y
        replace z := AC s.out z
        replace B := AC s.out B
        have sB := mk0 aC; have aD := mk0 eC; clear aC eC; have tB := mk0 bC; have bD := mk0 fC; clear bC fC; replace gD := eq_true gD; replace jD := eq_true jD
        refine DU (n := 7) (S := fun w' => w'.cell? ⟨Y, 0, none⟩ = some (.int .i64 bB) ∧ w'.cell? ⟨Y, 1, none⟩ = some (.int .i64 cB) ∧ w'.cell? ⟨Y, 2, none⟩ = some (.string dB) ∧ w'.cell? ⟨Y, 3, none⟩ = some (.slice qB Z.length uB) ∧ w'.cell? ⟨Y, 4, none⟩ = some (.slice (some L) p.length wB) ∧ w'.cell? ⟨l, 0, none⟩ = some (.int .i64 ((AB c a).f0)) ∧ w'.cell? ⟨l, 1, none⟩ = some (.int .i64 ((AB c a).f1)) ∧ w'.cell? ⟨l, 2, none⟩ = some (.slice D ((AB c a).f2).length I) ∧ w'.cell? ⟨l, 3, none⟩ = some (.slice G ((AB c a).f3).length J) ∧ w'.cell? L = some (.int .i64 ((Aj p 0).f0)) ∧ w'.cell? ⟨L.block, L.off + 1, none⟩ = some (.int .i64 ((Aj p 0).f1)) ∧ w'.cell? ⟨L.block, L.off + 2, none⟩ = some (.string ((Aj p 0).f2)) ∧ w'.cell? ⟨L.block, L.off + 3, none⟩ = some (.slice qC ((Aj p 0).f3).length vC) ∧ w'.cell? ⟨L.block, L.off + 4, none⟩ = some (.slice rC ((Aj p 0).f4).length wC)) (ds := []) (tf 0 7) (by kernel_rfl) rfl rfl ⟨bc b 0, bc b 1, bc b 2, bc b 3, bc b 4, bc q 0, bc q 1, bc q 2, bc q 3, (AC s.out O), (AC s.out T), (AC s.out U), (AC s.out W), (AC s.out X)⟩ (fun gB => ?_)
        generalize iH.drew = wK at b d q s sB tB u x y z B gB ⊢
        refine Hr (i := 0) (N := some 153) (v := ?_) (a' := ?_) (tf 1 6) rfl rfl (by kernel_rfl) (fun _ _ _ h => h) (Or.inl ⟨by rfl, ?_⟩) ?_ ?_
        rotate_left
        ·intro w'
         go_simp
         with_reducible rfl
        rotate_left
        ·simp only [ps]
         rfl
        refine Bj (i := 1) (N := some 154) (v := ?_) (a' := ?_) (tf 2 5) rfl rfl (by kernel_rfl) (fun _ _ _ h => h) (Or.inl ⟨by rfl, ?_⟩) gB ?_ ?_
        rotate_left
        ·rintro w' ⟨s0, s1, s2, s3, s4, s5, s6, s7, s8, s9, vE, wE, xE, yE⟩
         go_simp
         with_reducible rfl
        rotate_left
        ·simp only [ps]
         rfl
        refine Hr (i := 2) (N := some 155) (v := ?_) (a' := ?_) (tf 3 4) rfl rfl (by kernel_rfl) (fun _ _ _ h => h) (Or.inl ⟨by rfl, ?_⟩) ?_ ?_
        rotate_left
        ·intro w'
         go_simp
         with_reducible rfl
        rotate_left
        ·simp only [ps]
         rfl
        refine Bj (i := 3) (N := some 156) (v := ?_) (a' := ?_) (tf 4 3) rfl rfl (by kernel_rfl) (fun _ _ _ h => h) (Or.inl ⟨by rfl, ?_⟩) gB ?_ ?_
        rotate_left
        ·rintro w' ⟨s0, s1, s2, s3, s4, s5, s6, s7, s8, s9, vE, wE, xE, yE⟩
         go_simp
         with_reducible rfl
        rotate_left
        ·simp only [ps]
         rfl
        refine Bj (i := 4) (N := some 157) (v := ?_) (a' := ?_) (tf 5 2) rfl rfl (by kernel_rfl) (fun _ _ _ h => h) (Or.inl ⟨by rfl, ?_⟩) gB ?_ ?_
        rotate_left
        ·rintro w' ⟨s0, s1, s2, s3, s4, s5, s6, s7, s8, s9, vE, wE, xE, yE⟩
         go_simp
         with_reducible rfl
        rotate_left
        ·simp only [ps]
         rfl
        refine DL (i := 5) (N := some 158) (tf 6 1) rfl rfl (by kernel_rfl) (by decide) (fun K hK => ?_)
        refine Co Try.func37 (by kernel_rfl) rfl #[.agg #[.int .i64 ((Aj p 0).f0), .int .i64 ((Aj p 0).f1), .string ((Aj p 0).f2), .slice qC ((Aj p 0).f3).length vC, .slice rC ((Aj p 0).f4).length wC], .agg #[.int .i64 ((AB c a).f0), .int .i64 ((AB c a).f1), .slice D ((AB c a).f2).length I, .slice G ((AB c a).f3).length J]] (by rfl) rfl rfl (by (try simp only [List.map_toArray, List.map_cons, List.map_nil]); first | done | rfl | (simp only [List.length_drop, List.length_take]; rfl)) ?_
        with_reducible refine (ih k3 (by have := rD.out; have := mE.out; have := zE.out; omega) ((Aj p 0).f0) ((Aj p 0).f1) ((Aj p 0).f2) _ _ ((Aj p 0).f3) _ _ ((Aj p 0).f4) ((AB c a).f0) ((AB c a).f1) _ _ ((AB c a).f2) _ _ ((AB c a).f3) false _ ?side1 ?side2 ?side3 ?side4 ?side5 ?side6 ?side7 ?side8 gF.out).mono ?_
        (case side1 => exact cu sB s)
        (case side2 => exact aD.out)
        (case side3 => exact cu tB s)
        (case side4 => exact bD.out)
        (case side5 => exact cu cD s)
        (case side6 => exact yC.out)
        (case side7 => exact cu dD s)
        (case side8 => exact zC.out)
        rintro e xK ⟨rfl, hb⟩
        refine ⟨_, rfl, ?_⟩
        have jB := kb b hb
        have kB := kb d hb
        have lB := kb q hb
        have mB := kh3 s m o lC hb
        clear b; clear d; clear q; clear s; have b := jB; have d := kB; have q := lB; have s := mB; clear jB kB lB mB
        try clear hb
        refine hK.out _ _ ⟨bc b 0, bc b 1, bc b 2, bc b 3, bc b 4, bc q 0, bc q 1, bc q 2, bc q 3, (AC s.out O), (AC s.out T), (AC s.out U), (AC s.out W), (AC s.out X)⟩ (fun gB => ?_)
        clear hK K
        refine Br (a' := ?_) ?_ ?_
        rotate_left
        ·show Act.put _ (some 158) _ = _
         simp only [ps]
         rfl
        refine Hr (i := 6) (N := some 159) (v := ?_) (a' := ?_) (tf 7 0) rfl rfl (by kernel_rfl) (fun _ _ _ h => h) (Or.inl ⟨by rfl, ?_⟩) ?_ ?_
        rotate_left
        ·intro w'
         go_simp
         with_reducible rfl
        rotate_left
        ·simp only [ps]
         rfl
        refine EG (by kernel_rfl) ?_
        try go_wp2
        go_ret
        exact ⟨rfl, be3 s m o lC⟩
       have H' := mk0 H
       clear H
       have fD : 0 ≤ (a : Int) := od
       have hD : a < (c.length : Int) := od
       obtain ⟨sD, D, I, G, J, tE, gC, hC, iC, jC, cC, yB, dC, zB⟩ := EP sE.out a fD hD
       cases tE
       replace gC := AC s.out gC
       replace hC := AC s.out hC
       replace iC := AC s.out iC
       replace jC := AC s.out jC
       have cD := mk0 yB; have yC := mk0 cC; clear yB cC; have dD := mk0 zB; have zC := mk0 dC; clear zB dC; replace fD := eq_true fD; replace hD := eq_true hD
       try go_wp2_with ((with_reducible refine AJ rfl (N := 6) rfl (cs := #[.int .i64 0, .int .i64 0, .slice none 0 0, .slice none 0 0]) (t := 30) ?hr ?_); (case hr => first | (go_simp; done) | (go_simp; rfl)); intro l hg oD xB hb; have q := mk0 (xB); have lC := bs (be2 s m o) hg; replace s := kh2 s m o hb; have ⟨eB, mC⟩ := nn b hg; have ⟨fB, nC⟩ := nn d hg; obtain ⟨b, d⟩ := tb2 hb b d; clear hb xB hg; have ⟨tH, cI⟩ := no mC eB; have ⟨uH, dI⟩ := no nC fB; have z124 := Au q.out)
       have jB : Aside0 (((((oD.setCell ⟨l, 0, none⟩ (.int .i64 ((AB c a).f0))).setCell ⟨l, 1, none⟩ (.int .i64 ((AB c a).f1))).setCell ⟨l, 2, none⟩ (.slice D ((AB c a).f2).length I)).setCell ⟨l, 3, none⟩ (.slice G ((AB c a).f3).length J)).heap[Y]? = some (.cells #[.int .i64 bB, .int .i64 cB, .string dB, .slice qB Z.length uB, .slice oC p.length wB] 26 (0, 0))) := ⟨bF eB b⟩
       have kB : Aside0 (((((oD.setCell ⟨l, 0, none⟩ (.int .i64 ((AB c a).f0))).setCell ⟨l, 1, none⟩ (.int .i64 ((AB c a).f1))).setCell ⟨l, 2, none⟩ (.slice D ((AB c a).f2).length I)).setCell ⟨l, 3, none⟩ (.slice G ((AB c a).f3).length J)).heap[eD]? = some (.cells #[.int .i64 oB, .int .i64 hB, .slice pC aB.length tC, .slice (some sD) c.length uC] 30 (0, 0))) := ⟨bF fB d⟩
       have lB : Aside0 (((((oD.setCell ⟨l, 0, none⟩ (.int .i64 ((AB c a).f0))).setCell ⟨l, 1, none⟩ (.int .i64 ((AB c a).f1))).setCell ⟨l, 2, none⟩ (.slice D ((AB c a).f2).length I)).setCell ⟨l, 3, none⟩ (.slice G ((AB c a).f3).length J)).heap[l]? = some (.cells #[.int .i64 ((AB c a).f0), .int .i64 ((AB c a).f1), .slice D ((AB c a).f2).length I, .slice G ((AB c a).f3).length J] 30 (0, 0))) := ⟨pB q⟩
       have mB : Aside0 (Below w.heap.size w ((((oD.setCell ⟨l, 0, none⟩ (.int .i64 ((AB c a).f0))).setCell ⟨l, 1, none⟩ (.int .i64 ((AB c a).f1))).setCell ⟨l, 2, none⟩ (.slice D ((AB c a).f2).length I)).setCell ⟨l, 3, none⟩ (.slice G ((AB c a).f3).length J))) := ⟨be3 s m o lC⟩
       try clear b
       try clear d
       try clear q
       try clear s
       generalize ((((oD.setCell ⟨l, 0, none⟩ (.int .i64 ((AB c a).f0))).setCell ⟨l, 1, none⟩ (.int .i64 ((AB c a).f1))).setCell ⟨l, 2, none⟩ (.slice D ((AB c a).f2).length I)).setCell ⟨l, 3, none⟩ (.slice G ((AB c a).f3).length J)) = hH at jB kB lB mB ⊢
       have b := jB; have d := kB; have q := lB; have s := mB; clear jB kB lB mB
       have jB := mk0 (AV b.out)
       have kB := mk0 (AV d.out)
       have lB := mk0 (AV q.out)
       have mB := mk0 (AZ s.out)
       clear b; clear d; clear q; clear s; have b := jB; have d := kB; have q := lB; have s := mB; clear jB kB lB mB
       have gD : 0 ≤ (0 : Int) := (by omega)
       have jD : 0 < (p.length : Int) := od
       obtain ⟨L, qC, vC, rC, wC, uE, u, x, y, z, B, eC, aC, fC, bC⟩ := FR mD.out 0 gD jD
       have X := B
       (try rw [show ((0 : Int)).toNat = 0 from rfl] at X)
       (try rw [show 0 * 5 = 0 from rfl] at X)
       (try rw [Addr.add_zero'] at X)
       have W := z
       (try rw [show ((0 : Int)).toNat = 0 from rfl] at W)
       (try rw [show 0 * 5 = 0 from rfl] at W)
       (try rw [Addr.add_zero'] at W)
       have U := y
       (try rw [show ((0 : Int)).toNat = 0 from rfl] at U)
       (try rw [show 0 * 5 = 0 from rfl] at U)
       (try rw [Addr.add_zero'] at U)
       have T := x
       (try rw [show ((0 : Int)).toNat = 0 from rfl] at T)
       (try rw [show 0 * 5 = 0 from rfl] at T)
       (try rw [Addr.add_zero'] at T)
       have O := u
       (try rw [show ((0 : Int)).toNat = 0 from rfl] at O)
       (try rw [show 0 * 5 = 0 from rfl] at O)
       (try rw [Addr.add_zero'] at O)
       cases uE
       have nG : (0 < p.length) = True := eq_true (by omega)
       (try rw [show ((0 : Int)).toNat = 0 from rfl] at u)
       (try rw [show 0 * 5 = 0 from rfl] at u)
       (try rw [Addr.add_zero'] at u)
       (try rw [show ((0 : Int)).toNat = 0 from rfl] at x)
       (try rw [show 0 * 5 = 0 from rfl] at x)
       (try rw [Addr.add_zero'] at x)
       (try rw [show ((0 : Int)).toNat = 0 from rfl] at y)
       (try rw [show 0 * 5 = 0 from rfl] at y)
       (try rw [Addr.add_zero'] at y)
       (try rw [show ((0 : Int)).toNat = 0 from rfl] at z)
       (try rw [show 0 * 5 = 0 from rfl] at z)
       (try rw [Addr.add_zero'] at z)
       (try rw [show ((0 : Int)).toNat = 0 from rfl] at B)
       (try rw [show 0 * 5 = 0 from rfl] at B)
       (try rw [Addr.add_zero'] at B)
       replace u := AC s.out u
       replace x := AC s.out x
       replace y := AC s.out y
       replace z := AC s.out z
       replace B := AC s.out B
       have sB := mk0 aC; have aD := mk0 eC; clear aC eC; have tB := mk0 bC; have bD := mk0 fC; clear bC fC; replace gD := eq_true gD; replace jD := eq_true jD
       refine DU (n := 7) (S := fun w' => w'.cell? ⟨Y, 0, none⟩ = some (.int .i64 bB) ∧ w'.cell? ⟨Y, 1, none⟩ = some (.int .i64 cB) ∧ w'.cell? ⟨Y, 2, none⟩ = some (.string dB) ∧ w'.cell? ⟨Y, 3, none⟩ = some (.slice qB Z.length uB) ∧ w'.cell? ⟨Y, 4, none⟩ = some (.slice (some L) p.length wB) ∧ w'.cell? ⟨l, 0, none⟩ = some (.int .i64 ((AB c a).f0)) ∧ w'.cell? ⟨l, 1, none⟩ = some (.int .i64 ((AB c a).f1)) ∧ w'.cell? ⟨l, 2, none⟩ = some (.slice D ((AB c a).f2).length I) ∧ w'.cell? ⟨l, 3, none⟩ = some (.slice G ((AB c a).f3).length J) ∧ w'.cell? L = some (.int .i64 ((Aj p 0).f0)) ∧ w'.cell? ⟨L.block, L.off + 1, none⟩ = some (.int .i64 ((Aj p 0).f1)) ∧ w'.cell? ⟨L.block, L.off + 2, none⟩ = some (.string ((Aj p 0).f2)) ∧ w'.cell? ⟨L.block, L.off + 3, none⟩ = some (.slice qC ((Aj p 0).f3).length vC) ∧ w'.cell? ⟨L.block, L.off + 4, none⟩ = some (.slice rC ((Aj p 0).f4).length wC)) (ds := []) (tf 0 7) (by kernel_rfl) rfl rfl ⟨bc b 0, bc b 1, bc b 2, bc b 3, bc b 4, bc q 0, bc q 1, bc q 2, bc q 3, (AC s.out O), (AC s.out T), (AC s.out U), (AC s.out W), (AC s.out X)⟩ (fun gB => ?_)
       generalize hH.drew = uK at b d q s sB tB u x y z B gB ⊢
       refine Hr (i := 0) (N := some 153) (v := ?_) (a' := ?_) (tf 1 6) rfl rfl (by kernel_rfl) (fun _ _ _ h => h) (Or.inl ⟨by rfl, ?_⟩) ?_ ?_
       rotate_left
       ·intro w'
        go_simp
        with_reducible rfl
       rotate_left
       ·simp only [ps]
        rfl
       refine Bj (i := 1) (N := some 154) (v := ?_) (a' := ?_) (tf 2 5) rfl rfl (by kernel_rfl) (fun _ _ _ h => h) (Or.inl ⟨by rfl, ?_⟩) gB ?_ ?_
       rotate_left
       ·rintro w' ⟨s0, s1, s2, s3, s4, s5, s6, s7, s8, s9, vE, wE, xE, yE⟩
        go_simp
        with_reducible rfl
       rotate_left
       ·simp only [ps]
        rfl
       refine Hr (i := 2) (N := some 155) (v := ?_) (a' := ?_) (tf 3 4) rfl rfl (by kernel_rfl) (fun _ _ _ h => h) (Or.inl ⟨by rfl, ?_⟩) ?_ ?_
       rotate_left
       ·intro w'
        go_simp
        with_reducible rfl
       rotate_left
       ·simp only [ps]
        rfl
       refine Bj (i := 3) (N := some 156) (v := ?_) (a' := ?_) (tf 4 3) rfl rfl (by kernel_rfl) (fun _ _ _ h => h) (Or.inl ⟨by rfl, ?_⟩) gB ?_ ?_
       rotate_left
       ·rintro w' ⟨s0, s1, s2, s3, s4, s5, s6, s7, s8, s9, vE, wE, xE, yE⟩
        go_simp
        with_reducible rfl
       rotate_left
       ·simp only [ps]
        rfl
       refine Bj (i := 4) (N := some 157) (v := ?_) (a' := ?_) (tf 5 2) rfl rfl (by kernel_rfl) (fun _ _ _ h => h) (Or.inl ⟨by rfl, ?_⟩) gB ?_ ?_
       rotate_left
       ·rintro w' ⟨s0, s1, s2, s3, s4, s5, s6, s7, s8, s9, vE, wE, xE, yE⟩
        go_simp
        with_reducible rfl
       rotate_left
       ·simp only [ps]
        rfl
       refine DL (i := 5) (N := some 158) (tf 6 1) rfl rfl (by kernel_rfl) (by decide) (fun K hK => ?_)
       refine Co Try.func37 (by kernel_rfl) rfl #[.agg #[.int .i64 ((Aj p 0).f0), .int .i64 ((Aj p 0).f1), .string ((Aj p 0).f2), .slice qC ((Aj p 0).f3).length vC, .slice rC ((Aj p 0).f4).length wC], .agg #[.int .i64 ((AB c a).f0), .int .i64 ((AB c a).f1), .slice D ((AB c a).f2).length I, .slice G ((AB c a).f3).length J]] (by rfl) rfl rfl (by (try simp only [List.map_toArray, List.map_cons, List.map_nil]); first | done | rfl | (simp only [List.length_drop, List.length_take]; rfl)) ?_
       with_reducible refine (ih k3 (by have := rD.out; have := mE.out; have := zE.out; omega) ((Aj p 0).f0) ((Aj p 0).f1) ((Aj p 0).f2) _ _ ((Aj p 0).f3) _ _ ((Aj p 0).f4) ((AB c a).f0) ((AB c a).f1) _ _ ((AB c a).f2) _ _ ((AB c a).f3) true _ ?side1 ?side2 ?side3 ?side4 ?side5 ?side6 ?side7 ?side8 gF.out).mono ?_
       (case side1 => exact cu sB s)
       (case side2 => exact aD.out)
       (case side3 => exact cu tB s)
       (case side4 => exact bD.out)
       (case side5 => exact cu cD s)
       (case side6 => exact yC.out)
       (case side7 => exact cu dD s)
       (case side8 => exact zC.out)
       rintro e vK ⟨rfl, hb⟩
       refine ⟨_, rfl, ?_⟩
       have jB := kb b hb
       have kB := kb d hb
       have lB := kb q hb
       have mB := kh3 s m o lC hb
       clear b; clear d; clear q; clear s; have b := jB; have d := kB; have q := lB; have s := mB; clear jB kB lB mB
       try clear hb
       refine hK.out _ _ ⟨bc b 0, bc b 1, bc b 2, bc b 3, bc b 4, bc q 0, bc q 1, bc q 2, bc q 3, (AC s.out O), (AC s.out T), (AC s.out U), (AC s.out W), (AC s.out X)⟩ (fun gB => ?_)
       clear hK K
       refine Br (a' := ?_) ?_ ?_
       rotate_left
       ·show Act.put _ (some 158) _ = _
        simp only [ps]
        rfl
       refine Hr (i := 6) (N := some 159) (v := ?_) (a' := ?_) (tf 7 0) rfl rfl (by kernel_rfl) (fun _ _ _ h => h) (Or.inl ⟨by rfl, ?_⟩) ?_ ?_
       rotate_left
       ·intro w'
        go_simp
        with_reducible rfl
       rotate_left
       ·simp only [ps]
        rfl
       refine EG (by kernel_rfl) ?_
       try go_wp2
       go_roundg k3
       case measure => have := rD.out; have := mE.out; have := zE.out; omega
       case rel => exact ⟨(wrap64 (a + 1)), rfl, H', ⟨by have := rD.out; have := mE.out; have := zE.out; omega⟩, ⟨bu b⟩, ⟨bu d⟩, ⟨be3 s m o lC⟩⟩
end Go.Proofs.Ytojankgmedccdaa.PIs
