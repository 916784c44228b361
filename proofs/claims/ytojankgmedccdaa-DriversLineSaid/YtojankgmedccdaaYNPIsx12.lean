/- Lemmas. -/
import Derived.Test.YtojankgmedccdaaYNPIsx11
namespace Go.Proofs.Ytojankgmedccdaa.PIs
open Go.RowKit Own PTy Hand Wo
attribute [local go_sem] BS BU Bf Bg BC BD BX BZ
set_option linter.unusedVariables false
set_option linter.unusedSimpArgs false
mutual
def CW.j0 : Nat → Bool → Int → Int → ByteArray → List ByteArray → List (S26) → Int → Int → List Int → List (S30) → Option (Bool)
 | 0, _, _, _, _, _, _, _, _, _, _ => none
 | k + 1, G, d, g, i, h, a, j, e, b, c => if G = true then (some false) else (if d = 1 then (if e = 0 then (if (b.length : Int) = 1 then ((EJ.f k b).bind fun t208 => (if t208 = true then (some ((c.length : Int) == 0)) else (some false))) else (some false)) else (some false)) else (if d = 2 then (if e = 0 then (if (b.length : Int) = 0 then (some ((c.length : Int) == 0)) else (some false)) else (if e = 1 then (if (b.length : Int) = 0 then (some ((c.length : Int) == 0)) else (some false)) else (some false))) else (if d = 3 then ((Fu.f e).bind fun z => (if z = true then (if (b.length : Int) = 0 then (some ((c.length : Int) == 0)) else (some false)) else (some false))) else (if d = 4 then (if e = 0 then (if (b.length : Int) = g then ((EJ.f k b).bind fun t210 => (if t210 = true then (some ((c.length : Int) == 0)) else (some false))) else (some false)) else (some false)) else (if d = 5 then (if e ≥ 0 then (if e < (h.length : Int) then (if (b.length : Int) = 0 then (some ((c.length : Int) == 0)) else (some false)) else (some false)) else (some false)) else (if e = 0 then (if (b.length : Int) = 0 then (CW.j1 k ((c.length : Int) != g) d g i h a j e b c) else (CW.j1 k true d g i h a j e b c)) else (CW.j1 k true d g i h a j e b c)))))))
def CW.j1 : Nat → Bool → Int → Int → ByteArray → List ByteArray → List (S26) → Int → Int → List Int → List (S30) → Option (Bool)
 | 0, _, _, _, _, _, _, _, _, _, _ => none
 | k + 1, D, d, g, i, h, a, j, e, b, c => if D = true then (some false) else (CW.l0 k c (c.length : Int) 0 d g i h a)
def CW.l0 : Nat → List (S30) → Int → Int → Int → Int → ByteArray → List ByteArray → List (S26) → Option (Bool)
 | 0, _, _, _, _, _, _, _, _ => none
 | k + 1, m, x, l, d, g, i, h, a => if l < x then (if 0 ≤ l then (if l < (m.length : Int) then (if 0 < (a.length : Int) then ((CW.f k ((Al a 0).f0) ((Al a 0).f1) ((Al a 0).f2) ((Al a 0).f3) ((Al a 0).f4) ((AB m l).f0) ((AB m l).f1) ((AB m l).f2) ((AB m l).f3)).bind fun B => (if B = true then (CW.l0 k m x (wrap64 (l + 1)) d g i h a) else (some false))) else (none)) else (none)) else (none)) else (some true)
def CW.f : Nat → Int → Int → ByteArray → List ByteArray → List (S26) → Int → Int → List Int → List (S30) → Option (Bool)
 | 0, _, _, _, _, _, _, _, _, _ => none
 | k + 1, n, o, p, r, s, q, u, v, w => (Ah.f k n o p r s).bind fun y => (if y = true then (CW.j0 k (q != n) n o p r s q u v w) else (CW.j0 k true n o p r s q u v w))
end
set_option maxHeartbeats 8000000 in
set_option maxRecDepth 100000 in
theorem CW.calls (k : Nat) : ∀ (bB : Int) (cB : Int) (dB : ByteArray) (kB : Option Addr) (qB : Nat) (Z : List ByteArray) (kC : Option Addr) (sB : Nat) (p : List (S26)) (jB : Int) (hB : Int) (lC : Option Addr) (pC : Nat) (aB : List Int) (uC : Option Addr) (qC : Nat) (c : List (S30)) (r : Bool) (w : World) (cE : Kd.C Kd.string w kB Z.length Z) (yD : Z.length ≤ qB) (dE : Kd.C k26 w kC p.length p) (zD : p.length ≤ sB) (eE : Kd.C (Kd.int .u8) w lC aB.length aB) (aE : aB.length ≤ pC) (fE : Kd.C k30 w uC c.length c) (bE : c.length ≤ qC) (h : CW.f k bB cB dB Z p jB hB aB c = some r),
  Calls Try.prog 37 #[.agg #[.int .i64 bB, .int .i64 cB, .string dB, .slice kB Z.length qB, .slice kC p.length sB], .agg #[.int .i64 jB, .int .i64 hB, .slice lC aB.length pC, .slice uC c.length qC]] w fun e w' => e = .returned (.bool r) ∧ Below w.heap.size w w' := by
 induction k using Nat.strongRecOn with
 | _ k ih =>
 intro bB cB dB kB qB Z kC sB p jB hB lC pC aB uC qC c r w cE yD dE zD eE aE fE bE h
 cases k with
 | zero => exact absurd h (by simp [CW.f])
 | succ k =>
 simp only [CW.f] at h
 have pK := Try.underlying26
 have qK := Try.underlying30
 have sE := mk0 cE; have qE := mk0 yD; clear cE yD; have jD := mk0 dE; have rE := mk0 zD; clear dE zD; have kD := mk0 eE; have hD := mk0 aE; clear eE aE; have tE := mk0 fE; have gI := mk0 bE; clear fE bE
 have s := mk0 (Below.refl w.heap.size w)
 have H := h; unfold CW.f at H
 clear h; have mF := mk0 H; clear H
 go_enter Try.func37, Try.ntmps37
 go_upto_region 1 with (first | ((with_reducible refine AQ rfl (N := 2) rfl (cs := #[.int .i64 bB, .int .i64 cB, .string dB, .slice kB Z.length qB, .slice kC p.length sB]) (t := 26) ?hr ?_); (case hr => first | (go_simp; done) | (go_simp; rfl)); intro Y hg w4 tB hb; have b := mk0 (tB); have m := bs (be s) hg; replace s := kh s hb; clear hb tB hg) | ((with_reducible refine AQ rfl (N := 3) rfl (cs := #[.int .i64 jB, .int .i64 hB, .slice lC aB.length pC, .slice uC c.length qC]) (t := 30) ?hr ?_); (case hr => first | (go_simp; done) | (go_simp; rfl)); intro bD hg w5 tB hb; have d := mk0 (tB); have o := bs (be1 s m) hg; replace s := kh1 s m hb; have ⟨g, j⟩ := nn b hg; replace b := kb b hb; clear hb tB hg))
 (try simp only [Act.put, List.setIfInBounds_toArray, List.set_cons_zero, List.set_cons_succ])
 go_cut [16] (fun v16 wc => ∃ (kq : Nat) (lE : Bool), v16 = .bool lE ∧ Aside0 (CW.j0 kq lE bB cB dB Z p jB hB aB c = some r) ∧ Aside0 (kq ≤ k) ∧ Aside0 (bk wc Y 26 #[.int .i64 bB, .int .i64 cB, .string dB, (.slice kB Z.length qB), (.slice kC p.length sB)]) ∧ Aside0 (bk wc bD 30 #[.int .i64 jB, .int .i64 hB, (.slice lC aB.length pC), (.slice uC c.length qC)]) ∧ Aside0 (Below w.heap.size w wc))
 case first =>
  have H := mF.out; clear mF; replace H := bS H; obtain ⟨rK, A6, H⟩ := H; replace H := iB H; obtain ⟨rfl, H⟩ | ⟨rfl, H⟩ := H
  ·have H' := mk0 H; clear H; have ⟨nK, oK⟩ := no g j; have z9 := cells5 b.out; go_wp2_with ((with_reducible refine AJ (f := 44) rfl ?_); refine CS Try.func44 (Ah.calls k bB cB dB _ _ Z _ _ p true _ (cu sE s) qE.out (cu jD s) rE.out A6.out) ?_; intro jL hb; obtain ⟨b, d⟩ := tb2 hb b d; replace s := kh2 s m o hb; have lL := Ay d.out; have z12 := cells5 b.out); go_meet
   case rel => exact ⟨_, ((jB != bB)), rfl, H', ⟨by omega⟩, ⟨bu b⟩, ⟨bu d⟩, ⟨be2 s m o⟩⟩
  have H' := mk0 H; clear H; have ⟨pI, nJ⟩ := no g j; have mL := cells5 b.out; go_wp2_with ((with_reducible refine AJ (f := 44) rfl ?_); refine CS Try.func44 (Ah.calls k bB cB dB _ _ Z _ _ p false _ (cu sE s) qE.out (cu jD s) rE.out A6.out) ?_; intro kL hb; obtain ⟨b, d⟩ := tb2 hb b d; replace s := kh2 s m o hb); go_meet
  case rel => exact ⟨_, (true), rfl, H', ⟨by omega⟩, ⟨bu b⟩, ⟨bu d⟩, ⟨be2 s m o⟩⟩
 case rest =>
  clear mF; obtain ⟨kq, lE, rfl, HA, oD, b, d, s⟩ := hcut; cases kq with
  | zero => exact absurd HA.out (by simp [CW.j0])
  | succ kK =>
   have H := HA.out; clear HA; simp only [CW.j0] at H; replace H := iB H; obtain ⟨rfl, H⟩ | ⟨rfl, H⟩ := H
   ·obtain rfl := sI H; go_wp2; go_ret; exact ⟨rfl, be2 s m o⟩
   replace H := iE H; obtain ⟨oF, pF, H⟩ | ⟨cL, oF, pF, H⟩ := H
   ·replace H := iE' H; obtain ⟨dL, qF, rF, H⟩ | ⟨qF, rF, H⟩ := H
    ·obtain rfl := sI H; have ⟨wI, rJ⟩ := no g j; have z32 := cells5 b.out; have z33 := Ay d.out; go_wp2; go_ret; exact ⟨rfl, be2 s m o⟩
    replace H := iE' H; obtain ⟨eL, sF, tF, H⟩ | ⟨sF, tF, H⟩ := H
    ·obtain rfl := sI H; have ⟨uI, qJ⟩ := no g j; have z29 := cells5 b.out; have z30 := Ay d.out; go_wp2; go_ret; exact ⟨rfl, be2 s m o⟩
    replace H := bS H; obtain ⟨t208, pG, H⟩ := H; replace H := iB H; obtain ⟨rfl, H⟩ | ⟨rfl, H⟩ := H
    ·obtain rfl := sI H; have ⟨qI, oJ⟩ := no g j; have z23 := cells5 b.out; have z24 := Ay d.out; go_wp2_with (go_at_call 57; refine (EJ.calls (cu kD s) hD.out pG.out).mono ?_; rintro e w' ⟨rfl, nd, rfl⟩); go_ret; exact ⟨rfl, be2 s m o⟩
    obtain rfl := sI H; have ⟨tI, pJ⟩ := no g j; have z26 := cells5 b.out; have z27 := Ay d.out; go_wp2_with (go_at_call 57; refine (EJ.calls (cu kD s) hD.out pG.out).mono ?_; rintro e w' ⟨rfl, nd, rfl⟩); go_ret; exact ⟨rfl, be2 s m o⟩
   replace H := iE H; obtain ⟨qD, rD, H⟩ | ⟨c34, qD, rD, H⟩ := H
   ·replace H := iE H; obtain ⟨uF, wF, H⟩ | ⟨fL, uF, wF, H⟩ := H
    ·replace H := iE' H; obtain ⟨hI, xF, yF, H⟩ | ⟨xF, yF, H⟩ := H
     ·have iI : ¬ (aB = []) := fun h_ => hI (by rw [h_]; rfl); obtain rfl := sI H; have ⟨yI, tJ⟩ := no g j; have z41 := cells5 b.out; have z42 := Ay d.out; go_wp2; go_ret; exact ⟨rfl, be2 s m o⟩
     obtain rfl := sI H; have ⟨xI, sJ⟩ := no g j; have z38 := cells5 b.out; have z39 := Ay d.out; go_wp2; go_ret; exact ⟨rfl, be2 s m o⟩
    replace H := iE' H; obtain ⟨gL, zF, aG, H⟩ | ⟨zF, aG, H⟩ := H
    ·obtain rfl := sI H; have ⟨bJ, wJ⟩ := no g j; have z52 := cells5 b.out; have z53 := Ay d.out; go_wp2; go_ret; exact ⟨rfl, be2 s m o⟩
    replace H := iE' H; obtain ⟨jI, bG, cG, H⟩ | ⟨bG, cG, H⟩ := H
    ·have kI : ¬ (aB = []) := fun h_ => jI (by rw [h_]; rfl); obtain rfl := sI H; have ⟨aJ, vJ⟩ := no g j; have z49 := cells5 b.out; have z50 := Ay d.out; go_wp2; go_ret; exact ⟨rfl, be2 s m o⟩
    obtain rfl := sI H; have ⟨zI, uJ⟩ := no g j; have z46 := cells5 b.out; have z47 := Ay d.out; go_wp2; go_ret; exact ⟨rfl, be2 s m o⟩
   replace H := iE H; obtain ⟨sD, tD, H⟩ | ⟨tG, sD, tD, H⟩ := H
   ·replace H := bS H; obtain ⟨sK, lF, H⟩ := H; replace H := iB' H; obtain ⟨rfl, H⟩ | ⟨rfl, H⟩ := H
    ·obtain rfl := sI H; have ⟨eJ, zJ⟩ := no g j; have z65 := cells5 b.out; have z66 := Ay d.out; go_wp2_with ((with_reducible refine AJ (f := 58) rfl ?_); refine FM Try.func58 (Fu.calls lF.out) ?_; intro nd); go_ret; exact ⟨rfl, be2 s m o⟩
    replace H := iE' H; obtain ⟨lI, dG, eG, H⟩ | ⟨dG, eG, H⟩ := H
    ·have mI : ¬ (aB = []) := fun h_ => lI (by rw [h_]; rfl); obtain rfl := sI H; have ⟨dJ, yJ⟩ := no g j; have z62 := cells5 b.out; have z63 := Ay d.out; go_wp2_with ((with_reducible refine AJ (f := 58) rfl ?_); refine FM Try.func58 (Fu.calls lF.out) ?_; intro nd); go_ret; exact ⟨rfl, be2 s m o⟩
    obtain rfl := sI H; have ⟨cJ, xJ⟩ := no g j; have z59 := cells5 b.out; have z60 := Ay d.out; go_wp2_with ((with_reducible refine AJ (f := 58) rfl ?_); refine FM Try.func58 (Fu.calls lF.out) ?_; intro nd); go_ret; exact ⟨rfl, be2 s m o⟩
   replace H := iE H; obtain ⟨uD, vD, H⟩ | ⟨uG, uD, vD, H⟩ := H
   ·replace H := iE' H; obtain ⟨hL, fG, gG, H⟩ | ⟨fG, gG, H⟩ := H
    ·obtain rfl := sI H; have ⟨iJ, dK⟩ := no g j; have z82 := cells5 b.out; have z83 := Ay d.out; go_wp2; go_ret; exact ⟨rfl, be2 s m o⟩
    replace H := iE' H; obtain ⟨iL, hG, iG, H⟩ | ⟨hG, iG, H⟩ := H
    ·obtain rfl := sI H; have ⟨hJ, cK⟩ := no g j; have z79 := cells5 b.out; have z80 := Ay d.out; go_wp2; go_ret; exact ⟨rfl, be2 s m o⟩
    replace H := bS H; obtain ⟨t210, qG, H⟩ := H; replace H := iB H; obtain ⟨rfl, H⟩ | ⟨rfl, H⟩ := H
    ·obtain rfl := sI H; have ⟨fJ, aK⟩ := no g j; have z73 := cells5 b.out; have z74 := Ay d.out; go_wp2_with (go_at_call 57; refine (EJ.calls (cu kD s) hD.out qG.out).mono ?_; rintro e w' ⟨rfl, nd, rfl⟩); go_ret; exact ⟨rfl, be2 s m o⟩
    obtain rfl := sI H; have ⟨gJ, bK⟩ := no g j; have z76 := cells5 b.out; have z77 := Ay d.out; go_wp2_with (go_at_call 57; refine (EJ.calls (cu kD s) hD.out qG.out).mono ?_; rintro e w' ⟨rfl, nd, rfl⟩); go_ret; exact ⟨rfl, be2 s m o⟩
   replace H := iE H; obtain ⟨wD, xD, H⟩ | ⟨vG, wD, xD, H⟩ := H
   ·by_cases c85 : hB ≥ 0; rotate_left
    ·rw [if_neg c85] at H; have jG : decide (0 ≤ hB) = false := decide_eq_false c85; clear c85; obtain rfl := sI H; have ⟨mJ, iK⟩ := no g j; have rL := cells5 b.out; have sL := Ay d.out; go_wp2; go_ret; exact ⟨rfl, be2 s m o⟩
    rw [if_pos c85] at H; have jG : decide (0 ≤ hB) = true := decide_eq_true c85; clear c85; replace H := iD' H; obtain ⟨-, kG, H⟩ | ⟨-, kG, H⟩ := H
    ·obtain rfl := sI H; have ⟨lJ, gK⟩ := no g j; have pL := cells5 b.out; have qL := Ay d.out; go_wp2; go_ret; exact ⟨rfl, be2 s m o⟩
    replace H := iE' H; obtain ⟨c87, lG, mG, H⟩ | ⟨lG, mG, H⟩ := H
    ·have oI : ¬ (aB = []) := fun h_ => c87 (by rw [h_]; rfl); obtain rfl := sI H; have ⟨kJ, fK⟩ := no g j; have oL := cells5 b.out; have z93 := Ay d.out; go_wp2; go_ret; exact ⟨rfl, be2 s m o⟩
    obtain rfl := sI H; have ⟨jJ, eK⟩ := no g j; have z89 := cells5 b.out; have nL := Ay d.out; go_wp2; go_ret; exact ⟨rfl, be2 s m o⟩
   have nD := mk0 H; clear H; have ⟨oH, xH⟩ := no g j; have yK := cells5 b.out; go_upto_region 14 with (fail); go_cut [145] (fun v145 wc => ∃ (kq : Nat) (gD : Bool), v145 = .bool gD ∧ Aside0 (CW.j1 kq gD bB cB dB Z p jB hB aB c = some r) ∧ Aside0 (kq ≤ kK) ∧ Aside0 (bk wc Y 26 #[.int .i64 bB, .int .i64 cB, .string dB, (.slice kB Z.length qB), (.slice kC p.length sB)]) ∧ Aside0 (bk wc bD 30 #[.int .i64 jB, .int .i64 hB, (.slice lC aB.length pC), (.slice uC c.length qC)]) ∧ Aside0 (Below w.heap.size w wc))
   case first =>
    have H := nD.out; clear nD; replace H := iE' H; obtain ⟨mK, oC, cF, H⟩ | ⟨oC, cF, H⟩ := H
    ·(first | rw [oC] | (simp only [Bw, DI]; rw [oC]) | skip); have H' := mk0 H; clear H; have ⟨rH, aI⟩ := no j g; have aL := Ay d.out; go_wp2; go_meet
     case rel => exact ⟨_, (true), rfl, H', ⟨by have := oD.out; omega⟩, ⟨bu b⟩, ⟨bu d⟩, ⟨be2 s m o⟩⟩
    (first | rw [oC] | (simp only [Bw, DI]; rw [oC]) | skip); replace H := iE' H; obtain ⟨rG, dF, eF, H⟩ | ⟨dF, eF, H⟩ := H
    ·have jH : ¬ (aB = []) := fun h_ => rG (by rw [h_]; rfl); have H' := mk0 H; clear H; have ⟨qH, zH⟩ := no j g; have z109 := Ay d.out; go_wp2; go_meet
     case rel => exact ⟨_, (true), rfl, H', ⟨by have := oD.out; omega⟩, ⟨bu b⟩, ⟨bu d⟩, ⟨be2 s m o⟩⟩
    have H' := mk0 H; clear H; have ⟨pH, yH⟩ := no j g; have zK := Ay d.out; have z107 := cells5 b.out; go_wp2; go_meet
    case rel => exact ⟨_, (((c.length : Int) != cB)), rfl, H', ⟨by have := oD.out; omega⟩, ⟨bu b⟩, ⟨bu d⟩, ⟨be2 s m o⟩⟩
   case rest =>
    clear nD; try clear c34; try clear qD; try clear rD; try clear tG; try clear sD; try clear tD; try clear uG; try clear uD; try clear vD; try clear vG; try clear wD; try clear xD
    obtain ⟨kq, gD, rfl, HA, nE, b, d, s⟩ := hcut; cases kq with
    | zero => exact absurd HA.out (by simp [CW.j1])
    | succ jF =>
     have H := HA.out; clear HA; simp only [CW.j1] at H; replace H := iB H; obtain ⟨rfl, H⟩ | ⟨rfl, H⟩ := H
     ·obtain rfl := sI H; go_wp2; go_ret; exact ⟨rfl, be2 s m o⟩
     have H' := mk0 H; clear H; have ⟨sH, bI⟩ := no j g; have bL := Ay d.out; go_wp2; go_loopg [149] jF (fun kq v149 w' => ∃ (a : Int), v149 = .int .i64 a ∧ Aside0 (CW.l0 kq c (c.length : Int) a bB cB dB Z p = some r) ∧ Aside0 (kq ≤ jF) ∧ Aside0 (bk w' Y 26 #[.int .i64 bB, .int .i64 cB, .string dB, (.slice kB Z.length qB), (.slice kC p.length sB)]) ∧ Aside0 (bk w' bD 30 #[.int .i64 jB, .int .i64 hB, (.slice lC aB.length pC), (.slice uC c.length qC)]) ∧ Aside0 (Below w.heap.size w w'))
     case atStart => exact ⟨(0), rfl, H', ⟨Nat.le_refl _⟩, ⟨bu b⟩, ⟨bu d⟩, ⟨be2 s m o⟩⟩
     case round =>
      clear H'; try clear c34; try clear qD; try clear rD; try clear tG; try clear sD; try clear tD; try clear uG; try clear uD; try clear vD; try clear vG; try clear wD; try clear xD
      obtain ⟨a, rfl, HA, aF, b, d, s⟩ := hrel; cases gk with
      | zero => exact absurd HA.out (by simp [CW.l0])
      | succ k3 =>
       have H := HA.out; clear HA; simp only [CW.l0] at H; replace H := iD' H; obtain ⟨-, fF, H⟩ | ⟨-, fF, H⟩ := H
       ·obtain rfl := sI H; go_wp2; go_ret; exact ⟨rfl, be2 s m o⟩
       replace H := iN H; obtain ⟨-, kH, H⟩ := H; replace H := iN H; obtain ⟨-, lH, H⟩ := H; replace H := iN H; obtain ⟨sG, mH, H⟩ := H; have nH : decide (0 < p.length) = true := decide_eq_true (by omega); clear sG; replace H := bS H; obtain ⟨tK, hF, H⟩ := H; replace H := iB' H; obtain ⟨rfl, H⟩ | ⟨rfl, H⟩ := H
       ·obtain rfl := sI H; have cD : 0 ≤ (a : Int) := od; have eD : a < (c.length : Int) := od; obtain ⟨pD, D, I, G, J, uE, dC, eC, fC, gC, zB, uB, aC, wB⟩ := D8 tE.out a cD eD; cases uE; replace dC := AP s.out dC; replace eC := AP s.out eC; replace fC := AP s.out fC; replace gC := AP s.out gC; have zC := mk0 uB; have vC := mk0 zB; clear uB zB; have aD := mk0 wB; have wC := mk0 aC; clear wB aC; replace cD := eq_true cD; replace eD := eq_true eD; try go_wp2_with ((with_reducible refine AQ rfl (N := 6) rfl (cs := #[.int .i64 0, .int .i64 0, .slice none 0 0, .slice none 0 0]) (t := 30) ?hr ?_); (case hr => first | (go_simp; done) | (go_simp; rfl)); intro l hg mD tB hb; have q := mk0 (tB); have hC := bs (be2 s m o) hg; replace s := kh2 s m o hb; have ⟨eB, iC⟩ := nn b hg; have ⟨fB, jC⟩ := nn d hg; obtain ⟨b, d⟩ := tb2 hb b d; clear hb tB hg; have ⟨vH, eI⟩ := no iC eB; have ⟨wH, fI⟩ := no jC fB; have z131 := Ay q.out)
        have gE : Aside0 (((((mD.setCell ⟨l, 0, none⟩ (.int .i64 ((AB c a).f0))).setCell ⟨l, 1, none⟩ (.int .i64 ((AB c a).f1))).setCell ⟨l, 2, none⟩ (.slice D ((AB c a).f2).length I)).setCell ⟨l, 3, none⟩ (.slice G ((AB c a).f3).length J)).heap[Y]? = some (.cells #[.int .i64 bB, .int .i64 cB, .string dB, .slice kB Z.length qB, .slice kC p.length sB] 26 (0, 0))) := ⟨bF eB b⟩; have hE : Aside0 (((((mD.setCell ⟨l, 0, none⟩ (.int .i64 ((AB c a).f0))).setCell ⟨l, 1, none⟩ (.int .i64 ((AB c a).f1))).setCell ⟨l, 2, none⟩ (.slice D ((AB c a).f2).length I)).setCell ⟨l, 3, none⟩ (.slice G ((AB c a).f3).length J)).heap[bD]? = some (.cells #[.int .i64 jB, .int .i64 hB, .slice lC aB.length pC, .slice (some pD) c.length qC] 30 (0, 0))) := ⟨bF fB d⟩; have jE : Aside0 (((((mD.setCell ⟨l, 0, none⟩ (.int .i64 ((AB c a).f0))).setCell ⟨l, 1, none⟩ (.int .i64 ((AB c a).f1))).setCell ⟨l, 2, none⟩ (.slice D ((AB c a).f2).length I)).setCell ⟨l, 3, none⟩ (.slice G ((AB c a).f3).length J)).heap[l]? = some (.cells #[.int .i64 ((AB c a).f0), .int .i64 ((AB c a).f1), .slice D ((AB c a).f2).length I, .slice G ((AB c a).f3).length J] 30 (0, 0))) := ⟨pB q⟩; have kE : Aside0 (Below w.heap.size w ((((mD.setCell ⟨l, 0, none⟩ (.int .i64 ((AB c a).f0))).setCell ⟨l, 1, none⟩ (.int .i64 ((AB c a).f1))).setCell ⟨l, 2, none⟩ (.slice D ((AB c a).f2).length I)).setCell ⟨l, 3, none⟩ (.slice G ((AB c a).f3).length J))) := ⟨be3 s m o hC⟩; try clear b
        try clear d
        try clear q
        try clear s
        generalize ((((mD.setCell ⟨l, 0, none⟩ (.int .i64 ((AB c a).f0))).setCell ⟨l, 1, none⟩ (.int .i64 ((AB c a).f1))).setCell ⟨l, 2, none⟩ (.slice D ((AB c a).f2).length I)).setCell ⟨l, 3, none⟩ (.slice G ((AB c a).f3).length J)) = iH at gE hE jE kE ⊢; have b := gE; have d := hE; have q := jE; have s := kE; clear gE hE jE kE; replace b := mk0 (AZ b.out); replace d := mk0 (AZ d.out); replace q := mk0 (AZ q.out); replace s := mk0 (Ad s.out); have dD : 0 ≤ (0 : Int) := (by omega); have fD : 0 < (p.length : Int) := od; obtain ⟨L, mC, rC, nC, sC, vE, u, x, y, z, B, bC, xB, cC, yB⟩ := Fe jD.out 0 dD fD; have X := B; (try rw [show ((0 : Int)).toNat = 0 from rfl] at X); (try rw [show 0 * 5 = 0 from rfl] at X); (try rw [Addr.add_zero'] at X); have W := z; (try rw [show ((0 : Int)).toNat = 0 from rfl] at W); (try rw [show 0 * 5 = 0 from rfl] at W); (try rw [Addr.add_zero'] at W); have U := y; (try rw [show ((0 : Int)).toNat = 0 from rfl] at U); (try rw [show 0 * 5 = 0 from rfl] at U); (try rw [Addr.add_zero'] at U); have T := x; (try rw [show ((0 : Int)).toNat = 0 from rfl] at T); (try rw [show 0 * 5 = 0 from rfl] at T); (try rw [Addr.add_zero'] at T); have O := u; (try rw [show ((0 : Int)).toNat = 0 from rfl] at O); (try rw [show 0 * 5 = 0 from rfl] at O); (try rw [Addr.add_zero'] at O); cases vE; have nG : (0 < p.length) = True := eq_true (by omega); (try rw [show ((0 : Int)).toNat = 0 from rfl] at u); (try rw [show 0 * 5 = 0 from rfl] at u); (try rw [Addr.add_zero'] at u); (try rw [show ((0 : Int)).toNat = 0 from rfl] at x); (try rw [show 0 * 5 = 0 from rfl] at x); (try rw [Addr.add_zero'] at x); (try rw [show ((0 : Int)).toNat = 0 from rfl] at y); (try rw [show 0 * 5 = 0 from rfl] at y); (try rw [Addr.add_zero'] at y); (try rw [show ((0 : Int)).toNat = 0 from rfl] at z); (try rw [show 0 * 5 = 0 from rfl] at z); (try rw [Addr.add_zero'] at z); (try rw [show ((0 : Int)).toNat = 0 from rfl] at B); (try rw [show 0 * 5 = 0 from rfl] at B); (try rw [Addr.add_zero'] at B); replace u := AP s.out u; replace x := AP s.out x; replace y := AP s.out y; replace z := AP s.out z; replace B := AP s.out B; have lB := mk0 xB; have xC := mk0 bC; clear xB bC; have mB := mk0 yB; have yC := mk0 cC; clear yB cC; replace dD := eq_true dD; replace fD := eq_true fD; refine DV (n := 7) (S := fun w' => w'.cell? ⟨Y, 0, none⟩ = some (.int .i64 bB) ∧ w'.cell? ⟨Y, 1, none⟩ = some (.int .i64 cB) ∧ w'.cell? ⟨Y, 2, none⟩ = some (.string dB) ∧ w'.cell? ⟨Y, 3, none⟩ = some (.slice kB Z.length qB) ∧ w'.cell? ⟨Y, 4, none⟩ = some (.slice (some L) p.length sB) ∧ w'.cell? ⟨l, 0, none⟩ = some (.int .i64 ((AB c a).f0)) ∧ w'.cell? ⟨l, 1, none⟩ = some (.int .i64 ((AB c a).f1)) ∧ w'.cell? ⟨l, 2, none⟩ = some (.slice D ((AB c a).f2).length I) ∧ w'.cell? ⟨l, 3, none⟩ = some (.slice G ((AB c a).f3).length J) ∧ w'.cell? L = some (.int .i64 ((Al p 0).f0)) ∧ w'.cell? ⟨L.block, L.off + 1, none⟩ = some (.int .i64 ((Al p 0).f1)) ∧ w'.cell? ⟨L.block, L.off + 2, none⟩ = some (.string ((Al p 0).f2)) ∧ w'.cell? ⟨L.block, L.off + 3, none⟩ = some (.slice mC ((Al p 0).f3).length rC) ∧ w'.cell? ⟨L.block, L.off + 4, none⟩ = some (.slice nC ((Al p 0).f4).length sC)) (ds := []) (tf 0 7) (by kernel_rfl) rfl rfl ⟨bc b 0, bc b 1, bc b 2, bc b 3, bc b 4, bc q 0, bc q 1, bc q 2, bc q 3, (AP s.out O), (AP s.out T), (AP s.out U), (AP s.out W), (AP s.out X)⟩ (fun gB => ?_); generalize iH.drew = wK at b d q s lB mB u x y z B gB ⊢; refine Gc (i := 0) (N := some 153) (v := ?_) (a' := ?_) (tf 1 6) rfl rfl (by kernel_rfl) (fun _ _ _ h => h) (Or.inl ⟨by rfl, ?_⟩) ?_ ?_; rotate_left
        ·intro w'; go_simp; with_reducible rfl
        rotate_left
        ·simp only [ps]; rfl
        refine Br (i := 1) (N := some 154) (v := ?_) (a' := ?_) (tf 2 5) rfl rfl (by kernel_rfl) (fun _ _ _ h => h) (Or.inl ⟨by rfl, ?_⟩) gB ?_ ?_; rotate_left
        ·rintro w' ⟨s0, s1, s2, s3, s4, s5, s6, s7, s8, s9, wE, xE, yE, zE⟩; go_simp; with_reducible rfl
        rotate_left
        ·simp only [ps]; rfl
        refine Gc (i := 2) (N := some 155) (v := ?_) (a' := ?_) (tf 3 4) rfl rfl (by kernel_rfl) (fun _ _ _ h => h) (Or.inl ⟨by rfl, ?_⟩) ?_ ?_; rotate_left
        ·intro w'; go_simp; with_reducible rfl
        rotate_left
        ·simp only [ps]; rfl
        refine Br (i := 3) (N := some 156) (v := ?_) (a' := ?_) (tf 4 3) rfl rfl (by kernel_rfl) (fun _ _ _ h => h) (Or.inl ⟨by rfl, ?_⟩) gB ?_ ?_; rotate_left
        ·rintro w' ⟨s0, s1, s2, s3, s4, s5, s6, s7, s8, s9, wE, xE, yE, zE⟩; go_simp; with_reducible rfl
        rotate_left
        ·simp only [ps]; rfl
        refine Br (i := 4) (N := some 157) (v := ?_) (a' := ?_) (tf 5 2) rfl rfl (by kernel_rfl) (fun _ _ _ h => h) (Or.inl ⟨by rfl, ?_⟩) gB ?_ ?_; rotate_left
        ·rintro w' ⟨s0, s1, s2, s3, s4, s5, s6, s7, s8, s9, wE, xE, yE, zE⟩; go_simp; with_reducible rfl
        rotate_left
        ·simp only [ps]; rfl
        refine Dj (i := 5) (N := some 158) (tf 6 1) rfl rfl (by kernel_rfl) (by decide) (fun K hK => ?_); refine DF Try.func37 (by kernel_rfl) rfl #[.agg #[.int .i64 ((Al p 0).f0), .int .i64 ((Al p 0).f1), .string ((Al p 0).f2), .slice mC ((Al p 0).f3).length rC, .slice nC ((Al p 0).f4).length sC], .agg #[.int .i64 ((AB c a).f0), .int .i64 ((AB c a).f1), .slice D ((AB c a).f2).length I, .slice G ((AB c a).f3).length J]] (by rfl) rfl rfl (by (try simp only [List.map_toArray, List.map_cons, List.map_nil]); first | done | rfl | (simp only [List.length_drop, List.length_take]; rfl)) ?_; with_reducible refine (ih k3 (by have := oD.out; have := nE.out; have := aF.out; omega) ((Al p 0).f0) ((Al p 0).f1) ((Al p 0).f2) _ _ ((Al p 0).f3) _ _ ((Al p 0).f4) ((AB c a).f0) ((AB c a).f1) _ _ ((AB c a).f2) _ _ ((AB c a).f3) false _ ?side1 ?side2 ?side3 ?side4 ?side5 ?side6 ?side7 ?side8 hF.out).mono ?_
        (case side1 => exact cu lB s); (case side2 => exact xC.out); (case side3 => exact cu mB s); (case side4 => exact yC.out); (case side5 => exact cu zC s); (case side6 => exact vC.out); (case side7 => exact cu aD s); (case side8 => exact wC.out); rintro e xK ⟨rfl, hb⟩; refine ⟨_, rfl, ?_⟩; obtain ⟨b, d, q⟩ := tb3 hb b d q; replace s := kh3 s m o hC hb; try clear hb
        refine hK.out _ _ ⟨bc b 0, bc b 1, bc b 2, bc b 3, bc b 4, bc q 0, bc q 1, bc q 2, bc q 3, (AP s.out O), (AP s.out T), (AP s.out U), (AP s.out W), (AP s.out X)⟩ (fun gB => ?_); clear hK K; refine nz 158 ?_; refine Gc (i := 6) (N := some 159) (v := ?_) (a' := ?_) (tf 7 0) rfl rfl (by kernel_rfl) (fun _ _ _ h => h) (Or.inl ⟨by rfl, ?_⟩) ?_ ?_; rotate_left
        ·intro w'; go_simp; with_reducible rfl
        rotate_left
        ·simp only [ps]; rfl
        refine EQ (by kernel_rfl) ?_; try go_wp2
        go_ret; exact ⟨rfl, be3 s m o hC⟩
       have H' := mk0 H; clear H; have cD : 0 ≤ (a : Int) := od; have eD : a < (c.length : Int) := od; obtain ⟨pD, D, I, G, J, uE, dC, eC, fC, gC, zB, uB, aC, wB⟩ := D8 tE.out a cD eD; cases uE; replace dC := AP s.out dC; replace eC := AP s.out eC; replace fC := AP s.out fC; replace gC := AP s.out gC; have zC := mk0 uB; have vC := mk0 zB; clear uB zB; have aD := mk0 wB; have wC := mk0 aC; clear wB aC; replace cD := eq_true cD; replace eD := eq_true eD; try go_wp2_with ((with_reducible refine AQ rfl (N := 6) rfl (cs := #[.int .i64 0, .int .i64 0, .slice none 0 0, .slice none 0 0]) (t := 30) ?hr ?_); (case hr => first | (go_simp; done) | (go_simp; rfl)); intro l hg lD tB hb; have q := mk0 (tB); have hC := bs (be2 s m o) hg; replace s := kh2 s m o hb; have ⟨eB, iC⟩ := nn b hg; have ⟨fB, jC⟩ := nn d hg; obtain ⟨b, d⟩ := tb2 hb b d; clear hb tB hg; have ⟨tH, cI⟩ := no iC eB; have ⟨uH, dI⟩ := no jC fB; have z124 := Ay q.out)
       have gE : Aside0 (((((lD.setCell ⟨l, 0, none⟩ (.int .i64 ((AB c a).f0))).setCell ⟨l, 1, none⟩ (.int .i64 ((AB c a).f1))).setCell ⟨l, 2, none⟩ (.slice D ((AB c a).f2).length I)).setCell ⟨l, 3, none⟩ (.slice G ((AB c a).f3).length J)).heap[Y]? = some (.cells #[.int .i64 bB, .int .i64 cB, .string dB, .slice kB Z.length qB, .slice kC p.length sB] 26 (0, 0))) := ⟨bF eB b⟩; have hE : Aside0 (((((lD.setCell ⟨l, 0, none⟩ (.int .i64 ((AB c a).f0))).setCell ⟨l, 1, none⟩ (.int .i64 ((AB c a).f1))).setCell ⟨l, 2, none⟩ (.slice D ((AB c a).f2).length I)).setCell ⟨l, 3, none⟩ (.slice G ((AB c a).f3).length J)).heap[bD]? = some (.cells #[.int .i64 jB, .int .i64 hB, .slice lC aB.length pC, .slice (some pD) c.length qC] 30 (0, 0))) := ⟨bF fB d⟩; have jE : Aside0 (((((lD.setCell ⟨l, 0, none⟩ (.int .i64 ((AB c a).f0))).setCell ⟨l, 1, none⟩ (.int .i64 ((AB c a).f1))).setCell ⟨l, 2, none⟩ (.slice D ((AB c a).f2).length I)).setCell ⟨l, 3, none⟩ (.slice G ((AB c a).f3).length J)).heap[l]? = some (.cells #[.int .i64 ((AB c a).f0), .int .i64 ((AB c a).f1), .slice D ((AB c a).f2).length I, .slice G ((AB c a).f3).length J] 30 (0, 0))) := ⟨pB q⟩; have kE : Aside0 (Below w.heap.size w ((((lD.setCell ⟨l, 0, none⟩ (.int .i64 ((AB c a).f0))).setCell ⟨l, 1, none⟩ (.int .i64 ((AB c a).f1))).setCell ⟨l, 2, none⟩ (.slice D ((AB c a).f2).length I)).setCell ⟨l, 3, none⟩ (.slice G ((AB c a).f3).length J))) := ⟨be3 s m o hC⟩; try clear b
       try clear d
       try clear q
       try clear s
       generalize ((((lD.setCell ⟨l, 0, none⟩ (.int .i64 ((AB c a).f0))).setCell ⟨l, 1, none⟩ (.int .i64 ((AB c a).f1))).setCell ⟨l, 2, none⟩ (.slice D ((AB c a).f2).length I)).setCell ⟨l, 3, none⟩ (.slice G ((AB c a).f3).length J)) = hH at gE hE jE kE ⊢; have b := gE; have d := hE; have q := jE; have s := kE; clear gE hE jE kE; replace b := mk0 (AZ b.out); replace d := mk0 (AZ d.out); replace q := mk0 (AZ q.out); replace s := mk0 (Ad s.out); have dD : 0 ≤ (0 : Int) := (by omega); have fD : 0 < (p.length : Int) := od; obtain ⟨L, mC, rC, nC, sC, vE, u, x, y, z, B, bC, xB, cC, yB⟩ := Fe jD.out 0 dD fD; have X := B; (try rw [show ((0 : Int)).toNat = 0 from rfl] at X); (try rw [show 0 * 5 = 0 from rfl] at X); (try rw [Addr.add_zero'] at X); have W := z; (try rw [show ((0 : Int)).toNat = 0 from rfl] at W); (try rw [show 0 * 5 = 0 from rfl] at W); (try rw [Addr.add_zero'] at W); have U := y; (try rw [show ((0 : Int)).toNat = 0 from rfl] at U); (try rw [show 0 * 5 = 0 from rfl] at U); (try rw [Addr.add_zero'] at U); have T := x; (try rw [show ((0 : Int)).toNat = 0 from rfl] at T); (try rw [show 0 * 5 = 0 from rfl] at T); (try rw [Addr.add_zero'] at T); have O := u; (try rw [show ((0 : Int)).toNat = 0 from rfl] at O); (try rw [show 0 * 5 = 0 from rfl] at O); (try rw [Addr.add_zero'] at O); cases vE; have nG : (0 < p.length) = True := eq_true (by omega); (try rw [show ((0 : Int)).toNat = 0 from rfl] at u); (try rw [show 0 * 5 = 0 from rfl] at u); (try rw [Addr.add_zero'] at u); (try rw [show ((0 : Int)).toNat = 0 from rfl] at x); (try rw [show 0 * 5 = 0 from rfl] at x); (try rw [Addr.add_zero'] at x); (try rw [show ((0 : Int)).toNat = 0 from rfl] at y); (try rw [show 0 * 5 = 0 from rfl] at y); (try rw [Addr.add_zero'] at y); (try rw [show ((0 : Int)).toNat = 0 from rfl] at z); (try rw [show 0 * 5 = 0 from rfl] at z); (try rw [Addr.add_zero'] at z); (try rw [show ((0 : Int)).toNat = 0 from rfl] at B); (try rw [show 0 * 5 = 0 from rfl] at B); (try rw [Addr.add_zero'] at B); replace u := AP s.out u; replace x := AP s.out x; replace y := AP s.out y; replace z := AP s.out z; replace B := AP s.out B; have lB := mk0 xB; have xC := mk0 bC; clear xB bC; have mB := mk0 yB; have yC := mk0 cC; clear yB cC; replace dD := eq_true dD; replace fD := eq_true fD; refine DV (n := 7) (S := fun w' => w'.cell? ⟨Y, 0, none⟩ = some (.int .i64 bB) ∧ w'.cell? ⟨Y, 1, none⟩ = some (.int .i64 cB) ∧ w'.cell? ⟨Y, 2, none⟩ = some (.string dB) ∧ w'.cell? ⟨Y, 3, none⟩ = some (.slice kB Z.length qB) ∧ w'.cell? ⟨Y, 4, none⟩ = some (.slice (some L) p.length sB) ∧ w'.cell? ⟨l, 0, none⟩ = some (.int .i64 ((AB c a).f0)) ∧ w'.cell? ⟨l, 1, none⟩ = some (.int .i64 ((AB c a).f1)) ∧ w'.cell? ⟨l, 2, none⟩ = some (.slice D ((AB c a).f2).length I) ∧ w'.cell? ⟨l, 3, none⟩ = some (.slice G ((AB c a).f3).length J) ∧ w'.cell? L = some (.int .i64 ((Al p 0).f0)) ∧ w'.cell? ⟨L.block, L.off + 1, none⟩ = some (.int .i64 ((Al p 0).f1)) ∧ w'.cell? ⟨L.block, L.off + 2, none⟩ = some (.string ((Al p 0).f2)) ∧ w'.cell? ⟨L.block, L.off + 3, none⟩ = some (.slice mC ((Al p 0).f3).length rC) ∧ w'.cell? ⟨L.block, L.off + 4, none⟩ = some (.slice nC ((Al p 0).f4).length sC)) (ds := []) (tf 0 7) (by kernel_rfl) rfl rfl ⟨bc b 0, bc b 1, bc b 2, bc b 3, bc b 4, bc q 0, bc q 1, bc q 2, bc q 3, (AP s.out O), (AP s.out T), (AP s.out U), (AP s.out W), (AP s.out X)⟩ (fun gB => ?_); generalize hH.drew = uK at b d q s lB mB u x y z B gB ⊢; refine Gc (i := 0) (N := some 153) (v := ?_) (a' := ?_) (tf 1 6) rfl rfl (by kernel_rfl) (fun _ _ _ h => h) (Or.inl ⟨by rfl, ?_⟩) ?_ ?_; rotate_left
       ·intro w'; go_simp; with_reducible rfl
       rotate_left
       ·simp only [ps]; rfl
       refine Br (i := 1) (N := some 154) (v := ?_) (a' := ?_) (tf 2 5) rfl rfl (by kernel_rfl) (fun _ _ _ h => h) (Or.inl ⟨by rfl, ?_⟩) gB ?_ ?_; rotate_left
       ·rintro w' ⟨s0, s1, s2, s3, s4, s5, s6, s7, s8, s9, wE, xE, yE, zE⟩; go_simp; with_reducible rfl
       rotate_left
       ·simp only [ps]; rfl
       refine Gc (i := 2) (N := some 155) (v := ?_) (a' := ?_) (tf 3 4) rfl rfl (by kernel_rfl) (fun _ _ _ h => h) (Or.inl ⟨by rfl, ?_⟩) ?_ ?_; rotate_left
       ·intro w'; go_simp; with_reducible rfl
       rotate_left
       ·simp only [ps]; rfl
       refine Br (i := 3) (N := some 156) (v := ?_) (a' := ?_) (tf 4 3) rfl rfl (by kernel_rfl) (fun _ _ _ h => h) (Or.inl ⟨by rfl, ?_⟩) gB ?_ ?_; rotate_left
       ·rintro w' ⟨s0, s1, s2, s3, s4, s5, s6, s7, s8, s9, wE, xE, yE, zE⟩; go_simp; with_reducible rfl
       rotate_left
       ·simp only [ps]; rfl
       refine Br (i := 4) (N := some 157) (v := ?_) (a' := ?_) (tf 5 2) rfl rfl (by kernel_rfl) (fun _ _ _ h => h) (Or.inl ⟨by rfl, ?_⟩) gB ?_ ?_; rotate_left
       ·rintro w' ⟨s0, s1, s2, s3, s4, s5, s6, s7, s8, s9, wE, xE, yE, zE⟩; go_simp; with_reducible rfl
       rotate_left
       ·simp only [ps]; rfl
       refine Dj (i := 5) (N := some 158) (tf 6 1) rfl rfl (by kernel_rfl) (by decide) (fun K hK => ?_); refine DF Try.func37 (by kernel_rfl) rfl #[.agg #[.int .i64 ((Al p 0).f0), .int .i64 ((Al p 0).f1), .string ((Al p 0).f2), .slice mC ((Al p 0).f3).length rC, .slice nC ((Al p 0).f4).length sC], .agg #[.int .i64 ((AB c a).f0), .int .i64 ((AB c a).f1), .slice D ((AB c a).f2).length I, .slice G ((AB c a).f3).length J]] (by rfl) rfl rfl (by (try simp only [List.map_toArray, List.map_cons, List.map_nil]); first | done | rfl | (simp only [List.length_drop, List.length_take]; rfl)) ?_; with_reducible refine (ih k3 (by have := oD.out; have := nE.out; have := aF.out; omega) ((Al p 0).f0) ((Al p 0).f1) ((Al p 0).f2) _ _ ((Al p 0).f3) _ _ ((Al p 0).f4) ((AB c a).f0) ((AB c a).f1) _ _ ((AB c a).f2) _ _ ((AB c a).f3) true _ ?side1 ?side2 ?side3 ?side4 ?side5 ?side6 ?side7 ?side8 hF.out).mono ?_
       (case side1 => exact cu lB s); (case side2 => exact xC.out); (case side3 => exact cu mB s); (case side4 => exact yC.out); (case side5 => exact cu zC s); (case side6 => exact vC.out); (case side7 => exact cu aD s); (case side8 => exact wC.out); rintro e vK ⟨rfl, hb⟩; refine ⟨_, rfl, ?_⟩; obtain ⟨b, d, q⟩ := tb3 hb b d q; replace s := kh3 s m o hC hb; try clear hb
       refine hK.out _ _ ⟨bc b 0, bc b 1, bc b 2, bc b 3, bc b 4, bc q 0, bc q 1, bc q 2, bc q 3, (AP s.out O), (AP s.out T), (AP s.out U), (AP s.out W), (AP s.out X)⟩ (fun gB => ?_); clear hK K; refine nz 158 ?_; refine Gc (i := 6) (N := some 159) (v := ?_) (a' := ?_) (tf 7 0) rfl rfl (by kernel_rfl) (fun _ _ _ h => h) (Or.inl ⟨by rfl, ?_⟩) ?_ ?_; rotate_left
       ·intro w'; go_simp; with_reducible rfl
       rotate_left
       ·simp only [ps]; rfl
       refine EQ (by kernel_rfl) ?_; try go_wp2
       go_roundg k3
       case measure => have := oD.out; have := nE.out; have := aF.out; omega
       case rel => exact ⟨(wrap64 (a + 1)), rfl, H', ⟨by have := oD.out; have := nE.out; have := aF.out; omega⟩, ⟨bu b⟩, ⟨bu d⟩, ⟨be3 s m o hC⟩⟩
end Go.Proofs.Ytojankgmedccdaa.PIs
