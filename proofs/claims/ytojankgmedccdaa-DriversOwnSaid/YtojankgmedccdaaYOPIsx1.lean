/- Lemmas. -/
import Derived.Test.YtojankgmedccdaaYOPIsx0
namespace Go.Proofs.Ytojankgmedccdaa.PIs
open Go.RowKit Own PTy Hand Wo
attribute [local go_sem] BI BJ Ba Bc Ao Ap BL BM
set_option linter.unusedVariables false
set_option linter.unusedSimpArgs false
mutual
def CF.l0 : Nat → Int → List (S30) → Int → Int → Option (Int)
 | 0, _, _, _, _ => none
 | k + 1, x1, b, i, a => if a < i then (if 0 ≤ a then (if a < (b.length : Int) then (if x1 < 0 then (some x1) else ((CF.f k ((AB b a).f0) ((AB b a).f1) ((AB b a).f2) ((AB b a).f3) x1).bind fun h => (CF.l0 k h b i (wrap64 (a + 1))))) else (none)) else (none)) else (some x1)
def CF.f : Nat → Int → Int → List Int → List (S30) → Int → Option (Int)
 | 0, _, _, _, _, _ => none
 | k + 1, j, l, e, c, a1 => CF.l0 k (wrap64 (a1 - (wrap64 (1 + (e.length : Int))))) c (c.length : Int) 0
end
set_option maxHeartbeats 8000000 in
set_option maxRecDepth 100000 in
theorem CF.calls (k : Nat) : ∀ (dB : Int) (eB : Int) (X : Option Addr) (fB : Nat) (I : List Int) (Y : Option Addr) (gB : Nat) (b : List (S30)) (a1 : Int) (r : Int) (w : World) (kB : Kd.C (Kd.int .u8) w X I.length I) (hB : I.length ≤ fB) (lB : Kd.C k30 w Y b.length b) (jB : b.length ≤ gB) (h : CF.f k dB eB I b a1 = some r),
  Calls Try.prog 62 #[.agg #[.int .i64 dB, .int .i64 eB, .slice X I.length fB, .slice Y b.length gB], .int .i64 a1] w fun e w' => e = .returned (.int .i64 r) ∧ Below w.heap.size w w' := by
 induction k using Nat.strongRecOn with
 | _ k ih =>
 intro dB eB X fB I Y gB b a1 r w kB hB lB jB h
 cases k with
 | zero => exact absurd h (by simp [CF.f])
 | succ k =>
 simp only [CF.f] at h
 have tC := Try.underlying30
 have mC := mk0 kB; have kC := mk0 hB; clear kB hB; have xB := mk0 lB; have lC := mk0 jB; clear lB jB
 have L := mk0 (Below.refl w.heap.size w)
 have H := h; unfold CF.f at H
 clear h
 have H' := mk0 H
 clear H
 go_enter Try.func62, Try.ntmps62
 go_wp2_with ((with_reducible refine AU rfl (N := 2) rfl (cs := #[.int .i64 dB, .int .i64 eB, .slice X I.length fB, .slice Y b.length gB]) (t := 30) ?hr ?_); (case hr => first | (go_simp; done) | (go_simp; rfl)); intro dC hg w3 O hb; have c := mk0 (O); have i := bs (be L) hg; replace L := kh L hb; clear hb O hg; have z4 := Ar c.out)
 go_loopg [1, 16] k (fun kq v1 v16 w' => ∃ (wB : Int) (a : Int), v1 = .int .i64 wB ∧ v16 = .int .i64 a ∧ Aside0 (CF.l0 kq wB b (b.length : Int) a = some r) ∧ Aside0 (kq ≤ k) ∧ Aside0 (bk w' dC 30 #[.int .i64 dB, .int .i64 eB, (.slice X I.length fB), (.slice Y b.length gB)]) ∧ Aside0 (Below w.heap.size w w'))
 case atStart => exact ⟨(wrap64 (a1 - (wrap64 (1 + (I.length : Int))))), (0), rfl, rfl, H', ⟨Nat.le_refl _⟩, ⟨bu c⟩, ⟨be1 L i⟩⟩
 case round =>
  clear H'; obtain ⟨wB, a, rfl, rfl, HA, bC, c, L⟩ := hrel; cases gk with
  | zero => exact absurd HA.out (by simp [CF.l0])
  | succ k1 =>
   have H := HA.out; clear HA; simp only [CF.l0] at H; replace H := iD' H; obtain ⟨-, eC, H⟩ | ⟨-, eC, H⟩ := H
   ·obtain rfl := sI H; go_wp2; go_ret; exact ⟨rfl, be1 L i⟩
   replace H := iN H; obtain ⟨-, rC, H⟩ := H; replace H := iN H; obtain ⟨-, sC, H⟩ := H; replace H := iD H; obtain ⟨-, fC, H⟩ | ⟨-, fC, H⟩ := H
   ·obtain rfl := sI H; have U : 0 ≤ (a : Int) := od; have W : a < (b.length : Int) := od; obtain ⟨cC, mB, sB, qB, tB, yB, v, z, B, D, s, l, u, q⟩ := DV xB.out a U W; cases yB; replace v := AY L.out v; replace z := AY L.out z; replace B := AY L.out B; replace D := AY L.out D; have bB := mk0 l; have Z := mk0 s; clear l s; have cB := mk0 q; have aB := mk0 u; clear q u; replace U := eq_true U; replace W := eq_true W; go_wp2_with ((with_reducible refine AU rfl (N := 6) rfl (cs := #[.int .i64 0, .int .i64 0, .slice none 0 0, .slice none 0 0]) (t := 30) ?hr ?_); (case hr => first | (go_simp; done) | (go_simp; rfl)); intro zB hg w9 O hb; have T := mk0 (O); have J := bs (be1 L i) hg; replace L := kh1 L i hb; have ⟨j, G⟩ := nn c hg; replace c := kb c hb; clear hb O hg; have ⟨nC, pC⟩ := no G j; have yC := Ar T.out); go_ret; exact ⟨rfl, be2 L i J⟩
   replace H := bS H; obtain ⟨aC, iC, H⟩ := H; have H' := mk0 H; clear H; have U : 0 ≤ (a : Int) := od; have W : a < (b.length : Int) := od; obtain ⟨cC, mB, sB, qB, tB, yB, v, z, B, D, s, l, u, q⟩ := DV xB.out a U W; cases yB; replace v := AY L.out v; replace z := AY L.out z; replace B := AY L.out B; replace D := AY L.out D; have bB := mk0 l; have Z := mk0 s; clear l s; have cB := mk0 q; have aB := mk0 u; clear q u; replace U := eq_true U; replace W := eq_true W; go_wp2_with (first | ((with_reducible refine AU rfl (N := 6) rfl (cs := #[.int .i64 0, .int .i64 0, .slice none 0 0, .slice none 0 0]) (t := 30) ?hr ?_); (case hr => first | (go_simp; done) | (go_simp; rfl)); intro zB hg wC O hb; have T := mk0 (O); have J := bs (be1 L i) hg; replace L := kh1 L i hb; have ⟨j, G⟩ := nn c hg; replace c := kb c hb; clear hb O hg; have ⟨oC, qC⟩ := no G j; have zC := Ar T.out) | ((with_reducible refine AP (f := 62) rfl ?_); refine CS Try.func62 (ih k1 (by have := bC.out; omega) ((AB b a).f0) ((AB b a).f1) _ _ ((AB b a).f2) _ _ ((AB b a).f3) wB aC _ (Kd.Ak bB.out (be2 L i J)) Z.out (Kd.Ak cB.out (be2 L i J)) aB.out iC.out) ?_; intro xC hb; replace c := kF j c hb; replace T := mk0 (AL (g := zB) (o := .cells #[.int .i64 ((AB b a).f0), .int .i64 ((AB b a).f1), .slice mB ((AB b a).f2).length sB, .slice qB ((AB b a).f3).length tB] 30 (0, 0)) (pB T) hb); replace L := kh2 L i J hb)); go_roundg k1
   case measure => have := bC.out; omega
   case rel => exact ⟨(aC), (wrap64 (a + 1)), rfl, rfl, H', ⟨by have := bC.out; omega⟩, ⟨bu c⟩, ⟨be2 L i J⟩⟩
end Go.Proofs.Ytojankgmedccdaa.PIs
