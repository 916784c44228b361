/- Lemmas. -/
import Derived.Test.YtojankgmedccdaaYNHandD
set_option maxHeartbeats 4000000
namespace Go.Proofs.Ytojankgmedccdaa.Hand
open Go.RowKit Wo Own PTy
set_option linter.unusedVariables false
set_option linter.unusedSimpArgs false
theorem later (x : S63) (s : Option Addr) (y : Nat) (u : Option Addr) (z : Nat) (o : Int) (A : Option Addr) (c : Nat) (l : List Int) (g1 p : Nat) (b : Bool) (w : World)
    (i : w.heap[g1]? = some (.cells #[.int .i64 o] 3 (0, 0))) (j : w.heap[p]? = some (.cells #[.slice A l.length c] 38 (0, 0))) (q : Kd.C (Kd.int .i64) w A l.length l) (J : 0 < l.length) (h : decide (wrap64 (o + rd l 0) ≤ x.f0) = b) :
    Calls Try.prog 61 #[.agg #[.int .i64 x.f0, .int .i64 x.f1.f0, .int .i64 x.f1.f1, .slice s x.f1.f2.length y, .slice u x.f1.f3.length z], .pointer (some ⟨g1, 0, none⟩), .pointer (some ⟨p, 0, none⟩)] w fun e w' => e = .returned (.bool b) ∧ Below w.heap.size w w' := by
  have B := Try.underlying63; have m := Aside0.mk (Below.refl w.heap.size w); have d := Aside0.mk i; have g := Aside0.mk j; have G := Aside0.mk q; obtain ⟨v, e, D⟩ := Kd.D5 q 0 (by omega) (by omega); cases e; have n := Aside0.mk D; clear i j q D; go_enter Try.func61, Try.ntmps61; go_wp2_with ((with_reducible refine AQ rfl (N := 3) rfl (cs := #[.int .i64 x.f0, .int .i64 x.f1.f0, .int .i64 x.f1.f1, .slice s x.f1.f2.length y, .slice u x.f1.f3.length z]) (t := 63) ?hr ?_); (case hr => first | (go_simp; done) | (go_simp; rfl)); intro I hg r a h; have k := Aside0.mk (a); replace n := Aside0.mk (AP h n.out); replace d := kb d h; replace g := kb g h; replace m := kh m h; clear h a hg); have z3 := cells5 k.out; have T : r.cell? ⟨g1, 0, none⟩ = some (.int .i64 o) := (Af d.out 0).trans rfl; have U : r.cell? ⟨p, 0, none⟩ = some (.slice (some v) l.length c) := (Af g.out 0).trans rfl; have W : r.cell? v = some (.int .i64 (rd l 0)) := by have := n.out; rwa [show Int.toNat 0 = 0 from rfl, Addr.add_zero'] at this
  have h1 : decide ((0 : Int) < (l.length : Int)) = true := decide_eq_true (by omega); have L : decide (0 < l.length) = true := decide_eq_true (by omega); have O : (0 : Int) < (l.length : Int) := by omega
  go_quiet (fail); go_wp2; go_ret; exact ⟨by first | rfl | (simp [*, Bw]), be m⟩
def FR.f (l : List S63) (a : Int) (l2 : List Int) : Option Int := if 0 < l2.length then some (match l.findIdx? (fun x => decide (wrap64 (a + rd l2 0) ≤ x.f0)) with | some i => (i : Int) | none => -1) else none
set_option maxRecDepth 100000 in
theorem FR.calls (A0 : Option Addr) (c0 : Nat) (l : List S63) (m : Int) (U : Option Addr) (W : Nat) (l2 : List Int) (r : Int) (g1 X : Nat) (w : World) (n : Kd.C k63 w A0 l.length l) (sB : l.length ≤ c0) (O : Kd.C (Kd.int .i64) w U l2.length l2) (tB : l2.length ≤ W)
    (I : w.heap[g1]? = some (.cells #[.int .i64 m] 3 (0, 0))) (J : w.heap[X]? = some (.cells #[.slice U l2.length W] 38 (0, 0))) (h : FR.f l m l2 = some r) :
    Calls Try.prog 60 #[.slice A0 l.length c0, .func (.func 61) #[] #[.pointer (some ⟨g1, 0, none⟩), .pointer (some ⟨X, 0, none⟩)]] w fun e w' => e = .returned (.int .i64 r) ∧ Below w.heap.size w w' := by
  unfold FR.f at h; by_cases h0 : 0 < l2.length
  · rw [if_pos h0] at h; obtain ⟨b, z, qB, g, k⟩ : ∃ b : Nat, r = (if b < l.length then (b : Int) else -1) ∧ b ≤ l.length ∧ (∀ i : Nat, i < b → ∀ x, l[i]? = some x → decide (wrap64 (m + rd l2 0) ≤ x.f0) = false) ∧ (∀ x, l[b]? = some x → decide (wrap64 (m + rd l2 0) ≤ x.f0) = true) := by
      cases hf : l.findIdx? (fun x => decide (wrap64 (m + rd l2 0) ≤ x.f0)) with
      | none =>
        rw [hf] at h; refine ⟨l.length, by simp at h ⊢; exact h.symm, Nat.le_refl _, fun i hi x o => ?_, fun x o => by simp at o⟩; have := List.findIdx?_eq_none_iff.mp hf x (List.mem_of_getElem? o); exact this
      | some i =>
        rw [hf] at h; obtain ⟨hi, hp, hn⟩ := List.findIdx?_eq_some_iff_getElem.mp hf; refine ⟨i, by rw [if_pos hi]; simpa using h.symm, Nat.le_of_lt hi, fun j hj x o => ?_, fun x o => ?_⟩
        · have := hn j hj; obtain ⟨hl, rfl⟩ := List.getElem?_eq_some_iff.mp o; simpa using this
        · obtain ⟨hl, rfl⟩ := List.getElem?_eq_some_iff.mp o; exact hp
    have HL := Aside0.mk g; have HE := Aside0.mk k; have Z := Aside0.mk n; have G := Aside0.mk O; have B := Aside0.mk I; have D := Aside0.mk J; have HR := Aside0.mk z; have hm : l.length ≤ 9223372036854775807 := Kd.M5 n; clear n O I J h g k z; have jB := Try.underlying63; go_enter Try.func60, Try.ntmps60; go_wp2; go_loopw [8] (fun v wr => ∃ x : Nat, v = .int .i64 (x : Int) ∧ x ≤ b ∧ Below w.heap.size w wr) (fun v _ => l.length - (intOf v).toNat)
    case atStart => exact ⟨0, rfl, by omega, Below.refl _ _⟩
    case round =>
      obtain ⟨x, rfl, h1, c⟩ := hrel; by_cases hlt : x < l.length
      · have hi : (x : Int) < (l.length : Int) := by omega
        obtain ⟨ad, A3, c3, A4, c4, e, p, q, s, u, y, cB, aB, dB, bB⟩ := Cy Z.out (x : Int) (by omega) hi; cases e; rw [Int.toNat_natCast] at p q s u y; replace p := AP c p; replace q := AP c q; replace s := AP c s; replace u := AP c u; replace y := AP c y; have a : l[x]? = some (AA l (x : Int)) := by simp [AA, List.getD_eq_getElem?_getD, hlt]
        have d := Aside0.mk c; clear cB aB dB bB; by_cases hxb : x < b
        · have Y := Aside0.mk (HL.out x hxb _ a); clear a c; go_wp2_with (go_at_call 61; refine (later _ _ _ _ _ m U W l2 g1 X false _ (AX B.out d.out) (AX D.out d.out) (Kd.Ap G.out d.out) h0 Y.out).mono ?_; rintro e_ w2 ⟨rfl, z⟩); go_roundw
          case rel => exact ⟨x + 1, by simp, by omega, Aj d.out z⟩
          case measure => simp [intOf]; omega
        · have T : x = b := by omega
          subst T; have Y := Aside0.mk (HE.out _ a); clear a c; go_wp2_with (go_at_call 61; refine (later _ _ _ _ _ m U W l2 g1 X true _ (AX B.out d.out) (AX D.out d.out) (Kd.Ap G.out d.out) h0 Y.out).mono ?_; rintro e_ w2 ⟨rfl, z⟩); go_ret; exact ⟨by rw [HR.out, if_pos hlt]; rfl, Aj d.out z⟩
      · have L : ¬ b < l.length := by omega
        go_wp2; go_ret; exact ⟨by rw [HR.out, if_neg L]; rfl, c⟩
  · rw [if_neg h0] at h; exact absurd h (by simp)
end Go.Proofs.Ytojankgmedccdaa.Hand
