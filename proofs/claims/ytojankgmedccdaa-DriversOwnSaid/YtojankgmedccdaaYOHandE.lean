/- Lemmas. -/
import Derived.Test.YtojankgmedccdaaYOHandD
set_option maxHeartbeats 4000000
namespace Go.Proofs.Ytojankgmedccdaa.Hand
open Go.RowKit Wo Own PTy
set_option linter.unusedVariables false
set_option linter.unusedSimpArgs false
theorem later (x : S63) (D : Option Addr) (J : Nat) (G : Option Addr) (L : Nat) (u : Int) (A : Option Addr) (c : Nat) (l : List Int) (g1 v : Nat) (b : Bool) (w : World)
    (k : w.heap[g1]? = some (.cells #[.int .i64 u] 3 (0, 0))) (o : w.heap[v]? = some (.cells #[.slice A l.length c] 38 (0, 0))) (z : Kd.C (Kd.int .i64) w A l.length l) (X : 0 < l.length) (j : decide (wrap64 (u + rd l 0) ≤ x.f0) = b) :
    Calls Try.prog 61 #[.agg #[.int .i64 x.f0, .int .i64 x.f1.f0, .int .i64 x.f1.f1, .slice D x.f1.f2.length J, .slice G x.f1.f3.length L], .pointer (some ⟨g1, 0, none⟩), .pointer (some ⟨v, 0, none⟩)] w fun e w' => e = .returned (.bool b) ∧ Below w.heap.size w w' := by
  have O := Try.underlying63; have r := Aside0.mk (Below.refl w.heap.size w); have h := Aside0.mk k; have i := Aside0.mk o; have U := Aside0.mk z; obtain ⟨I, e, T⟩ := Kd.DX z 0 (by omega) (by omega); cases e; have s := Aside0.mk T; clear k o z T; go_enter Try.func61, Try.ntmps61; go_wp2_with ((with_reducible refine AU rfl (N := 3) rfl (cs := #[.int .i64 x.f0, .int .i64 x.f1.f0, .int .i64 x.f1.f1, .slice D x.f1.f2.length J, .slice G x.f1.f3.length L]) (t := 63) ?hr ?_); (case hr => first | (go_simp; done) | (go_simp; rfl)); intro W hg B a j; have q := Aside0.mk (a); replace s := Aside0.mk (AY j s.out); replace h := kb h j; replace i := kb i j; replace r := kh r j; clear j a hg); have z3 := cells5 q.out; have Y : B.cell? ⟨g1, 0, none⟩ = some (.int .i64 u) := (AO h.out 0).trans rfl; have Z : B.cell? ⟨v, 0, none⟩ = some (.slice (some I) l.length c) := (AO i.out 0).trans rfl; have zx : B.cell? I = some (.int .i64 (rd l 0)) := by have := s.out; rwa [show Int.toNat 0 = 0 from rfl, Addr.add_zero'] at this
  have h1 : decide ((0 : Int) < (l.length : Int)) = true := decide_eq_true (by omega); have h2 : decide (0 < l.length) = true := decide_eq_true (by omega); have h3 : (0 : Int) < (l.length : Int) := by omega
  go_quiet (fail); go_wp2; go_ret; exact ⟨by first | rfl | (simp [*, CG]), be r⟩
def Er.f (l : List S63) (a : Int) (l2 : List Int) : Option Int := if 0 < l2.length then some (match l.findIdx? (fun x => decide (wrap64 (a + rd l2 0) ≤ x.f0)) with | some i => (i : Int) | none => -1) else none
set_option maxRecDepth 100000 in
theorem Er.calls (A0 : Option Addr) (c0 : Nat) (l : List S63) (s : Int) (A2 : Option Addr) (c2 : Nat) (l2 : List Int) (r : Int) (g1 g2 : Nat) (w : World) (u : Kd.C k63 w A0 l.length l) (zB : l.length ≤ c0) (Z : Kd.C (Kd.int .i64) w A2 l2.length l2) (aC : l2.length ≤ c2)
    (W : w.heap[g1]? = some (.cells #[.int .i64 s] 3 (0, 0))) (X : w.heap[g2]? = some (.cells #[.slice A2 l2.length c2] 38 (0, 0))) (h : Er.f l s l2 = some r) :
    Calls Try.prog 60 #[.slice A0 l.length c0, .func (.func 61) #[] #[.pointer (some ⟨g1, 0, none⟩), .pointer (some ⟨g2, 0, none⟩)]] w fun e w' => e = .returned (.int .i64 r) ∧ Below w.heap.size w w' := by
  unfold Er.f at h; by_cases h0 : 0 < l2.length
  · rw [if_pos h0] at h; obtain ⟨b, L, yB, o, q⟩ : ∃ b : Nat, r = (if b < l.length then (b : Int) else -1) ∧ b ≤ l.length ∧ (∀ i : Nat, i < b → ∀ x, l[i]? = some x → decide (wrap64 (s + rd l2 0) ≤ x.f0) = false) ∧ (∀ x, l[b]? = some x → decide (wrap64 (s + rd l2 0) ≤ x.f0) = true) := by
      cases hf : l.findIdx? (fun x => decide (wrap64 (s + rd l2 0) ≤ x.f0)) with
      | none =>
        rw [hf] at h; refine ⟨l.length, by simp at h ⊢; exact h.symm, Nat.le_refl _, fun i hi x z => ?_, fun x z => by simp at z⟩; have := List.findIdx?_eq_none_iff.mp hf x (List.mem_of_getElem? z); exact this
      | some i =>
        rw [hf] at h; obtain ⟨hi, hp, hn⟩ := List.findIdx?_eq_some_iff_getElem.mp hf; refine ⟨i, by rw [if_pos hi]; simpa using h.symm, Nat.le_of_lt hi, fun j hj x z => ?_, fun x z => ?_⟩
        · have := hn j hj; obtain ⟨hl, rfl⟩ := List.getElem?_eq_some_iff.mp z; simpa using this
        · obtain ⟨hl, rfl⟩ := List.getElem?_eq_some_iff.mp z; exact hp
    have HL := Aside0.mk o; have HE := Aside0.mk q; have fB := Aside0.mk u; have U := Aside0.mk Z; have O := Aside0.mk W; have T := Aside0.mk X; have HR := Aside0.mk L; have hm : l.length ≤ 9223372036854775807 := Kd.KD u; clear u Z W X h o q L; have tB := Try.underlying63; go_enter Try.func60, Try.ntmps60; go_wp2; go_loopw [8] (fun v wr => ∃ x : Nat, v = .int .i64 (x : Int) ∧ x ≤ b ∧ Below w.heap.size w wr) (fun v _ => l.length - (intOf v).toNat)
    case atStart => exact ⟨0, rfl, by omega, Below.refl _ _⟩
    case round =>
      obtain ⟨x, rfl, h1, c⟩ := hrel; by_cases hlt : x < l.length
      · have hi : (x : Int) < (l.length : Int) := by omega
        obtain ⟨ad, A3, c3, A4, c4, e, B, D, G, I, J, kB, gB, lB, jB⟩ := Cq fB.out (x : Int) (by omega) hi; cases e; rw [Int.toNat_natCast] at B D G I J; replace B := AY c B; replace D := AY c D; replace G := AY c G; replace I := AY c I; replace J := AY c J; have a : l[x]? = some (AA l (x : Int)) := by simp [AA, List.getD_eq_getElem?_getD, hlt]
        have k := Aside0.mk c; clear kB gB lB jB; by_cases hxb : x < b
        · have HF := Aside0.mk (HL.out x hxb _ a); clear a c; go_wp2_with (go_at_call 61; refine (later _ _ _ _ _ s A2 c2 l2 g1 g2 false _ (AL O.out k.out) (AL T.out k.out) (Kd.Ak U.out k.out) h0 HF.out).mono ?_; rintro e_ w2 ⟨rfl, L⟩); go_roundw
          case rel => exact ⟨x + 1, by simp, by omega, AZ k.out L⟩
          case measure => simp [intOf]; omega
        · have aB : x = b := by omega
          subst aB; have HF := Aside0.mk (HE.out _ a); clear a c; go_wp2_with (go_at_call 61; refine (later _ _ _ _ _ s A2 c2 l2 g1 g2 true _ (AL O.out k.out) (AL T.out k.out) (Kd.Ak U.out k.out) h0 HF.out).mono ?_; rintro e_ w2 ⟨rfl, L⟩); go_ret; exact ⟨by rw [HR.out, if_pos hlt]; rfl, AZ k.out L⟩
      · have Y : ¬ b < l.length := by omega
        go_wp2; go_ret; exact ⟨by rw [HR.out, if_neg Y]; rfl, c⟩
  · rw [if_neg h0] at h; exact absurd h (by simp)
end Go.Proofs.Ytojankgmedccdaa.Hand
