/- Part of the proof of LawDriversOrder: every definition and lemma is one that it names. -/
import Derived.Deep.QuietTactic
import Derived.BigQuiet
import Derived.Test.YtojankgmedccdaaQHandD
import Derived.Test.YtojankgmedccdaaQPTyx0
import Derived.Test.YtojankgmedccdaaQOwn3
namespace Go.Proofs.Ytojankgmedccdaa.Hand
open Go.RowKit YtojankgmedccdaaW.PrintWords YtojankgmedccdaaW.PrintLast YtojankgmedccdaaW.PrintMore Own PTy
set_option linter.unusedVariables false
set_option linter.unusedSimpArgs false
set_option maxHeartbeats 2000000 in
theorem later (x : S63) (A2 : Option Addr) (c2 : Nat) (A3 : Option Addr) (c3 : Nat) (a1 : Int) (A : Option Addr) (c : Nat) (l : List Int) (g1 g2 : Nat) (b : Bool) (w : World)
    (hb1 : w.heap[g1]? = some (.cells #[.int .i64 a1] 3 (0, 0))) (hb2 : w.heap[g2]? = some (.cells #[.slice A l.length c] 38 (0, 0))) (hl : Kd.C (Kd.int .i64) w A l.length l) (h0 : 0 < l.length) (hb : decide (wrap64 (a1 + rd l 0) ≤ x.f0) = b) :
    Calls Try.prog 61 #[.agg #[.int .i64 x.f0, .int .i64 x.f1.f0, .int .i64 x.f1.f1, .slice A2 x.f1.f2.length c2, .slice A3 x.f1.f3.length c3], .pointer (some ⟨g1, 0, none⟩), .pointer (some ⟨g2, 0, none⟩)] w fun e w' => e = .returned (.bool b) ∧ Below w.heap.size w w' := by
  have hu63 := Try.underlying63
  have HB := Aside0.mk (Below.refl w.heap.size w)
  have BK1 := Aside0.mk hb1; have BK2 := Aside0.mk hb2; have HL := Aside0.mk hl
  obtain ⟨ad, e, hx⟩ := Kd.at_int hl 0 (by omega) (by omega)
  cases e
  have HX := Aside0.mk hx
  clear hb1 hb2 hl hx
  go_enter Try.func61, Try.ntmps61
  go_wp2_with ((with_reducible refine box_event rfl (N := 3) rfl (cs := #[.int .i64 x.f0, .int .i64 x.f1.f0, .int .i64 x.f1.f1, .slice A2 x.f1.f2.length c2, .slice A3 x.f1.f3.length c3]) (t := 63) ?hr ?_); (case hr => first | (go_simp; done) | (go_simp; rfl)); intro gb hg w4 hbox hb; have BK3 := Aside0.mk (hbox); replace HX := Aside0.mk (keepc hb HX.out); replace BK1 := kb BK1 hb; replace BK2 := kb BK2 hb; replace HB := kh HB hb; clear hb hbox hg)
  have z3 := cells5 BK3.out
  have z1 : w4.cell? ⟨g1, 0, none⟩ = some (.int .i64 a1) := (blk_cell BK1.out 0).trans rfl
  have z2 : w4.cell? ⟨g2, 0, none⟩ = some (.slice (some ad) l.length c) := (blk_cell BK2.out 0).trans rfl
  have zx : w4.cell? ad = some (.int .i64 (rd l 0)) := by have := HX.out; rwa [show Int.toNat 0 = 0 from rfl, Addr.add_zero'] at this
  have h1 : decide ((0 : Int) < (l.length : Int)) = true := decide_eq_true (by omega)
  have h2 : decide (0 < l.length) = true := decide_eq_true (by omega)
  have h3 : (0 : Int) < (l.length : Int) := by omega
  go_quiet (fail)
  go_wp2
  go_ret
  exact ⟨by first | rfl | (simp [*, i64_w]), be HB⟩
def api_Trans.f (l : List S63) (a1 : Int) (l2 : List Int) : Option Int := if 0 < l2.length then some (match l.findIdx? (fun x => decide (wrap64 (a1 + rd l2 0) ≤ x.f0)) with | some i => (i : Int) | none => -1) else none
set_option maxHeartbeats 4000000 in
set_option maxRecDepth 100000 in
theorem api_Trans.calls (A0 : Option Addr) (c0 : Nat) (l : List S63) (a1 : Int) (A2 : Option Addr) (c2 : Nat) (l2 : List Int) (r : Int) (g1 g2 : Nat) (w : World) (hr0 : Kd.C k63 w A0 l.length l) (hc0 : l.length ≤ c0) (hr2 : Kd.C (Kd.int .i64) w A2 l2.length l2) (hc2 : l2.length ≤ c2)
    (hb1 : w.heap[g1]? = some (.cells #[.int .i64 a1] 3 (0, 0))) (hb2 : w.heap[g2]? = some (.cells #[.slice A2 l2.length c2] 38 (0, 0))) (h : api_Trans.f l a1 l2 = some r) :
    Calls Try.prog 60 #[.slice A0 l.length c0, .func (.func 61) #[] #[.pointer (some ⟨g1, 0, none⟩), .pointer (some ⟨g2, 0, none⟩)]] w fun e w' => e = .returned (.int .i64 r) ∧ Below w.heap.size w w' := by
  unfold api_Trans.f at h
  by_cases h0 : 0 < l2.length
  · rw [if_pos h0] at h
    obtain ⟨b, hb, hbl, hall, hend⟩ : ∃ b : Nat, r = (if b < l.length then (b : Int) else -1) ∧ b ≤ l.length ∧ (∀ i : Nat, i < b → ∀ x, l[i]? = some x → decide (wrap64 (a1 + rd l2 0) ≤ x.f0) = false) ∧ (∀ x, l[b]? = some x → decide (wrap64 (a1 + rd l2 0) ≤ x.f0) = true) := by
      cases hf : l.findIdx? (fun x => decide (wrap64 (a1 + rd l2 0) ≤ x.f0)) with
      | none =>
        rw [hf] at h
        refine ⟨l.length, by simp at h ⊢; exact h.symm, Nat.le_refl _, fun i hi x hx => ?_, fun x hx => by simp at hx⟩
        have := List.findIdx?_eq_none_iff.mp hf x (List.mem_of_getElem? hx)
        exact this
      | some i =>
        rw [hf] at h
        obtain ⟨hi, hp, hn⟩ := List.findIdx?_eq_some_iff_getElem.mp hf
        refine ⟨i, by rw [if_pos hi]; simpa using h.symm, Nat.le_of_lt hi, fun j hj x hx => ?_, fun x hx => ?_⟩
        · have := hn j hj
          obtain ⟨hl, rfl⟩ := List.getElem?_eq_some_iff.mp hx
          simpa using this
        · obtain ⟨hl, rfl⟩ := List.getElem?_eq_some_iff.mp hx
          exact hp
    have HL := Aside0.mk hall; have HE := Aside0.mk hend; have HR0 := Aside0.mk hr0; have HR2 := Aside0.mk hr2; have BK1 := Aside0.mk hb1; have BK2 := Aside0.mk hb2; have HR := Aside0.mk hb
    have hm : l.length ≤ 9223372036854775807 := Kd.C_max hr0
    clear hr0 hr2 hb1 hb2 h hall hend hb
    have hu63 := Try.underlying63
    go_enter Try.func60, Try.ntmps60
    go_wp2
    go_loopw [8] (fun v wr => ∃ x : Nat, v = .int .i64 (x : Int) ∧ x ≤ b ∧ Below w.heap.size w wr) (fun v _ => l.length - (intOf v).toNat)
    case atStart => exact ⟨0, rfl, by omega, Below.refl _ _⟩
    case round =>
      obtain ⟨x, rfl, h1, hB⟩ := hrel
      by_cases hlt : x < l.length
      · have hi : (x : Int) < (l.length : Int) := by omega
        obtain ⟨ad, A3, c3, A4, c4, e, hx0, hx1, hx2, hx3, hx4, hl3, hi3, hl4, hi4⟩ := at_T63 HR0.out (x : Int) (by omega) hi
        cases e
        rw [Int.toNat_natCast] at hx0 hx1 hx2 hx3 hx4
        replace hx0 := keepc hB hx0; replace hx1 := keepc hB hx1; replace hx2 := keepc hB hx2; replace hx3 := keepc hB hx3; replace hx4 := keepc hB hx4
        have hget : l[x]? = some (rd_T63 l (x : Int)) := by simp [rd_T63, List.getD_eq_getElem?_getD, hlt]
        have HB := Aside0.mk hB
        clear hl3 hi3 hl4 hi4
        by_cases hxb : x < b
        · have HF := Aside0.mk (HL.out x hxb _ hget)
          clear hget hB
          go_wp2_with (go_at_call 61; refine (later _ _ _ _ _ a1 A2 c2 l2 g1 g2 false _ (blk_below BK1.out HB.out) (blk_below BK2.out HB.out) (Kd.C_below HR2.out HB.out) h0 HF.out).mono ?_; rintro e_ w2 ⟨rfl, hb⟩)
          go_roundw
          case rel => exact ⟨x + 1, by simp, by omega, below_step HB.out hb⟩
          case measure => simp [intOf]; omega
        · have hxb' : x = b := by omega
          subst hxb'
          have HF := Aside0.mk (HE.out _ hget)
          clear hget hB
          go_wp2_with (go_at_call 61; refine (later _ _ _ _ _ a1 A2 c2 l2 g1 g2 true _ (blk_below BK1.out HB.out) (blk_below BK2.out HB.out) (Kd.C_below HR2.out HB.out) h0 HF.out).mono ?_; rintro e_ w2 ⟨rfl, hb⟩)
          go_ret
          exact ⟨by rw [HR.out, if_pos hlt]; rfl, below_step HB.out hb⟩
      · have hbl' : ¬ b < l.length := by omega
        go_wp2
        go_ret
        exact ⟨by rw [HR.out, if_neg hbl']; rfl, hB⟩
  · rw [if_neg h0] at h; exact absurd h (by simp)
end Go.Proofs.Ytojankgmedccdaa.Hand
