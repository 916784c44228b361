/- Hand contract of logic.are at two vectors. -/
import Derived.Test.YtajpgmpidphmgaaHandD
import Derived.Outline
import Derived.WalkLawsBesides
import Derived.StillTailTactics
import Derived.Deep.RegionWith
import Derived.Lib.Hide
namespace Go.Proofs.Ytajpgmpidphmgaa.Hand
open Go.RowKit Go.Proofs.YtajpgmpidphmgaaW.PrintWords Go.Proofs.YtajpgmpidphmgaaW.PrintLast Go.Proofs.YtajpgmpidphmgaaW.PrintMore
attribute [local go_sem] max2_int min2_int max_two min_two max_three min_three max_four min_four
set_option linter.unusedVariables false
set_option linter.unusedSimpArgs false



/-- Whether two lists are vectors of one length. -/
def areF (l1 l2 : List Int) : Bool := isF l1 && (isF l2 && decide (l1.length = l2.length))
theorem is_any (A : Option Addr) (c : Nat) (l : List Int) (b : Bool) (hb : isF l = b) (hc : l.length ≤ c) (w : World) (hr : Kd.C (Kd.int .u8) w A l.length l) :
    Calls Try.prog 36 #[.slice A l.length c] w fun e w' => e = .returned (.bool b) ∧ Drawn0 w w' := logic_Is.calls A c l b w hr hc (by unfold logic_Is.f; rw [hb])
set_option maxRecDepth 100000 in
set_option maxHeartbeats 2000000 in
theorem are2_any (A1 A2 : Option Addr) (k1 k2 : Nat) (l1 l2 : List Int) (g : Nat) (w : World) (h1 : Kd.C (Kd.int .u8) w A1 l1.length l1) (h2 : Kd.C (Kd.int .u8) w A2 l2.length l2) (hk1 : l1.length ≤ k1) (hk2 : l2.length ≤ k2)
    (c0 : w.cell? ⟨g, 0, none⟩ = some (.slice A1 l1.length k1)) (c1 : w.cell? ⟨g, 1, none⟩ = some (.slice A2 l2.length k2)) :
    Calls Try.prog 53 #[.slice (some ⟨g, 0, none⟩) 2 2] w fun e w' => e = .returned (.bool (areF l1 l2)) ∧ Drawn0 w w' := by
  obtain ⟨b1, e1⟩ : ∃ b, isF l1 = b := ⟨_, rfl⟩
  obtain ⟨b2, e2⟩ : ∃ b, isF l2 = b := ⟨_, rfl⟩
  have HA := Aside0.mk (fun w hr => is_any A1 k1 l1 b1 e1 hk1 w hr)
  have HB := Aside0.mk (fun w hr => is_any A2 k2 l2 b2 e2 hk2 w hr)
  have HR1 := Aside0.mk (fun n => Kd.C_drewN h1 n)
  have HR2 := Aside0.mk (fun n => Kd.C_drewN h2 n)
  have HR0 := Aside0.mk h1
  unfold areF
  rw [e1, e2]
  clear e1 e2 h1 h2 hk1 hk2
  have f1 : ((l1.length : Int) == (l1.length : Int)) = true := beq_iff_eq.mpr rfl
  have f2 : ((l1.length : Int) != (l1.length : Int)) = false := bne_eq_false_iff_eq.mpr rfl
  cases b1 with
  | false =>
    go_enter Try.func53, Try.ntmps53
    go_wp2
    refine wp_loop_rounds 3 ?_
    rw [rounds_succ]
    go_wp2_with (go_at_call 36; refine (HA.out _ HR0.out).mono ?_; rintro e_ w2 ⟨rfl, ⟨m, rfl⟩⟩)
    go_ret
    exact ⟨by simp, ⟨m, rfl⟩⟩
  | true =>
    cases b2 with
    | false =>
      go_enter Try.func53, Try.ntmps53
      go_wp2
      refine wp_loop_rounds 3 ?_
      rw [rounds_succ]
      go_wp2_with (go_at_call 36; refine (HA.out _ HR0.out).mono ?_; rintro e_ w2 ⟨rfl, ⟨m, rfl⟩⟩)
      rw [rounds_succ]
      go_wp2_with (go_at_call 36; refine (HB.out _ (HR2.out _)).mono ?_; rintro e_ w2 ⟨rfl, ⟨m2, rfl⟩⟩)
      go_ret
      exact ⟨by simp, by repeat (first | exact Drawn0.refl _ | apply Drawn0.step)⟩
    | true =>
      by_cases hl : l1.length = l2.length
      · have g1 : ((l2.length : Int) == (l1.length : Int)) = true := beq_iff_eq.mpr (by omega)
        have g2 : ((l2.length : Int) != (l1.length : Int)) = false := bne_eq_false_iff_eq.mpr (by omega)
        have g3 : (l2.length == l1.length) = true := beq_iff_eq.mpr hl.symm
        have g4 : (l2.length != l1.length) = false := bne_eq_false_iff_eq.mpr hl.symm
        rw [decide_eq_true hl]
        clear hl
        go_enter Try.func53, Try.ntmps53
        go_wp2
        refine wp_loop_rounds 3 ?_
        rw [rounds_succ]
        go_wp2_with (go_at_call 36; refine (HA.out _ HR0.out).mono ?_; rintro e_ w2 ⟨rfl, ⟨m, rfl⟩⟩)
        rw [rounds_succ]
        go_wp2_with (go_at_call 36; refine (HB.out _ (HR2.out _)).mono ?_; rintro e_ w2 ⟨rfl, ⟨m2, rfl⟩⟩)
        rw [rounds_succ]
        go_wp2
        go_ret
        exact ⟨by simp, by repeat (first | exact Drawn0.refl _ | apply Drawn0.step)⟩
      · have g1 : ((l2.length : Int) == (l1.length : Int)) = false := beq_eq_false_iff_ne.mpr (by omega)
        have g2 : ((l2.length : Int) != (l1.length : Int)) = true := bne_iff_ne.mpr (by omega)
        have g3 : (l2.length == l1.length) = false := beq_eq_false_iff_ne.mpr (by omega)
        have g4 : (l2.length != l1.length) = true := bne_iff_ne.mpr (by omega)
        rw [decide_eq_false hl]
        clear hl
        go_enter Try.func53, Try.ntmps53
        go_wp2
        refine wp_loop_rounds 3 ?_
        rw [rounds_succ]
        go_wp2_with (go_at_call 36; refine (HA.out _ HR0.out).mono ?_; rintro e_ w2 ⟨rfl, ⟨m, rfl⟩⟩)
        rw [rounds_succ]
        go_wp2_with (go_at_call 36; refine (HB.out _ (HR2.out _)).mono ?_; rintro e_ w2 ⟨rfl, ⟨m2, rfl⟩⟩)
        go_ret
        exact ⟨by simp, by repeat (first | exact Drawn0.refl _ | apply Drawn0.step)⟩
end Go.Proofs.Ytajpgmpidphmgaa.Hand
