/- Hand contract of slices.Max at bits. -/
import Derived.Test.YtajpgmpidphmgaaHandC
import Derived.LoopTactic
import Derived.Outline
import Derived.WalkLawsBesides
import Derived.StillTailTactics
import Derived.Deep.RegionWith
import Derived.Lib.Hide
namespace Go.Proofs.Ytajpgmpidphmgaa.Hand
open Go.RowKit Go.Proofs.YtajpgmpidphmgaaW.PrintWords Go.Proofs.YtajpgmpidphmgaaW.PrintLast Go.Proofs.YtajpgmpidphmgaaW.PrintMore
attribute [local go_sem] max2_int min2_int max_two min_two max_three min_three max_four min_four
set_option linter.unusedVariables false
set_option linter.unusedSimpArgs false



/-- The greatest of the elements 0 to n. -/
def mxTo (l : List Int) : Nat → Int
  | 0 => rd l 0
  | n + 1 => mx (mxTo l n) (rd l ((n : Int) + 1))
def api_Bit_55.f (l0 : List Int) : Option Int := if 0 < l0.length then some (mxTo l0 (l0.length - 1)) else none
set_option maxHeartbeats 1000000 in
theorem api_Bit_55.calls (A0 : Option Addr) (c0 : Nat) (l0 : List Int) (r : Int) (w : World) (hr0 : Kd.C (Kd.int .u8) w A0 l0.length l0) (hc0 : l0.length ≤ c0) (h : api_Bit_55.f l0 = some r) :
    Calls Try.prog 55 #[.slice A0 l0.length c0] w fun e w' => e = .returned (.int .u8 r) ∧ Drawn0 w w' := by
  unfold api_Bit_55.f at h
  by_cases hl : 0 < l0.length
  · rw [if_pos hl] at h
    have HE := Aside0.mk (Option.some.inj h)
    have HR0 := Aside0.mk hr0
    have hm : l0.length ≤ 9223372036854775807 := Kd.C_max hr0
    clear hr0 hc0 h
    have g1 : decide ((l0.length : Int) < 1) = false := decide_eq_false (by omega)
    have g2 : decide (l0.length < 1) = false := decide_eq_false (by omega)
    obtain ⟨ad, e, hx⟩ := Kd.at_int HR0.out 0 (by omega) (by omega)
    cases e
    rw [show ad.add (Int.toNat 0) = ad from by simp [Addr.add]] at hx
    have hz : decide ((0 : Int) < (l0.length : Int)) = true := decide_eq_true (by omega)
    have hz2 : (0 : Int) < (l0.length : Int) := by omega
    go_enter Try.func55, Try.ntmps55
    go_wp2
    go_loopw [3, 4] (fun m i wr => ∃ (x y : Int) (n : Nat), i = .int .i64 x ∧ m = .int .u8 y ∧ Aside0 (x = n + 1) ∧ Aside0 (y = mxTo l0 n) ∧ 1 ≤ x ∧ x ≤ l0.length ∧ Drawn0 w wr) (fun _ v _ => l0.length - (intOf v).toNat)
    case atStart => exact ⟨1, _, 0, rfl, rfl, ⟨rfl⟩, ⟨rfl⟩, by omega, by omega, Drawn0.refl _⟩
    case round =>
      obtain ⟨x, y, n, rfl, rfl, hn, hy, h0, h1, ⟨m1, rfl⟩⟩ := hrel
      clear hx
      by_cases hlt : x < (l0.length : Int)
      · obtain ⟨ad2, e2, hx⟩ := Kd.at_int HR0.out x (by omega) hlt
        cases e2
        have h00 : 0 ≤ x := by omega
        go_wp2
        all_goals
          go_roundw
          case rel => exact ⟨x + 1, _, n + 1, rfl, rfl, ⟨by have := hn.out; omega⟩, ⟨by unfold mxTo; rw [← hy.out, ← hn.out]; rfl⟩, by omega, by omega, by repeat (first | exact Drawn0.refl _ | apply Drawn0.step)⟩
          case measure => simp [intOf]; omega
      · have hfin : y = r := by
          have h2 := hn.out
          rw [hy.out, show n = l0.length - 1 by omega, HE.out]
        have HF := Aside0.mk hfin
        clear hfin
        go_wp2
        go_ret
        exact ⟨by rw [← HF.out]; rfl, by repeat (first | exact Drawn0.refl _ | apply Drawn0.step)⟩
  · rw [if_neg hl] at h
    exact absurd h (by simp)
end Go.Proofs.Ytajpgmpidphmgaa.Hand
