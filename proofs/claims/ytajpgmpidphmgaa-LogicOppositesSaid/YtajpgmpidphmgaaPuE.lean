/- Plain facts: the opposites. -/
import Derived.Test.YtajpgmpidphmgaaPuA
import Derived.Test.YtajpgmpidphmgaaPOppx1
namespace Go.Proofs.Ytajpgmpidphmgaa.Pure
open Go.RowKit Go.Proofs.Ytajpgmpidphmgaa.Hand Go.Proofs.Ytajpgmpidphmgaa.PAll Go.Proofs.Ytajpgmpidphmgaa.POpp Go.Proofs.YtajpgmpidphmgaaW.PrintWords Go.Proofs.YtajpgmpidphmgaaW.PrintLast
/-- At the bits. -/
theorem opp_bits : (List.range 4).all (fun i => (List.range 4).all fun j => decide (netwrightlaw01_LogicOpposites.f 24 (i : Int) (j : Int) = some true)) = true := by decide +kernel
theorem opp_pure : netwrightlaw01_LogicOpposites.Pure := by
  intro a0 a1 w0 w1
  obtain ⟨h0, _⟩ := u8_of w0
  obtain ⟨h1, _⟩ := u8_of w1
  by_cases h : a0 ≤ 3 ∧ a1 ≤ 3
  · obtain ⟨i, rfl⟩ := Int.eq_ofNat_of_zero_le h0
    obtain ⟨j, rfl⟩ := Int.eq_ofNat_of_zero_le h1
    have := List.all_eq_true.1 (List.all_eq_true.1 opp_bits i (by simp; omega)) j (by simp; omega)
    exact ⟨24, by simpa using this⟩
  · obtain ⟨K, hK⟩ := awake_ev
    refine ⟨K + 1, ?_⟩
    unfold netwrightlaw01_LogicOpposites.f
    rw [bit_f a0 h0, bit_f a1 h1]
    simp only [Option.bind_some]
    by_cases h3 : a0 ≤ 3
    · have h4 : ¬ a1 ≤ 3 := fun h4 => h ⟨h3, h4⟩
      simp [h3, h4, netwrightlaw01_LogicOpposites.j0, hK K (Nat.le_refl _)]
    · simp [h3, netwrightlaw01_LogicOpposites.j0, hK K (Nat.le_refl _)]
end Go.Proofs.Ytajpgmpidphmgaa.Pure
