/- Plain facts: the law of vectors. -/
import Derived.Test.YtajpgmpidphmgaaPvV
import Derived.Test.YtajpgmpidphmgaaPVecF12
namespace Go.Proofs.Ytajpgmpidphmgaa.Pure
open Go.RowKit Go.Proofs.Ytajpgmpidphmgaa.Hand Go.Proofs.Ytajpgmpidphmgaa.PAll Go.Proofs.Ytajpgmpidphmgaa.PVec Go.Proofs.YtajpgmpidphmgaaW.PrintWords Go.Proofs.YtajpgmpidphmgaaW.PrintLast
theorem mapF_len (a0 : ByteArray) (l1 l2 : List Int) (h : l1.length ≤ 200) : (mapF a0 l1 l2).1.length < 9223372036854775807 := by
  unfold mapF
  repeat' split
  · show (List.zipWith _ l1 l2).length < _
    rw [List.length_zipWith]
    omega
  · show 0 < 9223372036854775807
    omega
  · show 0 < 9223372036854775807
    omega
theorem inverseF_len (l1 : List Int) (h : l1.length ≤ 200) : (inverseF l1).1.length < 9223372036854775807 := by
  unfold inverseF
  split
  · show (List.map _ l1).length < _
    rw [List.length_map]
    omega
  · show 0 < 9223372036854775807
    omega
theorem vec_pure (a0 : ByteArray) (l1 l2 : List Int) (hu1 : U8 l1) (hu2 : U8 l2) : ∃ k, netwrightlaw01_LogicVectors.f k a0 l1 l2 = some true := by
  obtain ⟨K, hK⟩ := awake_ev
  have no : ∀ k, K ≤ k → netwrightlaw01_LogicVectors.j0 (k + 1) a0 l1 l2 true = some true := by
    intro k hk
    simp only [netwrightlaw01_LogicVectors.j0, hK k hk, if_true, Option.bind_some]
  by_cases hb1 : 200 < l1.length
  · refine ⟨K + 1, ?_⟩
    unfold netwrightlaw01_LogicVectors.f
    rw [long_f, decide_eq_true hb1]
    simp only [Option.bind_some, if_true]
    exact no K (Nat.le_refl _)
  by_cases hb2 : 200 < l2.length
  · refine ⟨K + 1, ?_⟩
    unfold netwrightlaw01_LogicVectors.f
    rw [long_f, long_f, decide_eq_true hb2, decide_eq_false hb1]
    simp only [Option.bind_some, Bool.false_eq_true, if_false]
    exact no K (Nat.le_refl _)
  obtain ⟨K1, h1⟩ := refknown_ev l1 hu1 (by omega)
  obtain ⟨K2, h2⟩ := refis_ev l1 hu1 (by omega)
  obtain ⟨K3, h3⟩ := map_ev a0 l1 l2 hu1 hu2
  obtain ⟨K4, h4⟩ := refmap_ev a0 l1 l2 hu1 hu2 (by omega) (by omega)
  obtain ⟨K5, h5⟩ := same_self (mapF a0 l1 l2).1 (mapF_len a0 l1 l2 (by omega))
  obtain ⟨K6, h6⟩ := inverse_ev l1
  obtain ⟨K7, h7⟩ := refinverse_ev l1 hu1 (by omega)
  obtain ⟨K8, h8⟩ := same_self (inverseF l1).1 (inverseF_len l1 (by omega))
  obtain ⟨K9, h9⟩ := covers_ev l1 l2
  obtain ⟨K10, h10⟩ := refcovers_ev l1 l2 hu1 hu2 (by omega) (by omega)
  obtain ⟨K11, h11⟩ := reftext_ev l1 hu1 (by omega)
  obtain ⟨K12, h12⟩ := same_self l1 (by omega)
  obtain ⟨K13, h13⟩ := same_self l2 (by omega)
  obtain ⟨M, hM⟩ : ∃ M, M = K + K1 + K2 + K3 + K4 + K5 + K6 + K7 + K8 + K9 + K10 + K11 + K12 + K13 := ⟨_, rfl⟩
  have g1 : netwrightref01_Known.f (M + 3) l1 = _ := h1 (M + 3) (by omega)
  have g2 : netwrightref01_Is.f (M + 3) l1 = _ := h2 (M + 3) (by omega)
  have g3 : logic_Map.f (M + 2) a0 l1 l2 = _ := h3 (M + 2) (by omega)
  have g4 : netwrightref01_Map.f (M + 2) a0 l1 l2 = _ := h4 (M + 2) (by omega)
  have g5 : netwrightref01_Same.f (M + 2) (mapF a0 l1 l2).1 (mapF a0 l1 l2).1 = _ := h5 (M + 2) (by omega)
  have g6 : logic_Inverse.f (M + 1) l1 = _ := h6 (M + 1) (by omega)
  have g7 : netwrightref01_Inverse.f (M + 1) l1 = _ := h7 (M + 1) (by omega)
  have g8 : netwrightref01_Same.f (M + 1) (inverseF l1).1 (inverseF l1).1 = _ := h8 (M + 1) (by omega)
  have g9 : PVec.logic_Covers.f M l1 l2 = _ := h9 M (by omega)
  have g10 : netwrightref01_Covers.f M l1 l2 = _ := h10 M (by omega)
  have g11 : netwrightref01_Text.f M l1 = _ := h11 M (by omega)
  have g12 : netwrightref01_Same.f M l1 l1 = _ := h12 M (by omega)
  have g13 : netwrightref01_Same.f M l2 l2 = _ := h13 M (by omega)
  have g0 : netwrightlaw01_awake.f M = some true := hK M (by omega)
  have e3 : netwrightlaw01_LogicVectors.j3 (M + 1) l1 l2 l1 l2 false = some true := by
    simp only [netwrightlaw01_LogicVectors.j3, Bool.false_eq_true, if_false, g9, g10, g11, text_all l1 hu1, g12, g13, g0, Option.bind_some, beq_self_eq_true, if_true]
  have e2 : netwrightlaw01_LogicVectors.j2 (M + 2) l1 l2 l1 l2 false = some true := by
    simp only [netwrightlaw01_LogicVectors.j2, Bool.false_eq_true, if_false, g6, g7, g8, Option.bind_some, if_true, bne_self_eq_false, e3]
  have e1 : netwrightlaw01_LogicVectors.j1 (M + 3) a0 l1 l2 l1 l2 false = some true := by
    simp only [netwrightlaw01_LogicVectors.j1, Bool.false_eq_true, if_false, g3, g4, g5, Option.bind_some, if_true, bne_self_eq_false, e2]
  refine ⟨M + 4, ?_⟩
  unfold netwrightlaw01_LogicVectors.f
  rw [long_f, long_f, decide_eq_false hb1, decide_eq_false hb2]
  simp only [Option.bind_some, Bool.false_eq_true, if_false, netwrightlaw01_LogicVectors.j0, copied_f l1 (by omega), copied_f l2 (by omega), known_f, g1, g2, logic_Is.f, bne_self_eq_false, e1]
end Go.Proofs.Ytajpgmpidphmgaa.Pure
