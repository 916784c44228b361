/- Plain facts on the law LogicDriven: what z, x and a bit make of a list that is resolved. -/
import Derived.Test.YtajpgmpidphmgaaPuB
import Derived.Test.YtajpgmpidphmgaaPDrvx1
namespace Go.Proofs.Ytajpgmpidphmgaa.Pure
open Go.RowKit Go.Proofs.Ytajpgmpidphmgaa.Hand Go.Proofs.Ytajpgmpidphmgaa.PAll Go.Proofs.Ytajpgmpidphmgaa.PDrv Go.Proofs.YtajpgmpidphmgaaW.PrintWords Go.Proofs.YtajpgmpidphmgaaW.PrintLast
theorem both_z (x : Int) : bothF x 3 = x := by unfold bothF; split <;> simp
theorem both_x (x : Int) : bothF x 2 = 2 := by
  unfold bothF
  split
  · assumption
  · rw [if_neg (by decide)]
    split <;> rfl
theorem both_self (x : Int) : bothF x x = x := by unfold bothF; simp
theorem both_first (b : Int) : bothF 3 b = b := by
  unfold bothF
  by_cases h : (3 : Int) = b
  · rw [if_pos h]; exact h
  · rw [if_neg h, if_neg (fun e => h e.symm), if_pos rfl]
theorem both_ways (x b : Int) : bothF x b = x ∨ (bothF x b = b ∧ x = 3) ∨ bothF x b = 2 := by
  unfold bothF
  split
  · exact .inl rfl
  · split
    · exact .inl rfl
    · split
      · rename_i h; exact .inr (.inl ⟨rfl, h⟩)
      · exact .inr (.inr rfl)
theorem res_snoc (l : List Int) (b : Int) (h : (l.all fun x => decide (x ≤ 3)) = true) (hb : b ≤ 3) : resF 3 (l ++ [b]) = (bothF (l.foldl bothF 3) b, 0) := by
  unfold resF
  rw [if_pos (by rw [List.all_append, h]; simp [hb]), List.foldl_append]
  rfl
theorem res_all (l : List Int) (h : (l.all fun x => decide (x ≤ 3)) = true) : resF 3 l = (l.foldl bothF 3, 0) := by
  unfold resF
  rw [if_pos h]
theorem driven_end (l : List Int) (b : Int) (hl : l.length ≤ 200) (hb : b ≤ 3) (h : (l.all fun x => decide (x ≤ 3)) = true) : Ev (fun k => netwrightlaw01_LogicDriven.l0 k l b l (l.length : Int) (l.length : Int)) true := by
  obtain ⟨K, hK⟩ := awake_ev
  obtain ⟨K1, h1⟩ := resolve_ev l (by omega)
  obtain ⟨K2, h2⟩ := resolve_ev (l ++ [3]) (by simp; omega)
  obtain ⟨K3, h3⟩ := resolve_ev (l ++ [2]) (by simp; omega)
  obtain ⟨K4, h4⟩ := resolve_ev (l ++ [b]) (by simp; omega)
  obtain ⟨K5, h5⟩ := resolve_ev [b, b, b] (by simp)
  rw [res_all l h] at h1
  rw [res_snoc l 3 h (by decide), both_z] at h2
  rw [res_snoc l 2 h (by decide), both_x] at h3
  rw [res_snoc l b h hb] at h4
  rw [res_all [b, b, b] (by simp [hb])] at h5
  simp only [List.foldl_cons, List.foldl_nil, both_first, both_self] at h5
  obtain ⟨x, hx⟩ : ∃ x, l.foldl bothF 3 = x := ⟨_, rfl⟩
  rw [hx] at h1 h2 h4
  have hw := both_ways x b
  refine ⟨K + K1 + K2 + K3 + K4 + K5 + 2, fun k hk => ?_⟩
  obtain ⟨m, rfl⟩ : ∃ m, k = m + 1 := ⟨k - 1, by omega⟩
  have e1 := h1 m (by omega)
  have e2 := h2 m (by omega)
  have e3 := h3 m (by omega)
  have e4 := h4 m (by omega)
  have e5 := h5 m (by omega)
  simp only [] at e1 e2 e3 e4 e5
  simp only [netwrightlaw01_LogicDriven.l0]
  rw [if_neg (by omega), copied_f l (by omega)]
  simp only [Option.bind_some]
  rw [e1]
  simp only [Option.bind_some]
  rw [if_pos (by omega), e2]
  simp only [Option.bind_some]
  rw [if_pos (by omega), e3]
  simp only [Option.bind_some]
  rw [if_pos (by omega), e4]
  simp only [Option.bind_some]
  rw [e5]
  simp only [Option.bind_some, if_true]
  obtain ⟨q, rfl⟩ : ∃ q, m = q + 1 := ⟨m - 1, by omega⟩
  have e6 := hK q (by omega)
  simp only [netwrightlaw01_LogicDriven.j2]
  rw [if_neg (by decide), if_pos trivial, if_pos trivial, if_pos trivial, e6]
  simp only [Option.bind_some]
  rcases hw with hw | ⟨hw, hx3⟩ | hw
  · rw [if_pos hw]
  · by_cases hwx : bothF x b = x
    · rw [if_pos hwx]
    · rw [if_neg hwx, if_pos hw, if_pos hx3]
  · by_cases hwx : bothF x b = x
    · rw [if_pos hwx]
    · rw [if_neg hwx]
      by_cases hwb : bothF x b = b
      · rw [if_pos hwb]
        split
        · rfl
        · first | rfl | rw [if_pos hw]
      · rw [if_neg hwb, if_pos hw]
theorem driven_l0 (l : List Int) (b : Int) (hu : U8 l) (hl : l.length ≤ 200) (hb : b ≤ 3) : ∀ (n i : Nat), i ≤ l.length → l.length - i = n → ((l.take i).all fun x => decide (x ≤ 3)) = true → Ev (fun k => netwrightlaw01_LogicDriven.l0 k l b l (l.length : Int) (i : Int)) true := by
  intro n
  induction n with
  | zero =>
    intro i hi hn ht
    rw [List.take_of_length_le (by omega)] at ht
    obtain rfl : i = l.length := by omega
    exact driven_end l b hl hb ht
  | succ n ih =>
    intro i hi hn ht
    have h1 : i < l.length := by omega
    by_cases he : l[i] ≤ 3
    · refine Ev.step (f := fun k => netwrightlaw01_LogicDriven.l0 k l b l (l.length : Int) ((i + 1 : Nat) : Int)) (fun k => by simp only [netwrightlaw01_LogicDriven.l0]; rw [if_pos (by omega), if_pos (by omega), if_pos (by omega), rd_nat l i h1, bit_f _ (hu.at_ i h1).1, decide_eq_true he, wrap_succ i (by omega)]; simp) ?_
      exact ih (i + 1) (by omega) (by omega) (by rw [List.take_succ_eq_append_getElem h1, List.all_append, ht]; simp [he])
    · refine Ev.step (f := fun k => netwrightlaw01_awake.f k) (fun k => by simp only [netwrightlaw01_LogicDriven.l0]; rw [if_pos (by omega), if_pos (by omega), if_pos (by omega), rd_nat l i h1, bit_f _ (hu.at_ i h1).1, decide_eq_false he]; simp) awake_ev
theorem driven_pure : netwrightlaw01_LogicDriven.Pure := by
  intro l b _ hl hw hwb
  have hu := u8_list hw
  obtain ⟨hb0, _⟩ := u8_of hwb
  refine Ev.rounds ?_
  by_cases h2 : 200 < l.length
  · refine Ev.step (f := fun k => netwrightlaw01_awake.f k) (fun k => ?_) awake_ev
    unfold netwrightlaw01_LogicDriven.f
    rw [long_f, decide_eq_true h2]
    simp only [Option.bind_some, if_true, netwrightlaw01_LogicDriven.j0]
    cases netwrightlaw01_awake.f k <;> rfl
  · by_cases hb : b ≤ 3
    · refine Ev.step (f := fun k => netwrightlaw01_LogicDriven.l0 k l b l (l.length : Int) ((0 : Nat) : Int)) (fun k => ?_) (driven_l0 l b hu (by omega) hb l.length 0 (by omega) (by omega) rfl)
      unfold netwrightlaw01_LogicDriven.f
      rw [long_f, decide_eq_false h2, bit_f b hb0, decide_eq_true hb]
      simp [netwrightlaw01_LogicDriven.j0]
    · refine Ev.step (f := fun k => netwrightlaw01_awake.f k) (fun k => ?_) awake_ev
      unfold netwrightlaw01_LogicDriven.f
      rw [long_f, decide_eq_false h2, bit_f b hb0, decide_eq_false hb]
      simp only [Option.bind_some, Bool.false_eq_true, if_false, netwrightlaw01_LogicDriven.j0]
      simp
end Go.Proofs.Ytajpgmpidphmgaa.Pure
