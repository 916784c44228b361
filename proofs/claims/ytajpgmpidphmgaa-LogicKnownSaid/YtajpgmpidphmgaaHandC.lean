/- Hand contract of logic.Op. -/
import Derived.Test.YtajpgmpidphmgaaHandB
import Derived.Deep.QuietTactic
import Derived.BigQuiet
import Derived.Outline
import Derived.WalkLawsBesides
import Derived.StillTailTactics
import Derived.Deep.RegionWith
import Derived.Lib.Hide
namespace Go.Proofs.Ytajpgmpidphmgaa.Hand
open Go.RowKit Go.Proofs.YtajpgmpidphmgaaW.PrintWords Go.Proofs.YtajpgmpidphmgaaW.PrintLast Go.Proofs.YtajpgmpidphmgaaW.PrintMore
attribute [local go_sem] max2_int min2_int max_two min_two max_three min_three max_four min_four
set_option linter.unusedVariables false
set_option linter.unusedSimpArgs false


theorem isBit_any (a : Int) (w : World) : Calls Try.prog 43 #[.int .u8 a] w fun e w' => e = .returned (.bool (decide (a ≤ 3))) ∧ w = w' := by
  go_enter Try.func43, Try.ntmps43
  go_wp2
  go_ret
  exact ⟨rfl, rfl⟩
theorem isBit_yes (a : Int) (h : decide (a ≤ 3) = true) (w : World) : Calls Try.prog 43 #[.int .u8 a] w fun e w' => e = .returned (.bool true) ∧ w = w' := by
  rw [← h]; exact isBit_any a w
theorem isBit_no (a : Int) (h : decide (a ≤ 3) = false) (w : World) : Calls Try.prog 43 #[.int .u8 a] w fun e w' => e = .returned (.bool false) ∧ w = w' := by
  rw [← h]; exact isBit_any a w
theorem operand_any (a i : Int) (h : (if 2 < a then 2 else a) = i) (w : World) : Calls Try.prog 44 #[.int .u8 a] w fun e w' => e = .returned (.int .u8 i) ∧ w = w' := by
  by_cases h2 : 2 < a
  · rw [if_pos h2] at h
    subst h
    go_enter Try.func44, Try.ntmps44
    go_wp2
    go_ret
    exact ⟨rfl, rfl⟩
  · rw [if_neg h2] at h
    subst h
    go_enter Try.func44, Try.ntmps44
    go_wp2
    go_ret
    exact ⟨rfl, rfl⟩
theorem ofF_nine (x : List UInt8) : ∃ a b c d e f g h i : Int, ∃ y : Bool, ofF x = ([a, b, c, d, e, f, g, h, i], y) := by
  unfold ofF
  repeat' split
  all_goals exact ⟨_, _, _, _, _, _, _, _, _, _, rfl⟩
/-- What Op gives: the bit and the error's number. -/
def logic_Op.f (a0 : ByteArray) (a1 a2 : Int) : Option (Int × Int) :=
  if 0 ≤ a1 then if 0 ≤ a2 then
    if (ofF a0.toList).2 = true then if a1 ≤ 3 then if a2 ≤ 3 then some ((ofF a0.toList).1.getD ((if 2 < a1 then 2 else a1) * 3 + (if 2 < a2 then 2 else a2)).toNat 0, 0) else some (0, 2) else some (0, 2) else some (0, 2)
  else none else none
theorem quiet_left9 {P : Program} {f : FuncId} {args : Array Value} {w : World} {n : Nat} {v : Value}
    (h : Calls P f args (w.drewN n) fun e w' => e = .returned v ∧ w.drewN n = w') : Calls P f args (w.drewN n) fun e w'' => e = .returned v ∧ ∃ m, w'' = w.drewN m :=
  h.mono fun _ _ ⟨he, hm⟩ => ⟨he, n, hm.symm⟩
theorem bel_fin {w w1 : World} {cs : Array Value} {t : TypeId} (h : Below w.heap.size w w1) : Below w.heap.size w (w1.alloc (.cells cs t)) := below_alloc h _
set_option maxRecDepth 100000 in
set_option maxHeartbeats 1000000 in
theorem logic_Op.calls (a0 : ByteArray) (a1 : Int) (a2 : Int) (r1 : Int) (r2 : Int) (w : World) (h : logic_Op.f a0 a1 a2 = some (r1, r2)) :
    Calls Try.prog 13 #[.string a0, .int .u8 a1, .int .u8 a2] w fun e w' => e = .returned (.tuple #[.int .u8 r1, .int .i64 r2]) ∧ Below w.heap.size w w' := by
  unfold logic_Op.f at h
  by_cases h1 : 0 ≤ a1
  · rw [if_pos h1] at h
    by_cases h2 : 0 ≤ a2
    · rw [if_pos h2] at h
      have hof := of_any a0
      obtain ⟨t0, t1, t2, t3, t4, t5, t6, t7, t8, y, he⟩ := ofF_nine a0.toList
      rw [he] at h
      simp only [he] at hof
      clear he
      have HO := Lib.hid hof
      clear hof
      cases y with
      | false =>
        simp only [Bool.false_eq_true, if_false, Option.some.injEq, Prod.mk.injEq] at h
        obtain ⟨rfl, rfl⟩ := h
        go_enter Try.func13, Try.ntmps13
        go_wp2_with (go_at_call 42; refine (HO.out _).mono ?_; rintro e_ w1 ⟨rfl, hb⟩; rw [tab9])
        exact bodyPost_ret (v := .tuple #[.int .u8 0, .int .i64 2]) (by simp [results, Try.results13, go_sem]) rfl ⟨rfl, bel_fin hb⟩
      | true =>
        simp only [if_true] at h
        by_cases h3 : a1 ≤ 3
        · rw [if_pos h3] at h
          have d1 : decide (a1 ≤ 3) = true := decide_eq_true h3
          by_cases h4 : a2 ≤ 3
          · rw [if_pos h4] at h
            have d2 : decide (a2 ≤ 3) = true := decide_eq_true h4
            obtain ⟨i, hi, i0, i2⟩ : ∃ i : Int, (if 2 < a1 then 2 else a1) = i ∧ 0 ≤ i ∧ i ≤ 2 := ⟨_, rfl, by split <;> omega, by split <;> omega⟩
            obtain ⟨j, hj, j0, j2⟩ : ∃ j : Int, (if 2 < a2 then 2 else a2) = j ∧ 0 ≤ j ∧ j ≤ 2 := ⟨_, rfl, by split <;> omega, by split <;> omega⟩
            rw [hi, hj] at h
            have ci := operand_any a1 i hi
            have cj := operand_any a2 j hj
            have CI := Lib.hid ci
            have CJ := Lib.hid cj
            clear ci cj hi hj h1 h2 h3 h4
            obtain rfl | rfl | rfl : i = 0 ∨ i = 1 ∨ i = 2 := by omega
            all_goals
              obtain rfl | rfl | rfl : j = 0 ∨ j = 1 ∨ j = 2 := by omega
              all_goals
                simp at h
                obtain ⟨rfl, rfl⟩ := h
                clear i0 i2 j0 j2
                go_enter Try.func13, Try.ntmps13
                go_wp2_with (first | (go_at_call 42; refine (HO.out _).mono ?_; rintro e_ w1 ⟨rfl, hb⟩; rw [tab9]) | (go_at_call 43; refine (isBit_yes a1 d1 _).mono ?_; rintro e_ w2 ⟨rfl, rfl⟩) | (go_at_call 43; refine (isBit_yes a2 d2 _).mono ?_; rintro e_ w2 ⟨rfl, rfl⟩))
                go_quiet ((first | (go_at_call 44; with_reducible exact quiet_left9 (CI.out _)) | (go_at_call 44; with_reducible exact quiet_left9 (CJ.out _))))
                go_wp2
                go_ret2
                exact ⟨rfl, pw_below_drewN (bel_fin hb) _⟩
          · rw [if_neg h4] at h
            have d2 : decide (a2 ≤ 3) = false := decide_eq_false h4
            simp only [Option.some.injEq, Prod.mk.injEq] at h
            obtain ⟨rfl, rfl⟩ := h
            clear h1 h2 h3 h4
            go_enter Try.func13, Try.ntmps13
            go_wp2_with (first | (go_at_call 42; refine (HO.out _).mono ?_; rintro e_ w1 ⟨rfl, hb⟩; rw [tab9]) | (go_at_call 43; refine (isBit_yes a1 d1 _).mono ?_; rintro e_ w2 ⟨rfl, rfl⟩) | (go_at_call 43; refine (isBit_no a2 d2 _).mono ?_; rintro e_ w2 ⟨rfl, rfl⟩))
            exact bodyPost_ret (v := .tuple #[.int .u8 0, .int .i64 2]) (by simp [results, Try.results13, go_sem]) rfl ⟨rfl, bel_fin hb⟩
        · rw [if_neg h3] at h
          have d1 : decide (a1 ≤ 3) = false := decide_eq_false h3
          simp only [Option.some.injEq, Prod.mk.injEq] at h
          obtain ⟨rfl, rfl⟩ := h
          clear h1 h2 h3
          go_enter Try.func13, Try.ntmps13
          go_wp2_with (first | (go_at_call 42; refine (HO.out _).mono ?_; rintro e_ w1 ⟨rfl, hb⟩; rw [tab9]) | (go_at_call 43; refine (isBit_no a1 d1 _).mono ?_; rintro e_ w2 ⟨rfl, rfl⟩))
          exact bodyPost_ret (v := .tuple #[.int .u8 0, .int .i64 2]) (by simp [results, Try.results13, go_sem]) rfl ⟨rfl, bel_fin hb⟩
    · rw [if_neg h2] at h; exact absurd h (by simp)
  · rw [if_neg h1] at h; exact absurd h (by simp)
end Go.Proofs.Ytajpgmpidphmgaa.Hand
