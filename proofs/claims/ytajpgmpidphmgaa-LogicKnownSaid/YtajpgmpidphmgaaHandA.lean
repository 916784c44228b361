/- Hand contracts of the tables of package logic (and, or, xor, opposite, of, Op). -/
import Derived.Test.YtajpgmpidphmgaaProg
import Derived.Below
import Derived.Deep.Draws
import Derived.Deep.AppendLies
import Derived.Maps.AppendAt
import Derived.OwnWalk
import Derived.Laws.BytesArg
import Derived.Laws.MakeOwn
import Derived.Laws.OwnMore
import Derived.Deep.OwnRows
import Derived.Tactics
import Derived.Lib.ConvBytes
import Derived.Laws.Slices
import Derived.WalkKit
import Derived.KernelRfl
import Derived.RowKit3
import Derived.Deep.LoopGhost
import Derived.Deep.QuietTactic
import Derived.BigQuiet
import Derived.WideLaws
import Derived.Deep.DeepCutAuto
import Derived.Deep.CutBlock
import Derived.Deep.RegionHeld3
import Derived.Laws.Rows
import Derived.Lib.AppendStr
import Derived.ArgAppend
import Derived.Laws.IdiomCopy
import Derived.OrdersHeld
import Derived.Laws.BitsLemmas
import Derived.RowKit
import Derived.Test.YtajpgmpidphmgaaWWords
import Derived.Test.YtajpgmpidphmgaaWLast
import Derived.Test.YtajpgmpidphmgaaWTab
import Derived.Test.YtajpgmpidphmgaaWFour
import Derived.Test.YtajpgmpidphmgaaWQPut
import Derived.Test.YtajpgmpidphmgaaWApart
import Derived.Test.YtajpgmpidphmgaaWArr
import Derived.Test.YtajpgmpidphmgaaWZeros
import Derived.Test.YtajpgmpidphmgaaWFoot
import Derived.Test.YtajpgmpidphmgaaWKept
import Derived.Test.YtajpgmpidphmgaaWShare
import Derived.Test.YtajpgmpidphmgaaWN
import Derived.Test.YtajpgmpidphmgaaWFootNe
import Derived.Test.YtajpgmpidphmgaaWAt
import Derived.Test.YtajpgmpidphmgaaWEqStruct
import Derived.Test.YtajpgmpidphmgaaWRepsOne
import Derived.Test.YtajpgmpidphmgaaWInv
import Derived.Test.YtajpgmpidphmgaaWInvWords
import Derived.Test.YtajpgmpidphmgaaWGuard
import Derived.Test.YtajpgmpidphmgaaWNEv
import Derived.Test.YtajpgmpidphmgaaWMore
import Derived.Outline
import Derived.WalkLawsBesides
import Derived.StillTailTactics
import Derived.Deep.RegionWith
import Derived.Lib.Hide
namespace Go.Proofs.Ytajpgmpidphmgaa.Hand
open Go.RowKit Go.Proofs.YtajpgmpidphmgaaW.PrintWords Go.Proofs.YtajpgmpidphmgaaW.PrintLast Go.Proofs.YtajpgmpidphmgaaW.PrintMore
attribute [local go_sem] max2_int min2_int max_two min_two max_three min_three max_four min_four
set_option linter.unusedVariables false
set_option linter.unusedSimpArgs false

def tab (l : List Int) : Value := .agg (l.map (Value.int .u8)).toArray
theorem tab9 (a b c d e f g h i : Int) : tab [a, b, c, d, e, f, g, h, i] = .agg #[.int .u8 a, .int .u8 b, .int .u8 c, .int .u8 d, .int .u8 e, .int .u8 f, .int .u8 g, .int .u8 h, .int .u8 i] := rfl

set_option maxRecDepth 100000 in
theorem and_any (w : World) : Calls Try.prog 58 #[] w fun e w' => e = .returned (tab [0, 0, 0, 0, 1, 2, 0, 2, 2]) ∧ Below w.heap.size w w' := by
  go_enter Try.func58, Try.ntmps58
  go_wp2
  exact bodyPost_ret (v := tab [0, 0, 0, 0, 1, 2, 0, 2, 2]) (by simp [results, Try.results58, go_sem, tab]) rfl ⟨rfl, (Below.refl _ _).alloc (Nat.le_refl _) _⟩

set_option maxRecDepth 100000 in
theorem or_any (w : World) : Calls Try.prog 59 #[] w fun e w' => e = .returned (tab [0, 1, 2, 1, 1, 1, 2, 1, 2]) ∧ Below w.heap.size w w' := by
  go_enter Try.func59, Try.ntmps59
  go_wp2
  exact bodyPost_ret (v := tab [0, 1, 2, 1, 1, 1, 2, 1, 2]) (by simp [results, Try.results59, go_sem, tab]) rfl ⟨rfl, (Below.refl _ _).alloc (Nat.le_refl _) _⟩

set_option maxRecDepth 100000 in
theorem xor_any (w : World) : Calls Try.prog 60 #[] w fun e w' => e = .returned (tab [0, 1, 2, 1, 0, 2, 2, 2, 2]) ∧ Below w.heap.size w w' := by
  go_enter Try.func60, Try.ntmps60
  go_wp2
  exact bodyPost_ret (v := tab [0, 1, 2, 1, 0, 2, 2, 2, 2]) (by simp [results, Try.results60, go_sem, tab]) rfl ⟨rfl, (Below.refl _ _).alloc (Nat.le_refl _) _⟩

def ntF (a : Int) : Int := if a = 0 then 1 else if a = 1 then 0 else 2
theorem not_any (a : Int) (w : World) : Calls Try.prog 47 #[.int .u8 a] w fun e w' => e = .returned (.int .u8 (ntF a)) ∧ w = w' := by
  by_cases h0 : a = 0
  · have h1 : (a == 0) = true := beq_iff_eq.mpr h0
    have h3 : ntF a = 1 := by simp [ntF, h0]
    have H := Lib.hid h3
    clear h0 h3
    go_enter Try.func47, Try.ntmps47
    go_wp2
    go_ret
    exact ⟨by rw [H.out]; rfl, rfl⟩
  · have h1 : (a == 0) = false := beq_eq_false_iff_ne.mpr h0
    by_cases h2 : a = 1
    · have h4 : (a == 1) = true := beq_iff_eq.mpr h2
      have h3 : ntF a = 0 := by simp [ntF, h2]
      have H := Lib.hid h3
      clear h0 h3 h2
      go_enter Try.func47, Try.ntmps47
      go_wp2
      go_ret
      exact ⟨by rw [H.out]; rfl, rfl⟩
    · have h4 : (a == 1) = false := beq_eq_false_iff_ne.mpr h2
      have h3 : ntF a = 2 := by simp [ntF, h0, h2]
      have H := Lib.hid h3
      clear h0 h3 h2
      go_enter Try.func47, Try.ntmps47
      go_wp2
      go_ret
      exact ⟨by rw [H.out]; rfl, rfl⟩

theorem idx61_0 (a b c d e f g h i : Int) (w : World) : (Instr.index 61 (.agg #[.int .u8 a, .int .u8 b, .int .u8 c, .int .u8 d, .int .u8 e, .int .u8 f, .int .u8 g, .int .u8 h, .int .u8 i]) (.int .i64 0)).run Try.prog w = .ok (.agg #[.int .u8 a, .int .u8 b, .int .u8 c]) w := by kernel_rfl
theorem idx41_0 (a b c : Int) (w : World) : (Instr.index 41 (.agg #[.int .u8 a, .int .u8 b, .int .u8 c]) (.int .i64 0)).run Try.prog w = .ok (.int .u8 a) w := by kernel_rfl
theorem idx61_1 (a b c d e f g h i : Int) (w : World) : (Instr.index 61 (.agg #[.int .u8 a, .int .u8 b, .int .u8 c, .int .u8 d, .int .u8 e, .int .u8 f, .int .u8 g, .int .u8 h, .int .u8 i]) (.int .i64 1)).run Try.prog w = .ok (.agg #[.int .u8 d, .int .u8 e, .int .u8 f]) w := by kernel_rfl
theorem idx41_1 (a b c : Int) (w : World) : (Instr.index 41 (.agg #[.int .u8 a, .int .u8 b, .int .u8 c]) (.int .i64 1)).run Try.prog w = .ok (.int .u8 b) w := by kernel_rfl
theorem idx61_2 (a b c d e f g h i : Int) (w : World) : (Instr.index 61 (.agg #[.int .u8 a, .int .u8 b, .int .u8 c, .int .u8 d, .int .u8 e, .int .u8 f, .int .u8 g, .int .u8 h, .int .u8 i]) (.int .i64 2)).run Try.prog w = .ok (.agg #[.int .u8 g, .int .u8 h, .int .u8 i]) w := by kernel_rfl
theorem idx41_2 (a b c : Int) (w : World) : (Instr.index 41 (.agg #[.int .u8 a, .int .u8 b, .int .u8 c]) (.int .i64 2)).run Try.prog w = .ok (.int .u8 c) w := by kernel_rfl

set_option maxRecDepth 100000 in
set_option maxHeartbeats 4000000 in
theorem opposite_any (a b c d e f g h i : Int) (w : World) : Calls Try.prog 61 #[tab [a, b, c, d, e, f, g, h, i]] w fun e_ w' => e_ = .returned (tab [ntF a, ntF b, ntF c, ntF d, ntF e, ntF f, ntF g, ntF h, ntF i]) ∧ Below w.heap.size w w' := by
  rw [tab9 a]
  have r0 := idx61_0 a b c d e f g h i
  have r1 := idx61_1 a b c d e f g h i
  have r2 := idx61_2 a b c d e f g h i
  have s0 := idx41_0
  have s1 := idx41_1
  have s2 := idx41_2
  go_enter Try.func61, Try.ntmps61
  go_wp2
  refine wp_loop_rounds 4 ?_
  rw [rounds_succ]
  go_wp2
  refine wp_loop_rounds 4 ?_
  rw [rounds_succ]
  go_wp2
  go_region_with (go_at_call 47; refine (not_any _ _).mono ?_; rintro e_ w' ⟨rfl, rfl⟩)
  go_wp2
  rw [rounds_succ]
  go_wp2
  go_region_with (go_at_call 47; refine (not_any _ _).mono ?_; rintro e_ w' ⟨rfl, rfl⟩)
  go_wp2
  rw [rounds_succ]
  go_wp2
  go_region_with (go_at_call 47; refine (not_any _ _).mono ?_; rintro e_ w' ⟨rfl, rfl⟩)
  go_wp2
  rw [rounds_succ]
  go_wp2
  rw [rounds_succ]
  go_wp2
  refine wp_loop_rounds 4 ?_
  rw [rounds_succ]
  go_wp2
  go_region_with (go_at_call 47; refine (not_any _ _).mono ?_; rintro e_ w' ⟨rfl, rfl⟩)
  go_wp2
  rw [rounds_succ]
  go_wp2
  go_region_with (go_at_call 47; refine (not_any _ _).mono ?_; rintro e_ w' ⟨rfl, rfl⟩)
  go_wp2
  rw [rounds_succ]
  go_wp2
  go_region_with (go_at_call 47; refine (not_any _ _).mono ?_; rintro e_ w' ⟨rfl, rfl⟩)
  go_wp2
  rw [rounds_succ]
  go_wp2
  rw [rounds_succ]
  go_wp2
  refine wp_loop_rounds 4 ?_
  rw [rounds_succ]
  go_wp2
  go_region_with (go_at_call 47; refine (not_any _ _).mono ?_; rintro e_ w' ⟨rfl, rfl⟩)
  go_wp2
  rw [rounds_succ]
  go_wp2
  go_region_with (go_at_call 47; refine (not_any _ _).mono ?_; rintro e_ w' ⟨rfl, rfl⟩)
  go_wp2
  rw [rounds_succ]
  go_wp2
  go_region_with (go_at_call 47; refine (not_any _ _).mono ?_; rintro e_ w' ⟨rfl, rfl⟩)
  go_wp2
  rw [rounds_succ]
  go_wp2
  rw [rounds_succ]
  go_wp2
  exact bodyPost_ret (v := tab [ntF a, ntF b, ntF c, ntF d, ntF e, ntF f, ntF g, ntF h, ntF i]) (by simp [results, Try.results61, go_sem, tab9]) rfl ⟨rfl, by repeat (first | exact Below.refl _ _ | apply below_alloc | apply pw_below_drewN | apply below_drew)⟩
end Go.Proofs.Ytajpgmpidphmgaa.Hand
