/- Hand contract of logic.of: the table of a name. -/
import Derived.Test.YtajpgmpidphmgaaHandA
import Derived.Outline
import Derived.WalkLawsBesides
import Derived.StillTailTactics
import Derived.Deep.RegionWith
import Derived.Lib.Hide
namespace Go.Proofs.Ytajpgmpidphmgaa.Hand
open Go.RowKit Go.Proofs.YtajpgmpidphmgaaW.PrintWords Go.Proofs.YtajpgmpidphmgaaW.PrintLast Go.Proofs.YtajpgmpidphmgaaW.PrintMore
attribute [local go_sem] max2_int min2_int max_two min_two max_three min_three max_four min_four
set_option linter.unusedVariables false
set_option linter.unusedSimpArgs false

/-- The table of a name, and whether it is one. -/
def ofF (a0 : List UInt8) : List Int × Bool :=
  if a0 = ([97, 110, 100] : List UInt8) then ([0, 0, 0, 0, 1, 2, 0, 2, 2], true) else
  if a0 = ([111, 114] : List UInt8) then ([0, 1, 2, 1, 1, 1, 2, 1, 2], true) else
  if a0 = ([120, 111, 114] : List UInt8) then ([0, 1, 2, 1, 0, 2, 2, 2, 2], true) else
  if a0 = ([110, 97, 110, 100] : List UInt8) then ([1, 1, 1, 1, 0, 2, 1, 2, 2], true) else
  if a0 = ([110, 111, 114] : List UInt8) then ([1, 0, 2, 0, 0, 0, 2, 0, 2], true) else
  if a0 = ([120, 110, 111, 114] : List UInt8) then ([1, 0, 2, 0, 1, 2, 2, 2, 2], true) else ([0, 0, 0, 0, 0, 0, 0, 0, 0], false)

theorem bel_in {w w1 : World} {o : Obj} (h : Below (w.alloc o).heap.size (w.alloc o) w1) : Below w.heap.size w w1 :=
  ((Below.refl _ w).alloc (Nat.le_refl _) o).trans (h.mono (by simp))
theorem bel_set {w w1 : World} (j : Nat) (v : Value) (h : Below w.heap.size w w1) : Below w.heap.size w (w1.setCell ⟨w.heap.size, j, none⟩ v) := h.setCell (p := ⟨w.heap.size, j, none⟩) (Nat.le_refl _) v
theorem bel9 {w w1 : World} (h : Below w.heap.size w w1) : (∀ b o, b < w.heap.size → w1.cell? ⟨b, o, none⟩ = w.cell? ⟨b, o, none⟩) ∧ (∀ b o, b < w.heap.size → w1.frozen? ⟨b, o, none⟩ = w.frozen? ⟨b, o, none⟩) :=
  ⟨fun b o hb => h.cell (p := ⟨b, o, none⟩) hb, fun b o hb => h.frozen (p := ⟨b, o, none⟩) hb⟩

theorem hblk_set {w : World} {g : Nat} {t : TypeId} {cs : Array Value} (h : w.heap[g]? = some (.cells cs t (0, 0))) (i : Nat) (u : Value) : (w.setCell ⟨g, i, none⟩ u).heap[g]? = some (.cells (cs.setIfInBounds i u) t (0, 0)) := by
  simp [World.setCell, Array.getElem?_modify, h]
theorem put9 {w1 : World} {gb : Nat} {cs : Array Value} (hs : cs.size = 9) (hbk : w1.heap[gb]? = some (.cells cs 61 (0, 0))) (a b c d e f g h i : Value) :
    (((((((((w1.setCell ⟨gb, 0, none⟩ a).setCell ⟨gb, 1, none⟩ b).setCell ⟨gb, 2, none⟩ c).setCell ⟨gb, 3, none⟩ d).setCell ⟨gb, 4, none⟩ e).setCell ⟨gb, 5, none⟩ f).setCell ⟨gb, 6, none⟩ g).setCell ⟨gb, 7, none⟩ h).setCell ⟨gb, 8, none⟩ i).heap[gb]? = some (.cells #[a, b, c, d, e, f, g, h, i] 61 (0, 0)) := by
  match cs, hs, hbk with
  | ⟨[_, _, _, _, _, _, _, _, _]⟩, _, hbk =>
    rw [hblk_set (hblk_set (hblk_set (hblk_set (hblk_set (hblk_set (hblk_set (hblk_set (hblk_set hbk _ _) _ _) _ _) _ _) _ _) _ _) _ _) _ _) _ _]
    simp
theorem blk_in {w w1 : World} {cs : Array Value} {t : TypeId} (h : Below (w.alloc (.cells cs t)).heap.size (w.alloc (.cells cs t)) w1) : w1.heap[w.heap.size]? = some (.cells cs t (0, 0)) :=
  (h.block w.heap.size (by simp)).trans (heap_alloc_new w _)
set_option maxHeartbeats 1000000 in
theorem ofEnd {w W : World} {tm : Array Value} {g : Nat} {x : Bool} (a b c d e f g1 h i : Int) (hg : W.heap[g]? = some (.cells #[.int .u8 a, .int .u8 b, .int .u8 c, .int .u8 d, .int .u8 e, .int .u8 f, .int .u8 g1, .int .u8 h, .int .u8 i] 61 (0, 0)))
    (h2 : tm.getD 2 undef = .pointer (some ⟨g, 0, none⟩)) (h3 : tm.getD 3 undef = .bool x) (hb : Below w.heap.size w W) :
    bodyPost Try.prog Try.f42 (fun e_ w' => e_ = .returned (.tuple #[tab [a, b, c, d, e, f, g1, h, i], .bool x]) ∧ Below w.heap.size w w') .ret { tmps := tm, defers := [] } W := by
  have q : ∀ j, W.cell? ⟨g, j, none⟩ = (#[Value.int .u8 a, .int .u8 b, .int .u8 c, .int .u8 d, .int .u8 e, .int .u8 f, .int .u8 g1, .int .u8 h, .int .u8 i])[j]? := fun j => cell_of_row W g j _ 61 (0, 0) hg
  have q0 := q 0
  have q1 := q 1
  have q2 := q 2
  have q3 := q 3
  have q4 := q 4
  have q5 := q 5
  have q6 := q 6
  have q7 := q 7
  have q8 := q 8
  clear q
  simp at q0 q1 q2 q3 q4 q5 q6 q7 q8
  simp only [Array.getD_eq_getD_getElem?] at h2 h3
  exact bodyPost_ret (v := .tuple #[tab [a, b, c, d, e, f, g1, h, i], .bool x]) (by simp [results, Try.results42, go_sem, tab9, q0, q1, q2, q3, q4, q5, q6, q7, q8, h2, h3]) rfl ⟨rfl, hb⟩
set_option maxRecDepth 100000 in
set_option maxHeartbeats 1000000 in
theorem of_any (a0 : ByteArray) (w : World) : Calls Try.prog 42 #[.string a0] w fun e w' => e = .returned (.tuple #[tab (ofF a0.toList).1, .bool (ofF a0.toList).2]) ∧ Below w.heap.size w w' := by
  by_cases c0 : a0.toList = ([97, 110, 100] : List UInt8)
  · have cb0 : (a0.toList == ([97, 110, 100] : List UInt8)) = true := beq_iff_eq.mpr c0
    have h9 : ofF a0.toList = ([0, 0, 0, 0, 1, 2, 0, 2, 2], true) := by simp [ofF, c0]
    rw [h9]
    clear h9 c0
    go_enter Try.func42, Try.ntmps42
    go_wp2_with (go_at_call 58; refine (and_any _).mono ?_; rintro e_ w1 ⟨rfl, hb⟩; rw [tab9]; obtain ⟨hc, hf⟩ := bel9 hb)
    refine ofEnd 0 0 0 0 1 2 0 2 2 (put9 (by rfl) (blk_in hb) _ _ _ _ _ _ _ _ _) ?_ ?_ (bel_set _ _ (bel_set _ _ (bel_set _ _ (bel_set _ _ (bel_set _ _ (bel_set _ _ (bel_set _ _ (bel_set _ _ (bel_set _ _ (bel_in hb)))))))))) <;> rfl
  have cb0 : (a0.toList == ([97, 110, 100] : List UInt8)) = false := beq_eq_false_iff_ne.mpr c0
  by_cases c1 : a0.toList = ([111, 114] : List UInt8)
  · have cb1 : (a0.toList == ([111, 114] : List UInt8)) = true := beq_iff_eq.mpr c1
    have h9 : ofF a0.toList = ([0, 1, 2, 1, 1, 1, 2, 1, 2], true) := by simp [ofF, c0, c1]
    rw [h9]
    clear h9 c0 c1
    go_enter Try.func42, Try.ntmps42
    go_wp2_with (go_at_call 59; refine (or_any _).mono ?_; rintro e_ w1 ⟨rfl, hb⟩; rw [tab9]; obtain ⟨hc, hf⟩ := bel9 hb)
    refine ofEnd 0 1 2 1 1 1 2 1 2 (put9 (by rfl) (blk_in hb) _ _ _ _ _ _ _ _ _) ?_ ?_ (bel_set _ _ (bel_set _ _ (bel_set _ _ (bel_set _ _ (bel_set _ _ (bel_set _ _ (bel_set _ _ (bel_set _ _ (bel_set _ _ (bel_in hb)))))))))) <;> rfl
  have cb1 : (a0.toList == ([111, 114] : List UInt8)) = false := beq_eq_false_iff_ne.mpr c1
  by_cases c2 : a0.toList = ([120, 111, 114] : List UInt8)
  · have cb2 : (a0.toList == ([120, 111, 114] : List UInt8)) = true := beq_iff_eq.mpr c2
    have h9 : ofF a0.toList = ([0, 1, 2, 1, 0, 2, 2, 2, 2], true) := by simp [ofF, c0, c1, c2]
    rw [h9]
    clear h9 c0 c1 c2
    go_enter Try.func42, Try.ntmps42
    go_wp2_with (go_at_call 60; refine (xor_any _).mono ?_; rintro e_ w1 ⟨rfl, hb⟩; rw [tab9]; obtain ⟨hc, hf⟩ := bel9 hb)
    refine ofEnd 0 1 2 1 0 2 2 2 2 (put9 (by rfl) (blk_in hb) _ _ _ _ _ _ _ _ _) ?_ ?_ (bel_set _ _ (bel_set _ _ (bel_set _ _ (bel_set _ _ (bel_set _ _ (bel_set _ _ (bel_set _ _ (bel_set _ _ (bel_set _ _ (bel_in hb)))))))))) <;> rfl
  have cb2 : (a0.toList == ([120, 111, 114] : List UInt8)) = false := beq_eq_false_iff_ne.mpr c2
  by_cases c3 : a0.toList = ([110, 97, 110, 100] : List UInt8)
  · have cb3 : (a0.toList == ([110, 97, 110, 100] : List UInt8)) = true := beq_iff_eq.mpr c3
    have h9 : ofF a0.toList = ([1, 1, 1, 1, 0, 2, 1, 2, 2], true) := by simp [ofF, c0, c1, c2, c3]
    rw [h9]
    clear h9 c0 c1 c2 c3
    go_enter Try.func42, Try.ntmps42
    go_wp2_with (go_at_call 58; refine (and_any _).mono ?_; rintro e_ w1 ⟨rfl, hb⟩)
    refine (opposite_any 0 0 0 0 1 2 0 2 2 _).mono ?_
    rintro e_ w2 ⟨rfl, hb2⟩
    rw [show tab [ntF 0, ntF 0, ntF 0, ntF 0, ntF 1, ntF 2, ntF 0, ntF 2, ntF 2] = .agg #[.int .u8 1, .int .u8 1, .int .u8 1, .int .u8 1, .int .u8 0, .int .u8 2, .int .u8 1, .int .u8 2, .int .u8 2] from rfl]
    have hb3 := below_then hb hb.size hb2
    obtain ⟨hc, hf⟩ := bel9 hb3
    go_wp2
    refine ofEnd 1 1 1 1 0 2 1 2 2 (put9 (by rfl) (blk_in hb3) _ _ _ _ _ _ _ _ _) ?_ ?_ (bel_set _ _ (bel_set _ _ (bel_set _ _ (bel_set _ _ (bel_set _ _ (bel_set _ _ (bel_set _ _ (bel_set _ _ (bel_set _ _ (bel_in hb3)))))))))) <;> rfl
  have cb3 : (a0.toList == ([110, 97, 110, 100] : List UInt8)) = false := beq_eq_false_iff_ne.mpr c3
  by_cases c4 : a0.toList = ([110, 111, 114] : List UInt8)
  · have cb4 : (a0.toList == ([110, 111, 114] : List UInt8)) = true := beq_iff_eq.mpr c4
    have h9 : ofF a0.toList = ([1, 0, 2, 0, 0, 0, 2, 0, 2], true) := by simp [ofF, c0, c1, c2, c3, c4]
    rw [h9]
    clear h9 c0 c1 c2 c3 c4
    go_enter Try.func42, Try.ntmps42
    go_wp2_with (go_at_call 59; refine (or_any _).mono ?_; rintro e_ w1 ⟨rfl, hb⟩)
    refine (opposite_any 0 1 2 1 1 1 2 1 2 _).mono ?_
    rintro e_ w2 ⟨rfl, hb2⟩
    rw [show tab [ntF 0, ntF 1, ntF 2, ntF 1, ntF 1, ntF 1, ntF 2, ntF 1, ntF 2] = .agg #[.int .u8 1, .int .u8 0, .int .u8 2, .int .u8 0, .int .u8 0, .int .u8 0, .int .u8 2, .int .u8 0, .int .u8 2] from rfl]
    have hb3 := below_then hb hb.size hb2
    obtain ⟨hc, hf⟩ := bel9 hb3
    go_wp2
    refine ofEnd 1 0 2 0 0 0 2 0 2 (put9 (by rfl) (blk_in hb3) _ _ _ _ _ _ _ _ _) ?_ ?_ (bel_set _ _ (bel_set _ _ (bel_set _ _ (bel_set _ _ (bel_set _ _ (bel_set _ _ (bel_set _ _ (bel_set _ _ (bel_set _ _ (bel_in hb3)))))))))) <;> rfl
  have cb4 : (a0.toList == ([110, 111, 114] : List UInt8)) = false := beq_eq_false_iff_ne.mpr c4
  by_cases c5 : a0.toList = ([120, 110, 111, 114] : List UInt8)
  · have cb5 : (a0.toList == ([120, 110, 111, 114] : List UInt8)) = true := beq_iff_eq.mpr c5
    have h9 : ofF a0.toList = ([1, 0, 2, 0, 1, 2, 2, 2, 2], true) := by simp [ofF, c0, c1, c2, c3, c4, c5]
    rw [h9]
    clear h9 c0 c1 c2 c3 c4 c5
    go_enter Try.func42, Try.ntmps42
    go_wp2_with (go_at_call 60; refine (xor_any _).mono ?_; rintro e_ w1 ⟨rfl, hb⟩)
    refine (opposite_any 0 1 2 1 0 2 2 2 2 _).mono ?_
    rintro e_ w2 ⟨rfl, hb2⟩
    rw [show tab [ntF 0, ntF 1, ntF 2, ntF 1, ntF 0, ntF 2, ntF 2, ntF 2, ntF 2] = .agg #[.int .u8 1, .int .u8 0, .int .u8 2, .int .u8 0, .int .u8 1, .int .u8 2, .int .u8 2, .int .u8 2, .int .u8 2] from rfl]
    have hb3 := below_then hb hb.size hb2
    obtain ⟨hc, hf⟩ := bel9 hb3
    go_wp2
    refine ofEnd 1 0 2 0 1 2 2 2 2 (put9 (by rfl) (blk_in hb3) _ _ _ _ _ _ _ _ _) ?_ ?_ (bel_set _ _ (bel_set _ _ (bel_set _ _ (bel_set _ _ (bel_set _ _ (bel_set _ _ (bel_set _ _ (bel_set _ _ (bel_set _ _ (bel_in hb3)))))))))) <;> rfl
  have cb5 : (a0.toList == ([120, 110, 111, 114] : List UInt8)) = false := beq_eq_false_iff_ne.mpr c5
  have h9 : ofF a0.toList = ([0, 0, 0, 0, 0, 0, 0, 0, 0], false) := by simp [ofF, c0, c1, c2, c3, c4, c5]
  rw [h9]
  clear h9 c0 c1 c2 c3 c4 c5
  go_enter Try.func42, Try.ntmps42
  go_wp2
  refine ofEnd 0 0 0 0 0 0 0 0 0 (heap_alloc_new w _) ?_ ?_ (below_alloc (Below.refl _ _) _) <;> rfl
end Go.Proofs.Ytajpgmpidphmgaa.Hand
