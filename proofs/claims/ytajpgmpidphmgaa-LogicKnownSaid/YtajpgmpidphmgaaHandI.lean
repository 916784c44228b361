/- Hand contract of logic.Text. -/
import Derived.Test.YtajpgmpidphmgaaHandH
import Derived.RangeFuncBox
import Derived.RangeFuncLeaves
import Derived.RangeFuncCalls
import Derived.Shelf.Abstract
import Derived.WalkKit
import Derived.OwnWalkIn
import Derived.TacticsInMore
import Derived.LoopNIn
import Derived.LoopIn
import Derived.Outline
import Derived.WalkLawsBesides
import Derived.StillTailTactics
import Derived.Deep.RegionWith
import Derived.Lib.Hide
namespace Go.Proofs.Ytajpgmpidphmgaa.Hand
open Go.RowKit Go.Proofs.YtajpgmpidphmgaaW.PrintWords Go.Proofs.YtajpgmpidphmgaaW.PrintLast Go.Proofs.YtajpgmpidphmgaaW.PrintMore
attribute [local go_sem] max2_int min2_int max_two min_two max_three min_three max_four min_four
set_option linter.unusedVariables false
set_option linter.unusedSimpArgs false



open Go.Shelf
attribute [local go_sem] Oper.semAt_some

/-- The letter of a bit. -/
def letB (x : Fin 4) : UInt8 := match x with | 0 => 48 | 1 => 49 | 2 => 120 | 3 => 122
def bitOf (x : Int) : Fin 4 := ⟨x.toNat % 4, Nat.mod_lt _ (by decide)⟩
/-- The letters of a vector, the highest bit first. -/
def textB (l : List Int) : List UInt8 := l.reverse.map fun x => letB (bitOf x)
def logic_Text.f (l0 : List Int) : Option (ByteArray × Int) :=
  if isF l0 = true then if (l0.all fun x => decide (0 ≤ x)) = true then some (⟨(textB l0).toArray⟩, 0) else none else some (⟨#[]⟩, 2)
/-- What has been written when rounds are over. -/
def acc (pre : List (Int × Fin 4)) : List UInt8 := pre.map fun x => letB x.2
theorem acc_snoc (pre : List (Int × Fin 4)) (x : Int × Fin 4) : acc (pre ++ [x]) = acc pre ++ [letB x.2] := by simp [acc]
theorem acc_hupto (zs : List Int) : acc (hupto (fromEnd zs) zs.length) = textB zs := by
  apply List.ext_getElem
  · simp [acc, hupto, textB]
  · intro i h1 h2
    have hi : i < zs.length := by simpa [acc, hupto] using h1
    have h3 : rd zs ((zs.length : Int) - 1 - i) = zs[zs.length - 1 - i] := by
      rw [show ((zs.length : Int) - 1 - i) = ((zs.length - 1 - i : Nat) : Int) from by omega]
      exact rd_nat zs _ (by omega)
    simp [acc, hupto, textB, fromEnd, bitOf, h3]

theorem bytes_snoc (l : List UInt8) (c : UInt8) : Lib.byteCells l ++ [.int .u8 (c.toNat : Int)] = Lib.byteCells (l ++ [c]) := by simp [Lib.byteCells]
theorem kept_boxed {b Bs : Nat} {sv : Value} {W W' : World} (h : Lib.OthersKept 5 (some b) W W') (hne : Bs ≠ b) (hb : Boxed W Bs 31 sv) : Boxed W' Bs 31 sv :=
  h Bs _ hb (by simp [hne]) (fun c fz e => by injection e with _ e; exact absurd e (by decide))
theorem kept_other {b k : Nat} {o : Obj} {W W' : World} (h : Lib.OthersKept 5 (some b) W W') (hne : k ≠ b) (hk : W.heap[k]? = some o) (ho : o.isCells = false) : W'.heap[k]? = some o :=
  h k _ hk (by simp [hne]) (fun c fz e => by subst e; simp [Obj.isCells] at ho)
/-- A builder over the turn of a block that is no cells. -/
theorem builder_own (T e : TypeId) (B b : Nat) (bs : List (Int × Fin 4) → List Value) : Own (fun pre W => Lib.IsBuilderF T e B b (bs pre) W) := by
  intro s A C row hs hg hr
  have key : ∀ p, Lib.BuilderAtF T e B b p (bs s) A → Lib.BuilderAtF T e B b p (bs s) C := by
    intro p ⟨hB, v, hbk, hown, hne⟩
    have hblt : b < A.heap.size := (Array.getElem?_eq_some_iff.1 hbk).1
    have hbn : some b ≠ row := by
      intro e1
      obtain ⟨o, ho, hc⟩ := hr b e1.symm
      rw [hbk] at ho
      injection ho with ho
      subst ho
      simp [Obj.isCells] at hc
    refine ⟨hB, v, (hg.block b hblt hbn).trans hbk, ?_, hne⟩
    obtain ⟨h1, h2⟩ := hown
    refine ⟨h1, ?_⟩
    rcases h2 with h2 | ⟨g, cap, cur, fz, hv, hgB, hgh, rest⟩
    · exact .inl h2
    · refine .inr ⟨g, cap, cur, fz, hv, hgB, ?_, rest⟩
      refine (hg.block g (Array.getElem?_eq_some_iff.1 hgh).1 ?_).trans hgh
      intro e1
      obtain ⟨o, ho, hc⟩ := hr g e1.symm
      rw [hgh] at ho
      injection ho with ho
      subst ho
      simp [Obj.isCells] at hc
  rcases hs with hs | hs
  · exact .inl (key _ hs)
  · exact .inr (key _ hs)
theorem fresh_builder (w : World) : Lib.IsBuilderF 74 5 w.heap.size w.heap.size (Lib.byteCells []) (w.alloc (.cells #[.pointer none, .slice none 0 0] 74)) := Lib.IsBuilderF.of (Lib.fresh_isBuilder 74 5 w)
theorem text_round {n : Nat} {w W W3 : World} {sv : Value} {pre : List (Int × Fin 4)} {x : Int × Fin 4} {c : UInt8} {N : Nat} {o o2 : Obj} {a : Act} (hpl : pre.length < N) (hE : acc (pre ++ [x]) = acc pre ++ [c]) (hX : Boxed W (w.heap.size + 1) 31 sv) (hBB : Below w.heap.size w W)
    (h1 : Lib.BuilderAtF 74 5 w.heap.size w.heap.size (.pointer (some ⟨w.heap.size, 0, none⟩)) (Lib.byteCells (acc pre) ++ [.int .u8 (c.toNat : Int)]) W3) (h2 : Below w.heap.size W W3) (h3 : Lib.OthersKept 5 (some w.heap.size) W W3) :
    ownPostG (((w.drewN n).alloc o).alloc o2).heap.size (KpB w.heap.size (w.heap.size + 1) sv) (fun pre W => (Lib.IsBuilderF 74 5 w.heap.size w.heap.size (Lib.byteCells (acc pre)) W ∧ Boxed W (w.heap.size + 1) 31 sv) ∧ Below w.heap.size w W) (fun _ _ _ => False) (pre ++ [x]) W .normal a W3 := by
  refine ⟨⟨h2.size, fun k o hk hko ho => kept_other h3 (by simp at hk; omega) hko ho⟩, ⟨h2, fun hb => kept_boxed h3 (by omega) hb⟩, ⟨⟨.inr ?_, kept_boxed h3 (by omega) hX⟩, hBB.trans h2⟩⟩
  show Lib.BuilderAtF 74 5 w.heap.size w.heap.size _ (Lib.byteCells (acc (pre ++ [x]))) W3
  rw [hE, ← bytes_snoc]
  exact h1
set_option maxRecDepth 100000 in
set_option maxHeartbeats 2000000 in
theorem text_yes (A0 : Option Addr) (c0 : Nat) (l0 : List Int) (w : World) (hr0 : Kd.C (Kd.int .u8) w A0 l0.length l0) (hc0 : l0.length ≤ c0) (hv : isF l0 = true) (hz : ∀ i : Int, 0 ≤ i → i < l0.length → 0 ≤ rd l0 i ∧ rd l0 i ≤ 3) (hlen : l0.length ≤ 64) :
    Calls Try.prog 27 #[.slice A0 l0.length c0] w fun e w' => e = .returned (.tuple #[.string ⟨(textB l0).toArray⟩, .int .i64 0]) ∧ Below w.heap.size w w' := by
  have HI := Aside0.mk (fun (w : World) hr => logic_Is.calls A0 c0 l0 true w hr hc0 (by unfold logic_Is.f; rw [hv]))
  have HR := Aside0.mk hr0
  have HZ := Aside0.mk hz
  clear hr0 hc0 hv hz
  refine (callsIn_wide (n := 3)).1 ?_
  refine callsIn_of_wp_marks Try.func27 rfl trivial ?_ rfl
  simp only [Try.ntmps27, List.size_toArray, List.length_cons, List.length_nil, Nat.reduceAdd, Nat.reduceSub, Array.replicate_succ, Array.replicate_zero, List.push_toArray, List.append_toArray, List.nil_append, List.cons_append]
  gi_wp2_with (refine ⟨trivial, ?_⟩; gi_at_call 36; refine (callsIn_wide.2 (HI.out _ HR.out)).mono ?_; rintro e_ w2 ⟨rfl, ⟨m, rfl⟩⟩)
  refine ⟨trivial, ?_⟩
  refine (back_in Fence.wide _ trivial rfl _ _ _ _).mono ?_
  rintro e_ w3 ⟨rfl, rfl⟩
  have hbd := fresh_builder (w.drewN m)
  have bN := Boxed.new ((w.drewN m).alloc (.cells #[.pointer none, .slice none 0 0] 74)) 31 (.slice A0 l0.length c0)
  have hsz : (w.drewN m).heap.size = w.heap.size := by simp
  have hB0 : Below w.heap.size w (((w.drewN m).alloc (.cells #[.pointer none, .slice none 0 0] 74)).alloc (.cells #[.slice A0 l0.length c0] 31)) := below_alloc (below_alloc (pw_below_drewN (Below.refl _ w) m) _) _
  rw [World.size_alloc] at bN
  rw [hsz] at hbd bN
  have HBD := Aside0.mk hbd
  have HBN := Aside0.mk bN
  have HB0 := Aside0.mk hB0
  clear hbd bN hB0 hsz
  gi_wp2
  refine wpIn_rangeFunc_ownG rfl (by omega) (gf := 63) (lb := #[.pointer (some ⟨w.heap.size + 1, 0, none⟩)]) rfl trivial (enters_of Try.func63 (by kernel_rfl) rfl)
    (back_stops Fence.wide _ trivial rfl (by omega) (w.heap.size + 1) A0 c0 l0 w _ HB0.out HR.out HZ.out HBN.out) KpB.trans (KpB.put (by simp; omega)) (Below.refl _ _) (fun _ => rfl)
    (fun pre W => (Lib.IsBuilderF 74 5 w.heap.size w.heap.size (Lib.byteCells (acc pre)) W ∧ Boxed W (w.heap.size + 1) 31 (.slice A0 l0.length c0)) ∧ Below w.heap.size w W)
    (fun _ _ _ => False)
    (OwnFrom.and (OwnFrom.and ((builder_own 74 5 w.heap.size w.heap.size (fun pre => Lib.byteCells (acc pre))).from _) (Own.from (fun s A C row hs hg hr => hs.kept hg (fun e1 => by obtain ⟨o, ho, hc⟩ := hr _ e1.symm; unfold Boxed at hs; rw [hs] at ho; injection ho with ho; subst ho; simp [Obj.isCells] at hc)) _)) (ownFrom_below (Nat.le_refl _) (by simp; omega)))
    (fun _ _ _ _ _ hs _ _ => hs)
    ⟨⟨(builder_own 74 5 w.heap.size w.heap.size (fun pre => Lib.byteCells (acc pre))).alloc (s := []) _ HBD.out, HBN.out⟩, HB0.out⟩
    (fun x => { tmps := #[.slice A0 l0.length c0, undef, .string ⟨#[]⟩, .int .i64 0, .pointer (some ⟨w.heap.size, 0, none⟩), undef, .int .u8 (x.2.val : Int), .slice A0 l0.length c0, .bool true, .bool false, .slice A0 l0.length c0, .func (.func 63) #[] #[.pointer (some ⟨w.heap.size + 1, 0, none⟩)], .int .i64 x.1, .int .u8 (x.2.val : Int), undef, undef, undef, undef], defers := [] }) ?assign ?body ?done ?stop
  case assign =>
    intro lp x W K hK
    unfold enc2
    gi_wp2
    exact hK
  case body =>
    rintro lp pre x W ⟨⟨hI, hbx⟩, hB⟩ hpl
    have hl1 : (Lib.byteCells (acc pre)).length + 1 ≤ 140737488355328 := by rw [Lib.byteCells_length]; simp [acc]; omega
    have hl2 := hB.size
    obtain ⟨i, v⟩ := x
    have HC := Aside0.mk (fun c => writeByte_any w.heap.size w.heap.size (Lib.byteCells (acc pre)) c W hI hl1 hl2)
    have HE := Aside0.mk (acc_snoc pre (i, v))
    have HX := Aside0.mk hbx
    have HBB := Aside0.mk hB
    clear hI hl1 hl2 hbx hB
    match v with
    | 0 =>
      gi_wp2_with (refine ⟨trivial, ?_⟩; gi_at_call 51; refine (CallsIn.inRound lp (callsIn_wide.2 (HC.out _))).mono ?_; rintro e_ W3 ⟨rfl, h1, h2, h3⟩)
      exact text_round hpl HE.out HX.out HBB.out h1 h2 h3
    | 1 =>
      gi_wp2_with (refine ⟨trivial, ?_⟩; gi_at_call 51; refine (CallsIn.inRound lp (callsIn_wide.2 (HC.out _))).mono ?_; rintro e_ W3 ⟨rfl, h1, h2, h3⟩)
      exact text_round hpl HE.out HX.out HBB.out h1 h2 h3
    | 2 =>
      gi_wp2_with (refine ⟨trivial, ?_⟩; gi_at_call 51; refine (CallsIn.inRound lp (callsIn_wide.2 (HC.out _))).mono ?_; rintro e_ W3 ⟨rfl, h1, h2, h3⟩)
      exact text_round hpl HE.out HX.out HBB.out h1 h2 h3
    | 3 =>
      gi_wp2_with (refine ⟨trivial, ?_⟩; gi_at_call 51; refine (CallsIn.inRound lp (callsIn_wide.2 (HC.out _))).mono ?_; rintro e_ W3 ⟨rfl, h1, h2, h3⟩)
      exact text_round hpl HE.out HX.out HBB.out h1 h2 h3
  case done =>
    rintro D ys W hD rfl ⟨⟨hI, hbx⟩, hB⟩ hK
    rw [acc_hupto] at hI
    have HC := Aside0.mk (Try.Builder_String_any_k w.heap.size w.heap.size (textB l0) W hI hB.size)
    have HBB := Aside0.mk hB
    have HK := Aside0.mk hK
    clear hI hB hK hbx
    gi_wp2_with (refine ⟨trivial, ?_⟩; gi_at_call 52; refine (callsIn_wide.2 HC.out).mono ?_; rintro e_ W3 ⟨rfl, h1, h2, h3⟩)
    have hK' := kept_other h3 (by simp at hD; omega) HK.out rfl
    refine ⟨by simp, .inl ⟨_, _, rfl, run_takeDeferred hK', ?_⟩⟩
    exact ⟨_, results_tmp2 rfl _ _ _, rfl, (HBB.out.trans h2).trans (belowK_b (w := w) (Nat.le_refl _) W3 D _ _ (by simp at hD; omega) hK' rfl rfl)⟩
  case stop =>
    rintro D c pre W _ _ h _
    exact h.elim
theorem text_no (A0 : Option Addr) (c0 : Nat) (l0 : List Int) (w : World) (hr0 : Kd.C (Kd.int .u8) w A0 l0.length l0) (hc0 : l0.length ≤ c0) (hv : isF l0 = false) :
    Calls Try.prog 27 #[.slice A0 l0.length c0] w fun e w' => e = .returned (.tuple #[.string ⟨#[]⟩, .int .i64 2]) ∧ Below w.heap.size w w' := by
  have HI := Aside0.mk (fun (w : World) hr => logic_Is.calls A0 c0 l0 false w hr hc0 (by unfold logic_Is.f; rw [hv]))
  have HR := Aside0.mk hr0
  clear hr0 hc0 hv
  go_enter Try.func27, Try.ntmps27
  go_wp2_with (go_at_call 36; refine (HI.out _ HR.out).mono ?_; rintro e_ w2 ⟨rfl, ⟨m, rfl⟩⟩)
  go_ret2
  exact ⟨rfl, pw_below_drewN (Below.refl _ _) _⟩
theorem logic_Text.calls (A0 : Option Addr) (c0 : Nat) (l0 : List Int) (r1 : ByteArray) (r2 : Int) (w : World) (hr0 : Kd.C (Kd.int .u8) w A0 l0.length l0) (hc0 : l0.length ≤ c0) (h : logic_Text.f l0 = some (r1, r2)) :
    Calls Try.prog 27 #[.slice A0 l0.length c0] w fun e w' => e = .returned (.tuple #[.string r1, .int .i64 r2]) ∧ Below w.heap.size w w' := by
  unfold logic_Text.f at h
  by_cases h1 : isF l0 = true
  · rw [if_pos h1] at h
    by_cases h2 : (l0.all fun x => decide (0 ≤ x)) = true
    · rw [if_pos h2] at h
      simp only [Option.some.injEq, Prod.mk.injEq] at h
      obtain ⟨rfl, rfl⟩ := h
      have h1' := h1
      unfold isF at h1'
      simp only [Bool.and_eq_true, decide_eq_true_eq] at h1'
      refine text_yes A0 c0 l0 w hr0 hc0 h1 (fun i h0 hi => ?_) h1'.1.2
      obtain ⟨n, rfl⟩ := Int.eq_ofNat_of_zero_le h0
      rw [rd_nat l0 n (by omega)]
      have a := List.all_eq_true.1 h2 _ (List.getElem_mem (by omega : n < l0.length))
      have b := List.all_eq_true.1 h1'.2 _ (List.getElem_mem (by omega : n < l0.length))
      exact ⟨of_decide_eq_true a, of_decide_eq_true b⟩
    · rw [if_neg h2] at h
      exact absurd h (by simp)
  · rw [if_neg h1] at h
    simp only [Option.some.injEq, Prod.mk.injEq] at h
    obtain ⟨rfl, rfl⟩ := h
    exact text_no A0 c0 l0 w hr0 hc0 (by simpa using h1)
end Go.Proofs.Ytajpgmpidphmgaa.Hand
