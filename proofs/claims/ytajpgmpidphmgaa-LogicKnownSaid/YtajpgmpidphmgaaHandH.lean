/- Hand contract of slices.Backward at bits: its closure goes through a slice from its last element to its first. -/
import Derived.Test.YtajpgmpidphmgaaHandG
import Derived.Test.YtajpgmpidphmgaaHandD
import Derived.RangeFuncBox
import Derived.RangeFuncLeaves
import Derived.RangeFuncCalls
import Derived.Shelf.Abstract
import Derived.WalkKit
import Derived.OwnWalkIn
import Derived.TacticsInMore
import Derived.LoopNIn
import Derived.LoopIn
import Derived.Outline
import Derived.WalkLawsBesides
import Derived.StillTailTactics
import Derived.Deep.RegionWith
import Derived.Lib.Hide
namespace Go.Proofs.Ytajpgmpidphmgaa.Hand
open Go.RowKit Go.Proofs.YtajpgmpidphmgaaW.PrintWords Go.Proofs.YtajpgmpidphmgaaW.PrintLast Go.Proofs.YtajpgmpidphmgaaW.PrintMore
attribute [local go_sem] max2_int min2_int max_two min_two max_three min_three max_four min_four
set_option linter.unusedVariables false
set_option linter.unusedSimpArgs false



open Go.Shelf
attribute [local go_sem] Oper.semAt_some
/-- What has come when k rounds are over. -/
def hupto {α : Type} (f : Nat → α) (k : Nat) : List α := (List.range k).map f
theorem hupto_succ {α : Type} (f : Nat → α) (k : Nat) : hupto f (k + 1) = hupto f k ++ [f k] := by simp [hupto, List.range_succ]
theorem hupto_length {α : Type} (f : Nat → α) (k : Nat) : (hupto f k).length = k := by simp [hupto]
/-- What the k-th round (from 0 on) brings: the index, and the bit there. -/
def fromEnd (l : List Int) (k : Nat) : Int × Fin 4 := ((l.length : Int) - 1 - k, ⟨(rd l ((l.length : Int) - 1 - k)).toNat % 4, Nat.mod_lt _ (by decide)⟩)
def enc2 (x : Int × Fin 4) : Array Value := #[.int .i64 x.1, .int .u8 (x.2.val : Int)]
/-- What a body must keep: all below n₀, and the box of the slice. -/
def KpB (n₀ Bs : Nat) (sv : Value) (A B : World) : Prop := Below n₀ A B ∧ (Boxed A Bs 31 sv → Boxed B Bs 31 sv)
theorem KpB.trans {n₀ Bs : Nat} {sv : Value} {A B C : World} (h : KpB n₀ Bs sv A B) (k : KpB n₀ Bs sv B C) : KpB n₀ Bs sv A C := ⟨h.1.trans k.1, fun b => k.2 (h.2 b)⟩
theorem KpB.refl (n₀ Bs : Nat) (sv : Value) (A : World) : KpB n₀ Bs sv A A := ⟨Below.refl _ _, id⟩
theorem KpB.put {n₀ Bs : Nat} {sv : Value} {w : World} (hn : n₀ ≤ w.heap.size) (W : World) (l : Nat) (o o' : Obj) (hl : w.heap.size ≤ l) (h : W.heap[l]? = some o) (hc : o.isCells = false) (hw : o.isWalk = false) : KpB n₀ Bs sv W (W.putObj l o') :=
  ⟨belowK_b hn W l o o' hl h hc hw, fun b => by
    unfold Boxed at b ⊢
    by_cases e : Bs = l
    · subst e
      rw [h] at b
      injection b with b
      subst b
      simp [Obj.isCells] at hc
    · rw [World.putObj_heap_other e]; exact b⟩

set_option maxRecDepth 100000 in
set_option maxHeartbeats 2000000 in
theorem back1_in (F : Fence) (n : Nat) (h63 : F.fn 63) (hro : F.round = none) (hn : 1 ≤ n) (lp Bs : Nat) (A : Option Addr) (cap : Nat) (zs : List Int) (w0 : World) (hC : Kd.C (Kd.int .u8) w0 A zs.length zs) (hz : ∀ i : Int, 0 ≤ i → i < zs.length → 0 ≤ rd zs i ∧ rd zs i ≤ 3) (J Jx : List (Int × Fin 4) → World → Prop)
    (hY : ∀ pre x W, J pre W → pre.length < zs.length → YieldAt F (n - 1) Try.prog lp (enc2 x) W fun e W' =>
      (e = .returned (.bool true) ∧ J (pre ++ [x]) W' ∧ KpB w0.heap.size Bs (.slice A zs.length cap) W W') ∨ (e = .returned (.bool false) ∧ Jx (pre ++ [x]) W'))
    (W : World) (hW0 : Below w0.heap.size w0 W) (hBs : Boxed W Bs 31 (.slice A zs.length cap)) (h0 : J [] W) :
    CallsIn F n Try.prog 63 #[.func (.yield lp) #[] #[], .pointer (some ⟨Bs, 0, none⟩)] W fun e W' => (∃ v, e = .returned v) ∧
      ((∃ ys, ys = hupto (fromEnd zs) zs.length ∧ J ys W') ∨ (∃ pre, (∃ k, k ≤ zs.length ∧ pre = hupto (fromEnd zs) k) ∧ Jx pre W')) := by
  have hm : zs.length ≤ 9223372036854775807 := Kd.C_max hC
  have HC := Aside0.mk hC
  have HZ := Aside0.mk hz
  clear hC hz
  refine callsIn_of_wp Try.func63 rfl h63 ?_ hro
  simp only [Try.ntmps63, List.size_toArray, List.length_cons, List.length_nil, Nat.reduceAdd, Nat.reduceSub, Array.replicate_succ, Array.replicate_zero, List.push_toArray, List.append_toArray, List.nil_append, List.cons_append]
  have hc0 := hBs.cell
  gi_wp2
  gi_loopw [3] (fun i wr => ∃ (x : Int) (k : Nat), i = .int .i64 x ∧ Aside0 (x = (zs.length : Int) - 1 - k) ∧ -1 ≤ x ∧ x < zs.length ∧ Aside0 (J (hupto (fromEnd zs) k) wr) ∧ Aside0 (Below w0.heap.size w0 wr) ∧ Aside0 (Boxed wr Bs 31 (.slice A zs.length cap)))
    (fun i _ => (intOf i + 1).toNat)
  case atStart => exact ⟨_, 0, rfl, ⟨by omega⟩, by omega, by omega, ⟨h0⟩, ⟨hW0⟩, ⟨hBs⟩⟩
  case round =>
    obtain ⟨x, k, rfl, hx, hx0, hx1, hJs, hnx, hbx⟩ := hrel
    clear hc0
    by_cases hlt : 0 ≤ x
    · have hk : k < zs.length := by have := hx.out; omega
      have hy := hY _ (fromEnd zs k) wr hJs.out (by rw [hupto_length]; exact hk)
      have hval : (((rd zs ((zs.length : Int) - 1 - k)).toNat % 4 : Nat) : Int) = rd zs x := by
        have h1 := hx.out
        obtain ⟨a, b⟩ := HZ.out x hlt hx1
        rw [← h1]
        omega
      have hfe : enc2 (fromEnd zs k) = #[.int .i64 x, .int .u8 (rd zs x)] := by
        unfold enc2 fromEnd
        simp only []
        rw [hval, ← hx.out]
      rw [hfe] at hy
      clear hfe hval
      obtain ⟨fn, tmps, assign, body, hy, hR⟩ := hy
      have hcx := hbx.out.cell
      obtain ⟨ad, e, hcc⟩ := Kd.at_int (Kd.C_below HC.out hnx.out) x hlt hx1
      cases e
      gi_wp2
      refine hR.mono ?_
      rintro e W3 (⟨rfl, hJ3, hk3⟩ | ⟨rfl, hJx3⟩)
      · gi_wp2
        go_roundw
        case rel => exact ⟨x - 1, k + 1, rfl, ⟨by have := hx.out; omega⟩, by omega, by omega, ⟨by rw [hupto_succ]; exact hJ3⟩, ⟨hnx.out.trans hk3.1⟩, ⟨hk3.2 hbx.out⟩⟩
        case measure => simp [intOf]; omega
      · gi_wp2
        refine bodyPost_ret (results_none rfl _ _ _) rfl ?_
        exact ⟨⟨_, rfl⟩, .inr ⟨_, ⟨k + 1, by omega, (hupto_succ _ _).symm⟩, hJx3⟩⟩
    · have hk : k = zs.length := by have := hx.out; omega
      have HK := Aside0.mk hk
      clear hk
      gi_wp2
      go_end0
      exact ⟨⟨_, rfl⟩, .inl (by rw [← HK.out]; exact hJs.out)⟩

set_option maxHeartbeats 1000000 in
theorem back_in (F : Fence) (n : Nat) (h50 : F.fn 50) (hro : F.round = none) (a : Option Addr) (len cap : Nat) (w : World) :
    CallsIn F n Try.prog 50 #[.slice a len cap] w fun e w' => e = .returned (.func (.func 63) #[] #[.pointer (some ⟨w.heap.size, 0, none⟩)]) ∧ w' = w.alloc (.cells #[.slice a len cap] 31) := by
  refine callsIn_of_wp Try.func50 rfl h50 ?_ hro
  simp only [Try.ntmps50, List.size_toArray, List.length_cons, List.length_nil, Nat.reduceAdd, Nat.reduceSub, Array.replicate_succ, Array.replicate_zero, List.push_toArray, List.append_toArray, List.nil_append, List.cons_append]
  gi_wp2
  go_ret
  exact ⟨rfl, rfl⟩
theorem back_stops (F : Fence) (n : Nat) (h63 : F.fn 63) (hro : F.round = none) (hn : 1 ≤ n) (Bs : Nat) (A : Option Addr) (cap : Nat) (zs : List Int) (w0 w : World) (hw0 : Below w0.heap.size w0 w) (hC : Kd.C (Kd.int .u8) w0 A zs.length zs) (hz : ∀ i : Int, 0 ≤ i → i < zs.length → 0 ≤ rd zs i ∧ rd zs i ≤ 3)
    (hb : Boxed w Bs 31 (.slice A zs.length cap)) :
    SeqStopsK F n Try.prog 63 #[.pointer (some ⟨Bs, 0, none⟩)] enc2 (KpB w0.heap.size Bs (.slice A zs.length cap)) (fun ys => ys = hupto (fromEnd zs) zs.length)
      (fun pre => ∃ k, k ≤ zs.length ∧ pre = hupto (fromEnd zs) k) zs.length w := fun l J Jx W hW _ _ hY h0 => by
  have hlt : Bs < w.heap.size := hb.lt
  exact back1_in F n h63 hro hn l Bs A cap zs w0 hC hz J Jx hY W (hw0.trans (hW.mono hw0.size)) ((hW.block Bs hlt).trans hb) h0
end Go.Proofs.Ytajpgmpidphmgaa.Hand
