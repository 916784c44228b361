/- Lemmas. -/
import Derived.Test.YtojankgmedccdaaYOPAwx7
set_option maxHeartbeats 8000000
set_option maxRecDepth 100000
namespace Go.Proofs.Ytojankgmedccdaa.PAw
open Go.RowKit Own PTy Hand PIs Wo
attribute [local go_sem] BI BJ Ba Bc Ao Ap BL BM
set_option linter.unusedVariables false
set_option linter.unusedSimpArgs false
def logic_isBit.f (a0 : Int) : Option (Bool) := some (decide (a0 ≤ 3))
theorem logic_isBit.calls {a0 : Int} {r : Bool} {w : World} (h : logic_isBit.f a0 = some r) :
  Calls Try.prog 69 #[.int .u8 a0] w fun e w' => e = .returned (.bool r) ∧ Aq w w' := by
 have H : (some (decide (a0 ≤ 3))) = some r := h
 clear h; obtain rfl := sI H
 go_enter Try.func69, Try.ntmps69
 go_wp2
 go_ret
 exact dn
def logic_both.j0 : Nat → Int → Int → Bool → Option (Int)
 | 0, _, _, _ => none
 | k + 1, x0, x1, x5 => if x5 = true then (some x0) else (if x0 = 3 then (some x1) else (some 2))
def logic_both.f (k : Nat) (a0 : Int) (a : Int) : Option (Int) := if a0 = a then (logic_both.j0 k a0 a (a0 == a)) else (logic_both.j0 k a0 a (a == 3))
theorem logic_both.calls {k : Nat} {a0 i r : Int} {w : World} (h : logic_both.f k a0 i = some r) :
  Calls Try.prog 70 #[.int .u8 a0, .int .u8 i] w fun e w' => e = .returned (.int .u8 r) ∧ Aq w w' := by
 have H := h; unfold logic_both.f at H
 clear h; have c := mk0 H; clear H
 go_enter Try.func70, Try.ntmps70
 go_upto_if 5 with (fail)
 go_cut [5] (fun v5 wc => ∃ (q : Nat) (b : Bool), v5 = .bool b ∧ Aside0 (logic_both.j0 q a0 i b = some r) ∧ Aside0 (q ≤ k) ∧ Aq w wc)
 case first =>
  have H := c.out; clear c; replace H := iE' H; obtain ⟨c4, a, j, H⟩ | ⟨a, j, H⟩ := H
  ·(first | rw [a] | (simp only [CG, DK]; rw [a]) | skip); have s := mk0 H; clear H; go_wp2; go_meet
   case rel => exact ⟨_, ((i == 3)), rfl, s, ⟨by omega⟩, dr⟩
  (first | rw [a] | (simp only [CG, DK]; rw [a]) | skip); have s := mk0 H; clear H; go_wp2; go_meet
  case rel => exact ⟨_, ((a0 == i)), (by first | rfl | (simp; done) | (simp [*]; done)), s, ⟨by omega⟩, dr⟩
 case rest =>
  clear c; obtain ⟨q, b, rfl, u, v, B, rfl⟩ := hcut; cases q with
  | zero => exact absurd u.out (by simp [logic_both.j0])
  | succ z =>
   have H := u.out; clear u; simp only [logic_both.j0] at H; replace H := iB H; obtain ⟨rfl, H⟩ | ⟨rfl, H⟩ := H
   ·obtain rfl := sI H; go_wp2; go_ret; exact dn
   replace H := iE' H; obtain ⟨D, l, o, H⟩ | ⟨l, o, H⟩ := H
   ·obtain rfl := sI H; go_wp2; go_ret; exact dn
   obtain rfl := sI H; go_wp2; go_ret; exact dn
def logic_Resolve.l0 : Nat → Int → List Int → Int → Int → Option (Int × Int)
 | 0, _, _, _, _ => none
 | k + 1, x4, x7, c, a => if a < c then (if 0 ≤ a then (if a < (x7.length : Int) then ((logic_isBit.f (rd x7 a)).bind fun t152 => (if t152 = true then ((logic_both.f k x4 (rd x7 a)).bind fun b => (logic_Resolve.l0 k b x7 c (wrap64 (a + 1)))) else (some (0, 2)))) else (none)) else (none)) else (some (x4, 0))
def logic_Resolve.f (k : Nat) (l0 : List Int) : Option (Int × Int) := logic_Resolve.l0 k 3 l0 (l0.length : Int) 0
theorem logic_Resolve.calls {k : Nat} {I : Option Addr} {L : Nat} {l0 : List Int} {G r2 : Int} {w : World} (v : Kd.C (Kd.int .u8) w I l0.length l0) (u : l0.length ≤ L) (h : logic_Resolve.f k l0 = some (G, r2)) :
  Calls Try.prog 53 #[.slice I l0.length L] w fun e w' => e = .returned (.tuple #[.int .u8 G, .int .i64 r2]) ∧ Aq w w' := by
 have r := mk0 v; have Y := mk0 u; clear v u
 have H := h; unfold logic_Resolve.f at H
 clear h
 have B := mk0 H
 clear H
 go_enter Try.func53, Try.ntmps53
 go_wp2
 go_loopg [4, 9] k (fun U v4 v9 w' => ∃ (l : Int) (a : Int), v4 = .int .u8 l ∧ v9 = .int .i64 a ∧ Aside0 (logic_Resolve.l0 U l l0 (l0.length : Int) a = some (G, r2)) ∧ Aside0 (U ≤ k) ∧ Aq w w')
 case atStart => exact ⟨(3), (0), rfl, rfl, B, ⟨Nat.le_refl _⟩, dr⟩
 case round =>
  clear B; obtain ⟨l, a, rfl, rfl, D, q, m1, rfl⟩ := hrel; cases gk with
  | zero => exact absurd D.out (by simp [logic_Resolve.l0])
  | succ Z =>
   have H := D.out; clear D; simp only [logic_Resolve.l0] at H; replace H := iD' H; obtain ⟨-, s, H⟩ | ⟨-, s, H⟩ := H
   ·simp only [Option.some.injEq, Prod.mk.injEq] at H; obtain ⟨rfl, rfl⟩ := H; go_wp2; go_ret2; exact dn
   replace H := iN H; obtain ⟨-, O, H⟩ := H; replace H := iN H; obtain ⟨-, T, H⟩ := H; replace H := bS H; obtain ⟨t152, J, H⟩ := H; replace H := iB' H; obtain ⟨rfl, H⟩ | ⟨rfl, H⟩ := H
   ·simp only [Option.some.injEq, Prod.mk.injEq] at H; obtain ⟨rfl, rfl⟩ := H; have b : 0 ≤ (a : Int) := od; have c : a < (l0.length : Int) := od; obtain ⟨o, i, j⟩ := Kd.DX r.out a b c; cases i; replace b := eq_true b; replace c := eq_true c; go_wp2_with ((with_reducible refine AP (f := 69) rfl ?_); refine IL Try.func69 (logic_isBit.calls J.out) ?_; intro W); go_ret2; exact dn
   replace H := bS H; obtain ⟨z, X, H⟩ := H; have B := mk0 H; clear H; have b : 0 ≤ (a : Int) := od; have c : a < (l0.length : Int) := od; obtain ⟨o, i, j⟩ := Kd.DX r.out a b c; cases i; replace b := eq_true b; replace c := eq_true c; go_wp2_with (first | ((with_reducible refine AP (f := 69) rfl ?_); refine IL Try.func69 (logic_isBit.calls J.out) ?_; intro W) | ((with_reducible refine AP (f := 70) rfl ?_); refine IL Try.func70 (logic_both.calls X.out) ?_; intro W)); go_roundg Z
   case measure => have := q.out; omega
   case rel => exact ⟨(z), (wrap64 (a + 1)), rfl, rfl, B, ⟨by have := q.out; omega⟩, dr⟩
end Go.Proofs.Ytojankgmedccdaa.PAw
