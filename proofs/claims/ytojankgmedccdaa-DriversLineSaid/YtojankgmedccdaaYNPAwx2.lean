/- Lemmas. -/
import Derived.Test.YtojankgmedccdaaYNPAwx7
set_option maxHeartbeats 8000000
set_option maxRecDepth 100000
namespace Go.Proofs.Ytojankgmedccdaa.PAw
open Go.RowKit Own PTy Hand PIs Wo
attribute [local go_sem] BS BU Bf Bg BC BD BX BZ
set_option linter.unusedVariables false
set_option linter.unusedSimpArgs false
def logic_isBit.f (a0 : Int) : Option (Bool) := some (decide (a0 ≤ 3))
theorem logic_isBit.calls {a0 : Int} {r : Bool} {w : World} (h : logic_isBit.f a0 = some r) :
  Calls Try.prog 69 #[.int .u8 a0] w fun e w' => e = .returned (.bool r) ∧ Ar w w' := by
 have H : (some (decide (a0 ≤ 3))) = some r := h
 clear h; obtain rfl := sI H
 go_enter Try.func69, Try.ntmps69
 go_wp2
 go_ret
 exact dn
def logic_both.j0 : Nat → Int → Int → Bool → Option (Int)
 | 0, _, _, _ => none
 | k + 1, x0, x1, x5 => if x5 = true then (some x0) else (if x0 = 3 then (some x1) else (some 2))
def logic_both.f (k : Nat) (a0 : Int) (a : Int) : Option (Int) := if a0 = a then (logic_both.j0 k a0 a (a0 == a)) else (logic_both.j0 k a0 a (a == 3))
theorem logic_both.calls {k : Nat} {a0 d r : Int} {w : World} (h : logic_both.f k a0 d = some r) :
  Calls Try.prog 70 #[.int .u8 a0, .int .u8 d] w fun e w' => e = .returned (.int .u8 r) ∧ Ar w w' := by
 have H := h; unfold logic_both.f at H
 clear h; have c := mk0 H; clear H
 go_enter Try.func70, Try.ntmps70
 go_upto_if 5 with (fail)
 go_cut [5] (fun v5 wc => ∃ (l : Nat) (b : Bool), v5 = .bool b ∧ Aside0 (logic_both.j0 l a0 d b = some r) ∧ Aside0 (l ≤ k) ∧ Ar w wc)
 case first =>
  have H := c.out; clear c; replace H := iE' H; obtain ⟨c4, a, g, H⟩ | ⟨a, g, H⟩ := H
  ·(first | rw [a] | (simp only [Bw, DI]; rw [a]) | skip); have m := mk0 H; clear H; go_wp2; go_meet
   case rel => exact ⟨_, ((d == 3)), rfl, m, ⟨by omega⟩, dr⟩
  (first | rw [a] | (simp only [Bw, DI]; rw [a]) | skip); have m := mk0 H; clear H; go_wp2; go_meet
  case rel => exact ⟨_, ((a0 == d)), (by first | rfl | (simp; done) | (simp [*]; done)), m, ⟨by omega⟩, dr⟩
 case rest =>
  clear c; obtain ⟨l, b, rfl, n, o, q, rfl⟩ := hcut; cases l with
  | zero => exact absurd n.out (by simp [logic_both.j0])
  | succ p =>
   have H := n.out; clear n; simp only [logic_both.j0] at H; replace H := iB H; obtain ⟨rfl, H⟩ | ⟨rfl, H⟩ := H
   ·obtain rfl := sI H; go_wp2; go_ret; exact dn
   replace H := iE' H; obtain ⟨s, i, j, H⟩ | ⟨i, j, H⟩ := H
   ·obtain rfl := sI H; go_wp2; go_ret; exact dn
   obtain rfl := sI H; go_wp2; go_ret; exact dn
def logic_Resolve.l0 : Nat → Int → List Int → Int → Int → Option (Int × Int)
 | 0, _, _, _, _ => none
 | k + 1, x4, x7, c, a => if a < c then (if 0 ≤ a then (if a < (x7.length : Int) then ((logic_isBit.f (rd x7 a)).bind fun t152 => (if t152 = true then ((logic_both.f k x4 (rd x7 a)).bind fun b => (logic_Resolve.l0 k b x7 c (wrap64 (a + 1)))) else (some (0, 2)))) else (none)) else (none)) else (some (x4, 0))
def logic_Resolve.f (k : Nat) (l0 : List Int) : Option (Int × Int) := logic_Resolve.l0 k 3 l0 (l0.length : Int) 0
theorem logic_Resolve.calls {k : Nat} {x : Option Addr} {z : Nat} {l0 : List Int} {u v : Int} {w : World} (p : Kd.C (Kd.int .u8) w x l0.length l0) (o : l0.length ≤ z) (h : logic_Resolve.f k l0 = some (u, v)) :
  Calls Try.prog 53 #[.slice x l0.length z] w fun e w' => e = .returned (.tuple #[.int .u8 u, .int .i64 v]) ∧ Ar w w' := by
 have m := mk0 p; have L := mk0 o; clear p o
 have H := h; unfold logic_Resolve.f at H
 clear h
 have r := mk0 H
 clear H
 go_enter Try.func53, Try.ntmps53
 go_wp2
 go_loopg [4, 9] k (fun G v4 v9 w' => ∃ (i : Int) (a : Int), v4 = .int .u8 i ∧ v9 = .int .i64 a ∧ Aside0 (logic_Resolve.l0 G i l0 (l0.length : Int) a = some (u, v)) ∧ Aside0 (G ≤ k) ∧ Ar w w')
 case atStart => exact ⟨(3), (0), rfl, rfl, r, ⟨Nat.le_refl _⟩, dr⟩
 case round =>
  clear r; obtain ⟨i, a, rfl, rfl, s, l, T, rfl⟩ := hrel; cases gk with
  | zero => exact absurd s.out (by simp [logic_Resolve.l0])
  | succ O =>
   have H := s.out; clear s; simp only [logic_Resolve.l0] at H; replace H := iD' H; obtain ⟨-, n, H⟩ | ⟨-, n, H⟩ := H
   ·simp only [Option.some.injEq, Prod.mk.injEq] at H; obtain ⟨rfl, rfl⟩ := H; go_wp2; go_ret2; exact dn
   replace H := iN H; obtain ⟨-, B, H⟩ := H; replace H := iN H; obtain ⟨-, D, H⟩ := H; replace H := bS H; obtain ⟨t152, y, H⟩ := H; replace H := iB' H; obtain ⟨rfl, H⟩ | ⟨rfl, H⟩ := H
   ·simp only [Option.some.injEq, Prod.mk.injEq] at H; obtain ⟨rfl, rfl⟩ := H; have b : 0 ≤ (a : Int) := od; have c : a < (l0.length : Int) := od; obtain ⟨j, d, g⟩ := Kd.D5 m.out a b c; cases d; replace b := eq_true b; replace c := eq_true c; go_wp2_with ((with_reducible refine AJ (f := 69) rfl ?_); refine FM Try.func69 (logic_isBit.calls y.out) ?_; intro I); go_ret2; exact dn
   replace H := bS H; obtain ⟨q, J, H⟩ := H; have r := mk0 H; clear H; have b : 0 ≤ (a : Int) := od; have c : a < (l0.length : Int) := od; obtain ⟨j, d, g⟩ := Kd.D5 m.out a b c; cases d; replace b := eq_true b; replace c := eq_true c; go_wp2_with (first | ((with_reducible refine AJ (f := 69) rfl ?_); refine FM Try.func69 (logic_isBit.calls y.out) ?_; intro I) | ((with_reducible refine AJ (f := 70) rfl ?_); refine FM Try.func70 (logic_both.calls J.out) ?_; intro I)); go_roundg O
   case measure => have := l.out; omega
   case rel => exact ⟨(q), (wrap64 (a + 1)), rfl, rfl, r, ⟨by have := l.out; omega⟩, dr⟩
end Go.Proofs.Ytojankgmedccdaa.PAw
