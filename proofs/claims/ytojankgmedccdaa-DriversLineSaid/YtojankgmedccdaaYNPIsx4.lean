/- Lemmas. -/
import Derived.Test.YtojankgmedccdaaYNPIsx3
set_option maxHeartbeats 8000000
set_option maxRecDepth 100000
namespace Go.Proofs.Ytojankgmedccdaa.PIs
open Go.RowKit Own PTy Hand Wo
attribute [local go_sem] BS BU Bf Bg BC BD BX BZ
set_option linter.unusedVariables false
set_option linter.unusedSimpArgs false
mutual
def BM.j0 : Nat → ByteArray → Bool → Option (Bool)
 | 0, _, _ => none
 | k + 1, x0, x20 => if x20 = true then (some false) else (BM.l0 k x0 (x0.size : Int) 0)
def BM.l0 : Nat → ByteArray → Int → Int → Option (Bool)
 | 0, _, _, _ => none
 | k + 1, x0, c, a => if a < c then (if 0 ≤ a then (if a < (x0.size : Int) then ((D9.f (bt x0 a)).bind fun b => (if b = true then (BM.l0 k x0 c (wrap64 (a + 1))) else (some false))) else (none)) else (none)) else (some true)
end
def BM.f (k : Nat) (a0 : ByteArray) : Option (Bool) := if a0.toList = ([] : List UInt8) then (BM.j0 k a0 true) else (if (a0.size : Int) > 40 then (BM.j0 k a0 true) else (if 0 < (a0.size : Int) then ((Cm.f (bt a0 0)).bind fun t130 => (if t130 = true then ((Df.f a0).bind fun t131 => (BM.j0 k a0 t131)) else (BM.j0 k a0 true))) else (none)))
theorem BM.calls {k : Nat} {a0 : ByteArray} {r : Bool} {w : World} (W : EP w) (h : BM.f k a0 = some r) :
  Calls Try.prog 75 #[.string a0] w fun e w' => e = .returned (.bool r) ∧ Ar w w' := by
 have Z := mk0 W; clear W
 have H := h; unfold BM.f at H
 clear h; have l := mk0 H; clear H
 go_enter Try.func75, Try.ntmps75
 go_upto_region 1 with (fail)
 go_cut [20] (fun v20 wc => ∃ (n : Nat) (c : Bool), v20 = .bool c ∧ Aside0 (BM.j0 n a0 c = some r) ∧ Aside0 (n ≤ k) ∧ Ar w wc)
 case first =>
  have H := l.out; clear l; replace H := iE H; obtain ⟨b, s, H⟩ | ⟨c3, b, s, H⟩ := H
  ·(first | rw [b] | (simp only [Bw, DI]; rw [b]) | skip); have d := mk0 H; clear H; go_wp2; go_meet
   case rel => exact ⟨_, (true), rfl, d, ⟨by omega⟩, dr⟩
  (first | rw [b] | (simp only [Bw, DI]; rw [b]) | skip); by_cases c4 : (a0.size : Int) > 40
  ·rw [if_pos c4] at H; have u : decide (40 < (a0.size : Int)) = true := decide_eq_true c4; have v : decide (40 < a0.size) = true := decide_eq_true (by omega); clear c4; have d := mk0 H; clear H; go_wp2; go_meet
   case rel => exact ⟨_, (true), rfl, d, ⟨by omega⟩, dr⟩
  rw [if_neg c4] at H; have u : decide (40 < (a0.size : Int)) = false := decide_eq_false c4; have v : decide (40 < a0.size) = false := decide_eq_false (by omega); clear c4; replace H := iN H; obtain ⟨c5, T, H⟩ := H; have U : decide (0 < a0.size) = true := decide_eq_true (by omega); clear c5; replace H := bS H; obtain ⟨t130, O, H⟩ := H; replace H := iB' H; obtain ⟨rfl, H⟩ | ⟨rfl, H⟩ := H
  ·have d := mk0 H; clear H; have J : 0 ≤ (0 : Int) := (by omega); have z : 0 < a0.size := (by have : (0 : Int) < (a0.size : Int) := of_decide_eq_true (by assumption); omega); have I : ∀ h : 0 < a0.size, ((a0[0]'h).toNat : Int) = bt a0 0 := DD a0 0; clear J; have L : (0 < (a0.size : Int)) = True := eq_true (of_decide_eq_true (by assumption)); replace z := eq_true z; go_wp2_with (go_at_call 86; refine (Cm.calls O.out).mono ?_; rintro e w' ⟨rfl, B, rfl⟩); go_meet
   case rel => exact ⟨_, (true), rfl, d, ⟨by omega⟩, dr⟩
  replace H := bS H; obtain ⟨t131, Y, H⟩ := H; have d := mk0 H; clear H; have J : 0 ≤ (0 : Int) := (by omega); have z : 0 < a0.size := (by have : (0 : Int) < (a0.size : Int) := of_decide_eq_true (by assumption); omega); have I : ∀ h : 0 < a0.size, ((a0[0]'h).toNat : Int) = bt a0 0 := DD a0 0; clear J; have L : (0 < (a0.size : Int)) = True := eq_true (of_decide_eq_true (by assumption)); replace z := eq_true z; go_wp2_with (first | (go_at_call 86; refine (Cm.calls O.out).mono ?_; rintro e w' ⟨rfl, B, rfl⟩) | (go_at_call 87; (with_reducible refine (Df.calls a0 t131 _ ?side1 Y.out).mono ?_); (case side1 => repeat (first | exact Z.out | (with_reducible refine LC ?_ _) | (with_reducible refine MG ?_))); rintro e w' ⟨rfl, B, rfl⟩)); go_meet
  case rel => exact ⟨_, (t131), rfl, d, ⟨by omega⟩, dr⟩
 case rest =>
  clear l; obtain ⟨n, c, rfl, j, p, cB, rfl⟩ := hcut; cases n with
  | zero => exact absurd j.out (by simp [BM.j0])
  | succ y =>
   have H := j.out; clear j; simp only [BM.j0] at H; replace H := iB H; obtain ⟨rfl, H⟩ | ⟨rfl, H⟩ := H
   ·obtain rfl := sI H; go_wp2; go_ret; exact dn
   have d := mk0 H; clear H; go_wp2; go_loopg [23] y (fun n v23 w' => ∃ (a : Int), v23 = .int .i64 a ∧ Aside0 (BM.l0 n a0 (a0.size : Int) a = some r) ∧ Aside0 (n ≤ y) ∧ Ar w w')
   case atStart => exact ⟨(0), rfl, d, ⟨Nat.le_refl _⟩, dr⟩
   case round =>
    clear d; obtain ⟨a, rfl, j, q, m2, rfl⟩ := hrel; cases gk with
    | zero => exact absurd j.out (by simp [BM.l0])
    | succ k2 =>
     have H := j.out; clear j; simp only [BM.l0] at H; replace H := iD' H; obtain ⟨-, m, H⟩ | ⟨-, m, H⟩ := H
     ·obtain rfl := sI H; go_wp2; go_ret; exact dn
     replace H := iN H; obtain ⟨-, D, H⟩ := H; replace H := iN H; obtain ⟨-, G, H⟩ := H; replace H := bS H; obtain ⟨X, o, H⟩ := H; replace H := iB' H; obtain ⟨rfl, H⟩ | ⟨rfl, H⟩ := H
     ·obtain rfl := sI H; have g : 0 ≤ (a : Int) := od; have i : a < (a0.size : Int) := od; have x := DD a0 a; replace g := eq_true g; replace i := eq_true i; go_wp2_with ((with_reducible refine AJ (f := 88) rfl ?_); refine FM Try.func88 (D9.calls o.out) ?_; intro B); go_ret; exact dn
     have d := mk0 H; clear H; have g : 0 ≤ (a : Int) := od; have i : a < (a0.size : Int) := od; have x := DD a0 a; replace g := eq_true g; replace i := eq_true i; go_wp2_with ((with_reducible refine AJ (f := 88) rfl ?_); refine FM Try.func88 (D9.calls o.out) ?_; intro B); go_roundg k2
     case measure => have := p.out; have := q.out; omega
     case rel => exact ⟨(wrap64 (a + 1)), rfl, d, ⟨by have := p.out; have := q.out; omega⟩, dr⟩
def Gl.l0 : Nat → List ByteArray → ByteArray → Int → Int → Option (Int)
 | 0, _, _, _, _ => none
 | k + 1, x0, x1, x7, a => if a < x7 then (if 0 ≤ a then (if a < (x0.length : Int) then (if x1.toList = (EI ByteArray.empty x0 a).toList then (some a) else (Gl.l0 k x0 x1 x7 (wrap64 (a + 1)))) else (none)) else (none)) else (some (-1))
def Gl.f (k : Nat) (l0 : List ByteArray) (a : ByteArray) : Option (Int) := Gl.l0 k l0 a (l0.length : Int) 0
theorem Gl.calls {k : Nat} {x : Option Addr} {y : Nat} {l0 : List ByteArray} {u : ByteArray} {r : Int} {w : World} (q : Kd.C Kd.string w x l0.length l0) (p : l0.length ≤ y) (h : Gl.f k l0 u = some r) :
  Calls Try.prog 89 #[.slice x l0.length y, .string u] w fun e w' => e = .returned (.int .i64 r) ∧ Ar w w' := by
 have l := mk0 q; have G := mk0 p; clear q p
 have H : (Gl.l0 k l0 u (l0.length : Int) 0) = some r := h
 clear h
 have s := mk0 H
 clear H
 go_enter Try.func89, Try.ntmps89
 go_wp2
 go_loopg [8] k (fun D v8 w' => ∃ (a : Int), v8 = .int .i64 a ∧ Aside0 (Gl.l0 D l0 u (l0.length : Int) a = some r) ∧ Aside0 (D ≤ k) ∧ Ar w w')
 case atStart => exact ⟨(0), rfl, s, ⟨Nat.le_refl _⟩, dr⟩
 case round =>
  clear s; obtain ⟨a, rfl, v, j, L, rfl⟩ := hrel; cases gk with
  | zero => exact absurd v.out (by simp [Gl.l0])
  | succ I =>
   have H := v.out; clear v; simp only [Gl.l0] at H; replace H := iD' H; obtain ⟨-, m, H⟩ | ⟨-, m, H⟩ := H
   ·obtain rfl := sI H; go_wp2; go_ret; exact dn
   replace H := iN H; obtain ⟨-, z, H⟩ := H; replace H := iN H; obtain ⟨-, B, H⟩ := H; replace H := iE H; obtain ⟨n, o, H⟩ | ⟨J, n, o, H⟩ := H
   ·obtain rfl := sI H; have b : 0 ≤ (a : Int) := od; have c : a < (l0.length : Int) := od; obtain ⟨i, d, g⟩ := Kd.Dh l.out a b c; cases d; replace b := eq_true b; replace c := eq_true c; go_wp2; go_ret; exact dn
   have s := mk0 H; clear H; have b : 0 ≤ (a : Int) := od; have c : a < (l0.length : Int) := od; obtain ⟨i, d, g⟩ := Kd.Dh l.out a b c; cases d; replace b := eq_true b; replace c := eq_true c; go_wp2; go_roundg I
   case measure => have := j.out; omega
   case rel => exact ⟨(wrap64 (a + 1)), rfl, s, ⟨by have := j.out; omega⟩, dr⟩
def KC.f (k : Nat) (l0 : List ByteArray) (b : ByteArray) : Option (Bool) := (Gl.f k l0 b).bind fun a => (some (decide (a ≥ 0)))
theorem KC.calls {k : Nat} {g : Option Addr} {j : Nat} {l0 : List ByteArray} {i : ByteArray} {r : Bool} {w : World} (b : Kd.C Kd.string w g l0.length l0) (a : l0.length ≤ j) (h : KC.f k l0 i = some r) :
  Calls Try.prog 76 #[.slice g l0.length j, .string i] w fun e w' => e = .returned (.bool r) ∧ Ar w w' := by
 have d := mk0 b; have c := mk0 a; clear b a
 have H := h; unfold KC.f at H
 clear h
 replace H := bS H; obtain ⟨l, m, H⟩ := H; obtain rfl := sI H
 go_enter Try.func76, Try.ntmps76
 go_wp2_with ((with_reducible refine AJ (f := 89) rfl ?_); refine FM Try.func89 (Gl.calls (Cr d.out) c.out m.out) ?_; intro n)
 go_ret
 exact dn
end Go.Proofs.Ytojankgmedccdaa.PIs
