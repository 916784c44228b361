/- Lemmas. -/
import Derived.Test.YtojankgmedccdaaYOPIsx3
set_option maxHeartbeats 8000000
set_option maxRecDepth 100000
namespace Go.Proofs.Ytojankgmedccdaa.PIs
open Go.RowKit Own PTy Hand Wo
attribute [local go_sem] BI BJ Ba Bc Ao Ap BL BM
set_option linter.unusedVariables false
set_option linter.unusedSimpArgs false
mutual
def BF.j0 : Nat → ByteArray → Bool → Option (Bool)
 | 0, _, _ => none
 | k + 1, x0, x20 => if x20 = true then (some false) else (BF.l0 k x0 (x0.size : Int) 0)
def BF.l0 : Nat → ByteArray → Int → Int → Option (Bool)
 | 0, _, _, _ => none
 | k + 1, x0, c, a => if a < c then (if 0 ≤ a then (if a < (x0.size : Int) then ((Dh.f (bt x0 a)).bind fun b => (if b = true then (BF.l0 k x0 c (wrap64 (a + 1))) else (some false))) else (none)) else (none)) else (some true)
end
def BF.f (k : Nat) (a0 : ByteArray) : Option (Bool) := if a0.toList = ([] : List UInt8) then (BF.j0 k a0 true) else (if (a0.size : Int) > 40 then (BF.j0 k a0 true) else (if 0 < (a0.size : Int) then ((CZ.f (bt a0 0)).bind fun t130 => (if t130 = true then ((C8.f a0).bind fun t131 => (BF.j0 k a0 t131)) else (BF.j0 k a0 true))) else (none)))
theorem BF.calls {k : Nat} {a0 : ByteArray} {r : Bool} {w : World} (hG : Dk w) (h : BF.f k a0 = some r) :
  Calls Try.prog 75 #[.string a0] w fun e w' => e = .returned (.bool r) ∧ Aq w w' := by
 have HG := mk0 hG; clear hG
 have H := h; unfold BF.f at H
 clear h; have q := mk0 H; clear H
 go_enter Try.func75, Try.ntmps75
 go_upto_region 1 with (fail)
 go_cut [20] (fun v20 wc => ∃ (u : Nat) (c : Bool), v20 = .bool c ∧ Aside0 (BF.j0 u a0 c = some r) ∧ Aside0 (u ≤ k) ∧ Aq w wc)
 case first =>
  have H := q.out; clear q; replace H := iE H; obtain ⟨b, D, H⟩ | ⟨c3, b, D, H⟩ := H
  ·(first | rw [b] | (simp only [CG, DK]; rw [b]) | skip); have i := mk0 H; clear H; go_wp2; go_meet
   case rel => exact ⟨_, (true), rfl, i, ⟨by omega⟩, dr⟩
  (first | rw [b] | (simp only [CG, DK]; rw [b]) | skip); by_cases c4 : (a0.size : Int) > 40
  ·rw [if_pos c4] at H; have G : decide (40 < (a0.size : Int)) = true := decide_eq_true c4; have I : decide (40 < a0.size) = true := decide_eq_true (by omega); clear c4; have i := mk0 H; clear H; go_wp2; go_meet
   case rel => exact ⟨_, (true), rfl, i, ⟨by omega⟩, dr⟩
  rw [if_neg c4] at H; have G : decide (40 < (a0.size : Int)) = false := decide_eq_false c4; have I : decide (40 < a0.size) = false := decide_eq_false (by omega); clear c4; replace H := iN H; obtain ⟨c5, bB, H⟩ := H; have cB : decide (0 < a0.size) = true := decide_eq_true (by omega); clear c5; replace H := bS H; obtain ⟨t130, A7, H⟩ := H; replace H := iB' H; obtain ⟨rfl, H⟩ | ⟨rfl, H⟩ := H
  ·have i := mk0 H; clear H; have Y : 0 ≤ (0 : Int) := (by omega); have O : 0 < a0.size := (by have : (0 : Int) < (a0.size : Int) := of_decide_eq_true (by assumption); omega); have X : ∀ h : 0 < a0.size, ((a0[0]'h).toNat : Int) = bt a0 0 := Ll a0 0; clear Y; have Z : (0 < (a0.size : Int)) = True := eq_true (of_decide_eq_true (by assumption)); replace O := eq_true O; go_wp2_with (go_at_call 86; refine (CZ.calls A7.out).mono ?_; rintro e w' ⟨rfl, T, rfl⟩); go_meet
   case rel => exact ⟨_, (true), rfl, i, ⟨by omega⟩, dr⟩
  replace H := bS H; obtain ⟨t131, A9, H⟩ := H; have i := mk0 H; clear H; have Y : 0 ≤ (0 : Int) := (by omega); have O : 0 < a0.size := (by have : (0 : Int) < (a0.size : Int) := of_decide_eq_true (by assumption); omega); have X : ∀ h : 0 < a0.size, ((a0[0]'h).toNat : Int) = bt a0 0 := Ll a0 0; clear Y; have Z : (0 < (a0.size : Int)) = True := eq_true (of_decide_eq_true (by assumption)); replace O := eq_true O; go_wp2_with (first | (go_at_call 86; refine (CZ.calls A7.out).mono ?_; rintro e w' ⟨rfl, T, rfl⟩) | (go_at_call 87; (with_reducible refine (C8.calls a0 t131 _ ?side1 A9.out).mono ?_); (case side1 => repeat (first | exact HG.out | (with_reducible refine LF ?_ _) | (with_reducible refine MW ?_))); rintro e w' ⟨rfl, T, rfl⟩)); go_meet
  case rel => exact ⟨_, (t131), rfl, i, ⟨by omega⟩, dr⟩
 case rest =>
  clear q; obtain ⟨u, c, rfl, o, z, kB, rfl⟩ := hcut; cases u with
  | zero => exact absurd o.out (by simp [BF.j0])
  | succ L =>
   have H := o.out; clear o; simp only [BF.j0] at H; replace H := iB H; obtain ⟨rfl, H⟩ | ⟨rfl, H⟩ := H
   ·obtain rfl := sI H; go_wp2; go_ret; exact dn
   have i := mk0 H; clear H; go_wp2; go_loopg [23] L (fun u v23 w' => ∃ (a : Int), v23 = .int .i64 a ∧ Aside0 (BF.l0 u a0 (a0.size : Int) a = some r) ∧ Aside0 (u ≤ L) ∧ Aq w w')
   case atStart => exact ⟨(0), rfl, i, ⟨Nat.le_refl _⟩, dr⟩
   case round =>
    clear i; obtain ⟨a, rfl, o, B, m2, rfl⟩ := hrel; cases gk with
    | zero => exact absurd o.out (by simp [BF.l0])
    | succ k2 =>
     have H := o.out; clear o; simp only [BF.l0] at H; replace H := iD' H; obtain ⟨-, s, H⟩ | ⟨-, s, H⟩ := H
     ·obtain rfl := sI H; go_wp2; go_ret; exact dn
     replace H := iN H; obtain ⟨-, U, H⟩ := H; replace H := iN H; obtain ⟨-, W, H⟩ := H; replace H := bS H; obtain ⟨eB, v, H⟩ := H; replace H := iB' H; obtain ⟨rfl, H⟩ | ⟨rfl, H⟩ := H
     ·obtain rfl := sI H; have j : 0 ≤ (a : Int) := od; have l : a < (a0.size : Int) := od; have J := Ll a0 a; replace j := eq_true j; replace l := eq_true l; go_wp2_with ((with_reducible refine AP (f := 88) rfl ?_); refine IL Try.func88 (Dh.calls v.out) ?_; intro T); go_ret; exact dn
     have i := mk0 H; clear H; have j : 0 ≤ (a : Int) := od; have l : a < (a0.size : Int) := od; have J := Ll a0 a; replace j := eq_true j; replace l := eq_true l; go_wp2_with ((with_reducible refine AP (f := 88) rfl ?_); refine IL Try.func88 (Dh.calls v.out) ?_; intro T); go_roundg k2
     case measure => have := z.out; have := B.out; omega
     case rel => exact ⟨(wrap64 (a + 1)), rfl, i, ⟨by have := z.out; have := B.out; omega⟩, dr⟩
def GJ.l0 : Nat → List ByteArray → ByteArray → Int → Int → Option (Int)
 | 0, _, _, _, _ => none
 | k + 1, x0, x1, x7, a => if a < x7 then (if 0 ≤ a then (if a < (x0.length : Int) then (if x1.toList = (Ec ByteArray.empty x0 a).toList then (some a) else (GJ.l0 k x0 x1 x7 (wrap64 (a + 1)))) else (none)) else (none)) else (some (-1))
def GJ.f (k : Nat) (l0 : List ByteArray) (a : ByteArray) : Option (Int) := GJ.l0 k l0 a (l0.length : Int) 0
theorem GJ.calls {k : Nat} {J : Option Addr} {L : Nat} {l0 : List ByteArray} {G : ByteArray} {r : Int} {w : World} (B : Kd.C Kd.string w J l0.length l0) (z : l0.length ≤ L) (h : GJ.f k l0 G = some r) :
  Calls Try.prog 89 #[.slice J l0.length L, .string G] w fun e w' => e = .returned (.int .i64 r) ∧ Aq w w' := by
 have q := mk0 B; have W := mk0 z; clear B z
 have H : (GJ.l0 k l0 G (l0.length : Int) 0) = some r := h
 clear h
 have D := mk0 H
 clear H
 go_enter Try.func89, Try.ntmps89
 go_wp2
 go_loopg [8] k (fun U v8 w' => ∃ (a : Int), v8 = .int .i64 a ∧ Aside0 (GJ.l0 U l0 G (l0.length : Int) a = some r) ∧ Aside0 (U ≤ k) ∧ Aq w w')
 case atStart => exact ⟨(0), rfl, D, ⟨Nat.le_refl _⟩, dr⟩
 case round =>
  clear D; obtain ⟨a, rfl, I, o, Z, rfl⟩ := hrel; cases gk with
  | zero => exact absurd I.out (by simp [GJ.l0])
  | succ X =>
   have H := I.out; clear I; simp only [GJ.l0] at H; replace H := iD' H; obtain ⟨-, s, H⟩ | ⟨-, s, H⟩ := H
   ·obtain rfl := sI H; go_wp2; go_ret; exact dn
   replace H := iN H; obtain ⟨-, O, H⟩ := H; replace H := iN H; obtain ⟨-, T, H⟩ := H; replace H := iE H; obtain ⟨u, v, H⟩ | ⟨Y, u, v, H⟩ := H
   ·obtain rfl := sI H; have b : 0 ≤ (a : Int) := od; have c : a < (l0.length : Int) := od; obtain ⟨l, i, j⟩ := Kd.EK q.out a b c; cases i; replace b := eq_true b; replace c := eq_true c; go_wp2; go_ret; exact dn
   have D := mk0 H; clear H; have b : 0 ≤ (a : Int) := od; have c : a < (l0.length : Int) := od; obtain ⟨l, i, j⟩ := Kd.EK q.out a b c; cases i; replace b := eq_true b; replace c := eq_true c; go_wp2; go_roundg X
   case measure => have := o.out; omega
   case rel => exact ⟨(wrap64 (a + 1)), rfl, D, ⟨by have := o.out; omega⟩, dr⟩
def Jy.f (k : Nat) (l0 : List ByteArray) (b : ByteArray) : Option (Bool) := (GJ.f k l0 b).bind fun a => (some (decide (a ≥ 0)))
theorem Jy.calls {k : Nat} {j : Option Addr} {o : Nat} {l0 : List ByteArray} {l : ByteArray} {r : Bool} {w : World} (b : Kd.C Kd.string w j l0.length l0) (a : l0.length ≤ o) (h : Jy.f k l0 l = some r) :
  Calls Try.prog 76 #[.slice j l0.length o, .string l] w fun e w' => e = .returned (.bool r) ∧ Aq w w' := by
 have i := mk0 b; have c := mk0 a; clear b a
 have H := h; unfold Jy.f at H
 clear h
 replace H := bS H; obtain ⟨q, s, H⟩ := H; obtain rfl := sI H
 go_enter Try.func76, Try.ntmps76
 go_wp2_with ((with_reducible refine AP (f := 89) rfl ?_); refine IL Try.func89 (GJ.calls (Cy i.out) c.out s.out) ?_; intro u)
 go_ret
 exact dn
end Go.Proofs.Ytojankgmedccdaa.PIs
