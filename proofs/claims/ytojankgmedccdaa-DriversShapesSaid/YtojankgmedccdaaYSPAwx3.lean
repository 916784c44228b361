/- Part of the proof of LawDriversShapes: every definition and lemma is one that it names. -/
import Derived.Test.YtojankgmedccdaaYSPAwx7
import Derived.Test.YtojankgmedccdaaYSPAwx2
namespace Go.Proofs.Ytojankgmedccdaa.PAw
open Go.RowKit Own PTy Hand PIs YtojankgmedccdaaW.PrintWords YtojankgmedccdaaW.PrintLast YtojankgmedccdaaW.PrintMore
attribute [local go_sem] BR BS Bj Bl BH BI BU BX
set_option linter.unusedVariables false
set_option linter.unusedSimpArgs false
def r01Same.l0 : Nat → List Int → List Int → Int → Int → Option (Bool)
 | 0, _, _, _, _ => none
 | k + 1, x0, x1, b, a => if a < b then (if 0 ≤ a then (if a < (x0.length : Int) then (if a < (x1.length : Int) then (if (rd x0 a) = (rd x1 a) then (r01Same.l0 k x0 x1 b (wrap64 (a + 1))) else (some false)) else (none)) else (none)) else (none)) else (some true)
def r01Same.f (k : Nat) (l0 : List Int) (l1 : List Int) : Option (Bool) := if (l0.length : Int) = (l1.length : Int) then (r01Same.l0 k l0 l1 (l0.length : Int) 0) else (some false)
set_option maxHeartbeats 8000000 in
set_option maxRecDepth 100000 in
theorem r01Same.calls {k : Nat} {W : Option Addr} {Y : Nat} {l0 : List Int} {X : Option Addr} {U : Nat} {l1 : List Int} {r : Bool} {w : World} (J : Kd.C (Kd.int .u8) w W l0.length l0) (G : l0.length ≤ Y) (L : Kd.C (Kd.int .u8) w X l1.length l1) (I : l1.length ≤ U) (h : r01Same.f k l0 l1 = some r) :
  Calls Try.prog 55 #[.slice W l0.length Y, .slice X l1.length U] w fun e w' => e = .returned (.bool r) ∧ Aq w w' := by
 have x := mk0 J; have dB := mk0 G; clear J G; have y := mk0 L; have eB := mk0 I; clear L I
 have H := h; unfold r01Same.f at H
 clear h
 replace H := iF' H; obtain ⟨u, n, o, H⟩ | ⟨u, n, o, H⟩ := H
 ·have p : (l0.length == l1.length) = false := by first | simpa using u | (simp at u ⊢; omega)
  obtain rfl := sI H
  go_enter Try.func55, Try.ntmps55
  go_wp2
  repeat (go_quiet (fail); try go_wp2)
  go_ret
  exact dn
 have p : (l0.length == l1.length) = true := by first | simpa using u | (simp at u ⊢; omega)
 clear u
 have O := mk0 H
 clear H
 go_enter Try.func55, Try.ntmps55
 go_wp2
 repeat (go_quiet (fail); try go_wp2)
 go_loopg [13] k (fun kq v13 w' => ∃ (a : Int), v13 = .int .i64 a ∧ Aside0 (r01Same.l0 kq l0 l1 (l0.length : Int) a = some r) ∧ Aside0 (kq ≤ k) ∧ Aq w w')
 case atStart => exact ⟨(0), rfl, O, ⟨Nat.le_refl _⟩, dr⟩
 case round =>
  clear O
  try clear U; try clear u; try clear n; try clear o; try clear p
  obtain ⟨a, rfl, T, v, ⟨m1, rfl⟩⟩ := hrel
  cases gk with
  | zero => exact absurd T.out (by simp [r01Same.l0])
  | succ k1 =>
   have H := T.out; clear T
   simp only [r01Same.l0] at H
   replace H := iD' H; obtain ⟨-, z, H⟩ | ⟨-, z, H⟩ := H
   ·obtain rfl := sI H
    go_wp2
    repeat (go_quiet (fail); try go_wp2)
    go_ret
    exact dn
   replace H := iN H; obtain ⟨-, Z, H⟩ := H
   replace H := iN H; obtain ⟨-, aB, H⟩ := H
   replace H := iN H; obtain ⟨-, bB, H⟩ := H
   replace H := iE' H; obtain ⟨c8, B, D, H⟩ | ⟨B, D, H⟩ := H
   ·obtain rfl := sI H
    have b : 0 ≤ (a : Int) := od
    have d : a < (l0.length : Int) := od
    obtain ⟨q, i, l⟩ := Kd.DF x.out a b d
    cases i; replace b := eq_true b; replace d := eq_true d
    have c : 0 ≤ (a : Int) := od
    have g : a < (l1.length : Int) := od
    obtain ⟨s, j, m⟩ := Kd.DF y.out a c g
    cases j; replace c := eq_true c; replace g := eq_true g
    go_wp2
    repeat (go_quiet (fail); try go_wp2)
    go_ret
    exact dn
   have O := mk0 H
   clear H
   have b : 0 ≤ (a : Int) := od
   have d : a < (l0.length : Int) := od
   obtain ⟨q, i, l⟩ := Kd.DF x.out a b d
   cases i; replace b := eq_true b; replace d := eq_true d
   have c : 0 ≤ (a : Int) := od
   have g : a < (l1.length : Int) := od
   obtain ⟨s, j, m⟩ := Kd.DF y.out a c g
   cases j; replace c := eq_true c; replace g := eq_true g
   go_wp2
   repeat (go_quiet (fail); try go_wp2)
   go_roundg k1
   case measure => have := v.out; omega
   case rel => exact ⟨(wrap64 (a + 1)), rfl, O, ⟨by have := v.out; omega⟩, dr⟩
def api_Bit_96.l0 : Nat → List Int → List Int → Int → Int → Option (Bool)
 | 0, _, _, _, _ => none
 | k + 1, x0, x1, b, a => if a < b then (if 0 ≤ a then (if a < (x0.length : Int) then (if a < (x1.length : Int) then (if (rd x0 a) = (rd x1 a) then (api_Bit_96.l0 k x0 x1 b (wrap64 (a + 1))) else (some false)) else (none)) else (none)) else (none)) else (some true)
def api_Bit_96.f (k : Nat) (l0 : List Int) (l1 : List Int) : Option (Bool) := if (l0.length : Int) = (l1.length : Int) then (api_Bit_96.l0 k l0 l1 (l0.length : Int) 0) else (some false)
set_option maxHeartbeats 8000000 in
set_option maxRecDepth 100000 in
theorem api_Bit_96.calls {k : Nat} {W : Option Addr} {Y : Nat} {l0 : List Int} {X : Option Addr} {U : Nat} {l1 : List Int} {r : Bool} {w : World} (J : Kd.C (Kd.int .u8) w W l0.length l0) (G : l0.length ≤ Y) (L : Kd.C (Kd.int .u8) w X l1.length l1) (I : l1.length ≤ U) (h : api_Bit_96.f k l0 l1 = some r) :
  Calls Try.prog 96 #[.slice W l0.length Y, .slice X l1.length U] w fun e w' => e = .returned (.bool r) ∧ Aq w w' := by
 have x := mk0 J; have dB := mk0 G; clear J G; have y := mk0 L; have eB := mk0 I; clear L I
 have H := h; unfold api_Bit_96.f at H
 clear h
 replace H := iF' H; obtain ⟨u, n, o, H⟩ | ⟨u, n, o, H⟩ := H
 ·have p : (l0.length == l1.length) = false := by first | simpa using u | (simp at u ⊢; omega)
  obtain rfl := sI H
  go_enter Try.func96, Try.ntmps96
  go_wp2
  repeat (go_quiet (fail); try go_wp2)
  go_ret
  exact dn
 have p : (l0.length == l1.length) = true := by first | simpa using u | (simp at u ⊢; omega)
 clear u
 have O := mk0 H
 clear H
 go_enter Try.func96, Try.ntmps96
 go_wp2
 repeat (go_quiet (fail); try go_wp2)
 go_loopg [13] k (fun kq v13 w' => ∃ (a : Int), v13 = .int .i64 a ∧ Aside0 (api_Bit_96.l0 kq l0 l1 (l0.length : Int) a = some r) ∧ Aside0 (kq ≤ k) ∧ Aq w w')
 case atStart => exact ⟨(0), rfl, O, ⟨Nat.le_refl _⟩, dr⟩
 case round =>
  clear O
  try clear U; try clear u; try clear n; try clear o; try clear p
  obtain ⟨a, rfl, T, v, ⟨m1, rfl⟩⟩ := hrel
  cases gk with
  | zero => exact absurd T.out (by simp [api_Bit_96.l0])
  | succ k1 =>
   have H := T.out; clear T
   simp only [api_Bit_96.l0] at H
   replace H := iD' H; obtain ⟨-, z, H⟩ | ⟨-, z, H⟩ := H
   ·obtain rfl := sI H
    go_wp2
    repeat (go_quiet (fail); try go_wp2)
    go_ret
    exact dn
   replace H := iN H; obtain ⟨-, Z, H⟩ := H
   replace H := iN H; obtain ⟨-, aB, H⟩ := H
   replace H := iN H; obtain ⟨-, bB, H⟩ := H
   replace H := iE' H; obtain ⟨c8, B, D, H⟩ | ⟨B, D, H⟩ := H
   ·obtain rfl := sI H
    have b : 0 ≤ (a : Int) := od
    have d : a < (l0.length : Int) := od
    obtain ⟨q, i, l⟩ := Kd.DF x.out a b d
    cases i; replace b := eq_true b; replace d := eq_true d
    have c : 0 ≤ (a : Int) := od
    have g : a < (l1.length : Int) := od
    obtain ⟨s, j, m⟩ := Kd.DF y.out a c g
    cases j; replace c := eq_true c; replace g := eq_true g
    go_wp2
    repeat (go_quiet (fail); try go_wp2)
    go_ret
    exact dn
   have O := mk0 H
   clear H
   have b : 0 ≤ (a : Int) := od
   have d : a < (l0.length : Int) := od
   obtain ⟨q, i, l⟩ := Kd.DF x.out a b d
   cases i; replace b := eq_true b; replace d := eq_true d
   have c : 0 ≤ (a : Int) := od
   have g : a < (l1.length : Int) := od
   obtain ⟨s, j, m⟩ := Kd.DF y.out a c g
   cases j; replace c := eq_true c; replace g := eq_true g
   go_wp2
   repeat (go_quiet (fail); try go_wp2)
   go_roundg k1
   case measure => have := v.out; omega
   case rel => exact ⟨(wrap64 (a + 1)), rfl, O, ⟨by have := v.out; omega⟩, dr⟩
def CV.f : Nat → Int → Int → List Int → List (S30) → Int → Int → List Int → List (S30) → Option (Bool)
 | 0, _, _, _, _, _, _, _, _ => none
 | k + 1, g, a, c, i, h, b, d, j => if a = b then ((api_Bit_96.f k c d).bind fun e => (if e = true then (none) else (some false))) else (none)
set_option maxHeartbeats 8000000 in
set_option maxRecDepth 100000 in
theorem CV.calls (k : Nat) : ∀ (J : Int) (a : Int) (B : Option Addr) (O : Nat) (c : List Int) (D : Option Addr) (T : Nat) (d : List (S30)) (L : Int) (b : Int) (G : Option Addr) (U : Nat) (g : List Int) (I : Option Addr) (W : Nat) (i : List (S30)) (r : Bool) (w : World) (v : Kd.C (Kd.int .u8) w B c.length c) (p : c.length ≤ O) (x : Kd.C k30 w D d.length d) (q : d.length ≤ T) (y : Kd.C (Kd.int .u8) w G g.length g) (s : g.length ≤ U) (z : Kd.C k30 w I i.length i) (u : i.length ≤ W) (h : CV.f k J a c d L b g i = some r),
  Calls Try.prog 84 #[.agg #[.int .i64 J, .int .i64 a, .slice B c.length O, .slice D d.length T], .agg #[.int .i64 L, .int .i64 b, .slice G g.length U, .slice I i.length W]] w fun e w' => e = .returned (.bool r) ∧ Below w.heap.size w w' := by
 induction k using Nat.strongRecOn with
 | _ k ih =>
 intro J a B O c D T d L b G U g I W i r w v p x q y s z u h
 cases k with
 | zero => exact absurd h (by simp [CV.f])
 | succ k =>
 simp only [CV.f] at h
 have tB := Try.underlying30
 have cB := mk0 v; have aB := mk0 p; clear v p; have hB := mk0 x; have fB := mk0 q; clear x q; have dB := mk0 y; have bB := mk0 s; clear y s; have jB := mk0 z; have gB := mk0 u; clear z u
 have X := mk0 (Below.refl w.heap.size w)
 have H := h; unfold CV.f at H
 clear h
 by_cases c3 : a = b
 rotate_left
 ·rw [if_neg c3] at H
  exact absurd H (by simp)
 rw [if_pos c3] at H
 have mB : (a == b) = true := beq_iff_eq.mpr c3
 have oB : (a != b) = false := bne_eq_false_iff_eq.mpr c3
 clear c3
 replace H := bS H; obtain ⟨uB, A4, H⟩ := H
 replace H := iB H; obtain ⟨rfl, H⟩ | ⟨rfl, H⟩ := H
 ·exact absurd H (by simp)
 obtain rfl := sI H
 go_enter Try.func84, Try.ntmps84
 go_wp2_with (first | ((with_reducible refine AC rfl (N := 2) rfl (cs := #[.int .i64 J, .int .i64 a, .slice B c.length O, .slice D d.length T]) (t := 30) ?hr ?_); (case hr => first | (go_simp; done) | (go_simp; rfl)); intro kB hg w6 l hb; have j := mk0 (l); have m := bs (be X) hg; replace X := kh X hb; clear hb l hg) | ((with_reducible refine AC rfl (N := 3) rfl (cs := #[.int .i64 L, .int .i64 b, .slice G g.length U, .slice I i.length W]) (t := 30) ?hr ?_); (case hr => first | (go_simp; done) | (go_simp; rfl)); intro lB hg w7 l hb; have Y := mk0 (l); have Z := bs (be1 X m) hg; replace X := kh1 X m hb; have ⟨n, o⟩ := nn j hg; replace j := kb j hb; clear hb l hg; have ⟨qB, sB⟩ := no n o; have z9 := AZ j.out; have xB := AZ Y.out) | (go_at_call 96; refine (api_Bit_96.calls (cu cB X) aB.out (cu dB X) bB.out A4.out).mono ?_; rintro e w' ⟨rfl, ⟨nd, rfl⟩⟩))
 go_ret
 exact ⟨rfl, be2 X m Z⟩
end Go.Proofs.Ytojankgmedccdaa.PAw
