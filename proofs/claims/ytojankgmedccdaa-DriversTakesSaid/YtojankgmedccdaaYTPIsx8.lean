/- Lemmas for LawDriversTakes. -/
import Derived.Test.YtojankgmedccdaaYTPIsx7
namespace Go.Proofs.Ytojankgmedccdaa.PIs
open Go.RowKit Own PTy Hand YtojankgmedccdaaW.PrintWords YtojankgmedccdaaW.PrintLast YtojankgmedccdaaW.PrintMore
attribute [local go_sem] BN BO Be Bf Az BA BR BS
set_option linter.unusedVariables false
set_option linter.unusedSimpArgs false
def G6.f (a0 : Int) (b : Int) : Option (Bool) := if b = 0 then ((Eb.f a0).bind fun t157 => (some t157)) else (if b = 1 then ((Es.f a0).bind fun a => (some a)) else (if b = 2 then ((Ii.f a0).bind fun t159 => (some t159)) else (if b = 3 then ((GK.f a0).bind fun t160 => (some t160)) else (some (a0 != 10)))))
set_option maxHeartbeats 8000000 in
set_option maxRecDepth 100000 in
theorem G6.calls {a0 n : Int} {r : Bool} {w : World} (h : G6.f a0 n = some r) :
  Calls Try.prog 90 #[.int .u8 a0, .int .i64 n] w fun e w' => e = .returned (.bool r) ∧ Ap w w' := by
 have H := h; unfold G6.f at H
 clear h
 replace H := iE H; obtain ⟨a, b, H⟩ | ⟨u, a, b, H⟩ := H
 ·replace H := bS H; obtain ⟨t157, p, H⟩ := H; obtain rfl := sI H
  go_enter Try.func90, Try.ntmps90
  go_wp2_with ((with_reducible refine AL (f := 101) rfl ?_); refine FI Try.func101 (Eb.calls p.out) ?_; intro m)
  go_ret
  exact dn
 replace H := iE H; obtain ⟨c, d, H⟩ | ⟨v, c, d, H⟩ := H
 ·replace H := bS H; obtain ⟨o, q, H⟩ := H; obtain rfl := sI H
  go_enter Try.func90, Try.ntmps90
  go_wp2_with ((with_reducible refine AL (f := 102) rfl ?_); refine FI Try.func102 (Es.calls q.out) ?_; intro m)
  go_ret
  exact dn
 replace H := iE H; obtain ⟨g, i, H⟩ | ⟨x, g, i, H⟩ := H
 ·replace H := bS H; obtain ⟨t159, s, H⟩ := H; obtain rfl := sI H
  go_enter Try.func90, Try.ntmps90
  go_wp2_with ((with_reducible refine AL (f := 103) rfl ?_); refine FI Try.func103 (Ii.calls s.out) ?_; intro m)
  go_ret
  exact dn
 replace H := iE' H; obtain ⟨y, j, k, H⟩ | ⟨j, k, H⟩ := H
 ·obtain rfl := sI H
  go_enter Try.func90, Try.ntmps90
  go_wp2
  go_ret
  exact dn
 replace H := bS H; obtain ⟨t160, l, H⟩ := H; obtain rfl := sI H
 go_enter Try.func90, Try.ntmps90
 go_wp2_with ((with_reducible refine AL (f := 104) rfl ?_); refine FI Try.func104 (GK.calls l.out) ?_; intro m)
 go_ret
 exact dn
def Dw.l0 : Nat → ByteArray → Int → Int → Int → Option (Int)
 | 0, _, _, _, _ => none
 | k + 1, x0, x1, x2, x7 => if (wrap64 (x1 + x7)) < (x0.size : Int) then (if 0 ≤ (wrap64 (x1 + x7)) then ((G6.f (bt x0 (wrap64 (x1 + x7))) x2).bind fun a => (if a = true then (Dw.l0 k x0 x1 x2 (wrap64 (x7 + 1))) else (some x7))) else (none)) else (some x7)
def Dw.f (k : Nat) (a0 : ByteArray) (a : Int) (b : Int) : Option (Int) := Dw.l0 k a0 a b 0
set_option maxHeartbeats 8000000 in
set_option maxRecDepth 100000 in
theorem Dw.calls {k : Nat} {a0 : ByteArray} {i j r : Int} {w : World} (h : Dw.f k a0 i j = some r) :
  Calls Try.prog 78 #[.string a0, .int .i64 i, .int .i64 j] w fun e w' => e = .returned (.int .i64 r) ∧ Ap w w' := by
 have H : (Dw.l0 k a0 i j 0) = some r := h
 clear h
 have o := mk0 H
 clear H
 go_enter Try.func78, Try.ntmps78
 go_wp2
 go_loopg [7] k (fun y v7 w' => ∃ (a : Int), v7 = .int .i64 a ∧ Aside0 (Dw.l0 y a0 i j a = some r) ∧ Aside0 (y ≤ k) ∧ Ap w w')
 case atStart => exact ⟨(0), rfl, o, ⟨Nat.le_refl _⟩, dr⟩
 case round =>
  clear o
  obtain ⟨a, rfl, p, l, ⟨D, rfl⟩⟩ := hrel
  cases gk with
  | zero => exact absurd p.out (by simp [Dw.l0])
  | succ x =>
   have H := p.out; clear p
   simp only [Dw.l0] at H
   replace H := iD' H; obtain ⟨-, d, H⟩ | ⟨-, d, H⟩ := H
   ·obtain rfl := sI H
    go_wp2
    go_ret
    exact dn
   obtain ⟨b, c⟩ : ∃ z : Int, (wrap64 (i + a)) = z := ⟨_, rfl⟩
   replace H : (if 0 ≤ (b) then ((G6.f (bt a0 (b)) j).bind fun g => (if g = true then (Dw.l0 x a0 i j (wrap64 (a + 1))) else (some a))) else (none)) = some r := by first | (rw [c] at H; exact H) | (simp only [c] at H ⊢; exact H)
   (try rw [c] at d)
   have q : (IntKind.i64.wrap (i + a)) = b := (CO _).trans c
   replace H := iN H; obtain ⟨-, v, H⟩ := H
   replace H := bS H; obtain ⟨g, u, H⟩ := H
   replace H := iB' H; obtain ⟨rfl, H⟩ | ⟨rfl, H⟩ := H
   ·obtain rfl := sI H
    have m : 0 ≤ ((b) : Int) := od
    have n : (b) < (a0.size : Int) := od
    have s := Cy a0 (b)
    replace m := eq_true m; replace n := eq_true n
    go_wp2_with (go_at_call 90; refine (G6.calls u.out).mono ?_; rintro e w' ⟨rfl, ⟨B, rfl⟩⟩)
    go_ret
    exact ⟨by first | rfl | (simp; done) | (simp only [← c] <;> (first | rfl | simp)) | (simp [*]; done), dr⟩
   have o := mk0 H
   clear H
   have m : 0 ≤ ((b) : Int) := od
   have n : (b) < (a0.size : Int) := od
   have s := Cy a0 (b)
   replace m := eq_true m; replace n := eq_true n
   go_wp2_with (go_at_call 90; refine (G6.calls u.out).mono ?_; rintro e w' ⟨rfl, ⟨B, rfl⟩⟩)
   go_roundg x
   case measure => have := l.out; omega
   case rel => exact ⟨(wrap64 (a + 1)), rfl, o, ⟨by have := l.out; omega⟩, dr⟩
def Cq.l0 : Nat → ByteArray → List ByteArray → Int → Int → Option (Bool)
 | 0, _, _, _, _ => none
 | k + 1, x1, x7, b, a => if a < b then (if 0 ≤ a then (if a < (x7.length : Int) then (if (D9 ByteArray.empty x7 a).toList = x1.toList then (some true) else (Cq.l0 k x1 x7 b (wrap64 (a + 1)))) else (none)) else (none)) else (some false)
def Cq.f (k : Nat) (l0 : List ByteArray) (a : ByteArray) : Option (Bool) := Cq.l0 k a l0 (l0.length : Int) 0
set_option maxHeartbeats 8000000 in
set_option maxRecDepth 100000 in
theorem Cq.calls {k : Nat} {x : Option Addr} {y : Nat} {l0 : List ByteArray} {u : ByteArray} {r : Bool} {w : World} (q : Kd.C Kd.string w x l0.length l0) (p : l0.length ≤ y) (h : Cq.f k l0 u = some r) :
  Calls Try.prog 91 #[.slice x l0.length y, .string u] w fun e w' => e = .returned (.bool r) ∧ Ap w w' := by
 have l := mk0 q; have G := mk0 p; clear q p
 have H : (Cq.l0 k u l0 (l0.length : Int) 0) = some r := h
 clear h
 have s := mk0 H
 clear H
 go_enter Try.func91, Try.ntmps91
 go_wp2
 go_loopg [9] k (fun D v9 w' => ∃ (a : Int), v9 = .int .i64 a ∧ Aside0 (Cq.l0 D u l0 (l0.length : Int) a = some r) ∧ Aside0 (D ≤ k) ∧ Ap w w')
 case atStart => exact ⟨(0), rfl, s, ⟨Nat.le_refl _⟩, dr⟩
 case round =>
  clear s
  obtain ⟨a, rfl, v, j, ⟨L, rfl⟩⟩ := hrel
  cases gk with
  | zero => exact absurd v.out (by simp [Cq.l0])
  | succ I =>
   have H := v.out; clear v
   simp only [Cq.l0] at H
   replace H := iD' H; obtain ⟨-, m, H⟩ | ⟨-, m, H⟩ := H
   ·obtain rfl := sI H
    go_wp2
    go_ret
    exact dn
   replace H := iN H; obtain ⟨-, z, H⟩ := H
   replace H := iN H; obtain ⟨-, B, H⟩ := H
   replace H := iE H; obtain ⟨n, o, H⟩ | ⟨J, n, o, H⟩ := H
   ·obtain rfl := sI H
    have b : 0 ≤ (a : Int) := od
    have c : a < (l0.length : Int) := od
    obtain ⟨i, d, g⟩ := Kd.Di l.out a b c
    cases d; replace b := eq_true b; replace c := eq_true c
    go_wp2
    go_ret
    exact dn
   have s := mk0 H
   clear H
   have b : 0 ≤ (a : Int) := od
   have c : a < (l0.length : Int) := od
   obtain ⟨i, d, g⟩ := Kd.Di l.out a b c
   cases d; replace b := eq_true b; replace c := eq_true c
   go_wp2
   go_roundg I
   case measure => have := j.out; omega
   case rel => exact ⟨(wrap64 (a + 1)), rfl, s, ⟨by have := j.out; omega⟩, dr⟩
def Et.f  : Option (List ByteArray) := some (([(⟨#[112, 97, 99, 107, 97, 103, 101]⟩ : ByteArray), (⟨#[105, 115]⟩ : ByteArray), (⟨#[101, 110, 100]⟩ : ByteArray), (⟨#[109, 111, 100, 117, 108, 101]⟩ : ByteArray), (⟨#[103, 101, 110, 101, 114, 105, 99]⟩ : ByteArray), (⟨#[112, 111, 114, 116]⟩ : ByteArray), (⟨#[98, 101, 103, 105, 110]⟩ : ByteArray), (⟨#[105, 110]⟩ : ByteArray), (⟨#[111, 117, 116]⟩ : ByteArray), (⟨#[118, 101, 99]⟩ : ByteArray), (⟨#[97, 114, 114, 97, 121]⟩ : ByteArray), (⟨#[111, 102]⟩ : ByteArray), (⟨#[99, 111, 110, 115, 116]⟩ : ByteArray), (⟨#[116, 121, 112, 101]⟩ : ByteArray), (⟨#[115, 105, 103, 110, 97, 108]⟩ : ByteArray), (⟨#[118, 97, 114]⟩ : ByteArray), (⟨#[102, 117, 110, 99, 116, 105, 111, 110]⟩ : ByteArray), (⟨#[114, 101, 116, 117, 114, 110]⟩ : ByteArray), (⟨#[117, 115, 101]⟩ : ByteArray), (⟨#[112, 114, 111, 99, 101, 115, 115]⟩ : ByteArray), (⟨#[97, 108, 108]⟩ : ByteArray), (⟨#[105, 110, 115, 116]⟩ : ByteArray), (⟨#[102, 111, 114]⟩ : ByteArray), (⟨#[116, 111]⟩ : ByteArray), (⟨#[103, 101, 110, 101, 114, 97, 116, 101]⟩ : ByteArray), (⟨#[105, 102]⟩ : ByteArray), (⟨#[101, 108, 115, 101]⟩ : ByteArray), (⟨#[116, 114, 97, 110, 115, 112, 111, 114, 116]⟩ : ByteArray), (⟨#[97, 102, 116, 101, 114]⟩ : ByteArray), (⟨#[97, 115, 115, 101, 114, 116]⟩ : ByteArray), (⟨#[114, 101, 112, 111, 114, 116]⟩ : ByteArray), (⟨#[116, 104, 101, 110]⟩ : ByteArray), (⟨#[101, 108, 115, 105, 102]⟩ : ByteArray), (⟨#[99, 97, 115, 101]⟩ : ByteArray), (⟨#[119, 104, 101, 110]⟩ : ByteArray), (⟨#[111, 116, 104, 101, 114, 115]⟩ : ByteArray), (⟨#[108, 111, 111, 112]⟩ : ByteArray), (⟨#[119, 104, 105, 108, 101]⟩ : ByteArray), (⟨#[119, 97, 105, 116]⟩ : ByteArray), (⟨#[111, 110]⟩ : ByteArray), (⟨#[117, 110, 116, 105, 108]⟩ : ByteArray), (⟨#[110, 117, 108, 108]⟩ : ByteArray), (⟨#[97, 110, 100]⟩ : ByteArray), (⟨#[111, 114]⟩ : ByteArray), (⟨#[120, 111, 114]⟩ : ByteArray), (⟨#[110, 97, 110, 100]⟩ : ByteArray), (⟨#[110, 111, 114]⟩ : ByteArray), (⟨#[120, 110, 111, 114]⟩ : ByteArray), (⟨#[110, 111, 116]⟩ : ByteArray), (⟨#[109, 111, 100]⟩ : ByteArray), (⟨#[115, 104, 108]⟩ : ByteArray), (⟨#[115, 104, 114]⟩ : ByteArray), (⟨#[100, 111, 119, 110, 116, 111]⟩ : ByteArray)] : List ByteArray))
set_option maxHeartbeats 8000000 in
set_option maxRecDepth 100000 in
theorem Et.calls {r : List ByteArray} {w : World} (h : Et.f  = some r) :
  Calls Try.prog 92 #[] w fun e w' => ∃ j : Value, e = .returned (j) ∧ Kd.R Kd.string 9 w' w.heap.size (fun _ => True) j r ∧ Below w.heap.size w w' := by
 have l := mk0 (Below.refl w.heap.size w)
 have H := h; unfold Et.f at H
 clear h
 obtain ⟨k, a⟩ : ∃ p : List ByteArray, p = (([(⟨#[112, 97, 99, 107, 97, 103, 101]⟩ : ByteArray), (⟨#[105, 115]⟩ : ByteArray), (⟨#[101, 110, 100]⟩ : ByteArray), (⟨#[109, 111, 100, 117, 108, 101]⟩ : ByteArray), (⟨#[103, 101, 110, 101, 114, 105, 99]⟩ : ByteArray), (⟨#[112, 111, 114, 116]⟩ : ByteArray), (⟨#[98, 101, 103, 105, 110]⟩ : ByteArray), (⟨#[105, 110]⟩ : ByteArray), (⟨#[111, 117, 116]⟩ : ByteArray), (⟨#[118, 101, 99]⟩ : ByteArray), (⟨#[97, 114, 114, 97, 121]⟩ : ByteArray), (⟨#[111, 102]⟩ : ByteArray), (⟨#[99, 111, 110, 115, 116]⟩ : ByteArray), (⟨#[116, 121, 112, 101]⟩ : ByteArray), (⟨#[115, 105, 103, 110, 97, 108]⟩ : ByteArray), (⟨#[118, 97, 114]⟩ : ByteArray), (⟨#[102, 117, 110, 99, 116, 105, 111, 110]⟩ : ByteArray), (⟨#[114, 101, 116, 117, 114, 110]⟩ : ByteArray), (⟨#[117, 115, 101]⟩ : ByteArray), (⟨#[112, 114, 111, 99, 101, 115, 115]⟩ : ByteArray), (⟨#[97, 108, 108]⟩ : ByteArray), (⟨#[105, 110, 115, 116]⟩ : ByteArray), (⟨#[102, 111, 114]⟩ : ByteArray), (⟨#[116, 111]⟩ : ByteArray), (⟨#[103, 101, 110, 101, 114, 97, 116, 101]⟩ : ByteArray), (⟨#[105, 102]⟩ : ByteArray), (⟨#[101, 108, 115, 101]⟩ : ByteArray), (⟨#[116, 114, 97, 110, 115, 112, 111, 114, 116]⟩ : ByteArray), (⟨#[97, 102, 116, 101, 114]⟩ : ByteArray), (⟨#[97, 115, 115, 101, 114, 116]⟩ : ByteArray), (⟨#[114, 101, 112, 111, 114, 116]⟩ : ByteArray), (⟨#[116, 104, 101, 110]⟩ : ByteArray), (⟨#[101, 108, 115, 105, 102]⟩ : ByteArray), (⟨#[99, 97, 115, 101]⟩ : ByteArray), (⟨#[119, 104, 101, 110]⟩ : ByteArray), (⟨#[111, 116, 104, 101, 114, 115]⟩ : ByteArray), (⟨#[108, 111, 111, 112]⟩ : ByteArray), (⟨#[119, 104, 105, 108, 101]⟩ : ByteArray), (⟨#[119, 97, 105, 116]⟩ : ByteArray), (⟨#[111, 110]⟩ : ByteArray), (⟨#[117, 110, 116, 105, 108]⟩ : ByteArray), (⟨#[110, 117, 108, 108]⟩ : ByteArray), (⟨#[97, 110, 100]⟩ : ByteArray), (⟨#[111, 114]⟩ : ByteArray), (⟨#[120, 111, 114]⟩ : ByteArray), (⟨#[110, 97, 110, 100]⟩ : ByteArray), (⟨#[110, 111, 114]⟩ : ByteArray), (⟨#[120, 110, 111, 114]⟩ : ByteArray), (⟨#[110, 111, 116]⟩ : ByteArray), (⟨#[109, 111, 100]⟩ : ByteArray), (⟨#[115, 104, 108]⟩ : ByteArray), (⟨#[115, 104, 114]⟩ : ByteArray), (⟨#[100, 111, 119, 110, 116, 111]⟩ : ByteArray)] : List ByteArray)) := ⟨_, rfl⟩
 replace H : (some k) = some r := by first | (rw [a]; with_reducible exact H) | (have d := (Option.bind_some _ _).symm.trans H; rw [a]; with_reducible exact d) | (have d := (Option.bind_some _ _).symm.trans H; with_reducible exact d) | with_reducible exact H | (rw [a]; exact H) | exact H
 have b := mk0 a; clear a; obtain rfl := sI H
 go_enter Try.func92, Try.ntmps92
 go_wp2_with ((with_reducible refine Ep (N := 1) rfl ?_); refine Kd.JB Kd.string _ 9 ?hg (N := 1) ?hd (xs := ([(⟨#[112, 97, 99, 107, 97, 103, 101]⟩ : ByteArray), (⟨#[105, 115]⟩ : ByteArray), (⟨#[101, 110, 100]⟩ : ByteArray), (⟨#[109, 111, 100, 117, 108, 101]⟩ : ByteArray), (⟨#[103, 101, 110, 101, 114, 105, 99]⟩ : ByteArray), (⟨#[112, 111, 114, 116]⟩ : ByteArray), (⟨#[98, 101, 103, 105, 110]⟩ : ByteArray), (⟨#[105, 110]⟩ : ByteArray), (⟨#[111, 117, 116]⟩ : ByteArray), (⟨#[118, 101, 99]⟩ : ByteArray), (⟨#[97, 114, 114, 97, 121]⟩ : ByteArray), (⟨#[111, 102]⟩ : ByteArray), (⟨#[99, 111, 110, 115, 116]⟩ : ByteArray), (⟨#[116, 121, 112, 101]⟩ : ByteArray), (⟨#[115, 105, 103, 110, 97, 108]⟩ : ByteArray), (⟨#[118, 97, 114]⟩ : ByteArray), (⟨#[102, 117, 110, 99, 116, 105, 111, 110]⟩ : ByteArray), (⟨#[114, 101, 116, 117, 114, 110]⟩ : ByteArray), (⟨#[117, 115, 101]⟩ : ByteArray), (⟨#[112, 114, 111, 99, 101, 115, 115]⟩ : ByteArray), (⟨#[97, 108, 108]⟩ : ByteArray), (⟨#[105, 110, 115, 116]⟩ : ByteArray), (⟨#[102, 111, 114]⟩ : ByteArray), (⟨#[116, 111]⟩ : ByteArray), (⟨#[103, 101, 110, 101, 114, 97, 116, 101]⟩ : ByteArray), (⟨#[105, 102]⟩ : ByteArray), (⟨#[101, 108, 115, 101]⟩ : ByteArray), (⟨#[116, 114, 97, 110, 115, 112, 111, 114, 116]⟩ : ByteArray), (⟨#[97, 102, 116, 101, 114]⟩ : ByteArray), (⟨#[97, 115, 115, 101, 114, 116]⟩ : ByteArray), (⟨#[114, 101, 112, 111, 114, 116]⟩ : ByteArray), (⟨#[116, 104, 101, 110]⟩ : ByteArray), (⟨#[101, 108, 115, 105, 102]⟩ : ByteArray), (⟨#[99, 97, 115, 101]⟩ : ByteArray), (⟨#[119, 104, 101, 110]⟩ : ByteArray), (⟨#[111, 116, 104, 101, 114, 115]⟩ : ByteArray), (⟨#[108, 111, 111, 112]⟩ : ByteArray), (⟨#[119, 104, 105, 108, 101]⟩ : ByteArray), (⟨#[119, 97, 105, 116]⟩ : ByteArray), (⟨#[111, 110]⟩ : ByteArray), (⟨#[117, 110, 116, 105, 108]⟩ : ByteArray), (⟨#[110, 117, 108, 108]⟩ : ByteArray), (⟨#[97, 110, 100]⟩ : ByteArray), (⟨#[111, 114]⟩ : ByteArray), (⟨#[120, 111, 114]⟩ : ByteArray), (⟨#[110, 97, 110, 100]⟩ : ByteArray), (⟨#[110, 111, 114]⟩ : ByteArray), (⟨#[120, 110, 111, 114]⟩ : ByteArray), (⟨#[110, 111, 116]⟩ : ByteArray), (⟨#[109, 111, 100]⟩ : ByteArray), (⟨#[115, 104, 108]⟩ : ByteArray), (⟨#[115, 104, 114]⟩ : ByteArray), (⟨#[100, 111, 119, 110, 116, 111]⟩ : ByteArray)] : List ByteArray)) (inner := [.string (⟨#[112, 97, 99, 107, 97, 103, 101]⟩ : ByteArray), .string (⟨#[105, 115]⟩ : ByteArray), .string (⟨#[101, 110, 100]⟩ : ByteArray), .string (⟨#[109, 111, 100, 117, 108, 101]⟩ : ByteArray), .string (⟨#[103, 101, 110, 101, 114, 105, 99]⟩ : ByteArray), .string (⟨#[112, 111, 114, 116]⟩ : ByteArray), .string (⟨#[98, 101, 103, 105, 110]⟩ : ByteArray), .string (⟨#[105, 110]⟩ : ByteArray), .string (⟨#[111, 117, 116]⟩ : ByteArray), .string (⟨#[118, 101, 99]⟩ : ByteArray), .string (⟨#[97, 114, 114, 97, 121]⟩ : ByteArray), .string (⟨#[111, 102]⟩ : ByteArray), .string (⟨#[99, 111, 110, 115, 116]⟩ : ByteArray), .string (⟨#[116, 121, 112, 101]⟩ : ByteArray), .string (⟨#[115, 105, 103, 110, 97, 108]⟩ : ByteArray), .string (⟨#[118, 97, 114]⟩ : ByteArray), .string (⟨#[102, 117, 110, 99, 116, 105, 111, 110]⟩ : ByteArray), .string (⟨#[114, 101, 116, 117, 114, 110]⟩ : ByteArray), .string (⟨#[117, 115, 101]⟩ : ByteArray), .string (⟨#[112, 114, 111, 99, 101, 115, 115]⟩ : ByteArray), .string (⟨#[97, 108, 108]⟩ : ByteArray), .string (⟨#[105, 110, 115, 116]⟩ : ByteArray), .string (⟨#[102, 111, 114]⟩ : ByteArray), .string (⟨#[116, 111]⟩ : ByteArray), .string (⟨#[103, 101, 110, 101, 114, 97, 116, 101]⟩ : ByteArray), .string (⟨#[105, 102]⟩ : ByteArray), .string (⟨#[101, 108, 115, 101]⟩ : ByteArray), .string (⟨#[116, 114, 97, 110, 115, 112, 111, 114, 116]⟩ : ByteArray), .string (⟨#[97, 102, 116, 101, 114]⟩ : ByteArray), .string (⟨#[97, 115, 115, 101, 114, 116]⟩ : ByteArray), .string (⟨#[114, 101, 112, 111, 114, 116]⟩ : ByteArray), .string (⟨#[116, 104, 101, 110]⟩ : ByteArray), .string (⟨#[101, 108, 115, 105, 102]⟩ : ByteArray), .string (⟨#[99, 97, 115, 101]⟩ : ByteArray), .string (⟨#[119, 104, 101, 110]⟩ : ByteArray), .string (⟨#[111, 116, 104, 101, 114, 115]⟩ : ByteArray), .string (⟨#[108, 111, 111, 112]⟩ : ByteArray), .string (⟨#[119, 104, 105, 108, 101]⟩ : ByteArray), .string (⟨#[119, 97, 105, 116]⟩ : ByteArray), .string (⟨#[111, 110]⟩ : ByteArray), .string (⟨#[117, 110, 116, 105, 108]⟩ : ByteArray), .string (⟨#[110, 117, 108, 108]⟩ : ByteArray), .string (⟨#[97, 110, 100]⟩ : ByteArray), .string (⟨#[111, 114]⟩ : ByteArray), .string (⟨#[120, 111, 114]⟩ : ByteArray), .string (⟨#[110, 97, 110, 100]⟩ : ByteArray), .string (⟨#[110, 111, 114]⟩ : ByteArray), .string (⟨#[120, 110, 111, 114]⟩ : ByteArray), .string (⟨#[110, 111, 116]⟩ : ByteArray), .string (⟨#[109, 111, 100]⟩ : ByteArray), .string (⟨#[115, 104, 108]⟩ : ByteArray), .string (⟨#[115, 104, 114]⟩ : ByteArray), .string (⟨#[100, 111, 119, 110, 116, 111]⟩ : ByteArray)]) (ok := fun _ => True) (okp := fun _ => True) ?hr ?hp (fun _ o => o) trivial (Below.refl _ _) (Nat.le_refl _) (by simp) ?_; (case hd => rfl); (case hg => rfl); (case hr => first | (go_simp; done) | (go_simp; rfl)); (case hp => exact (Bz.one (show Kd.M Kd.string _ _ _ (⟨#[112, 97, 99, 107, 97, 103, 101]⟩ : ByteArray) [.string (⟨#[112, 97, 99, 107, 97, 103, 101]⟩ : ByteArray)] from rfl) (Bz.one (show Kd.M Kd.string _ _ _ (⟨#[105, 115]⟩ : ByteArray) [.string (⟨#[105, 115]⟩ : ByteArray)] from rfl) (Bz.one (show Kd.M Kd.string _ _ _ (⟨#[101, 110, 100]⟩ : ByteArray) [.string (⟨#[101, 110, 100]⟩ : ByteArray)] from rfl) (Bz.one (show Kd.M Kd.string _ _ _ (⟨#[109, 111, 100, 117, 108, 101]⟩ : ByteArray) [.string (⟨#[109, 111, 100, 117, 108, 101]⟩ : ByteArray)] from rfl) (Bz.one (show Kd.M Kd.string _ _ _ (⟨#[103, 101, 110, 101, 114, 105, 99]⟩ : ByteArray) [.string (⟨#[103, 101, 110, 101, 114, 105, 99]⟩ : ByteArray)] from rfl) (Bz.one (show Kd.M Kd.string _ _ _ (⟨#[112, 111, 114, 116]⟩ : ByteArray) [.string (⟨#[112, 111, 114, 116]⟩ : ByteArray)] from rfl) (Bz.one (show Kd.M Kd.string _ _ _ (⟨#[98, 101, 103, 105, 110]⟩ : ByteArray) [.string (⟨#[98, 101, 103, 105, 110]⟩ : ByteArray)] from rfl) (Bz.one (show Kd.M Kd.string _ _ _ (⟨#[105, 110]⟩ : ByteArray) [.string (⟨#[105, 110]⟩ : ByteArray)] from rfl) (Bz.one (show Kd.M Kd.string _ _ _ (⟨#[111, 117, 116]⟩ : ByteArray) [.string (⟨#[111, 117, 116]⟩ : ByteArray)] from rfl) (Bz.one (show Kd.M Kd.string _ _ _ (⟨#[118, 101, 99]⟩ : ByteArray) [.string (⟨#[118, 101, 99]⟩ : ByteArray)] from rfl) (Bz.one (show Kd.M Kd.string _ _ _ (⟨#[97, 114, 114, 97, 121]⟩ : ByteArray) [.string (⟨#[97, 114, 114, 97, 121]⟩ : ByteArray)] from rfl) (Bz.one (show Kd.M Kd.string _ _ _ (⟨#[111, 102]⟩ : ByteArray) [.string (⟨#[111, 102]⟩ : ByteArray)] from rfl) (Bz.one (show Kd.M Kd.string _ _ _ (⟨#[99, 111, 110, 115, 116]⟩ : ByteArray) [.string (⟨#[99, 111, 110, 115, 116]⟩ : ByteArray)] from rfl) (Bz.one (show Kd.M Kd.string _ _ _ (⟨#[116, 121, 112, 101]⟩ : ByteArray) [.string (⟨#[116, 121, 112, 101]⟩ : ByteArray)] from rfl) (Bz.one (show Kd.M Kd.string _ _ _ (⟨#[115, 105, 103, 110, 97, 108]⟩ : ByteArray) [.string (⟨#[115, 105, 103, 110, 97, 108]⟩ : ByteArray)] from rfl) (Bz.one (show Kd.M Kd.string _ _ _ (⟨#[118, 97, 114]⟩ : ByteArray) [.string (⟨#[118, 97, 114]⟩ : ByteArray)] from rfl) (Bz.one (show Kd.M Kd.string _ _ _ (⟨#[102, 117, 110, 99, 116, 105, 111, 110]⟩ : ByteArray) [.string (⟨#[102, 117, 110, 99, 116, 105, 111, 110]⟩ : ByteArray)] from rfl) (Bz.one (show Kd.M Kd.string _ _ _ (⟨#[114, 101, 116, 117, 114, 110]⟩ : ByteArray) [.string (⟨#[114, 101, 116, 117, 114, 110]⟩ : ByteArray)] from rfl) (Bz.one (show Kd.M Kd.string _ _ _ (⟨#[117, 115, 101]⟩ : ByteArray) [.string (⟨#[117, 115, 101]⟩ : ByteArray)] from rfl) (Bz.one (show Kd.M Kd.string _ _ _ (⟨#[112, 114, 111, 99, 101, 115, 115]⟩ : ByteArray) [.string (⟨#[112, 114, 111, 99, 101, 115, 115]⟩ : ByteArray)] from rfl) (Bz.one (show Kd.M Kd.string _ _ _ (⟨#[97, 108, 108]⟩ : ByteArray) [.string (⟨#[97, 108, 108]⟩ : ByteArray)] from rfl) (Bz.one (show Kd.M Kd.string _ _ _ (⟨#[105, 110, 115, 116]⟩ : ByteArray) [.string (⟨#[105, 110, 115, 116]⟩ : ByteArray)] from rfl) (Bz.one (show Kd.M Kd.string _ _ _ (⟨#[102, 111, 114]⟩ : ByteArray) [.string (⟨#[102, 111, 114]⟩ : ByteArray)] from rfl) (Bz.one (show Kd.M Kd.string _ _ _ (⟨#[116, 111]⟩ : ByteArray) [.string (⟨#[116, 111]⟩ : ByteArray)] from rfl) (Bz.one (show Kd.M Kd.string _ _ _ (⟨#[103, 101, 110, 101, 114, 97, 116, 101]⟩ : ByteArray) [.string (⟨#[103, 101, 110, 101, 114, 97, 116, 101]⟩ : ByteArray)] from rfl) (Bz.one (show Kd.M Kd.string _ _ _ (⟨#[105, 102]⟩ : ByteArray) [.string (⟨#[105, 102]⟩ : ByteArray)] from rfl) (Bz.one (show Kd.M Kd.string _ _ _ (⟨#[101, 108, 115, 101]⟩ : ByteArray) [.string (⟨#[101, 108, 115, 101]⟩ : ByteArray)] from rfl) (Bz.one (show Kd.M Kd.string _ _ _ (⟨#[116, 114, 97, 110, 115, 112, 111, 114, 116]⟩ : ByteArray) [.string (⟨#[116, 114, 97, 110, 115, 112, 111, 114, 116]⟩ : ByteArray)] from rfl) (Bz.one (show Kd.M Kd.string _ _ _ (⟨#[97, 102, 116, 101, 114]⟩ : ByteArray) [.string (⟨#[97, 102, 116, 101, 114]⟩ : ByteArray)] from rfl) (Bz.one (show Kd.M Kd.string _ _ _ (⟨#[97, 115, 115, 101, 114, 116]⟩ : ByteArray) [.string (⟨#[97, 115, 115, 101, 114, 116]⟩ : ByteArray)] from rfl) (Bz.one (show Kd.M Kd.string _ _ _ (⟨#[114, 101, 112, 111, 114, 116]⟩ : ByteArray) [.string (⟨#[114, 101, 112, 111, 114, 116]⟩ : ByteArray)] from rfl) (Bz.one (show Kd.M Kd.string _ _ _ (⟨#[116, 104, 101, 110]⟩ : ByteArray) [.string (⟨#[116, 104, 101, 110]⟩ : ByteArray)] from rfl) (Bz.one (show Kd.M Kd.string _ _ _ (⟨#[101, 108, 115, 105, 102]⟩ : ByteArray) [.string (⟨#[101, 108, 115, 105, 102]⟩ : ByteArray)] from rfl) (Bz.one (show Kd.M Kd.string _ _ _ (⟨#[99, 97, 115, 101]⟩ : ByteArray) [.string (⟨#[99, 97, 115, 101]⟩ : ByteArray)] from rfl) (Bz.one (show Kd.M Kd.string _ _ _ (⟨#[119, 104, 101, 110]⟩ : ByteArray) [.string (⟨#[119, 104, 101, 110]⟩ : ByteArray)] from rfl) (Bz.one (show Kd.M Kd.string _ _ _ (⟨#[111, 116, 104, 101, 114, 115]⟩ : ByteArray) [.string (⟨#[111, 116, 104, 101, 114, 115]⟩ : ByteArray)] from rfl) (Bz.one (show Kd.M Kd.string _ _ _ (⟨#[108, 111, 111, 112]⟩ : ByteArray) [.string (⟨#[108, 111, 111, 112]⟩ : ByteArray)] from rfl) (Bz.one (show Kd.M Kd.string _ _ _ (⟨#[119, 104, 105, 108, 101]⟩ : ByteArray) [.string (⟨#[119, 104, 105, 108, 101]⟩ : ByteArray)] from rfl) (Bz.one (show Kd.M Kd.string _ _ _ (⟨#[119, 97, 105, 116]⟩ : ByteArray) [.string (⟨#[119, 97, 105, 116]⟩ : ByteArray)] from rfl) (Bz.one (show Kd.M Kd.string _ _ _ (⟨#[111, 110]⟩ : ByteArray) [.string (⟨#[111, 110]⟩ : ByteArray)] from rfl) (Bz.one (show Kd.M Kd.string _ _ _ (⟨#[117, 110, 116, 105, 108]⟩ : ByteArray) [.string (⟨#[117, 110, 116, 105, 108]⟩ : ByteArray)] from rfl) (Bz.one (show Kd.M Kd.string _ _ _ (⟨#[110, 117, 108, 108]⟩ : ByteArray) [.string (⟨#[110, 117, 108, 108]⟩ : ByteArray)] from rfl) (Bz.one (show Kd.M Kd.string _ _ _ (⟨#[97, 110, 100]⟩ : ByteArray) [.string (⟨#[97, 110, 100]⟩ : ByteArray)] from rfl) (Bz.one (show Kd.M Kd.string _ _ _ (⟨#[111, 114]⟩ : ByteArray) [.string (⟨#[111, 114]⟩ : ByteArray)] from rfl) (Bz.one (show Kd.M Kd.string _ _ _ (⟨#[120, 111, 114]⟩ : ByteArray) [.string (⟨#[120, 111, 114]⟩ : ByteArray)] from rfl) (Bz.one (show Kd.M Kd.string _ _ _ (⟨#[110, 97, 110, 100]⟩ : ByteArray) [.string (⟨#[110, 97, 110, 100]⟩ : ByteArray)] from rfl) (Bz.one (show Kd.M Kd.string _ _ _ (⟨#[110, 111, 114]⟩ : ByteArray) [.string (⟨#[110, 111, 114]⟩ : ByteArray)] from rfl) (Bz.one (show Kd.M Kd.string _ _ _ (⟨#[120, 110, 111, 114]⟩ : ByteArray) [.string (⟨#[120, 110, 111, 114]⟩ : ByteArray)] from rfl) (Bz.one (show Kd.M Kd.string _ _ _ (⟨#[110, 111, 116]⟩ : ByteArray) [.string (⟨#[110, 111, 116]⟩ : ByteArray)] from rfl) (Bz.one (show Kd.M Kd.string _ _ _ (⟨#[109, 111, 100]⟩ : ByteArray) [.string (⟨#[109, 111, 100]⟩ : ByteArray)] from rfl) (Bz.one (show Kd.M Kd.string _ _ _ (⟨#[115, 104, 108]⟩ : ByteArray) [.string (⟨#[115, 104, 108]⟩ : ByteArray)] from rfl) (Bz.one (show Kd.M Kd.string _ _ _ (⟨#[115, 104, 114]⟩ : ByteArray) [.string (⟨#[115, 104, 114]⟩ : ByteArray)] from rfl) (Bz.one (show Kd.M Kd.string _ _ _ (⟨#[100, 111, 119, 110, 116, 111]⟩ : ByteArray) [.string (⟨#[100, 111, 119, 110, 116, 111]⟩ : ByteArray)] from rfl) (Bz.none _ _))))))))))))))))))))))))))))))))))))))))))))))))))))))); intro v164 w1 c n m i; clear m i; (first | rw [← b.out] at c | (simp only [Int.reduceToNat] at c; rw [← b.out] at c)); have g := mk0 (Kd.CF c (AP (be l))); replace l := kh l n; clear n c)
 go_ret
 exact ⟨_, rfl, CP g.out, be l⟩
def EU.f (k : Nat) (a0 : ByteArray) : Option (Bool) := (Et.f).bind fun a => ((Cq.f k a a0).bind fun b => (some b))
set_option maxHeartbeats 8000000 in
set_option maxRecDepth 100000 in
theorem EU.calls {k : Nat} {a0 : ByteArray} {r : Bool} {w : World} (h : EU.f k a0 = some r) :
  Calls Try.prog 79 #[.string a0] w fun e w' => e = .returned (.bool r) ∧ Below w.heap.size w w' := by
 have d := mk0 (Below.refl w.heap.size w)
 have H := h; unfold EU.f at H
 clear h
 replace H := bS H; obtain ⟨c, m, H⟩ := H
 replace H := bS H; obtain ⟨l, n, H⟩ := H; obtain rfl := sI H
 go_enter Try.func79, Try.ntmps79
 go_wp2_with (first | ((with_reducible refine AL (f := 92) rfl ?_); refine H9 Try.func92 #[] ?_; (with_reducible refine (Et.calls m.out).mono ?_); rintro e q ⟨v167, rfl, b, o⟩; refine ⟨_, rfl, ?_⟩; have a := mk0 (Kd.CF b (AP (be d))); replace d := kh d o; (try clear b); obtain ⟨g, i, j⟩ := Kd.Bg a.out; subst j) | ((with_reducible refine AL (f := 91) rfl ?_); refine H9 Try.func91 #[.slice g c.length i, .string a0] ?_; (with_reducible refine (Cq.calls ?side1 ?side2 n.out).mono ?_); (case side1 => repeat (first | exact (Kd.CZ a.out).2.2 | (with_reducible refine Kd.Cu ?_ _) | (with_reducible refine Kd.Cv ?_ _) | (with_reducible refine Kd.DN ?_))); (case side2 => exact (Kd.CZ a.out).2.1); rintro e w' ⟨rfl, ⟨p, rfl⟩⟩; refine ⟨_, rfl, ?_⟩))
 go_ret
 exact ⟨rfl, be d⟩
def Dl.f (k : Nat) (a0 : ByteArray) : Option (Bool) := if (a0.size : Int) ≥ 1 then (if (a0.size : Int) ≤ 40 then (if 0 < (a0.size : Int) then ((DX.f (bt a0 0)).bind fun a => (if a = true then ((Dw.f k a0 0 1).bind fun t171 => (if t171 = (a0.size : Int) then ((EU.f k a0).bind fun b => (some (!b))) else (some false))) else (some false))) else (none)) else (some false)) else (some false)
set_option maxHeartbeats 8000000 in
set_option maxRecDepth 100000 in
theorem Dl.calls {k : Nat} {a0 : ByteArray} {r : Bool} {w : World} (h : Dl.f k a0 = some r) :
  Calls Try.prog 66 #[.string a0] w fun e w' => e = .returned (.bool r) ∧ Below w.heap.size w w' := by
 have b := mk0 (Below.refl w.heap.size w)
 have H := h; unfold Dl.f at H
 clear h
 by_cases c2 : (a0.size : Int) ≥ 1
 rotate_left
 ·rw [if_neg c2] at H
  have c : decide (1 ≤ (a0.size : Int)) = false := decide_eq_false c2
  have d : decide (1 ≤ a0.size) = false := decide_eq_false (by omega)
  clear c2; obtain rfl := sI H
  go_enter Try.func66, Try.ntmps66
  go_wp2
  go_ret
  exact ⟨rfl, be b⟩
 rw [if_pos c2] at H; have c : decide (1 ≤ (a0.size : Int)) = true := decide_eq_true c2
 have d : decide (1 ≤ a0.size) = true := decide_eq_true (by omega)
 clear c2
 replace H := iD' H; obtain ⟨u, g, H⟩ | ⟨u, g, H⟩ := H
 ·have i : decide (a0.size ≤ 40) = false := decide_eq_false (by omega); clear u
  obtain rfl := sI H
  go_enter Try.func66, Try.ntmps66
  go_wp2
  go_ret
  exact ⟨rfl, be b⟩
 have i : decide (a0.size ≤ 40) = true := decide_eq_true (by omega)
 clear u
 replace H := iN H; obtain ⟨c4, x, H⟩ := H
 have y : decide (0 < a0.size) = true := decide_eq_true (by omega)
 clear c4
 replace H := bS H; obtain ⟨z, s, H⟩ := H
 replace H := iB' H; obtain ⟨rfl, H⟩ | ⟨rfl, H⟩ := H
 ·obtain rfl := sI H
  have n : 0 ≤ (0 : Int) := (by omega)
  have a : 0 < a0.size := (by have : (0 : Int) < (a0.size : Int) := of_decide_eq_true (by assumption); omega)
  have m : ∀ h : 0 < a0.size, ((a0[0]'h).toNat : Int) = bt a0 0 := Cy a0 0
  clear n
  have o : (0 < (a0.size : Int)) = True := eq_true (of_decide_eq_true (by assumption))
  replace a := eq_true a
  go_enter Try.func66, Try.ntmps66
  go_wp2_with (go_at_call 77; refine (DX.calls s.out).mono ?_; rintro e w' ⟨rfl, ⟨p, rfl⟩⟩)
  go_ret
  exact ⟨rfl, be b⟩
 replace H := bS H; obtain ⟨t171, v, H⟩ := H
 replace H := iE' H; obtain ⟨I, j, l, H⟩ | ⟨j, l, H⟩ := H
 ·obtain rfl := sI H
  have n : 0 ≤ (0 : Int) := (by omega)
  have a : 0 < a0.size := (by have : (0 : Int) < (a0.size : Int) := of_decide_eq_true (by assumption); omega)
  have m : ∀ h : 0 < a0.size, ((a0[0]'h).toNat : Int) = bt a0 0 := Cy a0 0
  clear n
  have o : (0 < (a0.size : Int)) = True := eq_true (of_decide_eq_true (by assumption))
  replace a := eq_true a
  go_enter Try.func66, Try.ntmps66
  go_wp2_with (first | (go_at_call 77; refine (DX.calls s.out).mono ?_; rintro e w' ⟨rfl, ⟨p, rfl⟩⟩) | (go_at_call 78; refine (Dw.calls v.out).mono ?_; rintro e w' ⟨rfl, ⟨p, rfl⟩⟩))
  go_ret
  exact ⟨rfl, be b⟩
 replace H := bS H; obtain ⟨B, q, H⟩ := H; obtain rfl := sI H
 have n : 0 ≤ (0 : Int) := (by omega)
 have a : 0 < a0.size := (by have : (0 : Int) < (a0.size : Int) := of_decide_eq_true (by assumption); omega)
 have m : ∀ h : 0 < a0.size, ((a0[0]'h).toNat : Int) = bt a0 0 := Cy a0 0
 clear n
 have o : (0 < (a0.size : Int)) = True := eq_true (of_decide_eq_true (by assumption))
 replace a := eq_true a
 go_enter Try.func66, Try.ntmps66
 go_wp2_with (first | (go_at_call 77; refine (DX.calls s.out).mono ?_; rintro e w' ⟨rfl, ⟨p, rfl⟩⟩) | (go_at_call 78; refine (Dw.calls v.out).mono ?_; rintro e w' ⟨rfl, ⟨p, rfl⟩⟩) | (go_at_call 79; refine (EU.calls q.out).mono ?_; rintro e G ⟨rfl, D⟩; replace b := kh b D))
 go_ret
 exact ⟨rfl, be b⟩
end Go.Proofs.Ytojankgmedccdaa.PIs
