/- Lemmas. -/
import Derived.Test.YtojankgmedccdaaProg
import Derived.Test.YtojankgmedccdaaYNW0
section
namespace Go.Proofs.Ytojankgmedccdaa.Wo
set_option linter.unusedVariables false
open Go.ChangeShapes Go.WideShapes Go.RowKit
namespace Kd
section
variable {P : Program} {ops : Array Oper} {rest : List Oper} {o : Oper} {a : Act} {Q : Exit → Act → World → Prop} {α : Type}
theorem Ll (d : Kd α) {w0 W : World} (base e : Nat) (s : o.guard = none) {N : Tmp} (_hd : o.dst = some N) (t : TypeId) (x y : Operand) (ho : o.op = .makeSlice t x y) (n : Int) (T : a.eval x = .int .i64 0) (U : a.eval y = .int .i64 n)
    (O : P.underlying t = some (.slice e)) (z : Value) (bytes : Nat) (j : (P.info? e).map (fun i => (i.zero, i.size, i.bytes)) = some (some z, d.sz, bytes)) (X : z.cells.size = d.sz) (L : 0 < d.sz) (r : 0 < bytes)
    (z0 : α) {ok okp : Nat → Prop} (_hzero : d.M W base okp z0 z.cells.toList) (_hok : ∀ k, okp k → ok k) (g : ok W.heap.size) (G : 0 ≤ n) (B : n.toNat * bytes ≤ 281474976710656) (D : Below base w0 W) (c : base ≤ W.heap.size)
    (h : ∀ v1 w1, d.R e w1 base ok v1 ([] : List α) → Below base w0 w1 → W.grownBy w1 none → (∃ b, v1.ownBlock = some b ∧ W.heap.size ≤ b) → wpList P ops Q rest (a.put o.dst v1) w1) : wpList P ops Q (o :: rest) a W := by
  obtain ⟨m, rfl⟩ := Int.eq_ofNat_of_zero_le G; simp only [Int.toNat_natCast] at B; obtain ⟨i0, hi, p⟩ := Option.map_eq_some_iff.1 j; simp only [Prod.mk.injEq] at p; obtain ⟨u, v, w⟩ := p; have hm : m ≤ 281474976710656 := Nat.le_trans (Nat.le_mul_of_pos_right _ r) B; have hr := run_make (P := P) W t e i0 z O hi u .i64 .i64 (0 : Int) (m : Int) (by omega) (by omega)
    (by
      have q : ((i0.bytes * m : Nat) : Int) ≤ 281474976710656 := by rw [w, Nat.mul_comm]; omega
      rwa [Int.natCast_mul] at q) (by omega)
  simp only [Int.toNat_natCast, Int.toNat_zero] at hr; rw [v] at hr; have l : (execOp a.eval o).run P W = .ok (.value (.slice (some ⟨W.heap.size, 0, none⟩) 0 m)) (W.alloc (.cells (madeCells z.cells (m * d.sz)) e)) := by
    simp [execOp, ho, T, U, hr]
  refine IP s l (h _ _ ⟨fun k J => ?_, [], ?_, ?_⟩ (D.alloc c _) (World.grownBy_alloc W _ none) ⟨W.heap.size, by simp [Value.ownBlock], Nat.le_refl _⟩)
  · have : W.heap.size = k := by simpa [Value.ownBlock] using J
    subst this; exact g
  · have I := World.ownsRow_lit (base := base) (e := e) (size := d.sz) W (madeCells z.cells (m * d.sz)) m c (by show m ≤ 9223372036854775807; omega) (by simp [size_madeCells]); have q := M6 I (Nat.zero_le m); simpa using q
  · exact CK.none _ _
theorem Om (d : Kd α) {w0 W : World} (base e : Nat) (s : o.guard = none) {N' : Tmp} (hd : o.dst = some N') (t : TypeId) (x y : Operand) (ho : o.op = .makeSlice t x y) (n : Int) (O : a.eval x = .int .i64 0) (w : a.eval y = .int .i64 n)
    (L : P.underlying t = some (.slice e)) (z : Value) (bytes : Nat) (m : (P.info? e).map (fun i => (i.zero, i.size, i.bytes)) = some (some z, d.sz, bytes)) (T : z.cells.size = d.sz) (v : 0 < d.sz) (r : 0 < bytes)
    (z0 : α) {ok okp : Nat → Prop} (p : FK d W okp z0 z.cells.toList) (u : ∀ k, okp k → ok k) (g : ok W.heap.size) (D : 0 ≤ n) (J : n.toNat * bytes ≤ 281474976710656) (B : Below base w0 W) (l : base ≤ W.heap.size)
    (h : ∀ v1 w1, N d e w1 base ok v1 ([] : List α) → Below base w0 w1 → W.grownBy w1 none → (∃ b, v1.ownBlock = some b ∧ W.heap.size ≤ b) → wpList P ops Q rest (a.put o.dst v1) w1) :
    wpList P ops Q (o :: rest) a W := by
  refine Ll (raw d.sz) base e s hd t x y ho n O w L z bytes m T v r z.cells.toList (ok := fun k => k = W.heap.size) (okp := fun _ => False) (K7 p) (fun _ I => I.elim) rfl D J B l ?_; intro v1 w1 hr G hg q; exact h v1 w1 (NI hr hg q rfl (fun j y c w U => by cases w) u g) G hg q
end
end Kd
end Go.Proofs.Ytojankgmedccdaa.Wo
namespace Go.Proofs.Ytojankgmedccdaa.Own
open Go.RowKit Wo
def EP (w : World) : Prop := ∃ m, w.cell? ⟨0, 0, none⟩ = some (.int .i64 m)
theorem Aa {w W : World} (h : EP w) (a : Below w.heap.size w W) : EP W := by
  obtain ⟨m, hm⟩ := h; exact ⟨m, (a.cell (World.block_lt_of_cell? w _ hm)).trans hm⟩
theorem LC {w : World} (h : EP w) (n : Nat) : EP (w.drewN n) := h
theorem MG {w : World} (h : EP w) : EP w.drew := h
end Go.Proofs.Ytojankgmedccdaa.Own
end
section
namespace Go.Proofs.Ytojankgmedccdaa.Own
open Go.RowKit Wo
section
variable {w : World} {g : Nat} {t : TypeId} {a b c d e f : Value}
theorem Ay (h : w.heap[g]? = some (.cells #[a, b, c, d] t (0, 0))) : w.cell? ⟨g, 0, none⟩ = some a ∧ w.cell? ⟨g, 1, none⟩ = some b ∧ w.cell? ⟨g, 2, none⟩ = some c ∧ w.cell? ⟨g, 3, none⟩ = some d ∧ w.frozen? ⟨g, 0, none⟩ = false ∧ w.frozen? ⟨g, 1, none⟩ = false ∧ w.frozen? ⟨g, 2, none⟩ = false ∧ w.frozen? ⟨g, 3, none⟩ = false :=
  ⟨(Af h 0).trans rfl, (Af h 1).trans rfl, (Af h 2).trans rfl, (Af h 3).trans rfl, AY h 0, AY h 1, AY h 2, AY h 3⟩
theorem cells5 (h : w.heap[g]? = some (.cells #[a, b, c, d, e] t (0, 0))) : w.cell? ⟨g, 0, none⟩ = some a ∧ w.cell? ⟨g, 1, none⟩ = some b ∧ w.cell? ⟨g, 2, none⟩ = some c ∧ w.cell? ⟨g, 3, none⟩ = some d ∧ w.cell? ⟨g, 4, none⟩ = some e ∧ w.frozen? ⟨g, 0, none⟩ = false ∧ w.frozen? ⟨g, 1, none⟩ = false ∧ w.frozen? ⟨g, 2, none⟩ = false ∧ w.frozen? ⟨g, 3, none⟩ = false ∧ w.frozen? ⟨g, 4, none⟩ = false :=
  ⟨(Af h 0).trans rfl, (Af h 1).trans rfl, (Af h 2).trans rfl, (Af h 3).trans rfl, (Af h 4).trans rfl, AY h 0, AY h 1, AY h 2, AY h 3, AY h 4⟩
end
class Up (w W : World) : Prop where
  up : Below w.heap.size w W
instance up0 (w : World) : Up w w := ⟨Below.refl _ _⟩
instance up1 {w W : World} [h : Up w W] (o : Obj) : Up w (W.alloc o) := ⟨AR h.up o⟩
instance up2 {w W : World} [h : Up w W] (n : Nat) : Up w (W.drewN n) := ⟨Ag h.up n⟩
instance up3 {w W : World} [h : Up w W] : Up w W.drew := ⟨Ad h.up⟩
theorem Au {w W : World} {g : Nat} {o : Obj} (h : w.heap[g]? = some o) [u : Up w W] : W.heap[g]? = some o := AX h u.up
theorem bel {w0 w W : World} (h : Below w0.heap.size w0 w) [u : Up w W] : Below w0.heap.size w0 W := Aj h u.up
section
variable {α : Type} {d : Kd α}
theorem Cr {w W : World} {A : Option Addr} {n : Nat} {xs : List α} (h : d.C w A n xs) [u : Up w W] : d.C W A n xs := Kd.Ap h u.up
theorem Dc {w W : World} {e base : Nat} {ok : Nat → Prop} {v : Value} {xs : List α} (h : d.R e w base ok v xs) [u : Up w W] : d.R e W base ok v xs := Kd.ET h u.up
end
class Up1 (g1 : Nat) (w W : World) : Prop where
  up : ∀ w0 : World, Below w0.heap.size w0 w → w0.heap.size ≤ g1 → Below w0.heap.size w0 W
instance Ra {g1 : Nat} (w : World) : Up1 g1 w w := ⟨fun _ h _ => h⟩
instance Rb {g1 : Nat} {w W : World} [h : Up1 g1 w W] (o : Obj) : Up1 g1 w (W.alloc o) := ⟨fun w0 a h1 => AR (h.up w0 a h1) o⟩
instance Rc {g1 : Nat} {w W : World} [h : Up1 g1 w W] (n : Nat) : Up1 g1 w (W.drewN n) := ⟨fun w0 a h1 => Ag (h.up w0 a h1) n⟩
instance Re {g1 : Nat} {w W : World} [h : Up1 g1 w W] : Up1 g1 w W.drew := ⟨fun w0 a h1 => Ad (h.up w0 a h1)⟩
instance Qd {g1 : Nat} {w W : World} [h : Up1 g1 w W] (j : Nat) (v : Value) : Up1 g1 w (W.setCell ⟨g1, j, none⟩ v) := ⟨fun w0 a h1 => Ae (h.up w0 a h1) h1⟩
theorem P9 {w0 w W : World} {g1 : Nat} (h : Below w0.heap.size w0 w) (h1 : w0.heap.size ≤ g1) [u : Up1 g1 w W] : Below w0.heap.size w0 W := u.up w0 h h1
class Up2 (g1 g2 : Nat) (w W : World) : Prop where
  up : ∀ w0 : World, Below w0.heap.size w0 w → w0.heap.size ≤ g1 → w0.heap.size ≤ g2 → Below w0.heap.size w0 W
instance Rf {g1 g2 : Nat} (w : World) : Up2 g1 g2 w w := ⟨fun _ h _ _ => h⟩
instance Rh {g1 g2 : Nat} {w W : World} [h : Up2 g1 g2 w W] (o : Obj) : Up2 g1 g2 w (W.alloc o) := ⟨fun w0 b h1 a => AR (h.up w0 b h1 a) o⟩
instance Ri {g1 g2 : Nat} {w W : World} [h : Up2 g1 g2 w W] (n : Nat) : Up2 g1 g2 w (W.drewN n) := ⟨fun w0 b h1 a => Ag (h.up w0 b h1 a) n⟩
instance Rj {g1 g2 : Nat} {w W : World} [h : Up2 g1 g2 w W] : Up2 g1 g2 w W.drew := ⟨fun w0 b h1 a => Ad (h.up w0 b h1 a)⟩
instance Qe {g1 g2 : Nat} {w W : World} [h : Up2 g1 g2 w W] (j : Nat) (v : Value) : Up2 g1 g2 w (W.setCell ⟨g1, j, none⟩ v) := ⟨fun w0 b h1 a => Ae (h.up w0 b h1 a) h1⟩
instance Qf {g1 g2 : Nat} {w W : World} [h : Up2 g1 g2 w W] (j : Nat) (v : Value) : Up2 g1 g2 w (W.setCell ⟨g2, j, none⟩ v) := ⟨fun w0 b h1 a => Ae (h.up w0 b h1 a) a⟩
theorem QA {w0 w W : World} {g1 g2 : Nat} (h : Below w0.heap.size w0 w) (h1 : w0.heap.size ≤ g1) (a : w0.heap.size ≤ g2) [u : Up2 g1 g2 w W] : Below w0.heap.size w0 W := u.up w0 h h1 a
class Up3 (g1 g2 g3 : Nat) (w W : World) : Prop where
  up : ∀ w0 : World, Below w0.heap.size w0 w → w0.heap.size ≤ g1 → w0.heap.size ≤ g2 → w0.heap.size ≤ g3 → Below w0.heap.size w0 W
instance Rk {g1 g2 g3 : Nat} (w : World) : Up3 g1 g2 g3 w w := ⟨fun _ h _ _ _ => h⟩
instance Rl {g1 g2 g3 : Nat} {w W : World} [h : Up3 g1 g2 g3 w W] (o : Obj) : Up3 g1 g2 g3 w (W.alloc o) := ⟨fun w0 c h1 a b => AR (h.up w0 c h1 a b) o⟩
instance Rm {g1 g2 g3 : Nat} {w W : World} [h : Up3 g1 g2 g3 w W] (n : Nat) : Up3 g1 g2 g3 w (W.drewN n) := ⟨fun w0 c h1 a b => Ag (h.up w0 c h1 a b) n⟩
instance Rn {g1 g2 g3 : Nat} {w W : World} [h : Up3 g1 g2 g3 w W] : Up3 g1 g2 g3 w W.drew := ⟨fun w0 c h1 a b => Ad (h.up w0 c h1 a b)⟩
instance Qg {g1 g2 g3 : Nat} {w W : World} [h : Up3 g1 g2 g3 w W] (j : Nat) (v : Value) : Up3 g1 g2 g3 w (W.setCell ⟨g1, j, none⟩ v) := ⟨fun w0 c h1 a b => Ae (h.up w0 c h1 a b) h1⟩
instance Qh {g1 g2 g3 : Nat} {w W : World} [h : Up3 g1 g2 g3 w W] (j : Nat) (v : Value) : Up3 g1 g2 g3 w (W.setCell ⟨g2, j, none⟩ v) := ⟨fun w0 c h1 a b => Ae (h.up w0 c h1 a b) a⟩
instance Qi {g1 g2 g3 : Nat} {w W : World} [h : Up3 g1 g2 g3 w W] (j : Nat) (v : Value) : Up3 g1 g2 g3 w (W.setCell ⟨g3, j, none⟩ v) := ⟨fun w0 c h1 b a => Ae (h.up w0 c h1 b a) a⟩
theorem QB {w0 w W : World} {g1 g2 g3 : Nat} (h : Below w0.heap.size w0 w) (h1 : w0.heap.size ≤ g1) (a : w0.heap.size ≤ g2) (b : w0.heap.size ≤ g3) [u : Up3 g1 g2 g3 w W] : Below w0.heap.size w0 W := u.up w0 h h1 a b
class Up4 (g1 g2 g3 g4 : Nat) (w W : World) : Prop where
  up : ∀ w0 : World, Below w0.heap.size w0 w → w0.heap.size ≤ g1 → w0.heap.size ≤ g2 → w0.heap.size ≤ g3 → w0.heap.size ≤ g4 → Below w0.heap.size w0 W
instance Ro {g1 g2 g3 g4 : Nat} (w : World) : Up4 g1 g2 g3 g4 w w := ⟨fun _ h _ _ _ _ => h⟩
instance Rp {g1 g2 g3 g4 : Nat} {w W : World} [h : Up4 g1 g2 g3 g4 w W] (o : Obj) : Up4 g1 g2 g3 g4 w (W.alloc o) := ⟨fun w0 d h1 a b c => AR (h.up w0 d h1 a b c) o⟩
instance Rq {g1 g2 g3 g4 : Nat} {w W : World} [h : Up4 g1 g2 g3 g4 w W] (n : Nat) : Up4 g1 g2 g3 g4 w (W.drewN n) := ⟨fun w0 d h1 a b c => Ag (h.up w0 d h1 a b c) n⟩
instance Rs {g1 g2 g3 g4 : Nat} {w W : World} [h : Up4 g1 g2 g3 g4 w W] : Up4 g1 g2 g3 g4 w W.drew := ⟨fun w0 d h1 a b c => Ad (h.up w0 d h1 a b c)⟩
instance Qj {g1 g2 g3 g4 : Nat} {w W : World} [h : Up4 g1 g2 g3 g4 w W] (j : Nat) (v : Value) : Up4 g1 g2 g3 g4 w (W.setCell ⟨g1, j, none⟩ v) := ⟨fun w0 d h1 a b c => Ae (h.up w0 d h1 a b c) h1⟩
instance Qk {g1 g2 g3 g4 : Nat} {w W : World} [h : Up4 g1 g2 g3 g4 w W] (j : Nat) (v : Value) : Up4 g1 g2 g3 g4 w (W.setCell ⟨g2, j, none⟩ v) := ⟨fun w0 d h1 a b c => Ae (h.up w0 d h1 a b c) a⟩
instance Ql {g1 g2 g3 g4 : Nat} {w W : World} [h : Up4 g1 g2 g3 g4 w W] (j : Nat) (v : Value) : Up4 g1 g2 g3 g4 w (W.setCell ⟨g3, j, none⟩ v) := ⟨fun w0 d h1 b a c => Ae (h.up w0 d h1 b a c) a⟩
instance Qm {g1 g2 g3 g4 : Nat} {w W : World} [h : Up4 g1 g2 g3 g4 w W] (j : Nat) (v : Value) : Up4 g1 g2 g3 g4 w (W.setCell ⟨g4, j, none⟩ v) := ⟨fun w0 d h1 b c a => Ae (h.up w0 d h1 b c a) a⟩
theorem QC {w0 w W : World} {g1 g2 g3 g4 : Nat} (h : Below w0.heap.size w0 w) (h1 : w0.heap.size ≤ g1) (a : w0.heap.size ≤ g2) (b : w0.heap.size ≤ g3) (c : w0.heap.size ≤ g4) [u : Up4 g1 g2 g3 g4 w W] : Below w0.heap.size w0 W := u.up w0 h h1 a b c
section
variable {α : Type} {d : Kd α}
theorem Bd {w W : World} {e base : Nat} {ok : Nat → Prop} {v : Value} {xs : List α} (h : Kd.V d e w base ok v xs) [u : Up w W] : Kd.V d e W base ok v xs := Kd.Bl h u.up
theorem Dw {w W : World} {e base : Nat} {ok : Nat → Prop} {v : Value} {xs : List α} (h : Kd.N d e w base ok v xs) [u : Up w W] : Kd.N d e W base ok v xs := Kd.DY h u.up
end
end Go.Proofs.Ytojankgmedccdaa.Own
end
section
namespace Go.Proofs.Ytojankgmedccdaa.Own
open Go.RowKit Wo
class Pl (W : World) (w : outParam World) : Prop where
  up : Below w.heap.size w W
instance (priority := low) pl0 (w : World) : Pl w w := ⟨Below.refl _ _⟩
instance pl1 {w W : World} [h : Pl W w] (o : Obj) : Pl (W.alloc o) w := ⟨AR h.up o⟩
instance pl2 {w W : World} [h : Pl W w] (n : Nat) : Pl (W.drewN n) w := ⟨Ag h.up n⟩
instance pl3 {w W : World} [h : Pl W w] : Pl W.drew w := ⟨Ad h.up⟩
theorem De {w W : World} [u : Pl W w] {g : Nat} {o : Obj} (h : w.heap[g]? = some o) : W.heap[g]? = some o := AX h u.up
theorem AP {w W : World} {p : Addr} {v : Value} (a : Below w.heap.size w W) (h : w.cell? p = some v) : W.cell? p = some v := (a.cell (World.block_lt_of_cell? w _ h)).trans h
theorem ps : (∀ (a : Act) (d : Option Tmp) (v : Value), a.put d v = (match d with | some t => { a with tmps := a.tmps.setIfInBounds t v } | none => a)) ∧ (∀ (l : List Value) (i : Nat) (a : Value), l.toArray.setIfInBounds i a = (l.set i a).toArray) ∧ (∀ (a b : Value) (l : List Value), (a :: l).set 0 b = b :: l) ∧ (∀ (a b : Value) (n : Nat) (l : List Value), (a :: l).set (n + 1) b = a :: l.set n b) ∧ (∀ n : Int, IntKind.i64.wrap n = wrap64 n) ∧ (∀ n : Int, IntKind.i32.wrap n = wrap32 n) :=
  ⟨fun a d v => by cases d <;> rfl, fun l i a => List.setIfInBounds_toArray .., fun a b l => rfl, fun a b n l => rfl, Bw, DI⟩
section
variable {α : Type} {d : Kd α} {w W : World} {e base : Nat} {ok : Nat → Prop} {v : Value} {xs : List α}
theorem Dx [u : Pl W w] (h : d.R e w base ok v xs) : d.R e W base ok v xs := Kd.ET h u.up
theorem BG [u : Pl W w] (h : Kd.V d e w base ok v xs) : Kd.V d e W base ok v xs := Kd.Bl h u.up
theorem DU [u : Pl W w] (h : Kd.N d e w base ok v xs) : Kd.N d e W base ok v xs := Kd.DY h u.up
end
end Go.Proofs.Ytojankgmedccdaa.Own
end
section
namespace Go.Proofs.Ytojankgmedccdaa.Own
open Go.RowKit Wo
section
variable {α β : Type} {x y : Option β} {r : β}
theorem sI {a : β} (h : some a = some r) : a = r := Option.some.inj h
theorem bS {o : Option α} {f : α → Option β} (h : o.bind f = some r) : ∃ t, Aside0 (o = some t) ∧ f t = some r := by
  obtain ⟨t, a, b⟩ := Option.bind_eq_some_iff.mp h; exact ⟨t, ⟨a⟩, b⟩
theorem iB {t : Bool} (h : (if t = true then x else y) = some r) : (t = true ∧ x = some r) ∨ (t = false ∧ y = some r) := by
  cases t
  · exact .inr ⟨rfl, by simpa using h⟩
  · exact .inl ⟨rfl, by simpa using h⟩
theorem iB' {t : Bool} (h : (if t = true then x else y) = some r) : (t = false ∧ y = some r) ∨ (t = true ∧ x = some r) := (iB h).symm
theorem iE [BEq α] [LawfulBEq α] {a b : α} {d : Decidable (a = b)} (h : (if a = b then x else y) = some r) : ((a == b) = true ∧ (a != b) = false ∧ x = some r) ∨ (¬ a = b ∧ (a == b) = false ∧ (a != b) = true ∧ y = some r) := by
  by_cases c : a = b
  · rw [if_pos c] at h; exact .inl ⟨beq_iff_eq.mpr c, bne_eq_false_iff_eq.mpr c, h⟩
  · rw [if_neg c] at h; exact .inr ⟨c, beq_eq_false_iff_ne.mpr c, bne_iff_ne.mpr c, h⟩
theorem iE' [BEq α] [LawfulBEq α] {a b : α} {d : Decidable (a = b)} (h : (if a = b then x else y) = some r) : (¬ a = b ∧ (a == b) = false ∧ (a != b) = true ∧ y = some r) ∨ ((a == b) = true ∧ (a != b) = false ∧ x = some r) := (iE h).symm
theorem iF [BEq α] [LawfulBEq α] {a b : α} {d : Decidable (a = b)} (h : (if a = b then x else y) = some r) : (a = b ∧ (a == b) = true ∧ (a != b) = false ∧ x = some r) ∨ (¬ a = b ∧ (a == b) = false ∧ (a != b) = true ∧ y = some r) := by
  by_cases c : a = b
  · rw [if_pos c] at h; exact .inl ⟨c, beq_iff_eq.mpr c, bne_eq_false_iff_eq.mpr c, h⟩
  · rw [if_neg c] at h; exact .inr ⟨c, beq_eq_false_iff_ne.mpr c, bne_iff_ne.mpr c, h⟩
theorem iF' [BEq α] [LawfulBEq α] {a b : α} {d : Decidable (a = b)} (h : (if a = b then x else y) = some r) : (¬ a = b ∧ (a == b) = false ∧ (a != b) = true ∧ y = some r) ∨ (a = b ∧ (a == b) = true ∧ (a != b) = false ∧ x = some r) := (iF h).symm
theorem iD {p : Prop} {d : Decidable p} (h : (if p then x else y) = some r) : (p ∧ decide p = true ∧ x = some r) ∨ (¬ p ∧ decide p = false ∧ y = some r) := by
  by_cases c : p
  · rw [if_pos c] at h; exact .inl ⟨c, decide_eq_true c, h⟩
  · rw [if_neg c] at h; exact .inr ⟨c, decide_eq_false c, h⟩
theorem iD' {p : Prop} {d : Decidable p} (h : (if p then x else y) = some r) : (¬ p ∧ decide p = false ∧ y = some r) ∨ (p ∧ decide p = true ∧ x = some r) := (iD h).symm
theorem iN {p : Prop} {d : Decidable p} (h : (if p then x else none) = some r) : p ∧ decide p = true ∧ x = some r := by
  by_cases c : p
  · rw [if_pos c] at h; exact ⟨c, decide_eq_true c, h⟩
  · rw [if_neg c] at h; cases h
end
section
variable {P : Program} {ops : Array Oper} {Q : Exit → Act → World → Prop} {rest : List Oper} {oi : Oper} {a : Act} {w : World}
theorem goB (N : Option Tmp) (hd : oi.dst = N) (hg : oi.guard = none) {f : FuncId} {fn : Func} {as_ : Array Operand} {ts : Array TypeId} (k : P.funcs[f]? = some fn) (c : (fn.name == "runtime.NumGoroutine") = false) (i : fn.body.isSome = true) (args : Array Value)
    (d : oi.op = .call { callee := .value (.func f), args := as_, argTypes := ts }) (b : as_.toList.map a.eval = args.toList) {v : Value} (j : Calls P f args w fun e w' => e = .returned v ∧ Below w.heap.size w w')
    (h : ∀ w', Below w.heap.size w w' → wpList P ops Q rest (a.put N v) w') : wpList P ops Q (oi :: rest) a w :=
  K6 N hd hg k c i args d (by cases as_; cases args; simp only [List.map_toArray]; exact congrArg _ b) (j.mono fun e w' g => ⟨v, g.1, h w' g.2⟩)
theorem goD (N : Option Tmp) (hd : oi.dst = N) (hg : oi.guard = none) {f : FuncId} {fn : Func} {as_ : Array Operand} {ts : Array TypeId} (k : P.funcs[f]? = some fn) (c : (fn.name == "runtime.NumGoroutine") = false) (i : fn.body.isSome = true) (args : Array Value)
    (d : oi.op = .call { callee := .value (.func f), args := as_, argTypes := ts }) (b : as_.toList.map a.eval = args.toList) {v : Value} (j : Calls P f args w fun e w' => e = .returned v ∧ Ar w w')
    (h : ∀ n, wpList P ops Q rest (a.put N v) (w.drewN n)) : wpList P ops Q (oi :: rest) a w :=
  K6 N hd hg k c i args d (by cases as_; cases args; simp only [List.map_toArray]; exact congrArg _ b) (j.mono fun e w' g => ⟨v, g.1, by obtain ⟨n, rfl⟩ := g.2; exact h n⟩)
end
section
variable {w0 w W W' : World} {g g1 g2 g3 g4 : Nat} {o : Obj}
theorem kb (h : Aside0 (w.heap[g]? = some o)) (a : Below W.heap.size W W') [Up w W] : Aside0 (W'.heap[g]? = some o) := ⟨AX (Au h.out) a⟩
theorem kh (h : Aside0 (Below w0.heap.size w0 w)) (a : Below W.heap.size W W') [Up w W] : Aside0 (Below w0.heap.size w0 W') := ⟨Aj (bel h.out) a⟩
theorem kh1 (h : Aside0 (Below w0.heap.size w0 w)) (h1 : Aside0 (w0.heap.size ≤ g1)) (a : Below W.heap.size W W') [Up1 g1 w W] : Aside0 (Below w0.heap.size w0 W') := ⟨Aj (P9 h.out h1.out) a⟩
theorem kh2 (h : Aside0 (Below w0.heap.size w0 w)) (h1 : Aside0 (w0.heap.size ≤ g1)) (a : Aside0 (w0.heap.size ≤ g2)) (b : Below W.heap.size W W') [Up2 g1 g2 w W] : Aside0 (Below w0.heap.size w0 W') := ⟨Aj (QA h.out h1.out a.out) b⟩
theorem kh3 (h : Aside0 (Below w0.heap.size w0 w)) (h1 : Aside0 (w0.heap.size ≤ g1)) (a : Aside0 (w0.heap.size ≤ g2)) (b : Aside0 (w0.heap.size ≤ g3)) (c : Below W.heap.size W W') [Up3 g1 g2 g3 w W] : Aside0 (Below w0.heap.size w0 W') := ⟨Aj (QB h.out h1.out a.out b.out) c⟩
theorem kh4 (h : Aside0 (Below w0.heap.size w0 w)) (h1 : Aside0 (w0.heap.size ≤ g1)) (a : Aside0 (w0.heap.size ≤ g2)) (b : Aside0 (w0.heap.size ≤ g3)) (c : Aside0 (w0.heap.size ≤ g4)) (d : Below W.heap.size W W') [Up4 g1 g2 g3 g4 w W] : Aside0 (Below w0.heap.size w0 W') := ⟨Aj (QC h.out h1.out a.out b.out c.out) d⟩
theorem be (h : Aside0 (Below w0.heap.size w0 w)) [Up w W] : Below w0.heap.size w0 W := bel h.out
theorem be1 (h : Aside0 (Below w0.heap.size w0 w)) (h1 : Aside0 (w0.heap.size ≤ g1)) [Up1 g1 w W] : Below w0.heap.size w0 W := P9 h.out h1.out
theorem be2 (h : Aside0 (Below w0.heap.size w0 w)) (h1 : Aside0 (w0.heap.size ≤ g1)) (a : Aside0 (w0.heap.size ≤ g2)) [Up2 g1 g2 w W] : Below w0.heap.size w0 W := QA h.out h1.out a.out
theorem be3 (h : Aside0 (Below w0.heap.size w0 w)) (h1 : Aside0 (w0.heap.size ≤ g1)) (a : Aside0 (w0.heap.size ≤ g2)) (b : Aside0 (w0.heap.size ≤ g3)) [Up3 g1 g2 g3 w W] : Below w0.heap.size w0 W := QB h.out h1.out a.out b.out
theorem be4 (h : Aside0 (Below w0.heap.size w0 w)) (h1 : Aside0 (w0.heap.size ≤ g1)) (a : Aside0 (w0.heap.size ≤ g2)) (b : Aside0 (w0.heap.size ≤ g3)) (c : Aside0 (w0.heap.size ≤ g4)) [Up4 g1 g2 g3 g4 w W] : Below w0.heap.size w0 W := QC h.out h1.out a.out b.out c.out
theorem bu (h : Aside0 (w.heap[g]? = some o)) [Up w W] : W.heap[g]? = some o := Au h.out
theorem bs (h : Below w0.heap.size w0 W) (hg : g = W.heap.size) : Aside0 (w0.heap.size ≤ g) := ⟨by rw [hg]; exact AU h⟩
theorem nb1 (h : W.heap[g]? = some o) (hg : g1 = W.heap.size) : Aside0 (g ≠ g1) := ⟨by rw [hg]; exact Nat.ne_of_lt (Eb h)⟩
theorem nb2 (h : W.heap[g]? = some o) (hg : g1 = W.heap.size) : Aside0 (g1 ≠ g) := ⟨by rw [hg]; exact Nat.ne_of_gt (Eb h)⟩
theorem cu {α : Type} {d : Kd α} {A : Option Addr} {n : Nat} {xs : List α} (h : Aside0 (d.C w0 A n xs)) (a : Aside0 (Below w0.heap.size w0 w)) [Up w W] : d.C W A n xs := Cr (Kd.Ap h.out a.out)
end
class Up5 (g1 g2 g3 g4 g5 : Nat) (w W : World) : Prop where
  up : ∀ w0 : World, Below w0.heap.size w0 w → w0.heap.size ≤ g1 → w0.heap.size ≤ g2 → w0.heap.size ≤ g3 → w0.heap.size ≤ g4 → w0.heap.size ≤ g5 → Below w0.heap.size w0 W
section
variable {g1 g2 g3 g4 g5 : Nat}
instance Rt (w : World) : Up5 g1 g2 g3 g4 g5 w w := ⟨fun _ h _ _ _ _ _ => h⟩
instance Ru {w W : World} [h : Up5 g1 g2 g3 g4 g5 w W] (o : Obj) : Up5 g1 g2 g3 g4 g5 w (W.alloc o) := ⟨fun w0 e h1 a b c d => AR (h.up w0 e h1 a b c d) o⟩
instance Rv {w W : World} [h : Up5 g1 g2 g3 g4 g5 w W] (n : Nat) : Up5 g1 g2 g3 g4 g5 w (W.drewN n) := ⟨fun w0 e h1 a b c d => Ag (h.up w0 e h1 a b c d) n⟩
instance Rw {w W : World} [h : Up5 g1 g2 g3 g4 g5 w W] : Up5 g1 g2 g3 g4 g5 w W.drew := ⟨fun w0 e h1 a b c d => Ad (h.up w0 e h1 a b c d)⟩
instance Qn {w W : World} [h : Up5 g1 g2 g3 g4 g5 w W] (j : Nat) (v : Value) : Up5 g1 g2 g3 g4 g5 w (W.setCell ⟨g1, j, none⟩ v) := ⟨fun w0 e h1 a b c d => Ae (h.up w0 e h1 a b c d) h1⟩
instance Qo {w W : World} [h : Up5 g1 g2 g3 g4 g5 w W] (j : Nat) (v : Value) : Up5 g1 g2 g3 g4 g5 w (W.setCell ⟨g2, j, none⟩ v) := ⟨fun w0 e h1 a b c d => Ae (h.up w0 e h1 a b c d) a⟩
instance Qp {w W : World} [h : Up5 g1 g2 g3 g4 g5 w W] (j : Nat) (v : Value) : Up5 g1 g2 g3 g4 g5 w (W.setCell ⟨g3, j, none⟩ v) := ⟨fun w0 e h1 b a c d => Ae (h.up w0 e h1 b a c d) a⟩
instance Qq {w W : World} [h : Up5 g1 g2 g3 g4 g5 w W] (j : Nat) (v : Value) : Up5 g1 g2 g3 g4 g5 w (W.setCell ⟨g4, j, none⟩ v) := ⟨fun w0 e h1 b c a d => Ae (h.up w0 e h1 b c a d) a⟩
instance Qr {w W : World} [h : Up5 g1 g2 g3 g4 g5 w W] (j : Nat) (v : Value) : Up5 g1 g2 g3 g4 g5 w (W.setCell ⟨g5, j, none⟩ v) := ⟨fun w0 e h1 b c d a => Ae (h.up w0 e h1 b c d a) a⟩
theorem be5 {w0 w W : World} (h : Aside0 (Below w0.heap.size w0 w)) (h1 : Aside0 (w0.heap.size ≤ g1)) (a : Aside0 (w0.heap.size ≤ g2)) (b : Aside0 (w0.heap.size ≤ g3)) (c : Aside0 (w0.heap.size ≤ g4)) (d : Aside0 (w0.heap.size ≤ g5)) [u : Up5 g1 g2 g3 g4 g5 w W] : Below w0.heap.size w0 W := u.up w0 h.out h1.out a.out b.out c.out d.out
theorem kh5 {w0 w W W' : World} (h : Aside0 (Below w0.heap.size w0 w)) (h1 : Aside0 (w0.heap.size ≤ g1)) (a : Aside0 (w0.heap.size ≤ g2)) (b : Aside0 (w0.heap.size ≤ g3)) (c : Aside0 (w0.heap.size ≤ g4)) (d : Aside0 (w0.heap.size ≤ g5)) (e : Below W.heap.size W W') [u : Up5 g1 g2 g3 g4 g5 w W] : Aside0 (Below w0.heap.size w0 W') := ⟨Aj (u.up w0 h.out h1.out a.out b.out c.out d.out) e⟩
end
class Up6 (g1 g2 g3 g4 g5 g6 : Nat) (w W : World) : Prop where
  up : ∀ w0 : World, Below w0.heap.size w0 w → w0.heap.size ≤ g1 → w0.heap.size ≤ g2 → w0.heap.size ≤ g3 → w0.heap.size ≤ g4 → w0.heap.size ≤ g5 → w0.heap.size ≤ g6 → Below w0.heap.size w0 W
section
variable {g1 g2 g3 g4 g5 g6 : Nat}
instance Rx (w : World) : Up6 g1 g2 g3 g4 g5 g6 w w := ⟨fun _ h _ _ _ _ _ _ => h⟩
instance Ry {w W : World} [h : Up6 g1 g2 g3 g4 g5 g6 w W] (o : Obj) : Up6 g1 g2 g3 g4 g5 g6 w (W.alloc o) := ⟨fun w0 g h1 a b c d e => AR (h.up w0 g h1 a b c d e) o⟩
instance Rz {w W : World} [h : Up6 g1 g2 g3 g4 g5 g6 w W] (n : Nat) : Up6 g1 g2 g3 g4 g5 g6 w (W.drewN n) := ⟨fun w0 g h1 a b c d e => Ag (h.up w0 g h1 a b c d e) n⟩
instance R3 {w W : World} [h : Up6 g1 g2 g3 g4 g5 g6 w W] : Up6 g1 g2 g3 g4 g5 g6 w W.drew := ⟨fun w0 g h1 a b c d e => Ad (h.up w0 g h1 a b c d e)⟩
instance Qs {w W : World} [h : Up6 g1 g2 g3 g4 g5 g6 w W] (j : Nat) (v : Value) : Up6 g1 g2 g3 g4 g5 g6 w (W.setCell ⟨g1, j, none⟩ v) := ⟨fun w0 g h1 a b c d e => Ae (h.up w0 g h1 a b c d e) h1⟩
instance Qt {w W : World} [h : Up6 g1 g2 g3 g4 g5 g6 w W] (j : Nat) (v : Value) : Up6 g1 g2 g3 g4 g5 g6 w (W.setCell ⟨g2, j, none⟩ v) := ⟨fun w0 g h1 a b c d e => Ae (h.up w0 g h1 a b c d e) a⟩
instance Qu {w W : World} [h : Up6 g1 g2 g3 g4 g5 g6 w W] (j : Nat) (v : Value) : Up6 g1 g2 g3 g4 g5 g6 w (W.setCell ⟨g3, j, none⟩ v) := ⟨fun w0 g h1 b a c d e => Ae (h.up w0 g h1 b a c d e) a⟩
instance Qv {w W : World} [h : Up6 g1 g2 g3 g4 g5 g6 w W] (j : Nat) (v : Value) : Up6 g1 g2 g3 g4 g5 g6 w (W.setCell ⟨g4, j, none⟩ v) := ⟨fun w0 g h1 b c a d e => Ae (h.up w0 g h1 b c a d e) a⟩
instance Qw {w W : World} [h : Up6 g1 g2 g3 g4 g5 g6 w W] (j : Nat) (v : Value) : Up6 g1 g2 g3 g4 g5 g6 w (W.setCell ⟨g5, j, none⟩ v) := ⟨fun w0 g h1 b c d a e => Ae (h.up w0 g h1 b c d a e) a⟩
instance Qx {w W : World} [h : Up6 g1 g2 g3 g4 g5 g6 w W] (j : Nat) (v : Value) : Up6 g1 g2 g3 g4 g5 g6 w (W.setCell ⟨g6, j, none⟩ v) := ⟨fun w0 g h1 b c d e a => Ae (h.up w0 g h1 b c d e a) a⟩
theorem be6 {w0 w W : World} (h : Aside0 (Below w0.heap.size w0 w)) (h1 : Aside0 (w0.heap.size ≤ g1)) (a : Aside0 (w0.heap.size ≤ g2)) (b : Aside0 (w0.heap.size ≤ g3)) (c : Aside0 (w0.heap.size ≤ g4)) (d : Aside0 (w0.heap.size ≤ g5)) (e : Aside0 (w0.heap.size ≤ g6)) [u : Up6 g1 g2 g3 g4 g5 g6 w W] : Below w0.heap.size w0 W := u.up w0 h.out h1.out a.out b.out c.out d.out e.out
theorem kh6 {w0 w W W' : World} (h : Aside0 (Below w0.heap.size w0 w)) (h1 : Aside0 (w0.heap.size ≤ g1)) (a : Aside0 (w0.heap.size ≤ g2)) (b : Aside0 (w0.heap.size ≤ g3)) (c : Aside0 (w0.heap.size ≤ g4)) (d : Aside0 (w0.heap.size ≤ g5)) (e : Aside0 (w0.heap.size ≤ g6)) (g : Below W.heap.size W W') [u : Up6 g1 g2 g3 g4 g5 g6 w W] : Aside0 (Below w0.heap.size w0 W') := ⟨Aj (u.up w0 h.out h1.out a.out b.out c.out d.out e.out) g⟩
end
class Up7 (g1 g2 g3 g4 g5 g6 g7 : Nat) (w W : World) : Prop where
  up : ∀ w0 : World, Below w0.heap.size w0 w → w0.heap.size ≤ g1 → w0.heap.size ≤ g2 → w0.heap.size ≤ g3 → w0.heap.size ≤ g4 → w0.heap.size ≤ g5 → w0.heap.size ≤ g6 → w0.heap.size ≤ g7 → Below w0.heap.size w0 W
section
variable {g1 g2 g3 g4 g5 g6 g7 : Nat}
instance R4 (w : World) : Up7 g1 g2 g3 g4 g5 g6 g7 w w := ⟨fun _ h _ _ _ _ _ _ _ => h⟩
instance R5 {w W : World} [h : Up7 g1 g2 g3 g4 g5 g6 g7 w W] (o : Obj) : Up7 g1 g2 g3 g4 g5 g6 g7 w (W.alloc o) := ⟨fun w0 i h1 a b c d e g => AR (h.up w0 i h1 a b c d e g) o⟩
instance R6 {w W : World} [h : Up7 g1 g2 g3 g4 g5 g6 g7 w W] (n : Nat) : Up7 g1 g2 g3 g4 g5 g6 g7 w (W.drewN n) := ⟨fun w0 i h1 a b c d e g => Ag (h.up w0 i h1 a b c d e g) n⟩
instance R7 {w W : World} [h : Up7 g1 g2 g3 g4 g5 g6 g7 w W] : Up7 g1 g2 g3 g4 g5 g6 g7 w W.drew := ⟨fun w0 i h1 a b c d e g => Ad (h.up w0 i h1 a b c d e g)⟩
instance Qy {w W : World} [h : Up7 g1 g2 g3 g4 g5 g6 g7 w W] (j : Nat) (v : Value) : Up7 g1 g2 g3 g4 g5 g6 g7 w (W.setCell ⟨g1, j, none⟩ v) := ⟨fun w0 i h1 a b c d e g => Ae (h.up w0 i h1 a b c d e g) h1⟩
instance Qz {w W : World} [h : Up7 g1 g2 g3 g4 g5 g6 g7 w W] (j : Nat) (v : Value) : Up7 g1 g2 g3 g4 g5 g6 g7 w (W.setCell ⟨g2, j, none⟩ v) := ⟨fun w0 i h1 a b c d e g => Ae (h.up w0 i h1 a b c d e g) a⟩
instance Q0 {w W : World} [h : Up7 g1 g2 g3 g4 g5 g6 g7 w W] (j : Nat) (v : Value) : Up7 g1 g2 g3 g4 g5 g6 g7 w (W.setCell ⟨g3, j, none⟩ v) := ⟨fun w0 i h1 b a c d e g => Ae (h.up w0 i h1 b a c d e g) a⟩
instance Q3 {w W : World} [h : Up7 g1 g2 g3 g4 g5 g6 g7 w W] (j : Nat) (v : Value) : Up7 g1 g2 g3 g4 g5 g6 g7 w (W.setCell ⟨g4, j, none⟩ v) := ⟨fun w0 i h1 b c a d e g => Ae (h.up w0 i h1 b c a d e g) a⟩
instance Q4 {w W : World} [h : Up7 g1 g2 g3 g4 g5 g6 g7 w W] (j : Nat) (v : Value) : Up7 g1 g2 g3 g4 g5 g6 g7 w (W.setCell ⟨g5, j, none⟩ v) := ⟨fun w0 i h1 b c d a e g => Ae (h.up w0 i h1 b c d a e g) a⟩
instance Q5 {w W : World} [h : Up7 g1 g2 g3 g4 g5 g6 g7 w W] (j : Nat) (v : Value) : Up7 g1 g2 g3 g4 g5 g6 g7 w (W.setCell ⟨g6, j, none⟩ v) := ⟨fun w0 i h1 b c d e a g => Ae (h.up w0 i h1 b c d e a g) a⟩
instance Q6 {w W : World} [h : Up7 g1 g2 g3 g4 g5 g6 g7 w W] (j : Nat) (v : Value) : Up7 g1 g2 g3 g4 g5 g6 g7 w (W.setCell ⟨g7, j, none⟩ v) := ⟨fun w0 i h1 b c d e g a => Ae (h.up w0 i h1 b c d e g a) a⟩
theorem be7 {w0 w W : World} (h : Aside0 (Below w0.heap.size w0 w)) (h1 : Aside0 (w0.heap.size ≤ g1)) (a : Aside0 (w0.heap.size ≤ g2)) (b : Aside0 (w0.heap.size ≤ g3)) (c : Aside0 (w0.heap.size ≤ g4)) (d : Aside0 (w0.heap.size ≤ g5)) (e : Aside0 (w0.heap.size ≤ g6)) (g : Aside0 (w0.heap.size ≤ g7)) [u : Up7 g1 g2 g3 g4 g5 g6 g7 w W] : Below w0.heap.size w0 W := u.up w0 h.out h1.out a.out b.out c.out d.out e.out g.out
theorem kh7 {w0 w W W' : World} (h : Aside0 (Below w0.heap.size w0 w)) (h1 : Aside0 (w0.heap.size ≤ g1)) (a : Aside0 (w0.heap.size ≤ g2)) (b : Aside0 (w0.heap.size ≤ g3)) (c : Aside0 (w0.heap.size ≤ g4)) (d : Aside0 (w0.heap.size ≤ g5)) (e : Aside0 (w0.heap.size ≤ g6)) (g : Aside0 (w0.heap.size ≤ g7)) (i : Below W.heap.size W W') [u : Up7 g1 g2 g3 g4 g5 g6 g7 w W] : Aside0 (Below w0.heap.size w0 W') := ⟨Aj (u.up w0 h.out h1.out a.out b.out c.out d.out e.out g.out) i⟩
end
class Up8 (g1 g2 g3 g4 g5 g6 g7 g8 : Nat) (w W : World) : Prop where
  up : ∀ w0 : World, Below w0.heap.size w0 w → w0.heap.size ≤ g1 → w0.heap.size ≤ g2 → w0.heap.size ≤ g3 → w0.heap.size ≤ g4 → w0.heap.size ≤ g5 → w0.heap.size ≤ g6 → w0.heap.size ≤ g7 → w0.heap.size ≤ g8 → Below w0.heap.size w0 W
section
variable {g1 g2 g3 g4 g5 g6 g7 g8 : Nat}
instance R8 (w : World) : Up8 g1 g2 g3 g4 g5 g6 g7 g8 w w := ⟨fun _ h _ _ _ _ _ _ _ _ => h⟩
instance R9 {w W : World} [h : Up8 g1 g2 g3 g4 g5 g6 g7 g8 w W] (o : Obj) : Up8 g1 g2 g3 g4 g5 g6 g7 g8 w (W.alloc o) := ⟨fun w0 j h1 a b c d e g i => AR (h.up w0 j h1 a b c d e g i) o⟩
instance SA {w W : World} [h : Up8 g1 g2 g3 g4 g5 g6 g7 g8 w W] (n : Nat) : Up8 g1 g2 g3 g4 g5 g6 g7 g8 w (W.drewN n) := ⟨fun w0 j h1 a b c d e g i => Ag (h.up w0 j h1 a b c d e g i) n⟩
instance SB {w W : World} [h : Up8 g1 g2 g3 g4 g5 g6 g7 g8 w W] : Up8 g1 g2 g3 g4 g5 g6 g7 g8 w W.drew := ⟨fun w0 j h1 a b c d e g i => Ad (h.up w0 j h1 a b c d e g i)⟩
instance Q7 {w W : World} [h : Up8 g1 g2 g3 g4 g5 g6 g7 g8 w W] (j : Nat) (v : Value) : Up8 g1 g2 g3 g4 g5 g6 g7 g8 w (W.setCell ⟨g1, j, none⟩ v) := ⟨fun w0 k h1 a b c d e g i => Ae (h.up w0 k h1 a b c d e g i) h1⟩
instance Q8 {w W : World} [h : Up8 g1 g2 g3 g4 g5 g6 g7 g8 w W] (j : Nat) (v : Value) : Up8 g1 g2 g3 g4 g5 g6 g7 g8 w (W.setCell ⟨g2, j, none⟩ v) := ⟨fun w0 k h1 a b c d e g i => Ae (h.up w0 k h1 a b c d e g i) a⟩
instance Q9 {w W : World} [h : Up8 g1 g2 g3 g4 g5 g6 g7 g8 w W] (j : Nat) (v : Value) : Up8 g1 g2 g3 g4 g5 g6 g7 g8 w (W.setCell ⟨g3, j, none⟩ v) := ⟨fun w0 k h1 b a c d e g i => Ae (h.up w0 k h1 b a c d e g i) a⟩
instance RA {w W : World} [h : Up8 g1 g2 g3 g4 g5 g6 g7 g8 w W] (j : Nat) (v : Value) : Up8 g1 g2 g3 g4 g5 g6 g7 g8 w (W.setCell ⟨g4, j, none⟩ v) := ⟨fun w0 k h1 b c a d e g i => Ae (h.up w0 k h1 b c a d e g i) a⟩
instance RD {w W : World} [h : Up8 g1 g2 g3 g4 g5 g6 g7 g8 w W] (j : Nat) (v : Value) : Up8 g1 g2 g3 g4 g5 g6 g7 g8 w (W.setCell ⟨g5, j, none⟩ v) := ⟨fun w0 k h1 b c d a e g i => Ae (h.up w0 k h1 b c d a e g i) a⟩
instance RF {w W : World} [h : Up8 g1 g2 g3 g4 g5 g6 g7 g8 w W] (j : Nat) (v : Value) : Up8 g1 g2 g3 g4 g5 g6 g7 g8 w (W.setCell ⟨g6, j, none⟩ v) := ⟨fun w0 k h1 b c d e a g i => Ae (h.up w0 k h1 b c d e a g i) a⟩
instance RG {w W : World} [h : Up8 g1 g2 g3 g4 g5 g6 g7 g8 w W] (j : Nat) (v : Value) : Up8 g1 g2 g3 g4 g5 g6 g7 g8 w (W.setCell ⟨g7, j, none⟩ v) := ⟨fun w0 k h1 b c d e g a i => Ae (h.up w0 k h1 b c d e g a i) a⟩
instance RH {w W : World} [h : Up8 g1 g2 g3 g4 g5 g6 g7 g8 w W] (j : Nat) (v : Value) : Up8 g1 g2 g3 g4 g5 g6 g7 g8 w (W.setCell ⟨g8, j, none⟩ v) := ⟨fun w0 k h1 b c d e g i a => Ae (h.up w0 k h1 b c d e g i a) a⟩
end
section
variable {α : Type} {d : Kd α} {w0 w W W' : World} {e base g : Nat} {ok : Nat → Prop} {v : Value} {xs : List α} {A : Option Addr} {n : Nat}
theorem vB (h : Aside0 (Kd.V d e w base ok v xs)) (hg : g = W.heap.size) (a : Below W.heap.size W W') [Pl W w] : Aside0 (Kd.V d e W' base (fun k => ok k ∧ k ≠ g) v xs) := ⟨Kd.Bl (Kd.Dk (BG h.out) g (Nat.le_of_eq hg.symm)) a⟩
theorem nB (h : Aside0 (Kd.N d e w base ok v xs)) (hg : g = W.heap.size) (a : Below W.heap.size W W') [Pl W w] : Aside0 (Kd.N d e W' base (fun k => ok k ∧ k ≠ g) v xs) := ⟨Kd.DY (Kd.KO (DU h.out) g (Nat.le_of_eq hg.symm)) a⟩
theorem rB (h : Aside0 (Kd.R d e w base ok v xs)) (hg : g = W.heap.size) (a : Below W.heap.size W W') [Pl W w] : Aside0 (Kd.R d e W' base (fun k => ok k ∧ k ≠ g) v xs) := ⟨Kd.ET (Kd.NA (Dx h.out) g (Nat.le_of_eq hg.symm)) a⟩
theorem vb (h : Aside0 (Kd.V d e w base ok v xs)) (a : Below W.heap.size W W') [Pl W w] : Aside0 (Kd.V d e W' base ok v xs) := ⟨Kd.Bl (BG h.out) a⟩
theorem nb (h : Aside0 (Kd.N d e w base ok v xs)) (a : Below W.heap.size W W') [Pl W w] : Aside0 (Kd.N d e W' base ok v xs) := ⟨Kd.DY (DU h.out) a⟩
theorem rb (h : Aside0 (Kd.R d e w base ok v xs)) (a : Below W.heap.size W W') [Pl W w] : Aside0 (Kd.R d e W' base ok v xs) := ⟨Kd.ET (Dx h.out) a⟩
theorem cb (h : Aside0 (d.C w A n xs)) (a : Below W.heap.size W W') [Pl W w] : Aside0 (d.C W' A n xs) := ⟨Kd.Ap (Kd.Ap h.out Pl.up) a⟩
end
theorem dr {p : Prop} (h : p := by repeat (first | exact Ar.refl _ | apply Ar.step)) : p := h
theorem dn {p q : Prop} (h : p := by first | rfl | (simp; done) | (simp [*]; done)) (a : q := by repeat (first | exact Ar.refl _ | apply Ar.step)) : p ∧ q := ⟨h, a⟩
class Fr (W : World) (w : outParam World) (q : Nat) : Prop where
  up : (∀ k, k ≠ q → k < w.heap.size → W.heap[k]? = w.heap[k]?) ∧ w.heap.size ≤ W.heap.size
instance (priority := low) fr0 (w : World) (q : Nat) : Fr w w q := ⟨fun _ _ _ => rfl, Nat.le_refl _⟩
instance fr1 {W w : World} {q : Nat} [h : Fr W w q] (i : Nat) (u : Value) : Fr (W.setCell ⟨q, i, none⟩ u) w q := ⟨fun k a b => (Below.heap_setCell W ⟨q, i, none⟩ u k a).trans (h.up.1 k a b), by rw [World.size_setCell]; exact h.up.2⟩
theorem JK {W a w : World} {q : Nat} (h : Fr W w q) (b : Below W.heap.size W a) : Fr a w q := ⟨fun k d c => (b.block k (Nat.lt_of_lt_of_le c h.up.2)).trans (h.up.1 k d c), Nat.le_trans h.up.2 (AU b)⟩
instance fr2 {W w : World} {q : Nat} [h : Fr W w q] (o : Obj) : Fr (W.alloc o) w q := JK h (AR (Below.refl _ _) o)
instance fr3 {W w : World} {q : Nat} [h : Fr W w q] (n : Nat) : Fr (W.drewN n) w q := JK h (Ag (Below.refl _ _) n)
instance fr4 {W w : World} {q : Nat} [h : Fr W w q] : Fr W.drew w q := JK h (Ad (Below.refl _ _))
theorem PV {w : World} {q : Nat} : ∀ (vs : List Value) (o : Nat) (W : World), Fr W w q → Fr (W.setCells q o vs) w q
  | [], _, _, h => h
  | v :: r, o, W, h => by rw [World.setCells]; exact PV r (o + 1) _ (fr1 (h := h) o v)
instance fr5 {W w : World} {q : Nat} [h : Fr W w q] (o : Nat) (vs : List Value) : Fr (W.setCells q o vs) w q := PV vs o W h
class Fs (W : World) (w : outParam World) (q : Nat) : Prop where
  up : Fr W w q
instance (priority := low) fs0 (w : World) (q : Nat) : Fs w w q := ⟨fr0 w q⟩
instance fs1 {W w : World} {q : Nat} [h : Fs W w q] (i : Nat) (u : Value) : Fs (W.setCell ⟨q, i, none⟩ u) w q := ⟨fr1 (h := h.up) i u⟩
instance fs5 {W w : World} {q : Nat} [h : Fs W w q] (o : Nat) (vs : List Value) : Fs (W.setCells q o vs) w q := ⟨PV vs o W h.up⟩
theorem bF {W w : World} {g q : Nat} {t : TypeId} {cs : Array Value} (n : Aside0 (g ≠ q)) (h : Aside0 (w.heap[g]? = some (.cells cs t (0, 0)))) [u : Fr W w q] : W.heap[g]? = some (.cells cs t (0, 0)) := (u.up.1 g n.out (Array.getElem?_eq_some_iff.mp h.out).1).trans h.out
theorem kF {W w a : World} {g q : Nat} {t : TypeId} {cs : Array Value} (n : Aside0 (g ≠ q)) (h : Aside0 (w.heap[g]? = some (.cells cs t (0, 0)))) [u : Fr W w q] (b : Below W.heap.size W a) : Aside0 (a.heap[g]? = some (.cells cs t (0, 0))) := ⟨AX (bF n h) b⟩
section
variable {α : Type} {d : Kd α} {w W : World} {e base q : Nat} {ok : Nat → Prop} {v : Value} {xs : List α}
theorem vI (h : Kd.V d e w base ok v xs) (g : ∀ k, ok k → k ≠ q) [u : Fr W w q] : Kd.V d e W base ok v xs := Kd.Fp h fun _ a => Kd.J2 a fun k b c => u.up.1 k (g k b) c
theorem rI (h : d.R e w base ok v xs) (c : ∀ k, ok k → k ≠ q) [u : Fr W w q] : d.R e W base ok v xs := Kd.Ga h fun k a b => u.up.1 k (c k a) b
theorem nI (h : Kd.N d e w base ok v xs) (c : ∀ k, ok k → k ≠ q) [u : Fr W w q] : Kd.N d e W base ok v xs := Kd.Gd h fun k a b => u.up.1 k (c k a) b
theorem vF (h : Aside0 (Kd.V d e w base ok v xs)) (a : ∀ k, ok k → k ≠ q) [u : Fr W w q] : Kd.V d e W base ok v xs := vI h.out a
theorem nF (h : Aside0 (Kd.N d e w base ok v xs)) (a : ∀ k, ok k → k ≠ q) [u : Fr W w q] : Kd.N d e W base ok v xs := nI h.out a
end
class Put (W : World) (w : outParam World) (g : Nat) (cs : Array Value) (cs' : outParam (Array Value)) : Prop where
  up : ∀ t, w.heap[g]? = some (.cells cs t (0, 0)) → W.heap[g]? = some (.cells cs' t (0, 0))
instance (priority := low) pt0 (w : World) (g : Nat) (cs : Array Value) : Put w w g cs cs := ⟨fun _ h => h⟩
instance pt1 {W w : World} {g : Nat} {cs a : Array Value} [h : Put W w g cs a] (i : Nat) (u : Value) : Put (W.setCell ⟨g, i, none⟩ u) w g cs (a.setIfInBounds i u) := ⟨fun t k => CU (h.up t k) i u rfl⟩
instance pt2 {W w : World} {g : Nat} {cs a : Array Value} [h : Put W w g cs a] (o : Obj) : Put (W.alloc o) w g cs a := ⟨fun t k => AX (h.up t k) (AR (Below.refl _ _) o)⟩
instance pt3 {W w : World} {g : Nat} {cs a : Array Value} [h : Put W w g cs a] (n : Nat) : Put (W.drewN n) w g cs a := ⟨fun t k => AX (h.up t k) (Ag (Below.refl _ _) n)⟩
instance pt4 {W w : World} {g : Nat} {cs a : Array Value} [h : Put W w g cs a] : Put W.drew w g cs a := ⟨fun t k => AX (h.up t k) (Ad (Below.refl _ _))⟩
theorem pB {W w : World} {g : Nat} {t : TypeId} {cs ds a : Array Value} (h : Aside0 (w.heap[g]? = some (.cells cs t (0, 0)))) [u : Put W w g cs ds] (e : ds = a := by rfl) : W.heap[g]? = some (.cells a t (0, 0)) := e ▸ u.up t h.out
theorem od {p : Prop} [Decidable p] (h : decide p = true := by assumption) : p := of_decide_eq_true h
section
variable {P : Program} {md : Region.Mode} {ops : Array Oper} {Q : Exit → Act → World → Prop} {S : World → Prop} {ds : List Nat}
theorem pu_ {oi : Oper} {v : Value} {fuel : Nat} {l : Array Bool} {a : Act} {w : World} (i : Nat) (N : Tmp) (b : Array Bool) {T : Bool × List (List Nat × List Nat)} (d : Aside0 (DT md ops = T)) (m : ∀ w, (execOp a.eval oi).run P w = .ok (.value v) w) {a' : Act} (j : a.put (some N) v = a')
    (h : Ba P md ops Q S ds fuel b a' w) (hi : ops[i]? = some oi := by rfl) (e : oi.dst = some N := by rfl) (k : NK T l.toList b.toList i = true := by kernel_rfl) (g : ∀ c a w, Q (.panic c) (a.put oi.dst v) w → Q (.panic c) a w := by exact fun _ _ _ h => h) (hg : Region.wanted oi (yielded ops a.tmps) = true := by rfl) : Ba P md ops Q S ds (fuel + 1) l a w :=
  Gc b hi e (NL d.out k) g (Or.inl ⟨hg, m⟩) j h
end
def tf (n m : Nat) : Array Bool := (List.replicate n true ++ List.replicate m false).toArray
theorem mk0 {p : Prop} (h : p) : Aside0 p := ⟨h⟩
theorem oB {p : Prop} {k g : Nat} {o : Obj} {w W : World} (h : p ∨ W.heap.size ≤ k) (f : p → k ≠ g) (u : Aside0 (w.heap[g]? = some o)) [Up w W] : k ≠ g := Or.elim h f (fun j => Kd.CJ (Au u.out) k j)
section
variable {α : Type} {d : Kd α} {p : Prop} {k e base : Nat} {ok : Nat → Prop} {v : Value} {xs : List α} {w W : World}
theorem oN (h : p ∨ W.heap.size ≤ k) (f : p → some k ≠ v.ownBlock) (u : Aside0 (Kd.N d e w base ok v xs)) [Up w W] : some k ≠ v.ownBlock := Or.elim h f (fun j => Kd.fresh' (Kd.Jb (Dw u.out)) k j)
theorem oR (h : p ∨ W.heap.size ≤ k) (f : p → some k ≠ v.ownBlock) (u : Aside0 (d.R e w base ok v xs)) [Up w W] : some k ≠ v.ownBlock := Or.elim h f (fun j => Kd.fresh' (Kd.G8 (Dc u.out)) k j)
end
theorem bc {w : World} {g : Nat} {t : TypeId} {cs : Array Value} (h : Aside0 (w.heap[g]? = some (.cells cs t (0, 0)))) (i : Nat) {v : Value} (e : cs[i]? = some v := by rfl) : w.cell? ⟨g, i, none⟩ = some v := (Af h.out i).trans e
end Go.Proofs.Ytojankgmedccdaa.Own
end
section

end
namespace Go.Proofs.Ytojankgmedccdaa.Own
open Go.RowKit Wo
section
variable {P : Program} {ops : Array Oper} {Q : Exit → Act → World → Prop} {rest : List Oper} {oi : Oper} {a : Act} {w : World} {N : Option Tmp} {f : FuncId} {fn : Func} {as_ : Array Operand} {ts : Array TypeId}
theorem CS {args : Array Value} {v : Value} (j : P.funcs[f]? = some fn) (i : Calls P f args w fun e w' => e = .returned v ∧ Below w.heap.size w w') (h : ∀ w', Below w.heap.size w w' → wpList P ops Q rest (a.put N v) w')
    (hd : oi.dst = N := by exact rfl) (hg : oi.guard = none := by exact rfl) (c : (fn.name == "runtime.NumGoroutine") = false := by kernel_rfl) (g : fn.body.isSome = true := by exact rfl) (d : oi.op = .call { callee := .value (.func f), args := as_, argTypes := ts } := by exact rfl) (b : as_.toList.map a.eval = args.toList := by exact rfl) : wpList P ops Q (oi :: rest) a w :=
  goB N hd hg j c g args d b i h
theorem FM {args : Array Value} {v : Value} (j : P.funcs[f]? = some fn) (i : Calls P f args w fun e w' => e = .returned v ∧ Ar w w') (h : ∀ n, wpList P ops Q rest (a.put N v) (w.drewN n))
    (hd : oi.dst = N := by exact rfl) (hg : oi.guard = none := by exact rfl) (c : (fn.name == "runtime.NumGoroutine") = false := by kernel_rfl) (g : fn.body.isSome = true := by exact rfl) (d : oi.op = .call { callee := .value (.func f), args := as_, argTypes := ts } := by exact rfl) (b : as_.toList.map a.eval = args.toList := by exact rfl) : wpList P ops Q (oi :: rest) a w :=
  goD N hd hg j c g args d b i h
theorem FQ (i : P.funcs[f]? = some fn) (args : Array Value) (h : Calls P f args w fun e w' => ∃ v, e = .returned v ∧ wpList P ops Q rest (a.put N v) w')
    (hd : oi.dst = N := by exact rfl) (hg : oi.guard = none := by exact rfl) (c : (fn.name == "runtime.NumGoroutine") = false := by kernel_rfl) (g : fn.body.isSome = true := by exact rfl) (d : oi.op = .call { callee := .value (.func f), args := as_, argTypes := ts } := by exact rfl) (b : as_.map a.eval = args := by (try simp only [List.map_toArray, List.map_cons, List.map_nil]); first | done | rfl | (simp only [List.length_drop, List.length_take]; rfl)) : wpList P ops Q (oi :: rest) a w :=
  K6 N hd hg i c g args d b h
end
section
variable {P : Program} {md : Region.Mode} {ops : Array Oper} {Q : Exit → Act → World → Prop} {S : World → Prop} {ds : List Nat} {oi : Oper} {v : Value} {fuel : Nat} {l : Array Bool} {a a' : Act} {w : World}
theorem pv (i : Nat) (N : Tmp) (b : Array Bool) {T : Bool × List (List Nat × List Nat)} (d : Aside0 (DT md ops = T)) (h : Ba P md ops Q S ds fuel b a' w)
    (hi : ops[i]? = some oi := by rfl) (e : oi.dst = some N := by rfl) (k : NK T l.toList b.toList i = true := by kernel_rfl) (g : ∀ c a w, Q (.panic c) (a.put oi.dst v) w → Q (.panic c) a w := by exact fun _ _ _ h => h) (hg : Region.wanted oi (yielded ops a.tmps) = true := by rfl)
    (m : ∀ w, (execOp a.eval oi).run P w = .ok (.value v) w := by intro w'; go_simp; with_reducible rfl) (j : a.put (some N) v = a' := by simp only [ps]; rfl) : Ba P md ops Q S ds (fuel + 1) l a w :=
  pu_ i N b d m j h hi e k g hg
theorem pw (i : Nat) (N : Tmp) (b : Array Bool) {T : Bool × List (List Nat × List Nat)} (d : Aside0 (DT md ops = T)) (h : Ba P md ops Q S ds fuel b a' w)
    (hi : ops[i]? = some oi := by rfl) (e : oi.dst = some N := by rfl) (k : NK T l.toList b.toList i = true := by kernel_rfl) (g : ∀ c a w, Q (.panic c) (a.put oi.dst undef) w → Q (.panic c) a w := by exact fun _ _ _ h => h) (hg : Region.wanted oi (yielded ops a.tmps) = false := by rfl)
    (j : a.put (some N) undef = a' := by simp only [ps]; rfl) : Ba P md ops Q S ds (fuel + 1) l a w :=
  Gc b hi e (NL d.out k) g (Or.inr ⟨hg, rfl⟩) j h
end
theorem nn {w W : World} {g g1 : Nat} {o : Obj} (h : Aside0 (w.heap[g]? = some o)) (hg : g1 = W.heap.size) [Up w W] : Aside0 (g ≠ g1) ∧ Aside0 (g1 ≠ g) := ⟨nb1 (bu h) hg, nb2 (bu h) hg⟩
theorem no {p q : Prop} (h : Aside0 p) (k : Aside0 q) : p ∧ q := ⟨h.out, k.out⟩
section
variable {α : Type} {d : Kd α} {w W W' : World} {e base n g : Nat} {A : Option Addr} {ok : Nat → Prop} {v : Value} {xs : List α} {o : Obj}
theorem nb_ (h : Aside0 (Kd.N d e w base ok v xs)) (a : Below W.heap.size W W') [Pl W w] : Aside0 (Kd.N d e W' base ok v xs) := ⟨Kd.DY (DU h.out) a⟩
class Tb (X : Prop) (W W' : World) (Y : outParam Prop) : Prop where
  t : Below W.heap.size W W' → X → Y
instance tk [Up w W] : Tb (Aside0 (w.heap[g]? = some o)) W W' (Aside0 (W'.heap[g]? = some o)) := ⟨fun a h => kb h a⟩
instance tv [Pl W w] : Tb (Aside0 (Kd.V d e w base ok v xs)) W W' (Aside0 (Kd.V d e W' base ok v xs)) := ⟨fun a h => vb h a⟩
instance tn [Pl W w] : Tb (Aside0 (Kd.N d e w base ok v xs)) W W' (Aside0 (Kd.N d e W' base ok v xs)) := ⟨fun a h => nb_ h a⟩
instance tr [Pl W w] : Tb (Aside0 (Kd.R d e w base ok v xs)) W W' (Aside0 (Kd.R d e W' base ok v xs)) := ⟨fun a h => rb h a⟩
instance tc [Pl W w] : Tb (Aside0 (Kd.C d w A n xs)) W W' (Aside0 (Kd.C d W' A n xs)) := ⟨fun a h => cb h a⟩
class Tg (X : Prop) (W W' : World) (g : Nat) (Y : outParam Prop) : Prop where
  t : g = W.heap.size → Below W.heap.size W W' → X → Y
instance gv [Pl W w] : Tg (Aside0 (Kd.V d e w base ok v xs)) W W' g (Aside0 (Kd.V d e W' base (fun k => ok k ∧ k ≠ g) v xs)) := ⟨fun hg a h => vB h hg a⟩
instance gn [Pl W w] : Tg (Aside0 (Kd.N d e w base ok v xs)) W W' g (Aside0 (Kd.N d e W' base (fun k => ok k ∧ k ≠ g) v xs)) := ⟨fun hg a h => nB h hg a⟩
instance gr [Pl W w] : Tg (Aside0 (Kd.R d e w base ok v xs)) W W' g (Aside0 (Kd.R d e W' base (fun k => ok k ∧ k ≠ g) v xs)) := ⟨fun hg a h => rB h hg a⟩
end
section
variable {W W' : World} {g : Nat} {X1 X2 X3 X4 X5 X6 X7 X8 X9 X10 X11 X12 Y1 Y2 Y3 Y4 Y5 Y6 Y7 Y8 Y9 Y10 Y11 Y12 : Prop}
theorem tb2 (a : Below W.heap.size W W') (b : X1) (c : X2) [h1 : Tb X1 W W' Y1] [h2 : Tb X2 W W' Y2] : Y1 ∧ Y2 := ⟨h1.t a b, h2.t a c⟩
theorem tg2 (hg : g = W.heap.size) (a : Below W.heap.size W W') (b : X1) (c : X2) [h1 : Tg X1 W W' g Y1] [h2 : Tg X2 W W' g Y2] : Y1 ∧ Y2 := ⟨h1.t hg a b, h2.t hg a c⟩
theorem tb3 (a : Below W.heap.size W W') (b : X1) (c : X2) (d : X3) [h1 : Tb X1 W W' Y1] [h2 : Tb X2 W W' Y2] [h3 : Tb X3 W W' Y3] : Y1 ∧ Y2 ∧ Y3 := ⟨h1.t a b, tb2 a c d⟩
theorem tg3 (hg : g = W.heap.size) (a : Below W.heap.size W W') (b : X1) (c : X2) (d : X3) [h1 : Tg X1 W W' g Y1] [h2 : Tg X2 W W' g Y2] [h3 : Tg X3 W W' g Y3] : Y1 ∧ Y2 ∧ Y3 := ⟨h1.t hg a b, tg2 hg a c d⟩
theorem tb4 (a : Below W.heap.size W W') (b : X1) (c : X2) (d : X3) (e : X4) [h1 : Tb X1 W W' Y1] [h2 : Tb X2 W W' Y2] [h3 : Tb X3 W W' Y3] [h4 : Tb X4 W W' Y4] : Y1 ∧ Y2 ∧ Y3 ∧ Y4 := ⟨h1.t a b, tb3 a c d e⟩
theorem tg4 (hg : g = W.heap.size) (a : Below W.heap.size W W') (b : X1) (c : X2) (d : X3) (e : X4) [h1 : Tg X1 W W' g Y1] [h2 : Tg X2 W W' g Y2] [h3 : Tg X3 W W' g Y3] [h4 : Tg X4 W W' g Y4] : Y1 ∧ Y2 ∧ Y3 ∧ Y4 := ⟨h1.t hg a b, tg3 hg a c d e⟩
theorem tb5 (a : Below W.heap.size W W') (b : X1) (c : X2) (d : X3) (e : X4) (g : X5) [h1 : Tb X1 W W' Y1] [h2 : Tb X2 W W' Y2] [h3 : Tb X3 W W' Y3] [h4 : Tb X4 W W' Y4] [h5 : Tb X5 W W' Y5] : Y1 ∧ Y2 ∧ Y3 ∧ Y4 ∧ Y5 := ⟨h1.t a b, tb4 a c d e g⟩
theorem tg5 (hg : g = W.heap.size) (a : Below W.heap.size W W') (b : X1) (c : X2) (d : X3) (e : X4) (h : X5) [h1 : Tg X1 W W' g Y1] [h2 : Tg X2 W W' g Y2] [h3 : Tg X3 W W' g Y3] [h4 : Tg X4 W W' g Y4] [h5 : Tg X5 W W' g Y5] : Y1 ∧ Y2 ∧ Y3 ∧ Y4 ∧ Y5 := ⟨h1.t hg a b, tg4 hg a c d e h⟩
theorem tb6 (a : Below W.heap.size W W') (b : X1) (c : X2) (d : X3) (e : X4) (g : X5) (h : X6) [h1 : Tb X1 W W' Y1] [h2 : Tb X2 W W' Y2] [h3 : Tb X3 W W' Y3] [h4 : Tb X4 W W' Y4] [h5 : Tb X5 W W' Y5] [h6 : Tb X6 W W' Y6] : Y1 ∧ Y2 ∧ Y3 ∧ Y4 ∧ Y5 ∧ Y6 := ⟨h1.t a b, tb5 a c d e g h⟩
theorem tg6 (hg : g = W.heap.size) (a : Below W.heap.size W W') (b : X1) (c : X2) (d : X3) (e : X4) (h : X5) (i : X6) [h1 : Tg X1 W W' g Y1] [h2 : Tg X2 W W' g Y2] [h3 : Tg X3 W W' g Y3] [h4 : Tg X4 W W' g Y4] [h5 : Tg X5 W W' g Y5] [h6 : Tg X6 W W' g Y6] : Y1 ∧ Y2 ∧ Y3 ∧ Y4 ∧ Y5 ∧ Y6 := ⟨h1.t hg a b, tg5 hg a c d e h i⟩
theorem tb7 (a : Below W.heap.size W W') (b : X1) (c : X2) (d : X3) (e : X4) (g : X5) (h : X6) (i : X7) [h1 : Tb X1 W W' Y1] [h2 : Tb X2 W W' Y2] [h3 : Tb X3 W W' Y3] [h4 : Tb X4 W W' Y4] [h5 : Tb X5 W W' Y5] [h6 : Tb X6 W W' Y6] [h7 : Tb X7 W W' Y7] : Y1 ∧ Y2 ∧ Y3 ∧ Y4 ∧ Y5 ∧ Y6 ∧ Y7 := ⟨h1.t a b, tb6 a c d e g h i⟩
theorem tg7 (hg : g = W.heap.size) (a : Below W.heap.size W W') (b : X1) (c : X2) (d : X3) (e : X4) (h : X5) (i : X6) (j : X7) [h1 : Tg X1 W W' g Y1] [h2 : Tg X2 W W' g Y2] [h3 : Tg X3 W W' g Y3] [h4 : Tg X4 W W' g Y4] [h5 : Tg X5 W W' g Y5] [h6 : Tg X6 W W' g Y6] [h7 : Tg X7 W W' g Y7] : Y1 ∧ Y2 ∧ Y3 ∧ Y4 ∧ Y5 ∧ Y6 ∧ Y7 := ⟨h1.t hg a b, tg6 hg a c d e h i j⟩
theorem tb8 (a : Below W.heap.size W W') (b : X1) (c : X2) (d : X3) (e : X4) (g : X5) (h : X6) (i : X7) (j : X8) [h1 : Tb X1 W W' Y1] [h2 : Tb X2 W W' Y2] [h3 : Tb X3 W W' Y3] [h4 : Tb X4 W W' Y4] [h5 : Tb X5 W W' Y5] [h6 : Tb X6 W W' Y6] [h7 : Tb X7 W W' Y7] [h8 : Tb X8 W W' Y8] : Y1 ∧ Y2 ∧ Y3 ∧ Y4 ∧ Y5 ∧ Y6 ∧ Y7 ∧ Y8 := ⟨h1.t a b, tb7 a c d e g h i j⟩
theorem tg8 (hg : g = W.heap.size) (a : Below W.heap.size W W') (b : X1) (c : X2) (d : X3) (e : X4) (h : X5) (i : X6) (j : X7) (k : X8) [h1 : Tg X1 W W' g Y1] [h2 : Tg X2 W W' g Y2] [h3 : Tg X3 W W' g Y3] [h4 : Tg X4 W W' g Y4] [h5 : Tg X5 W W' g Y5] [h6 : Tg X6 W W' g Y6] [h7 : Tg X7 W W' g Y7] [h8 : Tg X8 W W' g Y8] : Y1 ∧ Y2 ∧ Y3 ∧ Y4 ∧ Y5 ∧ Y6 ∧ Y7 ∧ Y8 := ⟨h1.t hg a b, tg7 hg a c d e h i j k⟩
theorem tb9 (a : Below W.heap.size W W') (b : X1) (c : X2) (d : X3) (e : X4) (g : X5) (h : X6) (i : X7) (j : X8) (k : X9) [h1 : Tb X1 W W' Y1] [h2 : Tb X2 W W' Y2] [h3 : Tb X3 W W' Y3] [h4 : Tb X4 W W' Y4] [h5 : Tb X5 W W' Y5] [h6 : Tb X6 W W' Y6] [h7 : Tb X7 W W' Y7] [h8 : Tb X8 W W' Y8] [h9 : Tb X9 W W' Y9] : Y1 ∧ Y2 ∧ Y3 ∧ Y4 ∧ Y5 ∧ Y6 ∧ Y7 ∧ Y8 ∧ Y9 := ⟨h1.t a b, tb8 a c d e g h i j k⟩
theorem tg9 (hg : g = W.heap.size) (a : Below W.heap.size W W') (b : X1) (c : X2) (d : X3) (e : X4) (h : X5) (i : X6) (j : X7) (k : X8) (l : X9) [h1 : Tg X1 W W' g Y1] [h2 : Tg X2 W W' g Y2] [h3 : Tg X3 W W' g Y3] [h4 : Tg X4 W W' g Y4] [h5 : Tg X5 W W' g Y5] [h6 : Tg X6 W W' g Y6] [h7 : Tg X7 W W' g Y7] [h8 : Tg X8 W W' g Y8] [h9 : Tg X9 W W' g Y9] : Y1 ∧ Y2 ∧ Y3 ∧ Y4 ∧ Y5 ∧ Y6 ∧ Y7 ∧ Y8 ∧ Y9 := ⟨h1.t hg a b, tg8 hg a c d e h i j k l⟩
theorem RI (b : Below W.heap.size W W') (c : X1) (d : X2) (e : X3) (g : X4) (h : X5) (i : X6) (j : X7) (k : X8) (l : X9) (a : X10) [h1 : Tb X1 W W' Y1] [h2 : Tb X2 W W' Y2] [h3 : Tb X3 W W' Y3] [h4 : Tb X4 W W' Y4] [h5 : Tb X5 W W' Y5] [h6 : Tb X6 W W' Y6] [h7 : Tb X7 W W' Y7] [h8 : Tb X8 W W' Y8] [h9 : Tb X9 W W' Y9] [h10 : Tb X10 W W' Y10] : Y1 ∧ Y2 ∧ Y3 ∧ Y4 ∧ Y5 ∧ Y6 ∧ Y7 ∧ Y8 ∧ Y9 ∧ Y10 := ⟨h1.t b c, tb9 b d e g h i j k l a⟩
theorem QD (hg : g = W.heap.size) (b : Below W.heap.size W W') (c : X1) (d : X2) (e : X3) (h : X4) (i : X5) (j : X6) (k : X7) (l : X8) (m : X9) (a : X10) [h1 : Tg X1 W W' g Y1] [h2 : Tg X2 W W' g Y2] [h3 : Tg X3 W W' g Y3] [h4 : Tg X4 W W' g Y4] [h5 : Tg X5 W W' g Y5] [h6 : Tg X6 W W' g Y6] [h7 : Tg X7 W W' g Y7] [h8 : Tg X8 W W' g Y8] [h9 : Tg X9 W W' g Y9] [h10 : Tg X10 W W' g Y10] : Y1 ∧ Y2 ∧ Y3 ∧ Y4 ∧ Y5 ∧ Y6 ∧ Y7 ∧ Y8 ∧ Y9 ∧ Y10 := ⟨h1.t hg b c, tg9 hg b d e h i j k l m a⟩
theorem RJ (c : Below W.heap.size W W') (d : X1) (e : X2) (g : X3) (h : X4) (i : X5) (j : X6) (k : X7) (l : X8) (m : X9) (a : X10) (b : X11) [h1 : Tb X1 W W' Y1] [h2 : Tb X2 W W' Y2] [h3 : Tb X3 W W' Y3] [h4 : Tb X4 W W' Y4] [h5 : Tb X5 W W' Y5] [h6 : Tb X6 W W' Y6] [h7 : Tb X7 W W' Y7] [h8 : Tb X8 W W' Y8] [h9 : Tb X9 W W' Y9] [h10 : Tb X10 W W' Y10] [h11 : Tb X11 W W' Y11] : Y1 ∧ Y2 ∧ Y3 ∧ Y4 ∧ Y5 ∧ Y6 ∧ Y7 ∧ Y8 ∧ Y9 ∧ Y10 ∧ Y11 := ⟨h1.t c d, RI c e g h i j k l m a b⟩
theorem RL (hg : g = W.heap.size) (c : Below W.heap.size W W') (d : X1) (e : X2) (h : X3) (i : X4) (j : X5) (k : X6) (l : X7) (m : X8) (n : X9) (a : X10) (b : X11) [h1 : Tg X1 W W' g Y1] [h2 : Tg X2 W W' g Y2] [h3 : Tg X3 W W' g Y3] [h4 : Tg X4 W W' g Y4] [h5 : Tg X5 W W' g Y5] [h6 : Tg X6 W W' g Y6] [h7 : Tg X7 W W' g Y7] [h8 : Tg X8 W W' g Y8] [h9 : Tg X9 W W' g Y9] [h10 : Tg X10 W W' g Y10] [h11 : Tg X11 W W' g Y11] : Y1 ∧ Y2 ∧ Y3 ∧ Y4 ∧ Y5 ∧ Y6 ∧ Y7 ∧ Y8 ∧ Y9 ∧ Y10 ∧ Y11 := ⟨h1.t hg c d, QD hg c e h i j k l m n a b⟩
theorem SC (d : Below W.heap.size W W') (e : X1) (g : X2) (h : X3) (i : X4) (j : X5) (k : X6) (l : X7) (m : X8) (n : X9) (a : X10) (b : X11) (c : X12) [h1 : Tb X1 W W' Y1] [h2 : Tb X2 W W' Y2] [h3 : Tb X3 W W' Y3] [h4 : Tb X4 W W' Y4] [h5 : Tb X5 W W' Y5] [h6 : Tb X6 W W' Y6] [h7 : Tb X7 W W' Y7] [h8 : Tb X8 W W' Y8] [h9 : Tb X9 W W' Y9] [h10 : Tb X10 W W' Y10] [h11 : Tb X11 W W' Y11] [h12 : Tb X12 W W' Y12] : Y1 ∧ Y2 ∧ Y3 ∧ Y4 ∧ Y5 ∧ Y6 ∧ Y7 ∧ Y8 ∧ Y9 ∧ Y10 ∧ Y11 ∧ Y12 := ⟨h1.t d e, RJ d g h i j k l m n a b c⟩
theorem SE (hg : g = W.heap.size) (d : Below W.heap.size W W') (e : X1) (h : X2) (i : X3) (j : X4) (k : X5) (l : X6) (m : X7) (n : X8) (o : X9) (a : X10) (b : X11) (c : X12) [h1 : Tg X1 W W' g Y1] [h2 : Tg X2 W W' g Y2] [h3 : Tg X3 W W' g Y3] [h4 : Tg X4 W W' g Y4] [h5 : Tg X5 W W' g Y5] [h6 : Tg X6 W W' g Y6] [h7 : Tg X7 W W' g Y7] [h8 : Tg X8 W W' g Y8] [h9 : Tg X9 W W' g Y9] [h10 : Tg X10 W W' g Y10] [h11 : Tg X11 W W' g Y11] [h12 : Tg X12 W W' g Y12] : Y1 ∧ Y2 ∧ Y3 ∧ Y4 ∧ Y5 ∧ Y6 ∧ Y7 ∧ Y8 ∧ Y9 ∧ Y10 ∧ Y11 ∧ Y12 := ⟨h1.t hg d e, RL hg d h i j k l m n o a b c⟩
end
section
variable {P : Program} {md : Region.Mode} {ops : Array Oper} {Q : Exit → Act → World → Prop} {S : World → Prop} {ds : List Nat} {fuel : Nat} {l : Array Bool} {a a' : Act} {w : World}
theorem nz (n : Tmp) {d : Option Tmp} {v : Value} (h : Ba P md ops Q S ds fuel l a' w) (hd : d = some n := by rfl) (b : a.put (some n) v = a' := by simp only [ps]; rfl) : Ba P md ops Q S ds fuel l (a.put d v) w := Hy (by rw [hd]; exact b) h
end
abbrev nw (v : Value) (k : Nat) : Prop := some k ≠ v.ownBlock
abbrev ζ : Bool := false
abbrev ξ : Bool := true
abbrev zzb {α : Type} (A : Option Addr) (l : List α) (c k : Nat) : Prop := some k ≠ (Value.slice A l.length c).ownBlock
abbrev zzc (a b k : Nat) : Prop := k ≠ a ∧ k ≠ b
abbrev zzd (a b c k : Nat) : Prop := k ≠ a ∧ k ≠ b ∧ k ≠ c
abbrev zze (a b c d k : Nat) : Prop := k ≠ a ∧ k ≠ b ∧ k ≠ c ∧ k ≠ d
abbrev zzf (a b c d e k : Nat) : Prop := k ≠ a ∧ k ≠ b ∧ k ≠ c ∧ k ≠ d ∧ k ≠ e
abbrev zzg (a b c d e f k : Nat) : Prop := k ≠ a ∧ k ≠ b ∧ k ≠ c ∧ k ≠ d ∧ k ≠ e ∧ k ≠ f
abbrev zzh (a b c d e f g k : Nat) : Prop := k ≠ a ∧ k ≠ b ∧ k ≠ c ∧ k ≠ d ∧ k ≠ e ∧ k ≠ f ∧ k ≠ g
theorem zza {A B : Nat → Prop} (h : ∀ k, A k → B k := by intro _ h; (try dsimp only at h ⊢); (try simp only [nw, zzb, zzc, zzd, zze, zzf, zzg, zzh, ne_eq] at h ⊢); simp only [h, not_false_eq_true, and_self]) : ∀ k, A k → B k := h
abbrev bk (w : World) (g : Nat) (t : TypeId) (cs : Array Value) : Prop := w.heap[g]? = some (.cells cs t (0, 0))
end Go.Proofs.Ytojankgmedccdaa.Own
