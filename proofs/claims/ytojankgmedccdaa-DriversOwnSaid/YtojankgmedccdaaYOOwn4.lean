/- Lemmas. -/
import Derived.Test.YtojankgmedccdaaProg
import Derived.Test.YtojankgmedccdaaYOW0
section
namespace Go.Proofs.Ytojankgmedccdaa.Wo
set_option linter.unusedVariables false
open Go.ChangeShapes Go.WideShapes Go.RowKit
namespace Kd
section
variable {P : Program} {ops : Array Oper} {rest : List Oper} {o : Oper} {a : Act} {Q : Exit → Act → World → Prop} {α : Type}
theorem Js (d : Kd α) {w0 W : World} (base e : Nat) (u : o.guard = none) {N : Tmp} (_hd : o.dst = some N) (t : TypeId) (x y : Operand) (ho : o.op = .makeSlice t x y) (n : Int) (T : a.eval x = .int .i64 0) (U : a.eval y = .int .i64 n)
    (O : P.underlying t = some (.slice e)) (z : Value) (bytes : Nat) (l : (P.info? e).map (fun i => (i.zero, i.size, i.bytes)) = some (some z, d.sz, bytes)) (X : z.cells.size = d.sz) (L : 0 < d.sz) (s : 0 < bytes)
    (z0 : α) {ok okp : Nat → Prop} (_hzero : d.M W base okp z0 z.cells.toList) (_hok : ∀ k, okp k → ok k) (j : ok W.heap.size) (I : 0 ≤ n) (D : n.toNat * bytes ≤ 281474976710656) (G : Below base w0 W) (c : base ≤ W.heap.size)
    (h : ∀ v1 w1, d.R e w1 base ok v1 ([] : List α) → Below base w0 w1 → W.grownBy w1 none → (∃ b, v1.ownBlock = some b ∧ W.heap.size ≤ b) → wpList P ops Q rest (a.put o.dst v1) w1) : wpList P ops Q (o :: rest) a W := by
  obtain ⟨m, rfl⟩ := Int.eq_ofNat_of_zero_le I; simp only [Int.toNat_natCast] at D; obtain ⟨i0, hi, r⟩ := Option.map_eq_some_iff.1 l; simp only [Prod.mk.injEq] at r; obtain ⟨v, w, B⟩ := r; have hm : m ≤ 281474976710656 := Nat.le_trans (Nat.le_mul_of_pos_right _ s) D; have hr := run_make (P := P) W t e i0 z O hi v .i64 .i64 (0 : Int) (m : Int) (by omega) (by omega)
    (by
      have h3 : ((i0.bytes * m : Nat) : Int) ≤ 281474976710656 := by rw [B, Nat.mul_comm]; omega
      rwa [Int.natCast_mul] at h3) (by omega)
  simp only [Int.toNat_natCast, Int.toNat_zero] at hr; rw [w] at hr; have q : (execOp a.eval o).run P W = .ok (.value (.slice (some ⟨W.heap.size, 0, none⟩) 0 m)) (W.alloc (.cells (madeCells z.cells (m * d.sz)) e)) := by
    simp [execOp, ho, T, U, hr]
  refine Hm u q (h _ _ ⟨fun k J => ?_, [], ?_, ?_⟩ (G.alloc c _) (World.grownBy_alloc W _ none) ⟨W.heap.size, by simp [Value.ownBlock], Nat.le_refl _⟩)
  · have : W.heap.size = k := by simpa [Value.ownBlock] using J
    subst this; exact j
  · have h2 := World.ownsRow_lit (base := base) (e := e) (size := d.sz) W (madeCells z.cells (m * d.sz)) m c (by show m ≤ 9223372036854775807; omega) (by simp [size_madeCells]); have h3 := NM h2 (Nat.zero_le m); simpa using h3
  · exact Cu.none _ _
theorem O5 (d : Kd α) {w0 W : World} (base e : Nat) (w : o.guard = none) {N' : Tmp} (hd : o.dst = some N') (t : TypeId) (x y : Operand) (ho : o.op = .makeSlice t x y) (n : Int) (X : a.eval x = .int .i64 0) (G : a.eval y = .int .i64 n)
    (U : P.underlying t = some (.slice e)) (z : Value) (bytes : Nat) (r : (P.info? e).map (fun i => (i.zero, i.size, i.bytes)) = some (some z, d.sz, bytes)) (Y : z.cells.size = d.sz) (D : 0 < d.sz) (v : 0 < bytes)
    (z0 : α) {ok okp : Nat → Prop} (s : FK d W okp z0 z.cells.toList) (B : ∀ k, okp k → ok k) (l : ok W.heap.size) (J : 0 ≤ n) (T : n.toNat * bytes ≤ 281474976710656) (I : Below base w0 W) (q : base ≤ W.heap.size)
    (h : ∀ v1 w1, N d e w1 base ok v1 ([] : List α) → Below base w0 w1 → W.grownBy w1 none → (∃ b, v1.ownBlock = some b ∧ W.heap.size ≤ b) → wpList P ops Q rest (a.put o.dst v1) w1) :
    wpList P ops Q (o :: rest) a W := by
  refine Js (raw d.sz) base e w hd t x y ho n X G U z bytes r Y D v z.cells.toList (ok := fun k => k = W.heap.size) (okp := fun _ => False) (LA s) (fun _ O => O.elim) rfl J T I q ?_; intro v1 w1 hr L hg u; exact h v1 w1 (Nc hr hg u rfl (fun j y c G Z => by cases G) B l) L hg u
end
end Kd
end Go.Proofs.Ytojankgmedccdaa.Wo
namespace Go.Proofs.Ytojankgmedccdaa.Own
open Go.RowKit Wo
def Dk (w : World) : Prop := ∃ m, w.cell? ⟨0, 0, none⟩ = some (.int .i64 m)
theorem Ad {w W : World} (h : Dk w) (a : Below w.heap.size w W) : Dk W := by
  obtain ⟨m, hm⟩ := h; exact ⟨m, (a.cell (World.block_lt_of_cell? w _ hm)).trans hm⟩
theorem LF {w : World} (h : Dk w) (n : Nat) : Dk (w.drewN n) := h
theorem MW {w : World} (h : Dk w) : Dk w.drew := h
end Go.Proofs.Ytojankgmedccdaa.Own
end
section
namespace Go.Proofs.Ytojankgmedccdaa.Own
open Go.RowKit Wo
section
variable {w : World} {g : Nat} {t : TypeId} {a b c d e f : Value}
theorem Ar (h : w.heap[g]? = some (.cells #[a, b, c, d] t (0, 0))) : w.cell? ⟨g, 0, none⟩ = some a ∧ w.cell? ⟨g, 1, none⟩ = some b ∧ w.cell? ⟨g, 2, none⟩ = some c ∧ w.cell? ⟨g, 3, none⟩ = some d ∧ w.frozen? ⟨g, 0, none⟩ = false ∧ w.frozen? ⟨g, 1, none⟩ = false ∧ w.frozen? ⟨g, 2, none⟩ = false ∧ w.frozen? ⟨g, 3, none⟩ = false :=
  ⟨(AO h 0).trans rfl, (AO h 1).trans rfl, (AO h 2).trans rfl, (AO h 3).trans rfl, AJ h 0, AJ h 1, AJ h 2, AJ h 3⟩
theorem cells5 (h : w.heap[g]? = some (.cells #[a, b, c, d, e] t (0, 0))) : w.cell? ⟨g, 0, none⟩ = some a ∧ w.cell? ⟨g, 1, none⟩ = some b ∧ w.cell? ⟨g, 2, none⟩ = some c ∧ w.cell? ⟨g, 3, none⟩ = some d ∧ w.cell? ⟨g, 4, none⟩ = some e ∧ w.frozen? ⟨g, 0, none⟩ = false ∧ w.frozen? ⟨g, 1, none⟩ = false ∧ w.frozen? ⟨g, 2, none⟩ = false ∧ w.frozen? ⟨g, 3, none⟩ = false ∧ w.frozen? ⟨g, 4, none⟩ = false :=
  ⟨(AO h 0).trans rfl, (AO h 1).trans rfl, (AO h 2).trans rfl, (AO h 3).trans rfl, (AO h 4).trans rfl, AJ h 0, AJ h 1, AJ h 2, AJ h 3, AJ h 4⟩
end
class Up (w W : World) : Prop where
  up : Below w.heap.size w W
instance up0 (w : World) : Up w w := ⟨Below.refl _ _⟩
instance up1 {w W : World} [h : Up w W] (o : Obj) : Up w (W.alloc o) := ⟨AV h.up o⟩
instance up2 {w W : World} [h : Up w W] (n : Nat) : Up w (W.drewN n) := ⟨Ai h.up n⟩
instance up3 {w W : World} [h : Up w W] : Up w W.drew := ⟨Af h.up⟩
theorem BA {w W : World} {g : Nat} {o : Obj} (h : w.heap[g]? = some o) [u : Up w W] : W.heap[g]? = some o := AL h u.up
theorem bel {w0 w W : World} (h : Below w0.heap.size w0 w) [u : Up w W] : Below w0.heap.size w0 W := AZ h u.up
section
variable {α : Type} {d : Kd α}
theorem Cy {w W : World} {A : Option Addr} {n : Nat} {xs : List α} (h : d.C w A n xs) [u : Up w W] : d.C W A n xs := Kd.Ak h u.up
theorem DR {w W : World} {e base : Nat} {ok : Nat → Prop} {v : Value} {xs : List α} (h : d.R e w base ok v xs) [u : Up w W] : d.R e W base ok v xs := Kd.Db h u.up
end
class Up1 (g1 : Nat) (w W : World) : Prop where
  up : ∀ w0 : World, Below w0.heap.size w0 w → w0.heap.size ≤ g1 → Below w0.heap.size w0 W
instance Sc {g1 : Nat} (w : World) : Up1 g1 w w := ⟨fun _ h _ => h⟩
instance Sd {g1 : Nat} {w W : World} [h : Up1 g1 w W] (o : Obj) : Up1 g1 w (W.alloc o) := ⟨fun w0 a h1 => AV (h.up w0 a h1) o⟩
instance Sg {g1 : Nat} {w W : World} [h : Up1 g1 w W] (n : Nat) : Up1 g1 w (W.drewN n) := ⟨fun w0 a h1 => Ai (h.up w0 a h1) n⟩
instance Si {g1 : Nat} {w W : World} [h : Up1 g1 w W] : Up1 g1 w W.drew := ⟨fun w0 a h1 => Af (h.up w0 a h1)⟩
instance RL {g1 : Nat} {w W : World} [h : Up1 g1 w W] (j : Nat) (v : Value) : Up1 g1 w (W.setCell ⟨g1, j, none⟩ v) := ⟨fun w0 a h1 => Ah (h.up w0 a h1) h1⟩
theorem Qd {w0 w W : World} {g1 : Nat} (h : Below w0.heap.size w0 w) (h1 : w0.heap.size ≤ g1) [u : Up1 g1 w W] : Below w0.heap.size w0 W := u.up w0 h h1
class Up2 (g1 g2 : Nat) (w W : World) : Prop where
  up : ∀ w0 : World, Below w0.heap.size w0 w → w0.heap.size ≤ g1 → w0.heap.size ≤ g2 → Below w0.heap.size w0 W
instance Sj {g1 g2 : Nat} (w : World) : Up2 g1 g2 w w := ⟨fun _ h _ _ => h⟩
instance Sk {g1 g2 : Nat} {w W : World} [h : Up2 g1 g2 w W] (o : Obj) : Up2 g1 g2 w (W.alloc o) := ⟨fun w0 a h1 h2 => AV (h.up w0 a h1 h2) o⟩
instance Sl {g1 g2 : Nat} {w W : World} [h : Up2 g1 g2 w W] (n : Nat) : Up2 g1 g2 w (W.drewN n) := ⟨fun w0 a h1 h2 => Ai (h.up w0 a h1 h2) n⟩
instance Sm {g1 g2 : Nat} {w W : World} [h : Up2 g1 g2 w W] : Up2 g1 g2 w W.drew := ⟨fun w0 a h1 h2 => Af (h.up w0 a h1 h2)⟩
instance RN {g1 g2 : Nat} {w W : World} [h : Up2 g1 g2 w W] (j : Nat) (v : Value) : Up2 g1 g2 w (W.setCell ⟨g1, j, none⟩ v) := ⟨fun w0 a h1 h2 => Ah (h.up w0 a h1 h2) h1⟩
instance RO {g1 g2 : Nat} {w W : World} [h : Up2 g1 g2 w W] (j : Nat) (v : Value) : Up2 g1 g2 w (W.setCell ⟨g2, j, none⟩ v) := ⟨fun w0 a h1 h2 => Ah (h.up w0 a h1 h2) h2⟩
theorem Qe {w0 w W : World} {g1 g2 : Nat} (h : Below w0.heap.size w0 w) (h1 : w0.heap.size ≤ g1) (h2 : w0.heap.size ≤ g2) [u : Up2 g1 g2 w W] : Below w0.heap.size w0 W := u.up w0 h h1 h2
class Up3 (g1 g2 g3 : Nat) (w W : World) : Prop where
  up : ∀ w0 : World, Below w0.heap.size w0 w → w0.heap.size ≤ g1 → w0.heap.size ≤ g2 → w0.heap.size ≤ g3 → Below w0.heap.size w0 W
instance Sn {g1 g2 g3 : Nat} (w : World) : Up3 g1 g2 g3 w w := ⟨fun _ h _ _ _ => h⟩
instance Sq {g1 g2 g3 : Nat} {w W : World} [h : Up3 g1 g2 g3 w W] (o : Obj) : Up3 g1 g2 g3 w (W.alloc o) := ⟨fun w0 a h1 h2 h3 => AV (h.up w0 a h1 h2 h3) o⟩
instance Sr {g1 g2 g3 : Nat} {w W : World} [h : Up3 g1 g2 g3 w W] (n : Nat) : Up3 g1 g2 g3 w (W.drewN n) := ⟨fun w0 a h1 h2 h3 => Ai (h.up w0 a h1 h2 h3) n⟩
instance Su {g1 g2 g3 : Nat} {w W : World} [h : Up3 g1 g2 g3 w W] : Up3 g1 g2 g3 w W.drew := ⟨fun w0 a h1 h2 h3 => Af (h.up w0 a h1 h2 h3)⟩
instance RP {g1 g2 g3 : Nat} {w W : World} [h : Up3 g1 g2 g3 w W] (j : Nat) (v : Value) : Up3 g1 g2 g3 w (W.setCell ⟨g1, j, none⟩ v) := ⟨fun w0 a h1 h2 h3 => Ah (h.up w0 a h1 h2 h3) h1⟩
instance RQ {g1 g2 g3 : Nat} {w W : World} [h : Up3 g1 g2 g3 w W] (j : Nat) (v : Value) : Up3 g1 g2 g3 w (W.setCell ⟨g2, j, none⟩ v) := ⟨fun w0 a h1 h2 h3 => Ah (h.up w0 a h1 h2 h3) h2⟩
instance RS {g1 g2 g3 : Nat} {w W : World} [h : Up3 g1 g2 g3 w W] (j : Nat) (v : Value) : Up3 g1 g2 g3 w (W.setCell ⟨g3, j, none⟩ v) := ⟨fun w0 a h1 h2 h3 => Ah (h.up w0 a h1 h2 h3) h3⟩
theorem Qf {w0 w W : World} {g1 g2 g3 : Nat} (h : Below w0.heap.size w0 w) (h1 : w0.heap.size ≤ g1) (h2 : w0.heap.size ≤ g2) (h3 : w0.heap.size ≤ g3) [u : Up3 g1 g2 g3 w W] : Below w0.heap.size w0 W := u.up w0 h h1 h2 h3
class Up4 (g1 g2 g3 g4 : Nat) (w W : World) : Prop where
  up : ∀ w0 : World, Below w0.heap.size w0 w → w0.heap.size ≤ g1 → w0.heap.size ≤ g2 → w0.heap.size ≤ g3 → w0.heap.size ≤ g4 → Below w0.heap.size w0 W
instance Sv {g1 g2 g3 g4 : Nat} (w : World) : Up4 g1 g2 g3 g4 w w := ⟨fun _ h _ _ _ _ => h⟩
instance Sw {g1 g2 g3 g4 : Nat} {w W : World} [h : Up4 g1 g2 g3 g4 w W] (o : Obj) : Up4 g1 g2 g3 g4 w (W.alloc o) := ⟨fun w0 a h1 h2 h3 h4 => AV (h.up w0 a h1 h2 h3 h4) o⟩
instance Sy {g1 g2 g3 g4 : Nat} {w W : World} [h : Up4 g1 g2 g3 g4 w W] (n : Nat) : Up4 g1 g2 g3 g4 w (W.drewN n) := ⟨fun w0 a h1 h2 h3 h4 => Ai (h.up w0 a h1 h2 h3 h4) n⟩
instance Sz {g1 g2 g3 g4 : Nat} {w W : World} [h : Up4 g1 g2 g3 g4 w W] : Up4 g1 g2 g3 g4 w W.drew := ⟨fun w0 a h1 h2 h3 h4 => Af (h.up w0 a h1 h2 h3 h4)⟩
instance RU {g1 g2 g3 g4 : Nat} {w W : World} [h : Up4 g1 g2 g3 g4 w W] (j : Nat) (v : Value) : Up4 g1 g2 g3 g4 w (W.setCell ⟨g1, j, none⟩ v) := ⟨fun w0 a h1 h2 h3 h4 => Ah (h.up w0 a h1 h2 h3 h4) h1⟩
instance RV {g1 g2 g3 g4 : Nat} {w W : World} [h : Up4 g1 g2 g3 g4 w W] (j : Nat) (v : Value) : Up4 g1 g2 g3 g4 w (W.setCell ⟨g2, j, none⟩ v) := ⟨fun w0 a h1 h2 h3 h4 => Ah (h.up w0 a h1 h2 h3 h4) h2⟩
instance RX {g1 g2 g3 g4 : Nat} {w W : World} [h : Up4 g1 g2 g3 g4 w W] (j : Nat) (v : Value) : Up4 g1 g2 g3 g4 w (W.setCell ⟨g3, j, none⟩ v) := ⟨fun w0 a h1 h2 h3 h4 => Ah (h.up w0 a h1 h2 h3 h4) h3⟩
instance RY {g1 g2 g3 g4 : Nat} {w W : World} [h : Up4 g1 g2 g3 g4 w W] (j : Nat) (v : Value) : Up4 g1 g2 g3 g4 w (W.setCell ⟨g4, j, none⟩ v) := ⟨fun w0 a h1 h2 h3 h4 => Ah (h.up w0 a h1 h2 h3 h4) h4⟩
theorem Qg {w0 w W : World} {g1 g2 g3 g4 : Nat} (h : Below w0.heap.size w0 w) (h1 : w0.heap.size ≤ g1) (h2 : w0.heap.size ≤ g2) (h3 : w0.heap.size ≤ g3) (h4 : w0.heap.size ≤ g4) [u : Up4 g1 g2 g3 g4 w W] : Below w0.heap.size w0 W := u.up w0 h h1 h2 h3 h4
section
variable {α : Type} {d : Kd α}
theorem Bl {w W : World} {e base : Nat} {ok : Nat → Prop} {v : Value} {xs : List α} (h : Kd.V d e w base ok v xs) [u : Up w W] : Kd.V d e W base ok v xs := Kd.Bh h u.up
theorem Ht {w W : World} {e base : Nat} {ok : Nat → Prop} {v : Value} {xs : List α} (h : Kd.N d e w base ok v xs) [u : Up w W] : Kd.N d e W base ok v xs := Kd.EF h u.up
end
end Go.Proofs.Ytojankgmedccdaa.Own
end
section
namespace Go.Proofs.Ytojankgmedccdaa.Own
open Go.RowKit Wo
class Pl (W : World) (w : outParam World) : Prop where
  up : Below w.heap.size w W
instance (priority := low) pl0 (w : World) : Pl w w := ⟨Below.refl _ _⟩
instance pl1 {w W : World} [h : Pl W w] (o : Obj) : Pl (W.alloc o) w := ⟨AV h.up o⟩
instance pl2 {w W : World} [h : Pl W w] (n : Nat) : Pl (W.drewN n) w := ⟨Ai h.up n⟩
instance pl3 {w W : World} [h : Pl W w] : Pl W.drew w := ⟨Af h.up⟩
theorem Dl {w W : World} [u : Pl W w] {g : Nat} {o : Obj} (h : w.heap[g]? = some o) : W.heap[g]? = some o := AL h u.up
theorem AY {w W : World} {p : Addr} {v : Value} (a : Below w.heap.size w W) (h : w.cell? p = some v) : W.cell? p = some v := (a.cell (World.block_lt_of_cell? w _ h)).trans h
theorem ps : (∀ (a : Act) (d : Option Tmp) (v : Value), a.put d v = (match d with | some t => { a with tmps := a.tmps.setIfInBounds t v } | none => a)) ∧ (∀ (l : List Value) (i : Nat) (a : Value), l.toArray.setIfInBounds i a = (l.set i a).toArray) ∧ (∀ (a b : Value) (l : List Value), (a :: l).set 0 b = b :: l) ∧ (∀ (a b : Value) (n : Nat) (l : List Value), (a :: l).set (n + 1) b = a :: l.set n b) ∧ (∀ n : Int, IntKind.i64.wrap n = wrap64 n) ∧ (∀ n : Int, IntKind.i32.wrap n = wrap32 n) :=
  ⟨fun a d v => by cases d <;> rfl, fun l i a => List.setIfInBounds_toArray .., fun a b l => rfl, fun a b n l => rfl, CG, DK⟩
section
variable {α : Type} {d : Kd α} {w W : World} {e base : Nat} {ok : Nat → Prop} {v : Value} {xs : List α}
theorem DZ [u : Pl W w] (h : d.R e w base ok v xs) : d.R e W base ok v xs := Kd.Db h u.up
theorem BB [u : Pl W w] (h : Kd.V d e w base ok v xs) : Kd.V d e W base ok v xs := Kd.Bh h u.up
theorem Fg [u : Pl W w] (h : Kd.N d e w base ok v xs) : Kd.N d e W base ok v xs := Kd.EF h u.up
end
end Go.Proofs.Ytojankgmedccdaa.Own
end
section
namespace Go.Proofs.Ytojankgmedccdaa.Own
open Go.RowKit Wo
section
variable {α β : Type} {x y : Option β} {r : β}
theorem sI {a : β} (h : some a = some r) : a = r := Option.some.inj h
theorem bS {o : Option α} {f : α → Option β} (h : o.bind f = some r) : ∃ t, Aside0 (o = some t) ∧ f t = some r := by
  obtain ⟨t, a, b⟩ := Option.bind_eq_some_iff.mp h; exact ⟨t, ⟨a⟩, b⟩
theorem iB {t : Bool} (h : (if t = true then x else y) = some r) : (t = true ∧ x = some r) ∨ (t = false ∧ y = some r) := by
  cases t
  · exact .inr ⟨rfl, by simpa using h⟩
  · exact .inl ⟨rfl, by simpa using h⟩
theorem iB' {t : Bool} (h : (if t = true then x else y) = some r) : (t = false ∧ y = some r) ∨ (t = true ∧ x = some r) := (iB h).symm
theorem iE [BEq α] [LawfulBEq α] {a b : α} {d : Decidable (a = b)} (h : (if a = b then x else y) = some r) : ((a == b) = true ∧ (a != b) = false ∧ x = some r) ∨ (¬ a = b ∧ (a == b) = false ∧ (a != b) = true ∧ y = some r) := by
  by_cases c : a = b
  · rw [if_pos c] at h; exact .inl ⟨beq_iff_eq.mpr c, bne_eq_false_iff_eq.mpr c, h⟩
  · rw [if_neg c] at h; exact .inr ⟨c, beq_eq_false_iff_ne.mpr c, bne_iff_ne.mpr c, h⟩
theorem iE' [BEq α] [LawfulBEq α] {a b : α} {d : Decidable (a = b)} (h : (if a = b then x else y) = some r) : (¬ a = b ∧ (a == b) = false ∧ (a != b) = true ∧ y = some r) ∨ ((a == b) = true ∧ (a != b) = false ∧ x = some r) := (iE h).symm
theorem iF [BEq α] [LawfulBEq α] {a b : α} {d : Decidable (a = b)} (h : (if a = b then x else y) = some r) : (a = b ∧ (a == b) = true ∧ (a != b) = false ∧ x = some r) ∨ (¬ a = b ∧ (a == b) = false ∧ (a != b) = true ∧ y = some r) := by
  by_cases c : a = b
  · rw [if_pos c] at h; exact .inl ⟨c, beq_iff_eq.mpr c, bne_eq_false_iff_eq.mpr c, h⟩
  · rw [if_neg c] at h; exact .inr ⟨c, beq_eq_false_iff_ne.mpr c, bne_iff_ne.mpr c, h⟩
theorem iF' [BEq α] [LawfulBEq α] {a b : α} {d : Decidable (a = b)} (h : (if a = b then x else y) = some r) : (¬ a = b ∧ (a == b) = false ∧ (a != b) = true ∧ y = some r) ∨ (a = b ∧ (a == b) = true ∧ (a != b) = false ∧ x = some r) := (iF h).symm
theorem iD {p : Prop} {d : Decidable p} (h : (if p then x else y) = some r) : (p ∧ decide p = true ∧ x = some r) ∨ (¬ p ∧ decide p = false ∧ y = some r) := by
  by_cases c : p
  · rw [if_pos c] at h; exact .inl ⟨c, decide_eq_true c, h⟩
  · rw [if_neg c] at h; exact .inr ⟨c, decide_eq_false c, h⟩
theorem iD' {p : Prop} {d : Decidable p} (h : (if p then x else y) = some r) : (¬ p ∧ decide p = false ∧ y = some r) ∨ (p ∧ decide p = true ∧ x = some r) := (iD h).symm
theorem iN {p : Prop} {d : Decidable p} (h : (if p then x else none) = some r) : p ∧ decide p = true ∧ x = some r := by
  by_cases c : p
  · rw [if_pos c] at h; exact ⟨c, decide_eq_true c, h⟩
  · rw [if_neg c] at h; cases h
end
section
variable {P : Program} {ops : Array Oper} {Q : Exit → Act → World → Prop} {rest : List Oper} {oi : Oper} {a : Act} {w : World}
theorem goB (N : Option Tmp) (hd : oi.dst = N) (hg : oi.guard = none) {f : FuncId} {fn : Func} {as_ : Array Operand} {ts : Array TypeId} (o : P.funcs[f]? = some fn) (c : (fn.name == "runtime.NumGoroutine") = false) (k : fn.body.isSome = true) (args : Array Value)
    (i : oi.op = .call { callee := .value (.func f), args := as_, argTypes := ts }) (b : as_.toList.map a.eval = args.toList) {v : Value} (l : Calls P f args w fun e w' => e = .returned v ∧ Below w.heap.size w w')
    (h : ∀ w', Below w.heap.size w w' → wpList P ops Q rest (a.put N v) w') : wpList P ops Q (oi :: rest) a w :=
  Eg N hd hg o c k args i (by cases as_; cases args; simp only [List.map_toArray]; exact congrArg _ b) (l.mono fun e w' j => ⟨v, j.1, h w' j.2⟩)
theorem goD (N : Option Tmp) (hd : oi.dst = N) (hg : oi.guard = none) {f : FuncId} {fn : Func} {as_ : Array Operand} {ts : Array TypeId} (o : P.funcs[f]? = some fn) (c : (fn.name == "runtime.NumGoroutine") = false) (k : fn.body.isSome = true) (args : Array Value)
    (i : oi.op = .call { callee := .value (.func f), args := as_, argTypes := ts }) (b : as_.toList.map a.eval = args.toList) {v : Value} (l : Calls P f args w fun e w' => e = .returned v ∧ Aq w w')
    (h : ∀ n, wpList P ops Q rest (a.put N v) (w.drewN n)) : wpList P ops Q (oi :: rest) a w :=
  Eg N hd hg o c k args i (by cases as_; cases args; simp only [List.map_toArray]; exact congrArg _ b) (l.mono fun e w' j => ⟨v, j.1, by obtain ⟨n, rfl⟩ := j.2; exact h n⟩)
end
section
variable {w0 w W W' : World} {g g1 g2 g3 g4 : Nat} {o : Obj}
theorem kb (h : Aside0 (w.heap[g]? = some o)) (a : Below W.heap.size W W') [Up w W] : Aside0 (W'.heap[g]? = some o) := ⟨AL (BA h.out) a⟩
theorem kh (h : Aside0 (Below w0.heap.size w0 w)) (a : Below W.heap.size W W') [Up w W] : Aside0 (Below w0.heap.size w0 W') := ⟨AZ (bel h.out) a⟩
theorem kh1 (h : Aside0 (Below w0.heap.size w0 w)) (h1 : Aside0 (w0.heap.size ≤ g1)) (a : Below W.heap.size W W') [Up1 g1 w W] : Aside0 (Below w0.heap.size w0 W') := ⟨AZ (Qd h.out h1.out) a⟩
theorem kh2 (h : Aside0 (Below w0.heap.size w0 w)) (h1 : Aside0 (w0.heap.size ≤ g1)) (h2 : Aside0 (w0.heap.size ≤ g2)) (a : Below W.heap.size W W') [Up2 g1 g2 w W] : Aside0 (Below w0.heap.size w0 W') := ⟨AZ (Qe h.out h1.out h2.out) a⟩
theorem kh3 (h : Aside0 (Below w0.heap.size w0 w)) (h1 : Aside0 (w0.heap.size ≤ g1)) (h2 : Aside0 (w0.heap.size ≤ g2)) (h3 : Aside0 (w0.heap.size ≤ g3)) (a : Below W.heap.size W W') [Up3 g1 g2 g3 w W] : Aside0 (Below w0.heap.size w0 W') := ⟨AZ (Qf h.out h1.out h2.out h3.out) a⟩
theorem kh4 (h : Aside0 (Below w0.heap.size w0 w)) (h1 : Aside0 (w0.heap.size ≤ g1)) (h2 : Aside0 (w0.heap.size ≤ g2)) (h3 : Aside0 (w0.heap.size ≤ g3)) (h4 : Aside0 (w0.heap.size ≤ g4)) (a : Below W.heap.size W W') [Up4 g1 g2 g3 g4 w W] : Aside0 (Below w0.heap.size w0 W') := ⟨AZ (Qg h.out h1.out h2.out h3.out h4.out) a⟩
theorem be (h : Aside0 (Below w0.heap.size w0 w)) [Up w W] : Below w0.heap.size w0 W := bel h.out
theorem be1 (h : Aside0 (Below w0.heap.size w0 w)) (h1 : Aside0 (w0.heap.size ≤ g1)) [Up1 g1 w W] : Below w0.heap.size w0 W := Qd h.out h1.out
theorem be2 (h : Aside0 (Below w0.heap.size w0 w)) (h1 : Aside0 (w0.heap.size ≤ g1)) (h2 : Aside0 (w0.heap.size ≤ g2)) [Up2 g1 g2 w W] : Below w0.heap.size w0 W := Qe h.out h1.out h2.out
theorem be3 (h : Aside0 (Below w0.heap.size w0 w)) (h1 : Aside0 (w0.heap.size ≤ g1)) (h2 : Aside0 (w0.heap.size ≤ g2)) (h3 : Aside0 (w0.heap.size ≤ g3)) [Up3 g1 g2 g3 w W] : Below w0.heap.size w0 W := Qf h.out h1.out h2.out h3.out
theorem be4 (h : Aside0 (Below w0.heap.size w0 w)) (h1 : Aside0 (w0.heap.size ≤ g1)) (h2 : Aside0 (w0.heap.size ≤ g2)) (h3 : Aside0 (w0.heap.size ≤ g3)) (h4 : Aside0 (w0.heap.size ≤ g4)) [Up4 g1 g2 g3 g4 w W] : Below w0.heap.size w0 W := Qg h.out h1.out h2.out h3.out h4.out
theorem bu (h : Aside0 (w.heap[g]? = some o)) [Up w W] : W.heap[g]? = some o := BA h.out
theorem bs (h : Below w0.heap.size w0 W) (hg : g = W.heap.size) : Aside0 (w0.heap.size ≤ g) := ⟨by rw [hg]; exact AX h⟩
theorem nb1 (h : W.heap[g]? = some o) (hg : g1 = W.heap.size) : Aside0 (g ≠ g1) := ⟨by rw [hg]; exact Nat.ne_of_lt (Dx h)⟩
theorem nb2 (h : W.heap[g]? = some o) (hg : g1 = W.heap.size) : Aside0 (g1 ≠ g) := ⟨by rw [hg]; exact Nat.ne_of_gt (Dx h)⟩
theorem cu {α : Type} {d : Kd α} {A : Option Addr} {n : Nat} {xs : List α} (h : Aside0 (d.C w0 A n xs)) (a : Aside0 (Below w0.heap.size w0 w)) [Up w W] : d.C W A n xs := Cy (Kd.Ak h.out a.out)
end
class Up5 (g1 g2 g3 g4 g5 : Nat) (w W : World) : Prop where
  up : ∀ w0 : World, Below w0.heap.size w0 w → w0.heap.size ≤ g1 → w0.heap.size ≤ g2 → w0.heap.size ≤ g3 → w0.heap.size ≤ g4 → w0.heap.size ≤ g5 → Below w0.heap.size w0 W
section
variable {g1 g2 g3 g4 g5 : Nat}
instance S9 (w : World) : Up5 g1 g2 g3 g4 g5 w w := ⟨fun _ h _ _ _ _ _ => h⟩
instance TA {w W : World} [h : Up5 g1 g2 g3 g4 g5 w W] (o : Obj) : Up5 g1 g2 g3 g4 g5 w (W.alloc o) := ⟨fun w0 b h1 h2 h3 h4 a => AV (h.up w0 b h1 h2 h3 h4 a) o⟩
instance TB {w W : World} [h : Up5 g1 g2 g3 g4 g5 w W] (n : Nat) : Up5 g1 g2 g3 g4 g5 w (W.drewN n) := ⟨fun w0 b h1 h2 h3 h4 a => Ai (h.up w0 b h1 h2 h3 h4 a) n⟩
instance TC {w W : World} [h : Up5 g1 g2 g3 g4 g5 w W] : Up5 g1 g2 g3 g4 g5 w W.drew := ⟨fun w0 b h1 h2 h3 h4 a => Af (h.up w0 b h1 h2 h3 h4 a)⟩
instance RZ {w W : World} [h : Up5 g1 g2 g3 g4 g5 w W] (j : Nat) (v : Value) : Up5 g1 g2 g3 g4 g5 w (W.setCell ⟨g1, j, none⟩ v) := ⟨fun w0 b h1 h2 h3 h4 a => Ah (h.up w0 b h1 h2 h3 h4 a) h1⟩
instance Ra {w W : World} [h : Up5 g1 g2 g3 g4 g5 w W] (j : Nat) (v : Value) : Up5 g1 g2 g3 g4 g5 w (W.setCell ⟨g2, j, none⟩ v) := ⟨fun w0 b h1 h2 h3 h4 a => Ah (h.up w0 b h1 h2 h3 h4 a) h2⟩
instance Rb {w W : World} [h : Up5 g1 g2 g3 g4 g5 w W] (j : Nat) (v : Value) : Up5 g1 g2 g3 g4 g5 w (W.setCell ⟨g3, j, none⟩ v) := ⟨fun w0 b h1 h2 h3 h4 a => Ah (h.up w0 b h1 h2 h3 h4 a) h3⟩
instance Rc {w W : World} [h : Up5 g1 g2 g3 g4 g5 w W] (j : Nat) (v : Value) : Up5 g1 g2 g3 g4 g5 w (W.setCell ⟨g4, j, none⟩ v) := ⟨fun w0 b h1 h2 h3 h4 a => Ah (h.up w0 b h1 h2 h3 h4 a) h4⟩
instance Re {w W : World} [h : Up5 g1 g2 g3 g4 g5 w W] (j : Nat) (v : Value) : Up5 g1 g2 g3 g4 g5 w (W.setCell ⟨g5, j, none⟩ v) := ⟨fun w0 b h1 h2 h3 h4 a => Ah (h.up w0 b h1 h2 h3 h4 a) a⟩
theorem be5 {w0 w W : World} (h : Aside0 (Below w0.heap.size w0 w)) (h1 : Aside0 (w0.heap.size ≤ g1)) (h2 : Aside0 (w0.heap.size ≤ g2)) (h3 : Aside0 (w0.heap.size ≤ g3)) (h4 : Aside0 (w0.heap.size ≤ g4)) (a : Aside0 (w0.heap.size ≤ g5)) [u : Up5 g1 g2 g3 g4 g5 w W] : Below w0.heap.size w0 W := u.up w0 h.out h1.out h2.out h3.out h4.out a.out
theorem kh5 {w0 w W W' : World} (h : Aside0 (Below w0.heap.size w0 w)) (h1 : Aside0 (w0.heap.size ≤ g1)) (h2 : Aside0 (w0.heap.size ≤ g2)) (h3 : Aside0 (w0.heap.size ≤ g3)) (h4 : Aside0 (w0.heap.size ≤ g4)) (a : Aside0 (w0.heap.size ≤ g5)) (b : Below W.heap.size W W') [u : Up5 g1 g2 g3 g4 g5 w W] : Aside0 (Below w0.heap.size w0 W') := ⟨AZ (u.up w0 h.out h1.out h2.out h3.out h4.out a.out) b⟩
end
class Up6 (g1 g2 g3 g4 g5 g6 : Nat) (w W : World) : Prop where
  up : ∀ w0 : World, Below w0.heap.size w0 w → w0.heap.size ≤ g1 → w0.heap.size ≤ g2 → w0.heap.size ≤ g3 → w0.heap.size ≤ g4 → w0.heap.size ≤ g5 → w0.heap.size ≤ g6 → Below w0.heap.size w0 W
section
variable {g1 g2 g3 g4 g5 g6 : Nat}
instance TD (w : World) : Up6 g1 g2 g3 g4 g5 g6 w w := ⟨fun _ h _ _ _ _ _ _ => h⟩
instance TE {w W : World} [h : Up6 g1 g2 g3 g4 g5 g6 w W] (o : Obj) : Up6 g1 g2 g3 g4 g5 g6 w (W.alloc o) := ⟨fun w0 c h1 h2 h3 h4 a b => AV (h.up w0 c h1 h2 h3 h4 a b) o⟩
instance TF {w W : World} [h : Up6 g1 g2 g3 g4 g5 g6 w W] (n : Nat) : Up6 g1 g2 g3 g4 g5 g6 w (W.drewN n) := ⟨fun w0 c h1 h2 h3 h4 a b => Ai (h.up w0 c h1 h2 h3 h4 a b) n⟩
instance TG {w W : World} [h : Up6 g1 g2 g3 g4 g5 g6 w W] : Up6 g1 g2 g3 g4 g5 g6 w W.drew := ⟨fun w0 c h1 h2 h3 h4 a b => Af (h.up w0 c h1 h2 h3 h4 a b)⟩
instance Rf {w W : World} [h : Up6 g1 g2 g3 g4 g5 g6 w W] (j : Nat) (v : Value) : Up6 g1 g2 g3 g4 g5 g6 w (W.setCell ⟨g1, j, none⟩ v) := ⟨fun w0 c h1 h2 h3 h4 a b => Ah (h.up w0 c h1 h2 h3 h4 a b) h1⟩
instance Rh {w W : World} [h : Up6 g1 g2 g3 g4 g5 g6 w W] (j : Nat) (v : Value) : Up6 g1 g2 g3 g4 g5 g6 w (W.setCell ⟨g2, j, none⟩ v) := ⟨fun w0 c h1 h2 h3 h4 a b => Ah (h.up w0 c h1 h2 h3 h4 a b) h2⟩
instance Ri {w W : World} [h : Up6 g1 g2 g3 g4 g5 g6 w W] (j : Nat) (v : Value) : Up6 g1 g2 g3 g4 g5 g6 w (W.setCell ⟨g3, j, none⟩ v) := ⟨fun w0 c h1 h2 h3 h4 a b => Ah (h.up w0 c h1 h2 h3 h4 a b) h3⟩
instance Rj {w W : World} [h : Up6 g1 g2 g3 g4 g5 g6 w W] (j : Nat) (v : Value) : Up6 g1 g2 g3 g4 g5 g6 w (W.setCell ⟨g4, j, none⟩ v) := ⟨fun w0 c h1 h2 h3 h4 a b => Ah (h.up w0 c h1 h2 h3 h4 a b) h4⟩
instance Rk {w W : World} [h : Up6 g1 g2 g3 g4 g5 g6 w W] (j : Nat) (v : Value) : Up6 g1 g2 g3 g4 g5 g6 w (W.setCell ⟨g5, j, none⟩ v) := ⟨fun w0 c h1 h2 h3 h4 a b => Ah (h.up w0 c h1 h2 h3 h4 a b) a⟩
instance Rl {w W : World} [h : Up6 g1 g2 g3 g4 g5 g6 w W] (j : Nat) (v : Value) : Up6 g1 g2 g3 g4 g5 g6 w (W.setCell ⟨g6, j, none⟩ v) := ⟨fun w0 c h1 h2 h3 h4 b a => Ah (h.up w0 c h1 h2 h3 h4 b a) a⟩
theorem be6 {w0 w W : World} (h : Aside0 (Below w0.heap.size w0 w)) (h1 : Aside0 (w0.heap.size ≤ g1)) (h2 : Aside0 (w0.heap.size ≤ g2)) (h3 : Aside0 (w0.heap.size ≤ g3)) (h4 : Aside0 (w0.heap.size ≤ g4)) (a : Aside0 (w0.heap.size ≤ g5)) (b : Aside0 (w0.heap.size ≤ g6)) [u : Up6 g1 g2 g3 g4 g5 g6 w W] : Below w0.heap.size w0 W := u.up w0 h.out h1.out h2.out h3.out h4.out a.out b.out
theorem kh6 {w0 w W W' : World} (h : Aside0 (Below w0.heap.size w0 w)) (h1 : Aside0 (w0.heap.size ≤ g1)) (h2 : Aside0 (w0.heap.size ≤ g2)) (h3 : Aside0 (w0.heap.size ≤ g3)) (h4 : Aside0 (w0.heap.size ≤ g4)) (a : Aside0 (w0.heap.size ≤ g5)) (b : Aside0 (w0.heap.size ≤ g6)) (c : Below W.heap.size W W') [u : Up6 g1 g2 g3 g4 g5 g6 w W] : Aside0 (Below w0.heap.size w0 W') := ⟨AZ (u.up w0 h.out h1.out h2.out h3.out h4.out a.out b.out) c⟩
end
class Up7 (g1 g2 g3 g4 g5 g6 g7 : Nat) (w W : World) : Prop where
  up : ∀ w0 : World, Below w0.heap.size w0 w → w0.heap.size ≤ g1 → w0.heap.size ≤ g2 → w0.heap.size ≤ g3 → w0.heap.size ≤ g4 → w0.heap.size ≤ g5 → w0.heap.size ≤ g6 → w0.heap.size ≤ g7 → Below w0.heap.size w0 W
section
variable {g1 g2 g3 g4 g5 g6 g7 : Nat}
instance TH (w : World) : Up7 g1 g2 g3 g4 g5 g6 g7 w w := ⟨fun _ h _ _ _ _ _ _ _ => h⟩
instance TI {w W : World} [h : Up7 g1 g2 g3 g4 g5 g6 g7 w W] (o : Obj) : Up7 g1 g2 g3 g4 g5 g6 g7 w (W.alloc o) := ⟨fun w0 e h1 h2 h3 h4 a b c => AV (h.up w0 e h1 h2 h3 h4 a b c) o⟩
instance TJ {w W : World} [h : Up7 g1 g2 g3 g4 g5 g6 g7 w W] (n : Nat) : Up7 g1 g2 g3 g4 g5 g6 g7 w (W.drewN n) := ⟨fun w0 e h1 h2 h3 h4 a b c => Ai (h.up w0 e h1 h2 h3 h4 a b c) n⟩
instance TK {w W : World} [h : Up7 g1 g2 g3 g4 g5 g6 g7 w W] : Up7 g1 g2 g3 g4 g5 g6 g7 w W.drew := ⟨fun w0 e h1 h2 h3 h4 a b c => Af (h.up w0 e h1 h2 h3 h4 a b c)⟩
instance Rm {w W : World} [h : Up7 g1 g2 g3 g4 g5 g6 g7 w W] (j : Nat) (v : Value) : Up7 g1 g2 g3 g4 g5 g6 g7 w (W.setCell ⟨g1, j, none⟩ v) := ⟨fun w0 e h1 h2 h3 h4 a b c => Ah (h.up w0 e h1 h2 h3 h4 a b c) h1⟩
instance Rn {w W : World} [h : Up7 g1 g2 g3 g4 g5 g6 g7 w W] (j : Nat) (v : Value) : Up7 g1 g2 g3 g4 g5 g6 g7 w (W.setCell ⟨g2, j, none⟩ v) := ⟨fun w0 e h1 h2 h3 h4 a b c => Ah (h.up w0 e h1 h2 h3 h4 a b c) h2⟩
instance Ro {w W : World} [h : Up7 g1 g2 g3 g4 g5 g6 g7 w W] (j : Nat) (v : Value) : Up7 g1 g2 g3 g4 g5 g6 g7 w (W.setCell ⟨g3, j, none⟩ v) := ⟨fun w0 e h1 h2 h3 h4 a b c => Ah (h.up w0 e h1 h2 h3 h4 a b c) h3⟩
instance Rp {w W : World} [h : Up7 g1 g2 g3 g4 g5 g6 g7 w W] (j : Nat) (v : Value) : Up7 g1 g2 g3 g4 g5 g6 g7 w (W.setCell ⟨g4, j, none⟩ v) := ⟨fun w0 e h1 h2 h3 h4 a b c => Ah (h.up w0 e h1 h2 h3 h4 a b c) h4⟩
instance Rq {w W : World} [h : Up7 g1 g2 g3 g4 g5 g6 g7 w W] (j : Nat) (v : Value) : Up7 g1 g2 g3 g4 g5 g6 g7 w (W.setCell ⟨g5, j, none⟩ v) := ⟨fun w0 e h1 h2 h3 h4 a b c => Ah (h.up w0 e h1 h2 h3 h4 a b c) a⟩
instance Rs {w W : World} [h : Up7 g1 g2 g3 g4 g5 g6 g7 w W] (j : Nat) (v : Value) : Up7 g1 g2 g3 g4 g5 g6 g7 w (W.setCell ⟨g6, j, none⟩ v) := ⟨fun w0 e h1 h2 h3 h4 b a c => Ah (h.up w0 e h1 h2 h3 h4 b a c) a⟩
instance Rt {w W : World} [h : Up7 g1 g2 g3 g4 g5 g6 g7 w W] (j : Nat) (v : Value) : Up7 g1 g2 g3 g4 g5 g6 g7 w (W.setCell ⟨g7, j, none⟩ v) := ⟨fun w0 e h1 h2 h3 h4 b c a => Ah (h.up w0 e h1 h2 h3 h4 b c a) a⟩
theorem be7 {w0 w W : World} (h : Aside0 (Below w0.heap.size w0 w)) (h1 : Aside0 (w0.heap.size ≤ g1)) (h2 : Aside0 (w0.heap.size ≤ g2)) (h3 : Aside0 (w0.heap.size ≤ g3)) (h4 : Aside0 (w0.heap.size ≤ g4)) (a : Aside0 (w0.heap.size ≤ g5)) (b : Aside0 (w0.heap.size ≤ g6)) (c : Aside0 (w0.heap.size ≤ g7)) [u : Up7 g1 g2 g3 g4 g5 g6 g7 w W] : Below w0.heap.size w0 W := u.up w0 h.out h1.out h2.out h3.out h4.out a.out b.out c.out
theorem kh7 {w0 w W W' : World} (h : Aside0 (Below w0.heap.size w0 w)) (h1 : Aside0 (w0.heap.size ≤ g1)) (h2 : Aside0 (w0.heap.size ≤ g2)) (h3 : Aside0 (w0.heap.size ≤ g3)) (h4 : Aside0 (w0.heap.size ≤ g4)) (a : Aside0 (w0.heap.size ≤ g5)) (b : Aside0 (w0.heap.size ≤ g6)) (c : Aside0 (w0.heap.size ≤ g7)) (e : Below W.heap.size W W') [u : Up7 g1 g2 g3 g4 g5 g6 g7 w W] : Aside0 (Below w0.heap.size w0 W') := ⟨AZ (u.up w0 h.out h1.out h2.out h3.out h4.out a.out b.out c.out) e⟩
end
class Up8 (g1 g2 g3 g4 g5 g6 g7 g8 : Nat) (w W : World) : Prop where
  up : ∀ w0 : World, Below w0.heap.size w0 w → w0.heap.size ≤ g1 → w0.heap.size ≤ g2 → w0.heap.size ≤ g3 → w0.heap.size ≤ g4 → w0.heap.size ≤ g5 → w0.heap.size ≤ g6 → w0.heap.size ≤ g7 → w0.heap.size ≤ g8 → Below w0.heap.size w0 W
section
variable {g1 g2 g3 g4 g5 g6 g7 g8 : Nat}
instance TL (w : World) : Up8 g1 g2 g3 g4 g5 g6 g7 g8 w w := ⟨fun _ h _ _ _ _ _ _ _ _ => h⟩
instance TM {w W : World} [h : Up8 g1 g2 g3 g4 g5 g6 g7 g8 w W] (o : Obj) : Up8 g1 g2 g3 g4 g5 g6 g7 g8 w (W.alloc o) := ⟨fun w0 i h1 h2 h3 h4 a b c e => AV (h.up w0 i h1 h2 h3 h4 a b c e) o⟩
instance TN {w W : World} [h : Up8 g1 g2 g3 g4 g5 g6 g7 g8 w W] (n : Nat) : Up8 g1 g2 g3 g4 g5 g6 g7 g8 w (W.drewN n) := ⟨fun w0 i h1 h2 h3 h4 a b c e => Ai (h.up w0 i h1 h2 h3 h4 a b c e) n⟩
instance TP {w W : World} [h : Up8 g1 g2 g3 g4 g5 g6 g7 g8 w W] : Up8 g1 g2 g3 g4 g5 g6 g7 g8 w W.drew := ⟨fun w0 i h1 h2 h3 h4 a b c e => Af (h.up w0 i h1 h2 h3 h4 a b c e)⟩
instance Ru {w W : World} [h : Up8 g1 g2 g3 g4 g5 g6 g7 g8 w W] (j : Nat) (v : Value) : Up8 g1 g2 g3 g4 g5 g6 g7 g8 w (W.setCell ⟨g1, j, none⟩ v) := ⟨fun w0 i h1 h2 h3 h4 a b c e => Ah (h.up w0 i h1 h2 h3 h4 a b c e) h1⟩
instance Rv {w W : World} [h : Up8 g1 g2 g3 g4 g5 g6 g7 g8 w W] (j : Nat) (v : Value) : Up8 g1 g2 g3 g4 g5 g6 g7 g8 w (W.setCell ⟨g2, j, none⟩ v) := ⟨fun w0 i h1 h2 h3 h4 a b c e => Ah (h.up w0 i h1 h2 h3 h4 a b c e) h2⟩
instance Rx {w W : World} [h : Up8 g1 g2 g3 g4 g5 g6 g7 g8 w W] (j : Nat) (v : Value) : Up8 g1 g2 g3 g4 g5 g6 g7 g8 w (W.setCell ⟨g3, j, none⟩ v) := ⟨fun w0 i h1 h2 h3 h4 a b c e => Ah (h.up w0 i h1 h2 h3 h4 a b c e) h3⟩
instance Ry {w W : World} [h : Up8 g1 g2 g3 g4 g5 g6 g7 g8 w W] (j : Nat) (v : Value) : Up8 g1 g2 g3 g4 g5 g6 g7 g8 w (W.setCell ⟨g4, j, none⟩ v) := ⟨fun w0 i h1 h2 h3 h4 a b c e => Ah (h.up w0 i h1 h2 h3 h4 a b c e) h4⟩
instance Rz {w W : World} [h : Up8 g1 g2 g3 g4 g5 g6 g7 g8 w W] (j : Nat) (v : Value) : Up8 g1 g2 g3 g4 g5 g6 g7 g8 w (W.setCell ⟨g5, j, none⟩ v) := ⟨fun w0 i h1 h2 h3 h4 a b c e => Ah (h.up w0 i h1 h2 h3 h4 a b c e) a⟩
instance R3 {w W : World} [h : Up8 g1 g2 g3 g4 g5 g6 g7 g8 w W] (j : Nat) (v : Value) : Up8 g1 g2 g3 g4 g5 g6 g7 g8 w (W.setCell ⟨g6, j, none⟩ v) := ⟨fun w0 i h1 h2 h3 h4 b a c e => Ah (h.up w0 i h1 h2 h3 h4 b a c e) a⟩
instance R4 {w W : World} [h : Up8 g1 g2 g3 g4 g5 g6 g7 g8 w W] (j : Nat) (v : Value) : Up8 g1 g2 g3 g4 g5 g6 g7 g8 w (W.setCell ⟨g7, j, none⟩ v) := ⟨fun w0 i h1 h2 h3 h4 b c a e => Ah (h.up w0 i h1 h2 h3 h4 b c a e) a⟩
instance R5 {w W : World} [h : Up8 g1 g2 g3 g4 g5 g6 g7 g8 w W] (j : Nat) (v : Value) : Up8 g1 g2 g3 g4 g5 g6 g7 g8 w (W.setCell ⟨g8, j, none⟩ v) := ⟨fun w0 i h1 h2 h3 h4 b c e a => Ah (h.up w0 i h1 h2 h3 h4 b c e a) a⟩
end
section
variable {α : Type} {d : Kd α} {w0 w W W' : World} {e base g : Nat} {ok : Nat → Prop} {v : Value} {xs : List α} {A : Option Addr} {n : Nat}
theorem vB (h : Aside0 (Kd.V d e w base ok v xs)) (hg : g = W.heap.size) (a : Below W.heap.size W W') [Pl W w] : Aside0 (Kd.V d e W' base (fun k => ok k ∧ k ≠ g) v xs) := ⟨Kd.Bh (Kd.DF (BB h.out) g (Nat.le_of_eq hg.symm)) a⟩
theorem nB (h : Aside0 (Kd.N d e w base ok v xs)) (hg : g = W.heap.size) (a : Below W.heap.size W W') [Pl W w] : Aside0 (Kd.N d e W' base (fun k => ok k ∧ k ≠ g) v xs) := ⟨Kd.EF (Kd.KH (Fg h.out) g (Nat.le_of_eq hg.symm)) a⟩
theorem rB (h : Aside0 (Kd.R d e w base ok v xs)) (hg : g = W.heap.size) (a : Below W.heap.size W W') [Pl W w] : Aside0 (Kd.R d e W' base (fun k => ok k ∧ k ≠ g) v xs) := ⟨Kd.Db (Kd.NR (DZ h.out) g (Nat.le_of_eq hg.symm)) a⟩
theorem vb (h : Aside0 (Kd.V d e w base ok v xs)) (a : Below W.heap.size W W') [Pl W w] : Aside0 (Kd.V d e W' base ok v xs) := ⟨Kd.Bh (BB h.out) a⟩
theorem rb (h : Aside0 (Kd.R d e w base ok v xs)) (a : Below W.heap.size W W') [Pl W w] : Aside0 (Kd.R d e W' base ok v xs) := ⟨Kd.Db (DZ h.out) a⟩
theorem cb (h : Aside0 (d.C w A n xs)) (a : Below W.heap.size W W') [Pl W w] : Aside0 (d.C W' A n xs) := ⟨Kd.Ak (Kd.Ak h.out Pl.up) a⟩
end
theorem dr {p : Prop} (h : p := by repeat (first | exact Aq.refl _ | apply Aq.step)) : p := h
theorem dn {p q : Prop} (h : p := by first | rfl | (simp; done) | (simp [*]; done)) (h2 : q := by repeat (first | exact Aq.refl _ | apply Aq.step)) : p ∧ q := ⟨h, h2⟩
class Fr (W : World) (w : outParam World) (q : Nat) : Prop where
  up : (∀ k, k ≠ q → k < w.heap.size → W.heap[k]? = w.heap[k]?) ∧ w.heap.size ≤ W.heap.size
instance (priority := low) fr0 (w : World) (q : Nat) : Fr w w q := ⟨fun _ _ _ => rfl, Nat.le_refl _⟩
instance fr1 {W w : World} {q : Nat} [h : Fr W w q] (i : Nat) (u : Value) : Fr (W.setCell ⟨q, i, none⟩ u) w q := ⟨fun k a b => (Below.heap_setCell W ⟨q, i, none⟩ u k a).trans (h.up.1 k a b), by rw [World.size_setCell]; exact h.up.2⟩
theorem Iu {W a w : World} {q : Nat} (h : Fr W w q) (b : Below W.heap.size W a) : Fr a w q := ⟨fun k e c => (b.block k (Nat.lt_of_lt_of_le c h.up.2)).trans (h.up.1 k e c), Nat.le_trans h.up.2 (AX b)⟩
instance fr2 {W w : World} {q : Nat} [h : Fr W w q] (o : Obj) : Fr (W.alloc o) w q := Iu h (AV (Below.refl _ _) o)
instance fr3 {W w : World} {q : Nat} [h : Fr W w q] (n : Nat) : Fr (W.drewN n) w q := Iu h (Ai (Below.refl _ _) n)
instance fr4 {W w : World} {q : Nat} [h : Fr W w q] : Fr W.drew w q := Iu h (Af (Below.refl _ _))
theorem Pq {w : World} {q : Nat} : ∀ (a : List Value) (o : Nat) (W : World), Fr W w q → Fr (W.setCells q o a) w q
  | [], _, _, h => h
  | v :: r, o, W, h => by rw [World.setCells]; exact Pq r (o + 1) _ (fr1 (h := h) o v)
instance fr5 {W w : World} {q : Nat} [h : Fr W w q] (o : Nat) (a : List Value) : Fr (W.setCells q o a) w q := Pq a o W h
class Fs (W : World) (w : outParam World) (q : Nat) : Prop where
  up : Fr W w q
instance (priority := low) fs0 (w : World) (q : Nat) : Fs w w q := ⟨fr0 w q⟩
instance fs1 {W w : World} {q : Nat} [h : Fs W w q] (i : Nat) (u : Value) : Fs (W.setCell ⟨q, i, none⟩ u) w q := ⟨fr1 (h := h.up) i u⟩
instance fs5 {W w : World} {q : Nat} [h : Fs W w q] (o : Nat) (a : List Value) : Fs (W.setCells q o a) w q := ⟨Pq a o W h.up⟩
theorem bF {W w : World} {g q : Nat} {t : TypeId} {cs : Array Value} (n : Aside0 (g ≠ q)) (h : Aside0 (w.heap[g]? = some (.cells cs t (0, 0)))) [u : Fr W w q] : W.heap[g]? = some (.cells cs t (0, 0)) := (u.up.1 g n.out (Array.getElem?_eq_some_iff.mp h.out).1).trans h.out
theorem kF {W w a : World} {g q : Nat} {t : TypeId} {cs : Array Value} (n : Aside0 (g ≠ q)) (h : Aside0 (w.heap[g]? = some (.cells cs t (0, 0)))) [u : Fr W w q] (b : Below W.heap.size W a) : Aside0 (a.heap[g]? = some (.cells cs t (0, 0))) := ⟨AL (bF n h) b⟩
section
variable {α : Type} {d : Kd α} {w W : World} {e base q : Nat} {ok : Nat → Prop} {v : Value} {xs : List α}
theorem vI (h : Kd.V d e w base ok v xs) (i : ∀ k, ok k → k ≠ q) [u : Fr W w q] : Kd.V d e W base ok v xs := Kd.GG h fun _ a => Kd.Jm a fun k b c => u.up.1 k (i k b) c
theorem rI (h : d.R e w base ok v xs) (c : ∀ k, ok k → k ≠ q) [u : Fr W w q] : d.R e W base ok v xs := Kd.IV h fun k a b => u.up.1 k (c k a) b
theorem nI (h : Kd.N d e w base ok v xs) (c : ∀ k, ok k → k ≠ q) [u : Fr W w q] : Kd.N d e W base ok v xs := Kd.Kz h fun k a b => u.up.1 k (c k a) b
theorem vF (h : Aside0 (Kd.V d e w base ok v xs)) (a : ∀ k, ok k → k ≠ q) [u : Fr W w q] : Kd.V d e W base ok v xs := vI h.out a
theorem nF (h : Aside0 (Kd.N d e w base ok v xs)) (a : ∀ k, ok k → k ≠ q) [u : Fr W w q] : Kd.N d e W base ok v xs := nI h.out a
end
class Put (W : World) (w : outParam World) (g : Nat) (cs : Array Value) (cs' : outParam (Array Value)) : Prop where
  up : ∀ t, w.heap[g]? = some (.cells cs t (0, 0)) → W.heap[g]? = some (.cells cs' t (0, 0))
instance (priority := low) pt0 (w : World) (g : Nat) (cs : Array Value) : Put w w g cs cs := ⟨fun _ h => h⟩
instance pt1 {W w : World} {g : Nat} {cs a : Array Value} [h : Put W w g cs a] (i : Nat) (u : Value) : Put (W.setCell ⟨g, i, none⟩ u) w g cs (a.setIfInBounds i u) := ⟨fun t k => CP (h.up t k) i u rfl⟩
instance pt2 {W w : World} {g : Nat} {cs a : Array Value} [h : Put W w g cs a] (o : Obj) : Put (W.alloc o) w g cs a := ⟨fun t k => AL (h.up t k) (AV (Below.refl _ _) o)⟩
instance pt3 {W w : World} {g : Nat} {cs a : Array Value} [h : Put W w g cs a] (n : Nat) : Put (W.drewN n) w g cs a := ⟨fun t k => AL (h.up t k) (Ai (Below.refl _ _) n)⟩
instance pt4 {W w : World} {g : Nat} {cs a : Array Value} [h : Put W w g cs a] : Put W.drew w g cs a := ⟨fun t k => AL (h.up t k) (Af (Below.refl _ _))⟩
theorem pB {W w : World} {g : Nat} {t : TypeId} {cs ds a : Array Value} (h : Aside0 (w.heap[g]? = some (.cells cs t (0, 0)))) [u : Put W w g cs ds] (e : ds = a := by rfl) : W.heap[g]? = some (.cells a t (0, 0)) := e ▸ u.up t h.out
theorem od {p : Prop} [Decidable p] (h : decide p = true := by assumption) : p := of_decide_eq_true h
section
variable {P : Program} {md : Region.Mode} {ops : Array Oper} {Q : Exit → Act → World → Prop} {S : World → Prop} {ds : List Nat}
theorem pu_ {oi : Oper} {v : Value} {fuel : Nat} {l : Array Bool} {a : Act} {w : World} (i : Nat) (N : Tmp) (b : Array Bool) {T : Bool × List (List Nat × List Nat)} (e : Aside0 (Cm md ops = T)) (r : ∀ w, (execOp a.eval oi).run P w = .ok (.value v) w) {a' : Act} (o : a.put (some N) v = a')
    (h : Az P md ops Q S ds fuel b a' w) (hi : ops[i]? = some oi := by rfl) (j : oi.dst = some N := by rfl) (q : Nh T l.toList b.toList i = true := by kernel_rfl) (k : ∀ c a w, Q (.panic c) (a.put oi.dst v) w → Q (.panic c) a w := by exact fun _ _ _ h => h) (hg : Region.wanted oi (yielded ops a.tmps) = true := by rfl) : Az P md ops Q S ds (fuel + 1) l a w :=
  F7 b hi j (Eh e.out q) k (Or.inl ⟨hg, r⟩) o h
end
def tf (n m : Nat) : Array Bool := (List.replicate n true ++ List.replicate m false).toArray
theorem mk0 {p : Prop} (h : p) : Aside0 p := ⟨h⟩
theorem oB {p : Prop} {k g : Nat} {o : Obj} {w W : World} (h : p ∨ W.heap.size ≤ k) (f : p → k ≠ g) (u : Aside0 (w.heap[g]? = some o)) [Up w W] : k ≠ g := Or.elim h f (fun j => Kd.Cw (BA u.out) k j)
section
variable {α : Type} {d : Kd α} {p : Prop} {k e base : Nat} {ok : Nat → Prop} {v : Value} {xs : List α} {w W : World}
theorem oN (h : p ∨ W.heap.size ≤ k) (f : p → some k ≠ v.ownBlock) (u : Aside0 (Kd.N d e w base ok v xs)) [Up w W] : some k ≠ v.ownBlock := Or.elim h f (fun j => Kd.fresh' (Kd.QY (Ht u.out)) k j)
theorem oR (h : p ∨ W.heap.size ≤ k) (f : p → some k ≠ v.ownBlock) (u : Aside0 (d.R e w base ok v xs)) [Up w W] : some k ≠ v.ownBlock := Or.elim h f (fun j => Kd.fresh' (Kd.F9 (DR u.out)) k j)
end
theorem bc {w : World} {g : Nat} {t : TypeId} {cs : Array Value} (h : Aside0 (w.heap[g]? = some (.cells cs t (0, 0)))) (i : Nat) {v : Value} (e : cs[i]? = some v := by rfl) : w.cell? ⟨g, i, none⟩ = some v := (AO h.out i).trans e
end Go.Proofs.Ytojankgmedccdaa.Own
end
section

end
namespace Go.Proofs.Ytojankgmedccdaa.Own
open Go.RowKit Wo
section
variable {P : Program} {ops : Array Oper} {Q : Exit → Act → World → Prop} {rest : List Oper} {oi : Oper} {a : Act} {w : World} {N : Option Tmp} {f : FuncId} {fn : Func} {as_ : Array Operand} {ts : Array TypeId}
theorem CS {args : Array Value} {v : Value} (l : P.funcs[f]? = some fn) (k : Calls P f args w fun e w' => e = .returned v ∧ Below w.heap.size w w') (h : ∀ w', Below w.heap.size w w' → wpList P ops Q rest (a.put N v) w')
    (hd : oi.dst = N := by exact rfl) (hg : oi.guard = none := by exact rfl) (c : (fn.name == "runtime.NumGoroutine") = false := by kernel_rfl) (j : fn.body.isSome = true := by exact rfl) (i : oi.op = .call { callee := .value (.func f), args := as_, argTypes := ts } := by exact rfl) (b : as_.toList.map a.eval = args.toList := by exact rfl) : wpList P ops Q (oi :: rest) a w :=
  goB N hd hg l c j args i b k h
theorem IL {args : Array Value} {v : Value} (l : P.funcs[f]? = some fn) (k : Calls P f args w fun e w' => e = .returned v ∧ Aq w w') (h : ∀ n, wpList P ops Q rest (a.put N v) (w.drewN n))
    (hd : oi.dst = N := by exact rfl) (hg : oi.guard = none := by exact rfl) (c : (fn.name == "runtime.NumGoroutine") = false := by kernel_rfl) (j : fn.body.isSome = true := by exact rfl) (i : oi.op = .call { callee := .value (.func f), args := as_, argTypes := ts } := by exact rfl) (b : as_.toList.map a.eval = args.toList := by exact rfl) : wpList P ops Q (oi :: rest) a w :=
  goD N hd hg l c j args i b k h
theorem Hu (k : P.funcs[f]? = some fn) (args : Array Value) (h : Calls P f args w fun e w' => ∃ v, e = .returned v ∧ wpList P ops Q rest (a.put N v) w')
    (hd : oi.dst = N := by exact rfl) (hg : oi.guard = none := by exact rfl) (c : (fn.name == "runtime.NumGoroutine") = false := by kernel_rfl) (j : fn.body.isSome = true := by exact rfl) (i : oi.op = .call { callee := .value (.func f), args := as_, argTypes := ts } := by exact rfl) (b : as_.map a.eval = args := by (try simp only [List.map_toArray, List.map_cons, List.map_nil]); first | done | rfl | (simp only [List.length_drop, List.length_take]; rfl)) : wpList P ops Q (oi :: rest) a w :=
  Eg N hd hg k c j args i b h
end
section
variable {P : Program} {md : Region.Mode} {ops : Array Oper} {Q : Exit → Act → World → Prop} {S : World → Prop} {ds : List Nat} {oi : Oper} {v : Value} {fuel : Nat} {l : Array Bool} {a a' : Act} {w : World}
theorem pv (i : Nat) (N : Tmp) (b : Array Bool) {T : Bool × List (List Nat × List Nat)} (e : Aside0 (Cm md ops = T)) (h : Az P md ops Q S ds fuel b a' w)
    (hi : ops[i]? = some oi := by rfl) (j : oi.dst = some N := by rfl) (q : Nh T l.toList b.toList i = true := by kernel_rfl) (k : ∀ c a w, Q (.panic c) (a.put oi.dst v) w → Q (.panic c) a w := by exact fun _ _ _ h => h) (hg : Region.wanted oi (yielded ops a.tmps) = true := by rfl)
    (r : ∀ w, (execOp a.eval oi).run P w = .ok (.value v) w := by intro w'; go_simp; with_reducible rfl) (o : a.put (some N) v = a' := by simp only [ps]; rfl) : Az P md ops Q S ds (fuel + 1) l a w :=
  pu_ i N b e r o h hi j q k hg
theorem pw (i : Nat) (N : Tmp) (b : Array Bool) {T : Bool × List (List Nat × List Nat)} (e : Aside0 (Cm md ops = T)) (h : Az P md ops Q S ds fuel b a' w)
    (hi : ops[i]? = some oi := by rfl) (j : oi.dst = some N := by rfl) (q : Nh T l.toList b.toList i = true := by kernel_rfl) (k : ∀ c a w, Q (.panic c) (a.put oi.dst undef) w → Q (.panic c) a w := by exact fun _ _ _ h => h) (hg : Region.wanted oi (yielded ops a.tmps) = false := by rfl)
    (o : a.put (some N) undef = a' := by simp only [ps]; rfl) : Az P md ops Q S ds (fuel + 1) l a w :=
  F7 b hi j (Eh e.out q) k (Or.inr ⟨hg, rfl⟩) o h
end
theorem nn {w W : World} {g g1 : Nat} {o : Obj} (h : Aside0 (w.heap[g]? = some o)) (hg : g1 = W.heap.size) [Up w W] : Aside0 (g ≠ g1) ∧ Aside0 (g1 ≠ g) := ⟨nb1 (bu h) hg, nb2 (bu h) hg⟩
theorem no {p q : Prop} (h : Aside0 p) (k : Aside0 q) : p ∧ q := ⟨h.out, k.out⟩
section
variable {α : Type} {d : Kd α} {w W W' : World} {e base n g : Nat} {A : Option Addr} {ok : Nat → Prop} {v : Value} {xs : List α} {o : Obj}
theorem nb_ (h : Aside0 (Kd.N d e w base ok v xs)) (a : Below W.heap.size W W') [Pl W w] : Aside0 (Kd.N d e W' base ok v xs) := ⟨Kd.EF (Fg h.out) a⟩
class Tb (X : Prop) (W W' : World) (Y : outParam Prop) : Prop where
  t : Below W.heap.size W W' → X → Y
instance tk [Up w W] : Tb (Aside0 (w.heap[g]? = some o)) W W' (Aside0 (W'.heap[g]? = some o)) := ⟨fun a h => kb h a⟩
instance tv [Pl W w] : Tb (Aside0 (Kd.V d e w base ok v xs)) W W' (Aside0 (Kd.V d e W' base ok v xs)) := ⟨fun a h => vb h a⟩
instance tn [Pl W w] : Tb (Aside0 (Kd.N d e w base ok v xs)) W W' (Aside0 (Kd.N d e W' base ok v xs)) := ⟨fun a h => nb_ h a⟩
instance tr [Pl W w] : Tb (Aside0 (Kd.R d e w base ok v xs)) W W' (Aside0 (Kd.R d e W' base ok v xs)) := ⟨fun a h => rb h a⟩
instance tc [Pl W w] : Tb (Aside0 (Kd.C d w A n xs)) W W' (Aside0 (Kd.C d W' A n xs)) := ⟨fun a h => cb h a⟩
class Tg (X : Prop) (W W' : World) (g : Nat) (Y : outParam Prop) : Prop where
  t : g = W.heap.size → Below W.heap.size W W' → X → Y
instance gv [Pl W w] : Tg (Aside0 (Kd.V d e w base ok v xs)) W W' g (Aside0 (Kd.V d e W' base (fun k => ok k ∧ k ≠ g) v xs)) := ⟨fun hg a h => vB h hg a⟩
instance gn [Pl W w] : Tg (Aside0 (Kd.N d e w base ok v xs)) W W' g (Aside0 (Kd.N d e W' base (fun k => ok k ∧ k ≠ g) v xs)) := ⟨fun hg a h => nB h hg a⟩
instance gr [Pl W w] : Tg (Aside0 (Kd.R d e w base ok v xs)) W W' g (Aside0 (Kd.R d e W' base (fun k => ok k ∧ k ≠ g) v xs)) := ⟨fun hg a h => rB h hg a⟩
end
section
variable {W W' : World} {g : Nat} {X1 X2 X3 X4 X5 X6 X7 X8 X9 X10 X11 X12 Y1 Y2 Y3 Y4 Y5 Y6 Y7 Y8 Y9 Y10 Y11 Y12 : Prop}
theorem tb2 (a : Below W.heap.size W W') (b : X1) (c : X2) [h1 : Tb X1 W W' Y1] [h2 : Tb X2 W W' Y2] : Y1 ∧ Y2 := ⟨h1.t a b, h2.t a c⟩
theorem tg2 (hg : g = W.heap.size) (a : Below W.heap.size W W') (b : X1) (c : X2) [h1 : Tg X1 W W' g Y1] [h2 : Tg X2 W W' g Y2] : Y1 ∧ Y2 := ⟨h1.t hg a b, h2.t hg a c⟩
theorem tb3 (a : Below W.heap.size W W') (b : X1) (c : X2) (e : X3) [h1 : Tb X1 W W' Y1] [h2 : Tb X2 W W' Y2] [h3 : Tb X3 W W' Y3] : Y1 ∧ Y2 ∧ Y3 := ⟨h1.t a b, tb2 a c e⟩
theorem tg3 (hg : g = W.heap.size) (a : Below W.heap.size W W') (b : X1) (c : X2) (e : X3) [h1 : Tg X1 W W' g Y1] [h2 : Tg X2 W W' g Y2] [h3 : Tg X3 W W' g Y3] : Y1 ∧ Y2 ∧ Y3 := ⟨h1.t hg a b, tg2 hg a c e⟩
theorem tb4 (a : Below W.heap.size W W') (b : X1) (c : X2) (e : X3) (h : X4) [h1 : Tb X1 W W' Y1] [h2 : Tb X2 W W' Y2] [h3 : Tb X3 W W' Y3] [h4 : Tb X4 W W' Y4] : Y1 ∧ Y2 ∧ Y3 ∧ Y4 := ⟨h1.t a b, tb3 a c e h⟩
theorem tg4 (hg : g = W.heap.size) (a : Below W.heap.size W W') (b : X1) (c : X2) (e : X3) (h : X4) [h1 : Tg X1 W W' g Y1] [h2 : Tg X2 W W' g Y2] [h3 : Tg X3 W W' g Y3] [h4 : Tg X4 W W' g Y4] : Y1 ∧ Y2 ∧ Y3 ∧ Y4 := ⟨h1.t hg a b, tg3 hg a c e h⟩
theorem tb5 (a : Below W.heap.size W W') (b : X1) (c : X2) (e : X3) (h : X4) (i : X5) [h1 : Tb X1 W W' Y1] [h2 : Tb X2 W W' Y2] [h3 : Tb X3 W W' Y3] [h4 : Tb X4 W W' Y4] [h5 : Tb X5 W W' Y5] : Y1 ∧ Y2 ∧ Y3 ∧ Y4 ∧ Y5 := ⟨h1.t a b, tb4 a c e h i⟩
theorem tg5 (hg : g = W.heap.size) (a : Below W.heap.size W W') (b : X1) (c : X2) (e : X3) (h : X4) (i : X5) [h1 : Tg X1 W W' g Y1] [h2 : Tg X2 W W' g Y2] [h3 : Tg X3 W W' g Y3] [h4 : Tg X4 W W' g Y4] [h5 : Tg X5 W W' g Y5] : Y1 ∧ Y2 ∧ Y3 ∧ Y4 ∧ Y5 := ⟨h1.t hg a b, tg4 hg a c e h i⟩
theorem tb6 (a : Below W.heap.size W W') (b : X1) (c : X2) (e : X3) (h : X4) (i : X5) (j : X6) [h1 : Tb X1 W W' Y1] [h2 : Tb X2 W W' Y2] [h3 : Tb X3 W W' Y3] [h4 : Tb X4 W W' Y4] [h5 : Tb X5 W W' Y5] [h6 : Tb X6 W W' Y6] : Y1 ∧ Y2 ∧ Y3 ∧ Y4 ∧ Y5 ∧ Y6 := ⟨h1.t a b, tb5 a c e h i j⟩
theorem tg6 (hg : g = W.heap.size) (a : Below W.heap.size W W') (b : X1) (c : X2) (e : X3) (h : X4) (i : X5) (j : X6) [h1 : Tg X1 W W' g Y1] [h2 : Tg X2 W W' g Y2] [h3 : Tg X3 W W' g Y3] [h4 : Tg X4 W W' g Y4] [h5 : Tg X5 W W' g Y5] [h6 : Tg X6 W W' g Y6] : Y1 ∧ Y2 ∧ Y3 ∧ Y4 ∧ Y5 ∧ Y6 := ⟨h1.t hg a b, tg5 hg a c e h i j⟩
theorem tb7 (a : Below W.heap.size W W') (b : X1) (c : X2) (e : X3) (h : X4) (i : X5) (j : X6) (k : X7) [h1 : Tb X1 W W' Y1] [h2 : Tb X2 W W' Y2] [h3 : Tb X3 W W' Y3] [h4 : Tb X4 W W' Y4] [h5 : Tb X5 W W' Y5] [h6 : Tb X6 W W' Y6] [h7 : Tb X7 W W' Y7] : Y1 ∧ Y2 ∧ Y3 ∧ Y4 ∧ Y5 ∧ Y6 ∧ Y7 := ⟨h1.t a b, tb6 a c e h i j k⟩
theorem tg7 (hg : g = W.heap.size) (a : Below W.heap.size W W') (b : X1) (c : X2) (e : X3) (h : X4) (i : X5) (j : X6) (k : X7) [h1 : Tg X1 W W' g Y1] [h2 : Tg X2 W W' g Y2] [h3 : Tg X3 W W' g Y3] [h4 : Tg X4 W W' g Y4] [h5 : Tg X5 W W' g Y5] [h6 : Tg X6 W W' g Y6] [h7 : Tg X7 W W' g Y7] : Y1 ∧ Y2 ∧ Y3 ∧ Y4 ∧ Y5 ∧ Y6 ∧ Y7 := ⟨h1.t hg a b, tg6 hg a c e h i j k⟩
theorem tb8 (a : Below W.heap.size W W') (b : X1) (c : X2) (e : X3) (h : X4) (i : X5) (j : X6) (k : X7) (l : X8) [h1 : Tb X1 W W' Y1] [h2 : Tb X2 W W' Y2] [h3 : Tb X3 W W' Y3] [h4 : Tb X4 W W' Y4] [h5 : Tb X5 W W' Y5] [h6 : Tb X6 W W' Y6] [h7 : Tb X7 W W' Y7] [h8 : Tb X8 W W' Y8] : Y1 ∧ Y2 ∧ Y3 ∧ Y4 ∧ Y5 ∧ Y6 ∧ Y7 ∧ Y8 := ⟨h1.t a b, tb7 a c e h i j k l⟩
theorem tg8 (hg : g = W.heap.size) (a : Below W.heap.size W W') (b : X1) (c : X2) (e : X3) (h : X4) (i : X5) (j : X6) (k : X7) (l : X8) [h1 : Tg X1 W W' g Y1] [h2 : Tg X2 W W' g Y2] [h3 : Tg X3 W W' g Y3] [h4 : Tg X4 W W' g Y4] [h5 : Tg X5 W W' g Y5] [h6 : Tg X6 W W' g Y6] [h7 : Tg X7 W W' g Y7] [h8 : Tg X8 W W' g Y8] : Y1 ∧ Y2 ∧ Y3 ∧ Y4 ∧ Y5 ∧ Y6 ∧ Y7 ∧ Y8 := ⟨h1.t hg a b, tg7 hg a c e h i j k l⟩
theorem tb9 (a : Below W.heap.size W W') (b : X1) (c : X2) (e : X3) (h : X4) (i : X5) (j : X6) (k : X7) (l : X8) (o : X9) [h1 : Tb X1 W W' Y1] [h2 : Tb X2 W W' Y2] [h3 : Tb X3 W W' Y3] [h4 : Tb X4 W W' Y4] [h5 : Tb X5 W W' Y5] [h6 : Tb X6 W W' Y6] [h7 : Tb X7 W W' Y7] [h8 : Tb X8 W W' Y8] [h9 : Tb X9 W W' Y9] : Y1 ∧ Y2 ∧ Y3 ∧ Y4 ∧ Y5 ∧ Y6 ∧ Y7 ∧ Y8 ∧ Y9 := ⟨h1.t a b, tb8 a c e h i j k l o⟩
theorem tg9 (hg : g = W.heap.size) (a : Below W.heap.size W W') (b : X1) (c : X2) (e : X3) (h : X4) (i : X5) (j : X6) (k : X7) (l : X8) (o : X9) [h1 : Tg X1 W W' g Y1] [h2 : Tg X2 W W' g Y2] [h3 : Tg X3 W W' g Y3] [h4 : Tg X4 W W' g Y4] [h5 : Tg X5 W W' g Y5] [h6 : Tg X6 W W' g Y6] [h7 : Tg X7 W W' g Y7] [h8 : Tg X8 W W' g Y8] [h9 : Tg X9 W W' g Y9] : Y1 ∧ Y2 ∧ Y3 ∧ Y4 ∧ Y5 ∧ Y6 ∧ Y7 ∧ Y8 ∧ Y9 := ⟨h1.t hg a b, tg8 hg a c e h i j k l o⟩
theorem R6 (b : Below W.heap.size W W') (c : X1) (e : X2) (h : X3) (i : X4) (j : X5) (k : X6) (l : X7) (o : X8) (q : X9) (a : X10) [h1 : Tb X1 W W' Y1] [h2 : Tb X2 W W' Y2] [h3 : Tb X3 W W' Y3] [h4 : Tb X4 W W' Y4] [h5 : Tb X5 W W' Y5] [h6 : Tb X6 W W' Y6] [h7 : Tb X7 W W' Y7] [h8 : Tb X8 W W' Y8] [h9 : Tb X9 W W' Y9] [h10 : Tb X10 W W' Y10] : Y1 ∧ Y2 ∧ Y3 ∧ Y4 ∧ Y5 ∧ Y6 ∧ Y7 ∧ Y8 ∧ Y9 ∧ Y10 := ⟨h1.t b c, tb9 b e h i j k l o q a⟩
theorem R7 (hg : g = W.heap.size) (b : Below W.heap.size W W') (c : X1) (e : X2) (h : X3) (i : X4) (j : X5) (k : X6) (l : X7) (o : X8) (q : X9) (a : X10) [h1 : Tg X1 W W' g Y1] [h2 : Tg X2 W W' g Y2] [h3 : Tg X3 W W' g Y3] [h4 : Tg X4 W W' g Y4] [h5 : Tg X5 W W' g Y5] [h6 : Tg X6 W W' g Y6] [h7 : Tg X7 W W' g Y7] [h8 : Tg X8 W W' g Y8] [h9 : Tg X9 W W' g Y9] [h10 : Tg X10 W W' g Y10] : Y1 ∧ Y2 ∧ Y3 ∧ Y4 ∧ Y5 ∧ Y6 ∧ Y7 ∧ Y8 ∧ Y9 ∧ Y10 := ⟨h1.t hg b c, tg9 hg b e h i j k l o q a⟩
theorem R8 (c : Below W.heap.size W W') (e : X1) (h : X2) (i : X3) (j : X4) (k : X5) (l : X6) (o : X7) (q : X8) (r : X9) (a : X10) (b : X11) [h1 : Tb X1 W W' Y1] [h2 : Tb X2 W W' Y2] [h3 : Tb X3 W W' Y3] [h4 : Tb X4 W W' Y4] [h5 : Tb X5 W W' Y5] [h6 : Tb X6 W W' Y6] [h7 : Tb X7 W W' Y7] [h8 : Tb X8 W W' Y8] [h9 : Tb X9 W W' Y9] [h10 : Tb X10 W W' Y10] [h11 : Tb X11 W W' Y11] : Y1 ∧ Y2 ∧ Y3 ∧ Y4 ∧ Y5 ∧ Y6 ∧ Y7 ∧ Y8 ∧ Y9 ∧ Y10 ∧ Y11 := ⟨h1.t c e, R6 c h i j k l o q r a b⟩
theorem R9 (hg : g = W.heap.size) (c : Below W.heap.size W W') (e : X1) (h : X2) (i : X3) (j : X4) (k : X5) (l : X6) (o : X7) (q : X8) (r : X9) (a : X10) (b : X11) [h1 : Tg X1 W W' g Y1] [h2 : Tg X2 W W' g Y2] [h3 : Tg X3 W W' g Y3] [h4 : Tg X4 W W' g Y4] [h5 : Tg X5 W W' g Y5] [h6 : Tg X6 W W' g Y6] [h7 : Tg X7 W W' g Y7] [h8 : Tg X8 W W' g Y8] [h9 : Tg X9 W W' g Y9] [h10 : Tg X10 W W' g Y10] [h11 : Tg X11 W W' g Y11] : Y1 ∧ Y2 ∧ Y3 ∧ Y4 ∧ Y5 ∧ Y6 ∧ Y7 ∧ Y8 ∧ Y9 ∧ Y10 ∧ Y11 := ⟨h1.t hg c e, R7 hg c h i j k l o q r a b⟩
theorem TQ (e : Below W.heap.size W W') (h : X1) (i : X2) (j : X3) (k : X4) (l : X5) (o : X6) (q : X7) (r : X8) (s : X9) (a : X10) (b : X11) (c : X12) [h1 : Tb X1 W W' Y1] [h2 : Tb X2 W W' Y2] [h3 : Tb X3 W W' Y3] [h4 : Tb X4 W W' Y4] [h5 : Tb X5 W W' Y5] [h6 : Tb X6 W W' Y6] [h7 : Tb X7 W W' Y7] [h8 : Tb X8 W W' Y8] [h9 : Tb X9 W W' Y9] [h10 : Tb X10 W W' Y10] [h11 : Tb X11 W W' Y11] [h12 : Tb X12 W W' Y12] : Y1 ∧ Y2 ∧ Y3 ∧ Y4 ∧ Y5 ∧ Y6 ∧ Y7 ∧ Y8 ∧ Y9 ∧ Y10 ∧ Y11 ∧ Y12 := ⟨h1.t e h, R8 e i j k l o q r s a b c⟩
theorem TR (hg : g = W.heap.size) (e : Below W.heap.size W W') (h : X1) (i : X2) (j : X3) (k : X4) (l : X5) (o : X6) (q : X7) (r : X8) (s : X9) (a : X10) (b : X11) (c : X12) [h1 : Tg X1 W W' g Y1] [h2 : Tg X2 W W' g Y2] [h3 : Tg X3 W W' g Y3] [h4 : Tg X4 W W' g Y4] [h5 : Tg X5 W W' g Y5] [h6 : Tg X6 W W' g Y6] [h7 : Tg X7 W W' g Y7] [h8 : Tg X8 W W' g Y8] [h9 : Tg X9 W W' g Y9] [h10 : Tg X10 W W' g Y10] [h11 : Tg X11 W W' g Y11] [h12 : Tg X12 W W' g Y12] : Y1 ∧ Y2 ∧ Y3 ∧ Y4 ∧ Y5 ∧ Y6 ∧ Y7 ∧ Y8 ∧ Y9 ∧ Y10 ∧ Y11 ∧ Y12 := ⟨h1.t hg e h, R9 hg e i j k l o q r s a b c⟩
end
section
variable {P : Program} {md : Region.Mode} {ops : Array Oper} {Q : Exit → Act → World → Prop} {S : World → Prop} {ds : List Nat} {fuel : Nat} {l : Array Bool} {a a' : Act} {w : World}
theorem nz (n : Tmp) {d : Option Tmp} {v : Value} (h : Az P md ops Q S ds fuel l a' w) (hd : d = some n := by rfl) (b : a.put (some n) v = a' := by simp only [ps]; rfl) : Az P md ops Q S ds fuel l (a.put d v) w := ES (by rw [hd]; exact b) h
end
abbrev nw (v : Value) (k : Nat) : Prop := some k ≠ v.ownBlock
abbrev bk (w : World) (g : Nat) (t : TypeId) (cs : Array Value) : Prop := w.heap[g]? = some (.cells cs t (0, 0))
end Go.Proofs.Ytojankgmedccdaa.Own
