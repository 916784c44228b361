/- Part of the proof of LawDriversOrder: every definition and lemma is one that it names. -/
import Derived.Test.YtojankgmedccdaaQOwn0
import Derived.Test.YtojankgmedccdaaQW0
namespace Go.Proofs.Ytojankgmedccdaa.Own
open Go.RowKit YtojankgmedccdaaW.PrintWords
section
variable {w : World} {g : Nat} {t : TypeId} {a b c d e f : Value}
theorem cells2 (h : w.heap[g]? = some (.cells #[a, b] t (0, 0))) : w.cell? ⟨g, 0, none⟩ = some a ∧ w.cell? ⟨g, 1, none⟩ = some b ∧ w.frozen? ⟨g, 0, none⟩ = false ∧ w.frozen? ⟨g, 1, none⟩ = false :=
  ⟨(blk_cell h 0).trans rfl, (blk_cell h 1).trans rfl, blk_frozen h 0, blk_frozen h 1⟩
theorem cells4 (h : w.heap[g]? = some (.cells #[a, b, c, d] t (0, 0))) : w.cell? ⟨g, 0, none⟩ = some a ∧ w.cell? ⟨g, 1, none⟩ = some b ∧ w.cell? ⟨g, 2, none⟩ = some c ∧ w.cell? ⟨g, 3, none⟩ = some d ∧ w.frozen? ⟨g, 0, none⟩ = false ∧ w.frozen? ⟨g, 1, none⟩ = false ∧ w.frozen? ⟨g, 2, none⟩ = false ∧ w.frozen? ⟨g, 3, none⟩ = false :=
  ⟨(blk_cell h 0).trans rfl, (blk_cell h 1).trans rfl, (blk_cell h 2).trans rfl, (blk_cell h 3).trans rfl, blk_frozen h 0, blk_frozen h 1, blk_frozen h 2, blk_frozen h 3⟩
theorem cells5 (h : w.heap[g]? = some (.cells #[a, b, c, d, e] t (0, 0))) : w.cell? ⟨g, 0, none⟩ = some a ∧ w.cell? ⟨g, 1, none⟩ = some b ∧ w.cell? ⟨g, 2, none⟩ = some c ∧ w.cell? ⟨g, 3, none⟩ = some d ∧ w.cell? ⟨g, 4, none⟩ = some e ∧ w.frozen? ⟨g, 0, none⟩ = false ∧ w.frozen? ⟨g, 1, none⟩ = false ∧ w.frozen? ⟨g, 2, none⟩ = false ∧ w.frozen? ⟨g, 3, none⟩ = false ∧ w.frozen? ⟨g, 4, none⟩ = false :=
  ⟨(blk_cell h 0).trans rfl, (blk_cell h 1).trans rfl, (blk_cell h 2).trans rfl, (blk_cell h 3).trans rfl, (blk_cell h 4).trans rfl, blk_frozen h 0, blk_frozen h 1, blk_frozen h 2, blk_frozen h 3, blk_frozen h 4⟩
end
class Up (w W : World) : Prop where
  up : Below w.heap.size w W
instance up0 (w : World) : Up w w := ⟨Below.refl _ _⟩
instance up1 {w W : World} [h : Up w W] (o : Obj) : Up w (W.alloc o) := ⟨below_alloc h.up o⟩
instance up2 {w W : World} [h : Up w W] (n : Nat) : Up w (W.drewN n) := ⟨pw_below_drewN h.up n⟩
instance up3 {w W : World} [h : Up w W] : Up w W.drew := ⟨below_drew1 h.up⟩
theorem blk_up {w W : World} {g : Nat} {o : Obj} (h : w.heap[g]? = some o) [u : Up w W] : W.heap[g]? = some o := blk_below h u.up
theorem bel {w0 w W : World} (h : Below w0.heap.size w0 w) [u : Up w W] : Below w0.heap.size w0 W := below_step h u.up
section
variable {α : Type} {d : Kd α}
theorem C_up {w W : World} {A : Option Addr} {n : Nat} {xs : List α} (h : d.C w A n xs) [u : Up w W] : d.C W A n xs := Kd.C_below h u.up
theorem R_up {w W : World} {e base : Nat} {ok : Nat → Prop} {v : Value} {xs : List α} (h : d.R e w base ok v xs) [u : Up w W] : d.R e W base ok v xs := Kd.R_below h u.up
end
class Up1 (g1 : Nat) (w W : World) : Prop where
  up : ∀ w0 : World, Below w0.heap.size w0 w → w0.heap.size ≤ g1 → Below w0.heap.size w0 W
instance up1_0 {g1 : Nat} (w : World) : Up1 g1 w w := ⟨fun _ h _ => h⟩
instance up1_1 {g1 : Nat} {w W : World} [h : Up1 g1 w W] (o : Obj) : Up1 g1 w (W.alloc o) := ⟨fun w0 hb h1 => below_alloc (h.up w0 hb h1) o⟩
instance up1_2 {g1 : Nat} {w W : World} [h : Up1 g1 w W] (n : Nat) : Up1 g1 w (W.drewN n) := ⟨fun w0 hb h1 => pw_below_drewN (h.up w0 hb h1) n⟩
instance up1_3 {g1 : Nat} {w W : World} [h : Up1 g1 w W] : Up1 g1 w W.drew := ⟨fun w0 hb h1 => below_drew1 (h.up w0 hb h1)⟩
instance up1_s1 {g1 : Nat} {w W : World} [h : Up1 g1 w W] (j : Nat) (v : Value) : Up1 g1 w (W.setCell ⟨g1, j, none⟩ v) := ⟨fun w0 hb h1 => below_set (h.up w0 hb h1) h1⟩
theorem bel1 {w0 w W : World} {g1 : Nat} (h : Below w0.heap.size w0 w) (h1 : w0.heap.size ≤ g1) [u : Up1 g1 w W] : Below w0.heap.size w0 W := u.up w0 h h1
class Up2 (g1 g2 : Nat) (w W : World) : Prop where
  up : ∀ w0 : World, Below w0.heap.size w0 w → w0.heap.size ≤ g1 → w0.heap.size ≤ g2 → Below w0.heap.size w0 W
instance up2_0 {g1 g2 : Nat} (w : World) : Up2 g1 g2 w w := ⟨fun _ h _ _ => h⟩
instance up2_1 {g1 g2 : Nat} {w W : World} [h : Up2 g1 g2 w W] (o : Obj) : Up2 g1 g2 w (W.alloc o) := ⟨fun w0 hb h1 h2 => below_alloc (h.up w0 hb h1 h2) o⟩
instance up2_2 {g1 g2 : Nat} {w W : World} [h : Up2 g1 g2 w W] (n : Nat) : Up2 g1 g2 w (W.drewN n) := ⟨fun w0 hb h1 h2 => pw_below_drewN (h.up w0 hb h1 h2) n⟩
instance up2_3 {g1 g2 : Nat} {w W : World} [h : Up2 g1 g2 w W] : Up2 g1 g2 w W.drew := ⟨fun w0 hb h1 h2 => below_drew1 (h.up w0 hb h1 h2)⟩
instance up2_s1 {g1 g2 : Nat} {w W : World} [h : Up2 g1 g2 w W] (j : Nat) (v : Value) : Up2 g1 g2 w (W.setCell ⟨g1, j, none⟩ v) := ⟨fun w0 hb h1 h2 => below_set (h.up w0 hb h1 h2) h1⟩
instance up2_s2 {g1 g2 : Nat} {w W : World} [h : Up2 g1 g2 w W] (j : Nat) (v : Value) : Up2 g1 g2 w (W.setCell ⟨g2, j, none⟩ v) := ⟨fun w0 hb h1 h2 => below_set (h.up w0 hb h1 h2) h2⟩
theorem bel2 {w0 w W : World} {g1 g2 : Nat} (h : Below w0.heap.size w0 w) (h1 : w0.heap.size ≤ g1) (h2 : w0.heap.size ≤ g2) [u : Up2 g1 g2 w W] : Below w0.heap.size w0 W := u.up w0 h h1 h2
class Up3 (g1 g2 g3 : Nat) (w W : World) : Prop where
  up : ∀ w0 : World, Below w0.heap.size w0 w → w0.heap.size ≤ g1 → w0.heap.size ≤ g2 → w0.heap.size ≤ g3 → Below w0.heap.size w0 W
instance up3_0 {g1 g2 g3 : Nat} (w : World) : Up3 g1 g2 g3 w w := ⟨fun _ h _ _ _ => h⟩
instance up3_1 {g1 g2 g3 : Nat} {w W : World} [h : Up3 g1 g2 g3 w W] (o : Obj) : Up3 g1 g2 g3 w (W.alloc o) := ⟨fun w0 hb h1 h2 h3 => below_alloc (h.up w0 hb h1 h2 h3) o⟩
instance up3_2 {g1 g2 g3 : Nat} {w W : World} [h : Up3 g1 g2 g3 w W] (n : Nat) : Up3 g1 g2 g3 w (W.drewN n) := ⟨fun w0 hb h1 h2 h3 => pw_below_drewN (h.up w0 hb h1 h2 h3) n⟩
instance up3_3 {g1 g2 g3 : Nat} {w W : World} [h : Up3 g1 g2 g3 w W] : Up3 g1 g2 g3 w W.drew := ⟨fun w0 hb h1 h2 h3 => below_drew1 (h.up w0 hb h1 h2 h3)⟩
instance up3_s1 {g1 g2 g3 : Nat} {w W : World} [h : Up3 g1 g2 g3 w W] (j : Nat) (v : Value) : Up3 g1 g2 g3 w (W.setCell ⟨g1, j, none⟩ v) := ⟨fun w0 hb h1 h2 h3 => below_set (h.up w0 hb h1 h2 h3) h1⟩
instance up3_s2 {g1 g2 g3 : Nat} {w W : World} [h : Up3 g1 g2 g3 w W] (j : Nat) (v : Value) : Up3 g1 g2 g3 w (W.setCell ⟨g2, j, none⟩ v) := ⟨fun w0 hb h1 h2 h3 => below_set (h.up w0 hb h1 h2 h3) h2⟩
instance up3_s3 {g1 g2 g3 : Nat} {w W : World} [h : Up3 g1 g2 g3 w W] (j : Nat) (v : Value) : Up3 g1 g2 g3 w (W.setCell ⟨g3, j, none⟩ v) := ⟨fun w0 hb h1 h2 h3 => below_set (h.up w0 hb h1 h2 h3) h3⟩
theorem bel3 {w0 w W : World} {g1 g2 g3 : Nat} (h : Below w0.heap.size w0 w) (h1 : w0.heap.size ≤ g1) (h2 : w0.heap.size ≤ g2) (h3 : w0.heap.size ≤ g3) [u : Up3 g1 g2 g3 w W] : Below w0.heap.size w0 W := u.up w0 h h1 h2 h3
class Up4 (g1 g2 g3 g4 : Nat) (w W : World) : Prop where
  up : ∀ w0 : World, Below w0.heap.size w0 w → w0.heap.size ≤ g1 → w0.heap.size ≤ g2 → w0.heap.size ≤ g3 → w0.heap.size ≤ g4 → Below w0.heap.size w0 W
instance up4_0 {g1 g2 g3 g4 : Nat} (w : World) : Up4 g1 g2 g3 g4 w w := ⟨fun _ h _ _ _ _ => h⟩
instance up4_1 {g1 g2 g3 g4 : Nat} {w W : World} [h : Up4 g1 g2 g3 g4 w W] (o : Obj) : Up4 g1 g2 g3 g4 w (W.alloc o) := ⟨fun w0 hb h1 h2 h3 h4 => below_alloc (h.up w0 hb h1 h2 h3 h4) o⟩
instance up4_2 {g1 g2 g3 g4 : Nat} {w W : World} [h : Up4 g1 g2 g3 g4 w W] (n : Nat) : Up4 g1 g2 g3 g4 w (W.drewN n) := ⟨fun w0 hb h1 h2 h3 h4 => pw_below_drewN (h.up w0 hb h1 h2 h3 h4) n⟩
instance up4_3 {g1 g2 g3 g4 : Nat} {w W : World} [h : Up4 g1 g2 g3 g4 w W] : Up4 g1 g2 g3 g4 w W.drew := ⟨fun w0 hb h1 h2 h3 h4 => below_drew1 (h.up w0 hb h1 h2 h3 h4)⟩
instance up4_s1 {g1 g2 g3 g4 : Nat} {w W : World} [h : Up4 g1 g2 g3 g4 w W] (j : Nat) (v : Value) : Up4 g1 g2 g3 g4 w (W.setCell ⟨g1, j, none⟩ v) := ⟨fun w0 hb h1 h2 h3 h4 => below_set (h.up w0 hb h1 h2 h3 h4) h1⟩
instance up4_s2 {g1 g2 g3 g4 : Nat} {w W : World} [h : Up4 g1 g2 g3 g4 w W] (j : Nat) (v : Value) : Up4 g1 g2 g3 g4 w (W.setCell ⟨g2, j, none⟩ v) := ⟨fun w0 hb h1 h2 h3 h4 => below_set (h.up w0 hb h1 h2 h3 h4) h2⟩
instance up4_s3 {g1 g2 g3 g4 : Nat} {w W : World} [h : Up4 g1 g2 g3 g4 w W] (j : Nat) (v : Value) : Up4 g1 g2 g3 g4 w (W.setCell ⟨g3, j, none⟩ v) := ⟨fun w0 hb h1 h2 h3 h4 => below_set (h.up w0 hb h1 h2 h3 h4) h3⟩
instance up4_s4 {g1 g2 g3 g4 : Nat} {w W : World} [h : Up4 g1 g2 g3 g4 w W] (j : Nat) (v : Value) : Up4 g1 g2 g3 g4 w (W.setCell ⟨g4, j, none⟩ v) := ⟨fun w0 hb h1 h2 h3 h4 => below_set (h.up w0 hb h1 h2 h3 h4) h4⟩
theorem bel4 {w0 w W : World} {g1 g2 g3 g4 : Nat} (h : Below w0.heap.size w0 w) (h1 : w0.heap.size ≤ g1) (h2 : w0.heap.size ≤ g2) (h3 : w0.heap.size ≤ g3) (h4 : w0.heap.size ≤ g4) [u : Up4 g1 g2 g3 g4 w W] : Below w0.heap.size w0 W := u.up w0 h h1 h2 h3 h4
section
variable {α : Type} {d : Kd α}
theorem V_up {w W : World} {e base : Nat} {ok : Nat → Prop} {v : Value} {xs : List α} (h : Kd.V d e w base ok v xs) [u : Up w W] : Kd.V d e W base ok v xs := Kd.V_below h u.up
theorem N_up {w W : World} {e base : Nat} {ok : Nat → Prop} {v : Value} {xs : List α} (h : Kd.N d e w base ok v xs) [u : Up w W] : Kd.N d e W base ok v xs := Kd.N_below h u.up
end
end Go.Proofs.Ytojankgmedccdaa.Own
