/- Part of the proof of LawDriversOrder: every definition and lemma is one that it names. -/
import Derived.Test.YtojankgmedccdaaQOwn1
import Derived.Test.YtojankgmedccdaaQW0
namespace Go.Proofs.Ytojankgmedccdaa.Own
open Go.RowKit YtojankgmedccdaaW.PrintWords YtojankgmedccdaaW.PrintLast
class Pl (W : World) (w : outParam World) : Prop where
  up : Below w.heap.size w W
instance (priority := low) pl0 (w : World) : Pl w w := ⟨Below.refl _ _⟩
instance pl1 {w W : World} [h : Pl W w] (o : Obj) : Pl (W.alloc o) w := ⟨below_alloc h.up o⟩
instance pl2 {w W : World} [h : Pl W w] (n : Nat) : Pl (W.drewN n) w := ⟨pw_below_drewN h.up n⟩
instance pl3 {w W : World} [h : Pl W w] : Pl W.drew w := ⟨below_drew1 h.up⟩
theorem blk_pl {w W : World} [u : Pl W w] {g : Nat} {o : Obj} (h : w.heap[g]? = some o) : W.heap[g]? = some o := blk_below h u.up
theorem keepc {w W : World} {p : Addr} {v : Value} (hb : Below w.heap.size w W) (h : w.cell? p = some v) : W.cell? p = some v := (hb.cell (World.block_lt_of_cell? w _ h)).trans h
theorem ps : (∀ (a : Act) (d : Option Tmp) (v : Value), a.put d v = (match d with | some t => { a with tmps := a.tmps.setIfInBounds t v } | none => a)) ∧ (∀ (l : List Value) (i : Nat) (a : Value), l.toArray.setIfInBounds i a = (l.set i a).toArray) ∧ (∀ (a b : Value) (l : List Value), (a :: l).set 0 b = b :: l) ∧ (∀ (a b : Value) (n : Nat) (l : List Value), (a :: l).set (n + 1) b = a :: l.set n b) ∧ (∀ n : Int, IntKind.i64.wrap n = wrap64 n) ∧ (∀ n : Int, IntKind.i32.wrap n = wrap32 n) :=
  ⟨fun a d v => by cases d <;> rfl, fun l i a => List.setIfInBounds_toArray .., fun a b l => rfl, fun a b n l => rfl, i64_w, i32_w⟩
section
variable {α : Type} {d : Kd α} {w W : World} {e base : Nat} {ok : Nat → Prop} {v : Value} {xs : List α}
theorem R_pl [u : Pl W w] (h : d.R e w base ok v xs) : d.R e W base ok v xs := Kd.R_below h u.up
theorem V_pl [u : Pl W w] (h : Kd.V d e w base ok v xs) : Kd.V d e W base ok v xs := Kd.V_below h u.up
theorem N_pl [u : Pl W w] (h : Kd.N d e w base ok v xs) : Kd.N d e W base ok v xs := Kd.N_below h u.up
end
end Go.Proofs.Ytojankgmedccdaa.Own
