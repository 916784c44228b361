/- Lemmas. -/
import Derived.Test.YtojankgmedccdaaYOPTyx0
import Derived.Test.YtojankgmedccdaaYOOwn4
namespace Go.Proofs.Ytojankgmedccdaa.Own
open Go.RowKit PTy Wo
def Em {α : Type} (P X : Nat → Prop) (l : List α) : Prop := l = [] ∨ ∀ k, P k → X k
theorem Em.up {α : Type} {P X a b : Nat → Prop} {l : List α} (h : Em P X l) (f : (∀ k, P k → X k) → ∀ k, a k → b k) : Em a b l := Or.imp id f h
theorem Qp {α : Type} {d : Kd α} {w : World} {ok ok' : Nat → Prop} {A : Option Addr} (h : Kd.F d w ok A 0 []) : Kd.F d w ok' A 0 [] := fun _ _ => ⟨h.now.1, h.now.2.1, fun a => absurd a (Nat.lt_irrefl 0)⟩
theorem IE {α : Type} {d : Kd α} {w : World} {e base : Nat} {ok ok' : Nat → Prop} {v : Value} {l : List α} (h : Kd.V d e w base ok v l) (a : l = []) : Kd.V d e w base ok' v l := by
  subst a; obtain ⟨A, c, rfl, i, b⟩ := h; exact ⟨A, c, rfl, i, Qp b⟩
theorem OD {α : Type} {d : Kd α} {w : World} {e base B : Nat} {P X G : Nat → Prop} {v : Value} {l : List α} (h : Kd.V d e w base (fun k => (P k ∨ B ≤ k) ∧ G k) v l) (a : Em P X l) : Kd.V d e w base (fun k => (X k ∨ B ≤ k) ∧ G k) v l := by
  rcases a with a | a
  · exact IE h a
  · exact Kd.AR h fun k b => ⟨b.1.imp_left (a k), b.2⟩
theorem Pb {α : Type} {d : Kd α} {w : World} {e base B : Nat} {P X G c : Nat → Prop} {v : Value} {l : List α} (h : Kd.V d e w base (fun k => ((P k ∨ B ≤ k) ∧ G k) ∧ c k) v l) (a : Em P X l) : Kd.V d e w base (fun k => ((X k ∨ B ≤ k) ∧ G k) ∧ c k) v l := by
  rcases a with a | a
  · exact IE h a
  · exact Kd.AR h fun k b => ⟨⟨b.1.1.imp_left (a k), b.1.2⟩, b.2⟩
theorem J3 (l : List S63) (i : Int) (a : 0 ≤ i) (h1 : i < (l.length : Int)) : AA l i ∈ l := by
  have h : i.toNat < l.length := by omega
  unfold AA; rw [List.getD_eq_getElem?_getD, List.getElem?_eq_getElem h]; exact List.getElem_mem h
theorem J4 (l : List S30) (i : Int) (a : 0 ≤ i) (h1 : i < (l.length : Int)) : AB l i ∈ l := by
  have h : i.toNat < l.length := by omega
  unfold AB; rw [List.getD_eq_getElem?_getD, List.getElem?_eq_getElem h]; exact List.getElem_mem h
end Go.Proofs.Ytojankgmedccdaa.Own
