/- Part of the proof of LawDriversShapes: every definition and lemma is one that it names. -/
import Derived.Laws.IdiomArrays
import Derived.Lib.SmallJoins
import Derived.Test.YtojankgmedccdaaYSRowV
namespace Go.Proofs.Ytojankgmedccdaa.RowA
open Go.ChangeShapes Go.WideShapes Go.ChangeAt Go.RowKit Go.Joins
section
variable {H : Type} {enc : TypeId × Value → H} {P : Program} {w : World} {base : Nat} {spare : Nat → Bool} {held : Bool}
theorem okWide_arr {r : Reach} {a : Nat} {t e : TypeId} {n : Nat} {v : Value} (c : P.underlying t = some (.array n e)) (h : Value.okWide P w r a t v) : ∃ cs, v = .agg cs ∧ cs.size = P.cellsOf t := by
  simp only [Value.okWide, c] at h
  obtain ⟨cs, h1, b, _⟩ := h
  exact ⟨cs, h1, b⟩
theorem KU {t e : TypeId} {fuel : Nat} {c d : Value} {x : DataW H × List MemPlace} (i : P.underlying t = some (.array 2 e)) (g : P.cellsOf e = 1)
    (h : DataW.trod enc P w base spare held fuel t [c, d] = some x) :
    ∃ a b n, x = (.agg [a.1, b.1], a.2 ++ b.2) ∧ DataW.trod enc P w base spare held n e [c] = some a ∧ DataW.trod enc P w base spare held n e [d] = some b := by
  cases fuel with
  | zero => simp [DataW.trod] at h
  | succ n =>
    unfold DataW.trod at h
    rw [i] at h
    have j : List.range 2 = [0, 1] := rfl
    simp [j, g] at h
    obtain ⟨_, h⟩ := h
    cases h0 : DataW.trod enc P w base spare held n e [c] with
    | none => simp [h0] at h
    | some a =>
      cases h1 : DataW.trod enc P w base spare held n e [d] with
      | none => simp [h0, h1] at h
      | some b =>
        simp [h0, h1] at h
        exact ⟨a, b, n, h.symm, h0, h1⟩
theorem JF {r : Reach} {s : Nat} {t e : TypeId} {v : Value} {d : DataW H} {p : List MemPlace} (o : P.underlying t = some (.array 2 e)) (n : P.underlying e = some (.int .i64)) (u : P.cellsOf t = 2) (c : P.cellsOf e = 1)
    (y : Value.okWide P w r s t v) (h : DataW.Trod enc P w base spare held t v d p) :
    ∃ a b : Int, v = .agg #[.int .i64 a, .int .i64 b] ∧ d = .agg [.lit (.int .i64 a), .lit (.int .i64 b)] ∧ p = [] ∧ (Lit.int .i64 a).wf = true ∧ (Lit.int .i64 b).wf = true := by
  obtain ⟨cs, rfl, g⟩ := okWide_arr o y
  obtain ⟨z, B, rfl⟩ := array2 (g.trans u)
  obtain ⟨fuel, x⟩ := h
  obtain ⟨D, G, m, q, i, j⟩ := KU o c x
  obtain ⟨a, k, rfl, w0⟩ := DataW.trod_int n i
  obtain ⟨b, l, rfl, w1⟩ := DataW.trod_int n j
  simp at k l
  subst k l
  simp only [Prod.mk.injEq] at q
  obtain ⟨rfl, rfl⟩ := q
  exact ⟨a, b, rfl, rfl, rfl, w0, w1⟩
end
end Go.Proofs.Ytojankgmedccdaa.RowA
