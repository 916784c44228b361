/- Lemmas. -/
import Derived.Test.YtojankgmedccdaaYNRowV
namespace Go.Proofs.Ytojankgmedccdaa.RowC
open Go.ChangeShapes Go.WideShapes Go.ChangeAt Go.RowKit Go.Joins Wo PTy RowV
set_option linter.unusedVariables false
section
variable {H : Type} {enc : TypeId × Value → H} {P : Program} {w : World} {base : Nat} {held : Bool}
theorem RZ {α : Type} {l : List α} (h : l.length = 6) : ∃ a b c d e f, l = [a, b, c, d, e, f] := by
  obtain _ | ⟨a, _ | ⟨b, _ | ⟨c, _ | ⟨d, _ | ⟨e, _ | ⟨f, _ | ⟨g, l⟩⟩⟩⟩⟩⟩⟩ := l <;> simp at h ⊢
theorem Qa {α : Type} {l : List α} (h : l.length = 14) : ∃ a b c d e f g i j k m n o p, l = [a, b, c, d, e, f, g, i, j, k, m, n, o, p] := by
  obtain _ | ⟨a, _ | ⟨b, _ | ⟨c, _ | ⟨d, _ | ⟨e, _ | ⟨f, _ | ⟨g, _ | ⟨i, _ | ⟨j, _ | ⟨k, _ | ⟨m, _ | ⟨n, _ | ⟨o, _ | ⟨p, _ | ⟨q, l⟩⟩⟩⟩⟩⟩⟩⟩⟩⟩⟩⟩⟩⟩⟩ := l <;> simp at h ⊢
theorem open_ints {fuel : Nat} {cs : List Value} {x : DataW H × List MemPlace} (h : DataW.trod enc Try.prog w base (fun _ => true) held fuel 38 cs = some x) :
    ∃ (A : Option Addr) (l : List Int) (c : Nat), cs = [.slice A l.length c] ∧ (Kd.int .i64).C w A l.length l ∧ l.length ≤ c ∧ l.length ≤ maxLen ∧ ∀ z ∈ l, (Lit.int .i64 z).wf = true :=
  open_row (Kd.int .i64) (fun z => (Lit.int .i64 z).wf = true) Try.underlying38 (by kernel_rfl) (fun m _ a y d => by
    obtain ⟨n, rfl, _, b⟩ := DataW.trod_int Try.underlying3 d; exact ⟨n, rfl, b⟩) h
theorem Mm {fuel : Nat} {cs : List Value} {x : DataW H × List MemPlace} (h : DataW.trod enc Try.prog w base (fun _ => true) held fuel 28 cs = some x) :
    ∃ (A : Option Addr) (l : List S30) (c : Nat), cs = [.slice A l.length c] ∧ k30.C w A l.length l ∧ l.length ≤ c ∧ l.length ≤ maxLen ∧ ∀ z ∈ l, okV fuel z :=
  open_row k30 (okV fuel) Try.underlying28 (by kernel_rfl) (fun m hm a y b => by
    obtain ⟨z, ⟨k, o, n, p, rfl, e, g, i, j⟩, d⟩ := JQ m a y b; exact ⟨z, Gj w z e g i j, F4 _ _ _ (by omega) d⟩) h
theorem Mo (fuel : Nat) (cs : List Value) (x : DataW H × List MemPlace) (h : DataW.trod enc Try.prog w base (fun _ => true) held fuel 40 cs = some x) :
    ∃ (t : S26) (z : S30) (l : List S63) (now : Int) (a : List S30) (after : List Int) (tr : Bool), (∃ i p j c4 k I m J o L b e c c12, cs = [.int .i64 t.f0, .int .i64 t.f1, .string t.f2, .slice i t.f3.length p, .slice j t.f4.length c4, .int .i64 z.f0, .int .i64 z.f1, .slice k z.f2.length I, .slice m z.f3.length J, .slice o l.length L, .int .i64 now, .slice b a.length e, .slice c after.length c12, .bool tr] ∧
      t.f3.length ≤ p ∧ Kd.string.C w i t.f3.length t.f3 ∧ t.f4.length ≤ c4 ∧ k26.C w j t.f4.length t.f4 ∧ z.f2.length ≤ I ∧ (Kd.int .u8).C w k z.f2.length z.f2 ∧ z.f3.length ≤ J ∧ k30.C w m z.f3.length z.f3 ∧ l.length ≤ L ∧ k63.C w o l.length l ∧ a.length ≤ e ∧ k30.C w b a.length a ∧ after.length ≤ c12 ∧ (Kd.int .i64).C w c after.length after) ∧
      okT fuel t ∧ okV fuel z ∧ l.length ≤ maxLen ∧ (∀ y ∈ l, okV fuel y.f1) ∧ (∀ y ∈ a, okV fuel y) ∧ (Lit.int .i64 now).wf = true ∧ a.length ≤ maxLen ∧ after.length ≤ maxLen ∧ ∀ n ∈ after, (Lit.int .i64 n).wf = true := by
  obtain ⟨xs, n, rfl, _, hl, B, d⟩ := DataW.trod_struct Try.underlying40 h; have g : cs.length = 14 := hl.trans (by kernel_rfl); obtain ⟨v0, v1, v2, v3, v4, v5, v6, v7, v8, v9, v10, v11, v12, v13, rfl⟩ := Qa g; have Z := d 0 _ rfl; have g1 := d 1 _ rfl; have g2 := d 2 _ rfl; have g3 := d 3 _ rfl; have g4 := d 4 _ rfl; have g5 := d 5 _ rfl; have v : xs.length = 6 := B; obtain ⟨y0, y1, y2, y3, y4, y5, rfl⟩ := RZ v; have q : Try.prog.cellsOf 26 = 5 := by kernel_rfl
  have r : Try.prog.cellsOf 33 = 5 := by kernel_rfl
  have p : Try.prog.cellsOf 3 = 1 := by kernel_rfl
  have c28 : Try.prog.cellsOf 28 = 1 := by kernel_rfl
  have s : Try.prog.cellsOf 38 = 1 := by kernel_rfl
  have c4 : Try.prog.cellsOf 4 = 1 := by kernel_rfl
  simp only [q, r, p, c28, s, c4, List.getElem_toArray, List.getElem_cons_zero, List.getElem_cons_succ, List.drop_zero, List.drop_succ_cons, List.take_succ_cons, List.take_zero, List.getElem?_cons_zero, List.getElem?_cons_succ] at Z g1 g2 g3 g4 g5; obtain ⟨t, ⟨i, q3, j, q4, O, a1, a2, a3, a4⟩, ht⟩ := Ng n _ _ Z; obtain ⟨z, l, ⟨k, q7, m, q8, o, q9, T, b1, b2, b3, b4, b5, b6⟩, hz, u, hy⟩ := LM n _ _ g1; obtain ⟨now, U, _, w2⟩ := DataW.trod_int Try.underlying3 g2; obtain ⟨b, a, D, W, d1, d2, d3, d4⟩ := Mm g3; obtain ⟨c, after, G, X, f1, f2, f3, f4⟩ := open_ints g4; obtain ⟨tr, Y, _⟩ := DataW.trod_bool Try.underlying4 g5; simp only [List.cons.injEq, and_true] at O T U W X Y; obtain ⟨rfl, rfl, rfl, rfl, rfl⟩ := O; obtain ⟨rfl, rfl, rfl, rfl, rfl⟩ := T; subst U W X Y; exact ⟨t, z, l, now, a, after, tr, ⟨i, q3, j, q4, k, q7, m, q8, o, q9, b, D, c, G, rfl, a1, a2, a3, a4, b1, b2, b3, b4, b5, b6, d2, d1, f2, f1⟩, LK _ _ _ (by omega) ht, F4 _ _ _ (by omega) hz, u, fun y h => F4 _ _ _ (by omega) (hy y h).2, fun y h => F4 _ _ _ (by omega) (d4 y h), w2, d3, f3, f4⟩
end
end Go.Proofs.Ytojankgmedccdaa.RowC
