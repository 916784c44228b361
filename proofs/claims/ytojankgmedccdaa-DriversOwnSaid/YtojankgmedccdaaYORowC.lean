/- Lemmas. -/
import Derived.Test.YtojankgmedccdaaYORowV
namespace Go.Proofs.Ytojankgmedccdaa.RowC
open Go.ChangeShapes Go.WideShapes Go.ChangeAt Go.RowKit Go.Joins Wo PTy RowV
set_option linter.unusedVariables false
section
variable {H : Type} {enc : TypeId × Value → H} {P : Program} {w : World} {base : Nat} {held : Bool}
theorem Sb {α : Type} {l : List α} (h : l.length = 6) : ∃ a b c d e f, l = [a, b, c, d, e, f] := by
  obtain _ | ⟨a, _ | ⟨b, _ | ⟨c, _ | ⟨d, _ | ⟨e, _ | ⟨f, _ | ⟨g, l⟩⟩⟩⟩⟩⟩⟩ := l <;> simp at h ⊢
theorem RH {α : Type} {l : List α} (h : l.length = 14) : ∃ a b c d e f g i j k m n o p, l = [a, b, c, d, e, f, g, i, j, k, m, n, o, p] := by
  obtain _ | ⟨a, _ | ⟨b, _ | ⟨c, _ | ⟨d, _ | ⟨e, _ | ⟨f, _ | ⟨g, _ | ⟨i, _ | ⟨j, _ | ⟨k, _ | ⟨m, _ | ⟨n, _ | ⟨o, _ | ⟨p, _ | ⟨q, l⟩⟩⟩⟩⟩⟩⟩⟩⟩⟩⟩⟩⟩⟩⟩ := l <;> simp at h ⊢
theorem open_ints {fuel : Nat} {cs : List Value} {x : DataW H × List MemPlace} (h : DataW.trod enc Try.prog w base (fun _ => true) held fuel 38 cs = some x) :
    ∃ (A : Option Addr) (l : List Int) (c : Nat), cs = [.slice A l.length c] ∧ (Kd.int .i64).C w A l.length l ∧ l.length ≤ c ∧ l.length ≤ maxLen ∧ ∀ z ∈ l, (Lit.int .i64 z).wf = true :=
  open_row (Kd.int .i64) (fun z => (Lit.int .i64 z).wf = true) Try.underlying38 (by kernel_rfl) (fun m _ a y e => by
    obtain ⟨n, rfl, _, b⟩ := DataW.trod_int Try.underlying3 e; exact ⟨n, rfl, b⟩) h
theorem NA {fuel : Nat} {cs : List Value} {x : DataW H × List MemPlace} (h : DataW.trod enc Try.prog w base (fun _ => true) held fuel 28 cs = some x) :
    ∃ (A : Option Addr) (l : List S30) (c : Nat), cs = [.slice A l.length c] ∧ k30.C w A l.length l ∧ l.length ≤ c ∧ l.length ≤ maxLen ∧ ∀ z ∈ l, okV fuel z :=
  open_row k30 (okV fuel) Try.underlying28 (by kernel_rfl) (fun m hm a y b => by
    obtain ⟨z, ⟨q, r, B3, s, rfl, i, j, k, o⟩, e⟩ := I6 m a y b; exact ⟨z, Gv w z i j k o, FZ _ _ _ (by omega) e⟩) h
theorem NB (fuel : Nat) (cs : List Value) (x : DataW H × List MemPlace) (h : DataW.trod enc Try.prog w base (fun _ => true) held fuel 40 cs = some x) :
    ∃ (t : S26) (z : S30) (l : List S63) (now : Int) (a : List S30) (after : List Int) (tr : Bool), (∃ k u o c4 q T r U s W b i c c12, cs = [.int .i64 t.f0, .int .i64 t.f1, .string t.f2, .slice k t.f3.length u, .slice o t.f4.length c4, .int .i64 z.f0, .int .i64 z.f1, .slice q z.f2.length T, .slice r z.f3.length U, .slice s l.length W, .int .i64 now, .slice b a.length i, .slice c after.length c12, .bool tr] ∧
      t.f3.length ≤ u ∧ Kd.string.C w k t.f3.length t.f3 ∧ t.f4.length ≤ c4 ∧ k26.C w o t.f4.length t.f4 ∧ z.f2.length ≤ T ∧ (Kd.int .u8).C w q z.f2.length z.f2 ∧ z.f3.length ≤ U ∧ k30.C w r z.f3.length z.f3 ∧ l.length ≤ W ∧ k63.C w s l.length l ∧ a.length ≤ i ∧ k30.C w b a.length a ∧ after.length ≤ c12 ∧ (Kd.int .i64).C w c after.length after) ∧
      okT fuel t ∧ okV fuel z ∧ l.length ≤ maxLen ∧ (∀ y ∈ l, okV fuel y.f1) ∧ (∀ y ∈ a, okV fuel y) ∧ (Lit.int .i64 now).wf = true ∧ a.length ≤ maxLen ∧ after.length ≤ maxLen ∧ ∀ n ∈ after, (Lit.int .i64 n).wf = true := by
  obtain ⟨xs, n, rfl, _, hl, J, e⟩ := DataW.trod_struct Try.underlying40 h; have j : cs.length = 14 := hl.trans (by kernel_rfl); obtain ⟨v0, v1, v2, v3, v4, v5, v6, v7, v8, v9, v10, v11, v12, v13, rfl⟩ := RH j; have g0 := e 0 _ rfl; have g1 := e 1 _ rfl; have g2 := e 2 _ rfl; have g3 := e 3 _ rfl; have g4 := e 4 _ rfl; have g5 := e 5 _ rfl; have I : xs.length = 6 := J; obtain ⟨y0, y1, y2, y3, y4, y5, rfl⟩ := Sb I; have v : Try.prog.cellsOf 26 = 5 := by kernel_rfl
  have B : Try.prog.cellsOf 33 = 5 := by kernel_rfl
  have u : Try.prog.cellsOf 3 = 1 := by kernel_rfl
  have c28 : Try.prog.cellsOf 28 = 1 := by kernel_rfl
  have D : Try.prog.cellsOf 38 = 1 := by kernel_rfl
  have c4 : Try.prog.cellsOf 4 = 1 := by kernel_rfl
  simp only [v, B, u, c28, D, c4, List.getElem_toArray, List.getElem_cons_zero, List.getElem_cons_succ, List.drop_zero, List.drop_succ_cons, List.take_succ_cons, List.take_zero, List.getElem?_cons_zero, List.getElem?_cons_succ] at g0 g1 g2 g3 g4 g5; obtain ⟨t, ⟨k, q3, o, q4, X, a1, a2, a3, a4⟩, ht⟩ := N9 n _ _ g0; obtain ⟨z, l, ⟨q, q7, r, q8, s, q9, Y, b1, b2, b3, b4, b5, b6⟩, hz, G, hy⟩ := LU n _ _ g1; obtain ⟨now, Z, _, w2⟩ := DataW.trod_int Try.underlying3 g2; obtain ⟨b, a, L, e3, d1, d2, d3, d4⟩ := NA g3; obtain ⟨c, after, O, e4, f1, f2, f3, f4⟩ := open_ints g4; obtain ⟨tr, e5, _⟩ := DataW.trod_bool Try.underlying4 g5; simp only [List.cons.injEq, and_true] at X Y Z e3 e4 e5; obtain ⟨rfl, rfl, rfl, rfl, rfl⟩ := X; obtain ⟨rfl, rfl, rfl, rfl, rfl⟩ := Y; subst Z e3 e4 e5; exact ⟨t, z, l, now, a, after, tr, ⟨k, q3, o, q4, q, q7, r, q8, s, q9, b, L, c, O, rfl, a1, a2, a3, a4, b1, b2, b3, b4, b5, b6, d2, d1, f2, f1⟩, LQ _ _ _ (by omega) ht, FZ _ _ _ (by omega) hz, G, fun y h => FZ _ _ _ (by omega) (hy y h).2, fun y h => FZ _ _ _ (by omega) (d4 y h), w2, d3, f3, f4⟩
end
end Go.Proofs.Ytojankgmedccdaa.RowC
