/- Lemmas. -/
import Derived.ProofKit
import Derived.OpenShut
import Derived.ShutString
import Derived.ChangeOld
import Derived.SizedLaws
import Derived.Lib.SmallJoins
import Derived.Deep.Matrix
import Derived.Test.YtojankgmedccdaaYOPTyx0
namespace Go.Proofs.Ytojankgmedccdaa.RowV
open Go.ChangeShapes Go.WideShapes Go.ChangeAt Go.RowKit Go.Joins Wo PTy
set_option linter.unusedVariables false
section
variable {H : Type} {enc : TypeId × Value → H} {P : Program} {w : World} {base : Nat} {held : Bool}
instance : Inhabited S30 := ⟨z30⟩
instance : Inhabited S26 := ⟨z26⟩
instance : Inhabited S63 := ⟨z63⟩
theorem Ql {α : Type} {l : List α} (h : l.length = 2) : ∃ a b, l = [a, b] := by
  obtain _ | ⟨a, _ | ⟨b, _ | ⟨c, l⟩⟩⟩ := l <;> simp at h ⊢
theorem Qm {α : Type} {l : List α} (h : l.length = 4) : ∃ a b c d, l = [a, b, c, d] := by
  obtain _ | ⟨a, _ | ⟨b, _ | ⟨c, _ | ⟨d, _ | ⟨e, l⟩⟩⟩⟩⟩ := l <;> simp at h ⊢
theorem O7 {α : Type} {l : List α} (h : l.length = 5) : ∃ a b c d e, l = [a, b, c, d, e] := by
  obtain _ | ⟨a, _ | ⟨b, _ | ⟨c, _ | ⟨d, _ | ⟨e, _ | ⟨f, l⟩⟩⟩⟩⟩⟩ := l <;> simp at h ⊢
theorem open_row {α : Type} [Inhabited α] (d : Kd α) (G : α → Prop) {t e : TypeId} {fuel : Nat} {cs : List Value} {x : DataW H × List MemPlace} (L : P.underlying t = some (.slice e)) (r : P.cellsOf e = d.sz)
    (I : ∀ m, m < fuel → ∀ b y, DataW.trod enc P w base (fun _ => true) held m e b = some y → ∃ z, d.K w z b ∧ G z) (h : DataW.trod enc P w base (fun _ => true) held fuel t cs = some x) :
    ∃ (A : Option Addr) (l : List α) (c : Nat), cs = [.slice A l.length c] ∧ d.C w A l.length l ∧ l.length ≤ c ∧ l.length ≤ maxLen ∧ ∀ z ∈ l, G z := by
  rcases DataW.trod_slice L h with ⟨rfl, _⟩ | ⟨a, len, cap, elems, rest, n, hn, rfl, _, hb, hl, hc, hlen, hall, _⟩
  · exact ⟨none, [], 0, rfl, ⟨rfl, Nat.zero_le _, fun h => absurd h (Nat.lt_irrefl 0)⟩, Nat.le_refl _, Nat.zero_le _, by simp⟩
  · have each : ∀ i, i < len → ∃ z : α, (∃ b, w.cells? base (a.add (i * P.cellsOf e)) (P.cellsOf e) = some b ∧ d.K w z b) ∧ G z := by
      intro i hi; have D := hall i hi; rw [List.getElem?_eq_getElem (by omega)] at D; obtain ⟨b, h1, h2⟩ := Option.bind_eq_some_iff.mp D; obtain ⟨z, s, hg⟩ := I n (by omega) b _ h2; exact ⟨z, ⟨b, h1, s⟩, hg⟩
    obtain ⟨F, v⟩ := Go.Deep.choose_lt each; refine ⟨some a, (List.range len).map F, cap, by simp, ⟨rfl, ?_, fun _ => ⟨a, rfl, ?_⟩⟩, by simpa using hl, by rw [List.length_map, List.length_range]; omega, ?_⟩
    · rw [List.length_map, List.length_range]; have : maxLen ≤ 9223372036854775807 := by decide
      omega
    · intro j p o; rw [List.getElem?_map] at o; have q : j < len := by
        rcases Nat.lt_or_ge j len with h | h
        · exact h
        · rw [List.getElem?_eq_none (by rw [List.length_range]; omega)] at o; cases o
      rw [List.getElem?_range q] at o; obtain rfl := Option.some.inj o; obtain ⟨⟨b, h1, h2⟩, _⟩ := v j q; obtain ⟨_, J, k⟩ := World.cells?_some h1; refine ⟨b, d.K_len h2, h2, fun i u B => ?_⟩; have hi : i < b.length := (List.getElem?_eq_some_iff.mp B).1; have := k i (by omega); rw [B] at this; rw [← this, r]; congr 1; simp only [Addr.add]; by_cases h0 : j * d.sz = 0 <;> by_cases h9 : i = 0 <;> simp [h0, h9, Nat.add_assoc]
    · intro z s; obtain ⟨i, hi, rfl⟩ := List.mem_map.1 s; exact (v i (List.mem_range.1 hi)).2
end
def okV : Nat → S30 → Prop
  | 0, _ => False
  | m + 1, x => (Lit.int .i64 x.f0).wf = true ∧ (Lit.int .i64 x.f1).wf = true ∧ (∀ b ∈ x.f2, (Lit.int .u8 b).wf = true) ∧ x.f2.length ≤ maxLen ∧ x.f3.length ≤ maxLen ∧ ∀ y ∈ x.f3, okV m y
theorem FZ : ∀ m n x, m ≤ n → okV m x → okV n x
  | 0, _, _, _, h => h.elim
  | m + 1, 0, _, h, _ => by omega
  | m + 1, n + 1, x, h, ⟨h1, h2, h3, h4, h5, h6⟩ => ⟨h1, h2, h3, h4, h5, fun y a => FZ m n y (by omega) (h6 y a)⟩
def okT : Nat → S26 → Prop
  | 0, _ => False
  | m + 1, x => (Lit.int .i64 x.f0).wf = true ∧ (Lit.int .i64 x.f1).wf = true ∧ x.f2.size ≤ maxLen ∧ (∀ s ∈ x.f3, s.size ≤ maxLen) ∧ x.f3.length ≤ maxLen ∧ x.f4.length ≤ maxLen ∧ ∀ y ∈ x.f4, okT m y
theorem LQ : ∀ m n x, m ≤ n → okT m x → okT n x
  | 0, _, _, _, h => h.elim
  | m + 1, 0, _, h, _ => by omega
  | m + 1, n + 1, x, h, ⟨h1, h2, h3, h4, h5, h6, h7⟩ => ⟨h1, h2, h3, h4, h5, h6, fun y a => LQ m n y (by omega) (h7 y a)⟩
section
variable {H : Type} {enc : TypeId × Value → H} {w : World} {base : Nat} {held : Bool}
theorem N8 {fuel : Nat} {cs : List Value} {x : DataW H × List MemPlace} (h : DataW.trod enc Try.prog w base (fun _ => true) held fuel 27 cs = some x) :
    ∃ (A : Option Addr) (l : List Int) (c : Nat), cs = [.slice A l.length c] ∧ (Kd.int .u8).C w A l.length l ∧ l.length ≤ c ∧ l.length ≤ maxLen ∧ ∀ z ∈ l, (Lit.int .u8 z).wf = true :=
  open_row (Kd.int .u8) (fun z => (Lit.int .u8 z).wf = true) Try.underlying27 (by kernel_rfl) (fun m _ a y e => by
    obtain ⟨n, rfl, _, b⟩ := DataW.trod_int Try.underlying73 e; exact ⟨n, rfl, b⟩) h
theorem I6 : ∀ (fuel : Nat) (cs : List Value) (x : DataW H × List MemPlace), DataW.trod enc Try.prog w base (fun _ => true) held fuel 30 cs = some x →
    ∃ z : S30, (∃ a G b c, cs = [.int .i64 z.f0, .int .i64 z.f1, .slice a z.f2.length G, .slice b z.f3.length c] ∧ z.f2.length ≤ G ∧ (Kd.int .u8).C w a z.f2.length z.f2 ∧ z.f3.length ≤ c ∧ k30.C w b z.f3.length z.f3) ∧ okV fuel z := by
  intro fuel; induction fuel using Nat.strongRecOn with
  | _ fuel ih =>
  intro cs x h; obtain ⟨xs, n, rfl, _, Y, D, e⟩ := DataW.trod_struct Try.underlying30 h; have s : cs.length = 4 := Y.trans (by kernel_rfl); obtain ⟨v0, v1, v2, v3, rfl⟩ := Qm s; have T := e 0 _ rfl; have g1 := e 1 _ rfl; have U := e 2 _ rfl; have W := e 3 _ rfl; have B : xs.length = 4 := D; obtain ⟨y0, y1, y2, y3, rfl⟩ := Qm B; have i : Try.prog.cellsOf 22 = 1 := by kernel_rfl
  have c : Try.prog.cellsOf 3 = 1 := by kernel_rfl
  have j : Try.prog.cellsOf 27 = 1 := by kernel_rfl
  have c28 : Try.prog.cellsOf 28 = 1 := by kernel_rfl
  simp only [i, c, j, c28, List.getElem_toArray, List.getElem_cons_zero, List.getElem_cons_succ, List.drop_zero, List.drop_succ_cons, List.take_succ_cons, List.take_zero, List.getElem?_cons_zero, List.getElem?_cons_succ] at T g1 U W; obtain ⟨a0, I, _, w0⟩ := DataW.trod_int Try.underlying22 T; obtain ⟨X, J, _, w1⟩ := DataW.trod_int Try.underlying3 g1; obtain ⟨a, l2, k2, L, h2, l, u, q⟩ := N8 U; obtain ⟨b, l3, k3, O, h3, o, v, r⟩ := open_row k30 (okV n) Try.underlying28 (by kernel_rfl) (fun m hm k y Z => by
    obtain ⟨z, ⟨B2, d2, B3, d3, rfl, q1, q2, q3, q4⟩, hz⟩ := ih m (by omega) k y Z; exact ⟨z, Gv w z q1 q2 q3 q4, FZ _ _ _ (by omega) hz⟩) W
  simp only [List.cons.injEq, and_true] at I J L O; subst I J L O; exact ⟨⟨a0, X, l2, l3⟩, ⟨a, k2, b, k3, rfl, l, h2, o, h3⟩, w0, w1, q, u, v, r⟩
theorem open_strs {fuel : Nat} {cs : List Value} {x : DataW H × List MemPlace} (h : DataW.trod enc Try.prog w base (fun _ => true) held fuel 23 cs = some x) :
    ∃ (A : Option Addr) (l : List ByteArray) (c : Nat), cs = [.slice A l.length c] ∧ Kd.string.C w A l.length l ∧ l.length ≤ c ∧ l.length ≤ maxLen ∧ ∀ z ∈ l, z.size ≤ maxLen :=
  open_row Kd.string (fun z => z.size ≤ maxLen) Try.underlying23 (by kernel_rfl) (fun m _ a y e => by
    obtain ⟨n, rfl, _, b⟩ := DataW.trod_string Try.underlying9 e; exact ⟨n, rfl, b⟩) h
theorem N9 : ∀ (fuel : Nat) (cs : List Value) (x : DataW H × List MemPlace), DataW.trod enc Try.prog w base (fun _ => true) held fuel 26 cs = some x →
    ∃ z : S26, (∃ b e c c4, cs = [.int .i64 z.f0, .int .i64 z.f1, .string z.f2, .slice b z.f3.length e, .slice c z.f4.length c4] ∧ z.f3.length ≤ e ∧ Kd.string.C w b z.f3.length z.f3 ∧ z.f4.length ≤ c4 ∧ k26.C w c z.f4.length z.f4) ∧ okT fuel z := by
  intro fuel; induction fuel using Nat.strongRecOn with
  | _ fuel ih =>
  intro cs x h; obtain ⟨xs, n, rfl, _, hl, D, a⟩ := DataW.trod_struct Try.underlying26 h; have s : cs.length = 5 := hl.trans (by kernel_rfl); obtain ⟨v0, v1, v2, v3, v4, rfl⟩ := O7 s; have T := a 0 _ rfl; have g1 := a 1 _ rfl; have U := a 2 _ rfl; have W := a 3 _ rfl; have X := a 4 _ rfl; have B : xs.length = 5 := D; obtain ⟨y0, y1, y2, y3, y4, rfl⟩ := O7 B; have i : Try.prog.cellsOf 22 = 1 := by kernel_rfl
  have e : Try.prog.cellsOf 3 = 1 := by kernel_rfl
  have Z : Try.prog.cellsOf 9 = 1 := by kernel_rfl
  have j : Try.prog.cellsOf 23 = 1 := by kernel_rfl
  have c24 : Try.prog.cellsOf 24 = 1 := by kernel_rfl
  simp only [i, e, Z, j, c24, List.getElem_toArray, List.getElem_cons_zero, List.getElem_cons_succ, List.drop_zero, List.drop_succ_cons, List.take_succ_cons, List.take_zero, List.getElem?_cons_zero, List.getElem?_cons_succ] at T g1 U W X; obtain ⟨a0, G, _, w0⟩ := DataW.trod_int Try.underlying22 T; obtain ⟨Y, I, _, w1⟩ := DataW.trod_int Try.underlying3 g1; obtain ⟨s2, J, _, w2⟩ := DataW.trod_string Try.underlying9 U; obtain ⟨b, l3, k3, L, h3, l, u, q⟩ := open_strs W; obtain ⟨c, l4, k4, O, h4, o, v, r⟩ := open_row k26 (okT n) Try.underlying24 (by kernel_rfl) (fun m hm k y hy => by
    obtain ⟨z, ⟨B2, d2, B3, d3, rfl, q1, q2, q3, q4⟩, hz⟩ := ih m (by omega) k y hy; exact ⟨z, Pt w z q1 q2 q3 q4, LQ _ _ _ (by omega) hz⟩) X
  simp only [List.cons.injEq, and_true] at G I J L O; subst G I J L O; exact ⟨⟨a0, Y, s2, l3, l4⟩, ⟨b, k3, c, k4, rfl, l, h3, o, h4⟩, w0, w1, w2, q, u, v, r⟩
theorem Mi (fuel : Nat) (cs : List Value) (x : DataW H × List MemPlace) (h : DataW.trod enc Try.prog w base (fun _ => true) held fuel 63 cs = some x) :
    ∃ z : S63, k63.K w z cs ∧ (Lit.int .i64 z.f0).wf = true ∧ okV fuel z.f1 := by
  obtain ⟨xs, n, rfl, _, q, e, l⟩ := DataW.trod_struct Try.underlying63 h; have b : cs.length = 5 := q.trans (by kernel_rfl); obtain ⟨v0, v1, v2, v3, v4, rfl⟩ := O7 b; have k := l 0 _ rfl; have g1 := l 1 _ rfl; have c : xs.length = 2 := e; obtain ⟨J, L, rfl⟩ := Ql c; have o : Try.prog.cellsOf 3 = 1 := by kernel_rfl
  have a : Try.prog.cellsOf 30 = 4 := by kernel_rfl
  simp only [o, a, List.getElem_toArray, List.getElem_cons_zero, List.getElem_cons_succ, List.drop_zero, List.drop_succ_cons, List.take_succ_cons, List.take_zero, List.getElem?_cons_zero, List.getElem?_cons_succ] at k g1; obtain ⟨a0, i, _, w0⟩ := DataW.trod_int Try.underlying3 k; obtain ⟨z, ⟨D, G, B3, I, j, s, u, v, B⟩, r⟩ := I6 n _ _ g1; simp only [List.cons.injEq, and_true] at i j; obtain ⟨rfl, rfl, rfl, rfl⟩ := j; subst i; exact ⟨⟨a0, z⟩, Nq w ⟨a0, z⟩ s u v B, w0, FZ _ _ _ (by omega) r⟩
theorem LU (fuel : Nat) (cs : List Value) (x : DataW H × List MemPlace) (h : DataW.trod enc Try.prog w base (fun _ => true) held fuel 33 cs = some x) :
    ∃ (z : S30) (l : List S63), (∃ s v u B b c4, cs = [.int .i64 z.f0, .int .i64 z.f1, .slice s z.f2.length v, .slice u z.f3.length B, .slice b l.length c4] ∧ z.f2.length ≤ v ∧ (Kd.int .u8).C w s z.f2.length z.f2 ∧ z.f3.length ≤ B ∧ k30.C w u z.f3.length z.f3 ∧ l.length ≤ c4 ∧ k63.C w b l.length l) ∧ okV fuel z ∧ l.length ≤ maxLen ∧ ∀ y ∈ l, (Lit.int .i64 y.f0).wf = true ∧ okV fuel y.f1 := by
  obtain ⟨xs, n, rfl, _, W, r, J⟩ := DataW.trod_struct Try.underlying33 h; have k : cs.length = 5 := W.trans (by kernel_rfl); obtain ⟨v0, v1, v2, v3, v4, rfl⟩ := O7 k; have I := J 0 _ rfl; have g1 := J 1 _ rfl; have q : xs.length = 2 := r; obtain ⟨y0, y1, rfl⟩ := Ql q; have e : Try.prog.cellsOf 30 = 4 := by kernel_rfl
  have c31 : Try.prog.cellsOf 31 = 1 := by kernel_rfl
  simp only [c31, e, List.getElem_toArray, List.getElem_cons_zero, List.getElem_cons_succ, List.drop_zero, List.drop_succ_cons, List.take_succ_cons, List.take_zero, List.getElem?_cons_zero, List.getElem?_cons_succ] at I g1; obtain ⟨z, ⟨L, O, B3, T, D, q1, q2, q3, q4⟩, X⟩ := I6 n _ _ I; obtain ⟨b, Z, Y, G, h4, j, o, a⟩ := open_row k63 (fun y => (Lit.int .i64 y.f0).wf = true ∧ okV n y.f1) Try.underlying31 (by kernel_rfl) (fun m hm i y c => by
    obtain ⟨z, U, h1, h2⟩ := Mi m i y c; exact ⟨z, U, h1, FZ _ _ _ (by omega) h2⟩) g1
  simp only [List.cons.injEq, and_true] at D G; obtain ⟨rfl, rfl, rfl, rfl⟩ := D; subst G; exact ⟨z, Z, ⟨L, O, B3, T, b, Y, rfl, q1, q2, q3, q4, j, h4⟩, FZ _ _ _ (by omega) X, o, fun y c => ⟨(a y c).1, FZ _ _ _ (by omega) (a y c).2⟩⟩
end
end Go.Proofs.Ytojankgmedccdaa.RowV
