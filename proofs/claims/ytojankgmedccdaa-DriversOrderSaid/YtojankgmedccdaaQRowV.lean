/- Part of the proof of LawDriversOrder: every definition and lemma is one that it names. -/
import Derived.WalkKit
import Derived.ProofKit
import Derived.OpenShut
import Derived.ShutString
import Derived.ChangeOld
import Derived.Below
import Derived.SizedLaws
import Derived.RowKit
import Derived.RowKit3
import Derived.Lib.SmallJoins
import Derived.Deep.Matrix
import Derived.Test.YtojankgmedccdaaQPTyx0
namespace Go.Proofs.Ytojankgmedccdaa.RowV
open Go.ChangeShapes Go.WideShapes Go.ChangeAt Go.RowKit Go.Joins YtojankgmedccdaaW.PrintWords PTy
set_option linter.unusedVariables false
section
variable {H : Type} {enc : TypeId × Value → H} {P : Program} {w : World} {base : Nat} {held : Bool}
instance : Inhabited S30 := ⟨z30⟩
instance : Inhabited S26 := ⟨z26⟩
instance : Inhabited S63 := ⟨z63⟩
theorem len4 {α : Type} {l : List α} (h : l.length = 4) : ∃ a b c d, l = [a, b, c, d] := by
  obtain _ | ⟨a, _ | ⟨b, _ | ⟨c, _ | ⟨d, _ | ⟨e, l⟩⟩⟩⟩⟩ := l <;> simp at h ⊢
theorem len5 {α : Type} {l : List α} (h : l.length = 5) : ∃ a b c d e, l = [a, b, c, d, e] := by
  obtain _ | ⟨a, _ | ⟨b, _ | ⟨c, _ | ⟨d, _ | ⟨e, _ | ⟨f, l⟩⟩⟩⟩⟩⟩ := l <;> simp at h ⊢
theorem open_row {α : Type} [Inhabited α] (d : Kd α) (G : α → Prop) {t e : TypeId} {fuel : Nat} {cs : List Value} {x : DataW H × List MemPlace} (ht : P.underlying t = some (.slice e)) (hsz : P.cellsOf e = d.sz)
    (he : ∀ m, m < fuel → ∀ cs' y, DataW.trod enc P w base (fun _ => true) held m e cs' = some y → ∃ z, d.K w z cs' ∧ G z) (h : DataW.trod enc P w base (fun _ => true) held fuel t cs = some x) :
    ∃ (A : Option Addr) (l : List α) (c : Nat), cs = [.slice A l.length c] ∧ d.C w A l.length l ∧ l.length ≤ c ∧ l.length ≤ maxLen ∧ ∀ z ∈ l, G z := by
  rcases DataW.trod_slice ht h with ⟨rfl, _⟩ | ⟨a, len, cap, elems, rest, n, hn, rfl, _, hb, hl, hc, hlen, hall, _⟩
  · exact ⟨none, [], 0, rfl, ⟨rfl, Nat.zero_le _, fun h => absurd h (Nat.lt_irrefl 0)⟩, Nat.le_refl _, Nat.zero_le _, by simp⟩
  · have each : ∀ i, i < len → ∃ z : α, (∃ cs', w.cells? base (a.add (i * P.cellsOf e)) (P.cellsOf e) = some cs' ∧ d.K w z cs') ∧ G z := by
      intro i hi
      have hy := hall i hi
      rw [List.getElem?_eq_getElem (by omega)] at hy
      obtain ⟨cs', h1, h2⟩ := Option.bind_eq_some_iff.mp hy
      obtain ⟨z, hz, hg⟩ := he n (by omega) cs' _ h2
      exact ⟨z, ⟨cs', h1, hz⟩, hg⟩
    obtain ⟨F, hF⟩ := Go.Deep.choose_lt each
    refine ⟨some a, (List.range len).map F, cap, by simp, ⟨rfl, ?_, fun _ => ⟨a, rfl, ?_⟩⟩, by simpa using hl, by rw [List.length_map, List.length_range]; omega, ?_⟩
    · rw [List.length_map, List.length_range]
      have : maxLen ≤ 9223372036854775807 := by decide
      omega
    · intro j p hj
      rw [List.getElem?_map] at hj
      have hj2 : j < len := by
        rcases Nat.lt_or_ge j len with h | h
        · exact h
        · rw [List.getElem?_eq_none (by rw [List.length_range]; omega)] at hj
          cases hj
      rw [List.getElem?_range hj2] at hj
      obtain rfl := Option.some.inj hj
      obtain ⟨⟨cs', h1, h2⟩, _⟩ := hF j hj2
      obtain ⟨_, hl', hcell⟩ := World.cells?_some h1
      refine ⟨cs', d.K_len h2, h2, fun i u hu => ?_⟩
      have hi : i < cs'.length := (List.getElem?_eq_some_iff.mp hu).1
      have := hcell i (by omega)
      rw [hu] at this
      rw [← this, hsz]
      congr 1
      simp only [Addr.add]
      by_cases h0 : j * d.sz = 0 <;> by_cases h9 : i = 0 <;> simp [h0, h9, Nat.add_assoc]
    · intro z hz
      obtain ⟨i, hi, rfl⟩ := List.mem_map.1 hz
      exact (hF i (List.mem_range.1 hi)).2
end
def okV : Nat → S30 → Prop
  | 0, _ => False
  | m + 1, x => (Lit.int .i64 x.f0).wf = true ∧ (Lit.int .i64 x.f1).wf = true ∧ (∀ b ∈ x.f2, (Lit.int .u8 b).wf = true) ∧ x.f2.length ≤ maxLen ∧ x.f3.length ≤ maxLen ∧ ∀ y ∈ x.f3, okV m y
theorem okV_up : ∀ m n x, m ≤ n → okV m x → okV n x
  | 0, _, _, _, h => h.elim
  | m + 1, 0, _, h, _ => by omega
  | m + 1, n + 1, x, h, ⟨h1, h2, h3, h4, h5, h6⟩ => ⟨h1, h2, h3, h4, h5, fun y hy => okV_up m n y (by omega) (h6 y hy)⟩
def okT : Nat → S26 → Prop
  | 0, _ => False
  | m + 1, x => (Lit.int .i64 x.f0).wf = true ∧ (Lit.int .i64 x.f1).wf = true ∧ x.f2.size ≤ maxLen ∧ (∀ s ∈ x.f3, s.size ≤ maxLen) ∧ x.f3.length ≤ maxLen ∧ x.f4.length ≤ maxLen ∧ ∀ y ∈ x.f4, okT m y
theorem okT_up : ∀ m n x, m ≤ n → okT m x → okT n x
  | 0, _, _, _, h => h.elim
  | m + 1, 0, _, h, _ => by omega
  | m + 1, n + 1, x, h, ⟨h1, h2, h3, h4, h5, h6, h7⟩ => ⟨h1, h2, h3, h4, h5, h6, fun y hy => okT_up m n y (by omega) (h7 y hy)⟩
section
variable {H : Type} {enc : TypeId × Value → H} {w : World} {base : Nat} {held : Bool}
theorem open_u8s {fuel : Nat} {cs : List Value} {x : DataW H × List MemPlace} (h : DataW.trod enc Try.prog w base (fun _ => true) held fuel 27 cs = some x) :
    ∃ (A : Option Addr) (l : List Int) (c : Nat), cs = [.slice A l.length c] ∧ (Kd.int .u8).C w A l.length l ∧ l.length ≤ c ∧ l.length ≤ maxLen ∧ ∀ z ∈ l, (Lit.int .u8 z).wf = true :=
  open_row (Kd.int .u8) (fun z => (Lit.int .u8 z).wf = true) Try.underlying27 (by kernel_rfl) (fun m _ cs' y hy => by
    obtain ⟨n, rfl, _, hw⟩ := DataW.trod_int Try.underlying73 hy
    exact ⟨n, rfl, hw⟩) h
theorem open_val : ∀ (fuel : Nat) (cs : List Value) (x : DataW H × List MemPlace), DataW.trod enc Try.prog w base (fun _ => true) held fuel 30 cs = some x →
    ∃ z : S30, (∃ A2 c2 A3 c3, cs = [.int .i64 z.f0, .int .i64 z.f1, .slice A2 z.f2.length c2, .slice A3 z.f3.length c3] ∧ z.f2.length ≤ c2 ∧ (Kd.int .u8).C w A2 z.f2.length z.f2 ∧ z.f3.length ≤ c3 ∧ k30.C w A3 z.f3.length z.f3) ∧ okV fuel z := by
  intro fuel
  induction fuel using Nat.strongRecOn with
  | _ fuel ih =>
  intro cs x h
  obtain ⟨xs, n, rfl, _, hl, hxl, hf⟩ := DataW.trod_struct Try.underlying30 h
  have hl4 : cs.length = 4 := hl.trans (by kernel_rfl)
  obtain ⟨v0, v1, v2, v3, rfl⟩ := len4 hl4
  have g0 := hf 0 _ rfl; have g1 := hf 1 _ rfl; have g2 := hf 2 _ rfl; have g3 := hf 3 _ rfl
  have hx4 : xs.length = 4 := hxl
  obtain ⟨y0, y1, y2, y3, rfl⟩ := len4 hx4
  have c22 : Try.prog.cellsOf 22 = 1 := by kernel_rfl
  have c3 : Try.prog.cellsOf 3 = 1 := by kernel_rfl
  have c27 : Try.prog.cellsOf 27 = 1 := by kernel_rfl
  have c28 : Try.prog.cellsOf 28 = 1 := by kernel_rfl
  simp only [c22, c3, c27, c28, List.getElem_toArray, List.getElem_cons_zero, List.getElem_cons_succ, List.drop_zero, List.drop_succ_cons, List.take_succ_cons, List.take_zero, List.getElem?_cons_zero, List.getElem?_cons_succ] at g0 g1 g2 g3
  obtain ⟨a0, e0, _, w0⟩ := DataW.trod_int Try.underlying22 g0
  obtain ⟨a1, e1, _, w1⟩ := DataW.trod_int Try.underlying3 g1
  obtain ⟨A2, l2, k2, e2, h2, hc2, hm2, hg2⟩ := open_u8s g2
  obtain ⟨A3, l3, k3, e3, h3, hc3, hm3, hg3⟩ := open_row k30 (okV n) Try.underlying28 (by kernel_rfl) (fun m hm cs' y hy => by
    obtain ⟨z, ⟨B2, d2, B3, d3, rfl, q1, q2, q3, q4⟩, hz⟩ := ih m (by omega) cs' y hy
    exact ⟨z, k30_mk w z q1 q2 q3 q4, okV_up _ _ _ (by omega) hz⟩) g3
  simp only [List.cons.injEq, and_true] at e0 e1 e2 e3
  subst e0 e1 e2 e3
  exact ⟨⟨a0, a1, l2, l3⟩, ⟨A2, k2, A3, k3, rfl, hc2, h2, hc3, h3⟩, w0, w1, hg2, hm2, hm3, hg3⟩
theorem open_strs {fuel : Nat} {cs : List Value} {x : DataW H × List MemPlace} (h : DataW.trod enc Try.prog w base (fun _ => true) held fuel 23 cs = some x) :
    ∃ (A : Option Addr) (l : List ByteArray) (c : Nat), cs = [.slice A l.length c] ∧ Kd.string.C w A l.length l ∧ l.length ≤ c ∧ l.length ≤ maxLen ∧ ∀ z ∈ l, z.size ≤ maxLen :=
  open_row Kd.string (fun z => z.size ≤ maxLen) Try.underlying23 (by kernel_rfl) (fun m _ cs' y hy => by
    obtain ⟨n, rfl, _, hw⟩ := DataW.trod_string Try.underlying9 hy
    exact ⟨n, rfl, hw⟩) h
theorem open_typ : ∀ (fuel : Nat) (cs : List Value) (x : DataW H × List MemPlace), DataW.trod enc Try.prog w base (fun _ => true) held fuel 26 cs = some x →
    ∃ z : S26, (∃ A3 c3 A4 c4, cs = [.int .i64 z.f0, .int .i64 z.f1, .string z.f2, .slice A3 z.f3.length c3, .slice A4 z.f4.length c4] ∧ z.f3.length ≤ c3 ∧ Kd.string.C w A3 z.f3.length z.f3 ∧ z.f4.length ≤ c4 ∧ k26.C w A4 z.f4.length z.f4) ∧ okT fuel z := by
  intro fuel
  induction fuel using Nat.strongRecOn with
  | _ fuel ih =>
  intro cs x h
  obtain ⟨xs, n, rfl, _, hl, hxl, hf⟩ := DataW.trod_struct Try.underlying26 h
  have hl5 : cs.length = 5 := hl.trans (by kernel_rfl)
  obtain ⟨v0, v1, v2, v3, v4, rfl⟩ := len5 hl5
  have g0 := hf 0 _ rfl; have g1 := hf 1 _ rfl; have g2 := hf 2 _ rfl; have g3 := hf 3 _ rfl; have g4 := hf 4 _ rfl
  have hx5 : xs.length = 5 := hxl
  obtain ⟨y0, y1, y2, y3, y4, rfl⟩ := len5 hx5
  have c22 : Try.prog.cellsOf 22 = 1 := by kernel_rfl
  have c3 : Try.prog.cellsOf 3 = 1 := by kernel_rfl
  have c9 : Try.prog.cellsOf 9 = 1 := by kernel_rfl
  have c23 : Try.prog.cellsOf 23 = 1 := by kernel_rfl
  have c24 : Try.prog.cellsOf 24 = 1 := by kernel_rfl
  simp only [c22, c3, c9, c23, c24, List.getElem_toArray, List.getElem_cons_zero, List.getElem_cons_succ, List.drop_zero, List.drop_succ_cons, List.take_succ_cons, List.take_zero, List.getElem?_cons_zero, List.getElem?_cons_succ] at g0 g1 g2 g3 g4
  obtain ⟨a0, e0, _, w0⟩ := DataW.trod_int Try.underlying22 g0
  obtain ⟨a1, e1, _, w1⟩ := DataW.trod_int Try.underlying3 g1
  obtain ⟨s2, e2, _, w2⟩ := DataW.trod_string Try.underlying9 g2
  obtain ⟨A3, l3, k3, e3, h3, hc3, hm3, hg3⟩ := open_strs g3
  obtain ⟨A4, l4, k4, e4, h4, hc4, hm4, hg4⟩ := open_row k26 (okT n) Try.underlying24 (by kernel_rfl) (fun m hm cs' y hy => by
    obtain ⟨z, ⟨B2, d2, B3, d3, rfl, q1, q2, q3, q4⟩, hz⟩ := ih m (by omega) cs' y hy
    exact ⟨z, k26_mk w z q1 q2 q3 q4, okT_up _ _ _ (by omega) hz⟩) g4
  simp only [List.cons.injEq, and_true] at e0 e1 e2 e3 e4
  subst e0 e1 e2 e3 e4
  exact ⟨⟨a0, a1, s2, l3, l4⟩, ⟨A3, k3, A4, k4, rfl, hc3, h3, hc4, h4⟩, w0, w1, w2, hg3, hm3, hm4, hg4⟩
end
end Go.Proofs.Ytojankgmedccdaa.RowV
