/- Lemmas. -/
import Derived.ProofKit
import Derived.OpenShut
import Derived.ShutString
import Derived.ChangeOld
import Derived.SizedLaws
import Derived.Lib.SmallJoins
import Derived.Deep.Matrix
import Derived.Test.YtojankgmedccdaaYNPTyx0
namespace Go.Proofs.Ytojankgmedccdaa.RowV
open Go.ChangeShapes Go.WideShapes Go.ChangeAt Go.RowKit Go.Joins Wo PTy
set_option linter.unusedVariables false
section
variable {H : Type} {enc : TypeId × Value → H} {P : Program} {w : World} {base : Nat} {held : Bool}
instance : Inhabited S30 := ⟨z30⟩
instance : Inhabited S26 := ⟨z26⟩
instance : Inhabited S63 := ⟨z63⟩
theorem QI {α : Type} {l : List α} (h : l.length = 2) : ∃ a b, l = [a, b] := by
  obtain _ | ⟨a, _ | ⟨b, _ | ⟨c, l⟩⟩⟩ := l <;> simp at h ⊢
theorem QJ {α : Type} {l : List α} (h : l.length = 4) : ∃ a b c d, l = [a, b, c, d] := by
  obtain _ | ⟨a, _ | ⟨b, _ | ⟨c, _ | ⟨d, _ | ⟨e, l⟩⟩⟩⟩⟩ := l <;> simp at h ⊢
theorem Ot {α : Type} {l : List α} (h : l.length = 5) : ∃ a b c d e, l = [a, b, c, d, e] := by
  obtain _ | ⟨a, _ | ⟨b, _ | ⟨c, _ | ⟨d, _ | ⟨e, _ | ⟨f, l⟩⟩⟩⟩⟩⟩ := l <;> simp at h ⊢
theorem open_row {α : Type} [Inhabited α] (d : Kd α) (G : α → Prop) {t e : TypeId} {fuel : Nat} {cs : List Value} {x : DataW H × List MemPlace} (L : P.underlying t = some (.slice e)) (r : P.cellsOf e = d.sz)
    (I : ∀ m, m < fuel → ∀ b y, DataW.trod enc P w base (fun _ => true) held m e b = some y → ∃ z, d.K w z b ∧ G z) (h : DataW.trod enc P w base (fun _ => true) held fuel t cs = some x) :
    ∃ (A : Option Addr) (l : List α) (c : Nat), cs = [.slice A l.length c] ∧ d.C w A l.length l ∧ l.length ≤ c ∧ l.length ≤ maxLen ∧ ∀ z ∈ l, G z := by
  rcases DataW.trod_slice L h with ⟨rfl, _⟩ | ⟨a, len, cap, elems, rest, n, hn, rfl, _, hb, hl, hc, hlen, hall, _⟩
  · exact ⟨none, [], 0, rfl, ⟨rfl, Nat.zero_le _, fun h => absurd h (Nat.lt_irrefl 0)⟩, Nat.le_refl _, Nat.zero_le _, by simp⟩
  · have each : ∀ i, i < len → ∃ z : α, (∃ b, w.cells? base (a.add (i * P.cellsOf e)) (P.cellsOf e) = some b ∧ d.K w z b) ∧ G z := by
      intro i hi; have D := hall i hi; rw [List.getElem?_eq_getElem (by omega)] at D; obtain ⟨b, h1, q⟩ := Option.bind_eq_some_iff.mp D; obtain ⟨z, s, hg⟩ := I n (by omega) b _ q; exact ⟨z, ⟨b, h1, s⟩, hg⟩
    obtain ⟨F, v⟩ := Go.Deep.choose_lt each; refine ⟨some a, (List.range len).map F, cap, by simp, ⟨rfl, ?_, fun _ => ⟨a, rfl, ?_⟩⟩, by simpa using hl, by rw [List.length_map, List.length_range]; omega, ?_⟩
    · rw [List.length_map, List.length_range]; have : maxLen ≤ 9223372036854775807 := by decide
      omega
    · intro j p k; rw [List.getElem?_map] at k; have o : j < len := by
        rcases Nat.lt_or_ge j len with h | h
        · exact h
        · rw [List.getElem?_eq_none (by rw [List.length_range]; omega)] at k; cases k
      rw [List.getElem?_range o] at k; obtain rfl := Option.some.inj k; obtain ⟨⟨b, h1, q⟩, _⟩ := v j o; obtain ⟨_, J, g⟩ := World.cells?_some h1; refine ⟨b, d.K_len q, q, fun i u B => ?_⟩; have hi : i < b.length := (List.getElem?_eq_some_iff.mp B).1; have := g i (by omega); rw [B] at this; rw [← this, r]; congr 1; simp only [Addr.add]; by_cases h0 : j * d.sz = 0 <;> by_cases h9 : i = 0 <;> simp [h0, h9, Nat.add_assoc]
    · intro z s; obtain ⟨i, hi, rfl⟩ := List.mem_map.1 s; exact (v i (List.mem_range.1 hi)).2
end
def okV : Nat → S30 → Prop
  | 0, _ => False
  | m + 1, x => (Lit.int .i64 x.f0).wf = true ∧ (Lit.int .i64 x.f1).wf = true ∧ (∀ b ∈ x.f2, (Lit.int .u8 b).wf = true) ∧ x.f2.length ≤ maxLen ∧ x.f3.length ≤ maxLen ∧ ∀ y ∈ x.f3, okV m y
theorem F4 : ∀ m n x, m ≤ n → okV m x → okV n x
  | 0, _, _, _, h => h.elim
  | m + 1, 0, _, h, _ => by omega
  | m + 1, n + 1, x, h, ⟨h1, h2, h3, h4, h5, h6⟩ => ⟨h1, h2, h3, h4, h5, fun y a => F4 m n y (by omega) (h6 y a)⟩
def okT : Nat → S26 → Prop
  | 0, _ => False
  | m + 1, x => (Lit.int .i64 x.f0).wf = true ∧ (Lit.int .i64 x.f1).wf = true ∧ x.f2.size ≤ maxLen ∧ (∀ s ∈ x.f3, s.size ≤ maxLen) ∧ x.f3.length ≤ maxLen ∧ x.f4.length ≤ maxLen ∧ ∀ y ∈ x.f4, okT m y
theorem LK : ∀ m n x, m ≤ n → okT m x → okT n x
  | 0, _, _, _, h => h.elim
  | m + 1, 0, _, h, _ => by omega
  | m + 1, n + 1, x, h, ⟨h1, h2, h3, h4, h5, h6, h7⟩ => ⟨h1, h2, h3, h4, h5, h6, fun y a => LK m n y (by omega) (h7 y a)⟩
section
variable {H : Type} {enc : TypeId × Value → H} {w : World} {base : Nat} {held : Bool}
theorem Nf {fuel : Nat} {cs : List Value} {x : DataW H × List MemPlace} (h : DataW.trod enc Try.prog w base (fun _ => true) held fuel 27 cs = some x) :
    ∃ (A : Option Addr) (l : List Int) (c : Nat), cs = [.slice A l.length c] ∧ (Kd.int .u8).C w A l.length l ∧ l.length ≤ c ∧ l.length ≤ maxLen ∧ ∀ z ∈ l, (Lit.int .u8 z).wf = true :=
  open_row (Kd.int .u8) (fun z => (Lit.int .u8 z).wf = true) Try.underlying27 (by kernel_rfl) (fun m _ a y d => by
    obtain ⟨n, rfl, _, b⟩ := DataW.trod_int Try.underlying73 d; exact ⟨n, rfl, b⟩) h
theorem JQ : ∀ (fuel : Nat) (cs : List Value) (x : DataW H × List MemPlace), DataW.trod enc Try.prog w base (fun _ => true) held fuel 30 cs = some x →
    ∃ z : S30, (∃ a v b c, cs = [.int .i64 z.f0, .int .i64 z.f1, .slice a z.f2.length v, .slice b z.f3.length c] ∧ z.f2.length ≤ v ∧ (Kd.int .u8).C w a z.f2.length z.f2 ∧ z.f3.length ≤ c ∧ k30.C w b z.f3.length z.f3) ∧ okV fuel z := by
  intro fuel; induction fuel using Nat.strongRecOn with
  | _ fuel ih =>
  intro cs x h; obtain ⟨xs, n, rfl, _, X, u, d⟩ := DataW.trod_struct Try.underlying30 h; have p : cs.length = 4 := X.trans (by kernel_rfl); obtain ⟨v0, v1, v2, v3, rfl⟩ := QJ p; have J := d 0 _ rfl; have g1 := d 1 _ rfl; have L := d 2 _ rfl; have O := d 3 _ rfl; have s : xs.length = 4 := u; obtain ⟨y0, y1, y2, y3, rfl⟩ := QJ s; have e : Try.prog.cellsOf 22 = 1 := by kernel_rfl
  have c : Try.prog.cellsOf 3 = 1 := by kernel_rfl
  have g : Try.prog.cellsOf 27 = 1 := by kernel_rfl
  have c28 : Try.prog.cellsOf 28 = 1 := by kernel_rfl
  simp only [e, c, g, c28, List.getElem_toArray, List.getElem_cons_zero, List.getElem_cons_succ, List.drop_zero, List.drop_succ_cons, List.take_succ_cons, List.take_zero, List.getElem?_cons_zero, List.getElem?_cons_succ] at J g1 L O; obtain ⟨a0, B, _, w0⟩ := DataW.trod_int Try.underlying22 J; obtain ⟨T, D, _, w1⟩ := DataW.trod_int Try.underlying3 g1; obtain ⟨a, l2, k2, G, U, j, q, l⟩ := Nf L; obtain ⟨b, l3, k3, I, W, k, r, o⟩ := open_row k30 (okV n) Try.underlying28 (by kernel_rfl) (fun m hm i y Y => by
    obtain ⟨z, ⟨B2, d2, B3, d3, rfl, q1, q2, q3, q4⟩, Z⟩ := ih m (by omega) i y Y; exact ⟨z, Gj w z q1 q2 q3 q4, F4 _ _ _ (by omega) Z⟩) O
  simp only [List.cons.injEq, and_true] at B D G I; subst B D G I; exact ⟨⟨a0, T, l2, l3⟩, ⟨a, k2, b, k3, rfl, j, U, k, W⟩, w0, w1, l, q, r, o⟩
theorem open_strs {fuel : Nat} {cs : List Value} {x : DataW H × List MemPlace} (h : DataW.trod enc Try.prog w base (fun _ => true) held fuel 23 cs = some x) :
    ∃ (A : Option Addr) (l : List ByteArray) (c : Nat), cs = [.slice A l.length c] ∧ Kd.string.C w A l.length l ∧ l.length ≤ c ∧ l.length ≤ maxLen ∧ ∀ z ∈ l, z.size ≤ maxLen :=
  open_row Kd.string (fun z => z.size ≤ maxLen) Try.underlying23 (by kernel_rfl) (fun m _ a y d => by
    obtain ⟨n, rfl, _, b⟩ := DataW.trod_string Try.underlying9 d; exact ⟨n, rfl, b⟩) h
theorem Ng : ∀ (fuel : Nat) (cs : List Value) (x : DataW H × List MemPlace), DataW.trod enc Try.prog w base (fun _ => true) held fuel 26 cs = some x →
    ∃ z : S26, (∃ b d c c4, cs = [.int .i64 z.f0, .int .i64 z.f1, .string z.f2, .slice b z.f3.length d, .slice c z.f4.length c4] ∧ z.f3.length ≤ d ∧ Kd.string.C w b z.f3.length z.f3 ∧ z.f4.length ≤ c4 ∧ k26.C w c z.f4.length z.f4) ∧ okT fuel z := by
  intro fuel; induction fuel using Nat.strongRecOn with
  | _ fuel ih =>
  intro cs x h; obtain ⟨xs, n, rfl, _, Z, u, a⟩ := DataW.trod_struct Try.underlying26 h; have p : cs.length = 5 := Z.trans (by kernel_rfl); obtain ⟨v0, v1, v2, v3, v4, rfl⟩ := Ot p; have J := a 0 _ rfl; have g1 := a 1 _ rfl; have L := a 2 _ rfl; have O := a 3 _ rfl; have T := a 4 _ rfl; have s : xs.length = 5 := u; obtain ⟨y0, y1, y2, y3, y4, rfl⟩ := Ot s; have e : Try.prog.cellsOf 22 = 1 := by kernel_rfl
  have d : Try.prog.cellsOf 3 = 1 := by kernel_rfl
  have W : Try.prog.cellsOf 9 = 1 := by kernel_rfl
  have g : Try.prog.cellsOf 23 = 1 := by kernel_rfl
  have c24 : Try.prog.cellsOf 24 = 1 := by kernel_rfl
  simp only [e, d, W, g, c24, List.getElem_toArray, List.getElem_cons_zero, List.getElem_cons_succ, List.drop_zero, List.drop_succ_cons, List.take_succ_cons, List.take_zero, List.getElem?_cons_zero, List.getElem?_cons_succ] at J g1 L O T; obtain ⟨a0, v, _, w0⟩ := DataW.trod_int Try.underlying22 J; obtain ⟨U, B, _, w1⟩ := DataW.trod_int Try.underlying3 g1; obtain ⟨s2, D, _, w2⟩ := DataW.trod_string Try.underlying9 L; obtain ⟨b, l3, k3, G, X, j, q, l⟩ := open_strs O; obtain ⟨c, l4, k4, I, Y, k, r, o⟩ := open_row k26 (okT n) Try.underlying24 (by kernel_rfl) (fun m hm i y hy => by
    obtain ⟨z, ⟨B2, d2, B3, d3, rfl, q1, q2, q3, q4⟩, hz⟩ := ih m (by omega) i y hy; exact ⟨z, PX w z q1 q2 q3 q4, LK _ _ _ (by omega) hz⟩) T
  simp only [List.cons.injEq, and_true] at v B D G I; subst v B D G I; exact ⟨⟨a0, U, s2, l3, l4⟩, ⟨b, k3, c, k4, rfl, j, X, k, Y⟩, w0, w1, w2, l, q, r, o⟩
theorem MQ (fuel : Nat) (cs : List Value) (x : DataW H × List MemPlace) (h : DataW.trod enc Try.prog w base (fun _ => true) held fuel 63 cs = some x) :
    ∃ z : S63, k63.K w z cs ∧ (Lit.int .i64 z.f0).wf = true ∧ okV fuel z.f1 := by
  obtain ⟨xs, n, rfl, _, l, d, j⟩ := DataW.trod_struct Try.underlying63 h; have b : cs.length = 5 := l.trans (by kernel_rfl); obtain ⟨v0, v1, v2, v3, v4, rfl⟩ := Ot b; have i := j 0 _ rfl; have g1 := j 1 _ rfl; have c : xs.length = 2 := d; obtain ⟨B, D, rfl⟩ := QI c; have k : Try.prog.cellsOf 3 = 1 := by kernel_rfl
  have a : Try.prog.cellsOf 30 = 4 := by kernel_rfl
  simp only [k, a, List.getElem_toArray, List.getElem_cons_zero, List.getElem_cons_succ, List.drop_zero, List.drop_succ_cons, List.take_succ_cons, List.take_zero, List.getElem?_cons_zero, List.getElem?_cons_succ] at i g1; obtain ⟨a0, e, _, w0⟩ := DataW.trod_int Try.underlying3 i; obtain ⟨z, ⟨s, v, u, y, g, o, p, q, r⟩, m⟩ := JQ n _ _ g1; simp only [List.cons.injEq, and_true] at e g; obtain ⟨rfl, rfl, rfl, rfl⟩ := g; subst e; exact ⟨⟨a0, z⟩, NR w ⟨a0, z⟩ o p q r, w0, F4 _ _ _ (by omega) m⟩
theorem LM (fuel : Nat) (cs : List Value) (x : DataW H × List MemPlace) (h : DataW.trod enc Try.prog w base (fun _ => true) held fuel 33 cs = some x) :
    ∃ (z : S30) (l : List S63), (∃ p r q s b c4, cs = [.int .i64 z.f0, .int .i64 z.f1, .slice p z.f2.length r, .slice q z.f3.length s, .slice b l.length c4] ∧ z.f2.length ≤ r ∧ (Kd.int .u8).C w p z.f2.length z.f2 ∧ z.f3.length ≤ s ∧ k30.C w q z.f3.length z.f3 ∧ l.length ≤ c4 ∧ k63.C w b l.length l) ∧ okV fuel z ∧ l.length ≤ maxLen ∧ ∀ y ∈ l, (Lit.int .i64 y.f0).wf = true ∧ okV fuel y.f1 := by
  obtain ⟨xs, n, rfl, _, W, o, D⟩ := DataW.trod_struct Try.underlying33 h; have i : cs.length = 5 := W.trans (by kernel_rfl); obtain ⟨v0, v1, v2, v3, v4, rfl⟩ := Ot i; have B := D 0 _ rfl; have g1 := D 1 _ rfl; have k : xs.length = 2 := o; obtain ⟨y0, y1, rfl⟩ := QI k; have d : Try.prog.cellsOf 30 = 4 := by kernel_rfl
  have c31 : Try.prog.cellsOf 31 = 1 := by kernel_rfl
  simp only [c31, d, List.getElem_toArray, List.getElem_cons_zero, List.getElem_cons_succ, List.drop_zero, List.drop_succ_cons, List.take_succ_cons, List.take_zero, List.getElem?_cons_zero, List.getElem?_cons_succ] at B g1; obtain ⟨z, ⟨G, J, I, L, u, q1, q2, q3, q4⟩, X⟩ := JQ n _ _ B; obtain ⟨b, Z, Y, v, T, g, j, a⟩ := open_row k63 (fun y => (Lit.int .i64 y.f0).wf = true ∧ okV n y.f1) Try.underlying31 (by kernel_rfl) (fun m hm e y c => by
    obtain ⟨z, U, h1, O⟩ := MQ m e y c; exact ⟨z, U, h1, F4 _ _ _ (by omega) O⟩) g1
  simp only [List.cons.injEq, and_true] at u v; obtain ⟨rfl, rfl, rfl, rfl⟩ := u; subst v; exact ⟨z, Z, ⟨G, J, I, L, b, Y, rfl, q1, q2, q3, q4, g, T⟩, F4 _ _ _ (by omega) X, j, fun y c => ⟨(a y c).1, F4 _ _ _ (by omega) (a y c).2⟩⟩
end
end Go.Proofs.Ytojankgmedccdaa.RowV
