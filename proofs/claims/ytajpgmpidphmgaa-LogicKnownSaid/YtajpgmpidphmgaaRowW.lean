/- Arguments of the rows, told by the kinds of the kit's print: a slice of bytes; a slice of slices of bytes; a small array of slices of bytes. -/
import Derived.Test.YtajpgmpidphmgaaRowH
import Derived.Test.YtajpgmpidphmgaaWWords
import Derived.Deep.Matrix
namespace Go.Proofs.Ytajpgmpidphmgaa.RowH
open Go.ChangeShapes Go.WideShapes Go.ChangeAt Go.RowKit Go.Joins Go.Proofs.YtajpgmpidphmgaaW.PrintWords
section
variable {H : Type} {enc : TypeId × Value → H} {P : Program} {w : World} {base : Nat} {held : Bool}
theorem kd_u8 {x : Addr} {len cap : Nat} {zs : List Int} (hl : len ≤ cap) (hm : cap ≤ maxLen) (hz : zs.length = cap) (hc : ∀ i, i < zs.length → w.cell? (x.add i) = some (.int .u8 (zs.getD i 0))) (hw : ∀ n ∈ zs, (Lit.int .u8 n).wf = true) :
    ∃ l : List Int, len = l.length ∧ Kd.C (Kd.int .u8) w (some x) l.length l ∧ l.length ≤ maxLen ∧ (∀ x ∈ l, (Lit.int .u8 x).wf = true) ∧ l.length ≤ cap := by
  obtain ⟨l, e, hr, h1, h2, h3⟩ := ReadsInt.ofRowC (k := .u8) (w := w) (a := some x) (len := len) (cap := cap) (zs := zs) (.inr ⟨x, rfl, hl, hm, hz, hc, hw⟩)
  exact ⟨l, e, Kd.C_of_reads (d := (0 : Int)) (h1 := fun _ => rfl) hr, h1, h2, h3⟩
theorem kd_nil : Kd.C (Kd.int .u8) w none 0 [] := ⟨rfl, Nat.zero_le _, fun h => absurd h (by omega)⟩
/-- A cell that reads as a slice of bytes. -/
theorem open_cell_u8 {t e : TypeId} {fuel : Nat} {cs : List Value} {x : DataW H × List MemPlace} (ht : P.underlying t = some (.slice e)) (he : P.underlying e = some (.int .u8)) (hce : P.cellsOf e = 1) (h : DataW.trod enc P w base (fun _ => true) held fuel t cs = some x) :
    ∃ (A : Option Addr) (l : List Int) (c : Nat), cs = [.slice A l.length c] ∧ Kd.C (Kd.int .u8) w A l.length l ∧ l.length ≤ maxLen ∧ (∀ x ∈ l, (Lit.int .u8 x).wf = true) ∧ l.length ≤ c := by
  rcases open_ints ht he hce h with ⟨hcs, _⟩ | ⟨a, len, cap, zs, hcs, _, hl, hm, hz, _, hcell, hwz⟩
  · exact ⟨none, [], 0, hcs, kd_nil, Nat.zero_le _, by simp, Nat.le_refl _⟩
  · obtain ⟨l, rfl, h1, h2, h3, h4⟩ := kd_u8 hl hm (by simpa using hz) hcell hwz
    exact ⟨some a, l, cap, hcs, h1, h2, h3, h4⟩
/-- An argument that is a slice of bytes. -/
theorem open_u8s {r : Reach} {b0 : Nat} {t e : TypeId} {v : Value} {d : DataW H} {p : List MemPlace} (ht : P.underlying t = some (.slice e)) (he : P.underlying e = some (.int .u8)) (hce : P.cellsOf e = 1) (hv : Value.okWide P w r b0 t v) (h : DataW.Trod enc P w base (fun _ => true) held t v d p) :
    ∃ (A : Option Addr) (l : List Int) (c : Nat), v = .slice A l.length c ∧ Kd.C (Kd.int .u8) w A l.length l ∧ l.length ≤ maxLen ∧ (∀ x ∈ l, (Lit.int .u8 x).wf = true) ∧ l.length ≤ c := by
  obtain ⟨a0, len0, cap0, rfl⟩ := okWide_slice ht hv
  obtain ⟨fuel, hf⟩ := h
  obtain ⟨A, l, c, hcs, h1⟩ := open_cell_u8 ht he hce hf
  simp [Value.cells] at hcs
  obtain ⟨rfl, rfl, rfl⟩ := hcs
  exact ⟨_, l, _, rfl, h1⟩
/-- An argument that is a slice of slices of bytes. -/
theorem open_rows_u8 {r : Reach} {b0 : Nat} {t e q : TypeId} {v : Value} {d : DataW H} {p : List MemPlace} (ht : P.underlying t = some (.slice e)) (he : P.underlying e = some (.slice q)) (hq : P.underlying q = some (.int .u8)) (hce : P.cellsOf e = 1) (hcq : P.cellsOf q = 1) (hv : Value.okWide P w r b0 t v) (h : DataW.Trod enc P w base (fun _ => true) held t v d p) :
    ∃ (A : Option Addr) (ls : List (List Int)) (c : Nat), v = .slice A ls.length c ∧ Kd.C (Kd.slice q (Kd.int .u8)) w A ls.length ls ∧ ls.length ≤ maxLen ∧ (∀ l ∈ ls, ∀ x ∈ l, (Lit.int .u8 x).wf = true) ∧ ls.length ≤ c := by
  obtain ⟨a0, len0, cap0, rfl⟩ := okWide_slice ht hv
  obtain ⟨fuel, hf⟩ := h
  rcases Go.Deep.open_slice1 ht hce hf with ⟨hcs, _⟩ | ⟨a, len, cap, m, n, V, D, Pl, hcs, hb, hl, hm, hmm, _, hx⟩
  · simp [Value.cells] at hcs
    obtain ⟨rfl, rfl, rfl⟩ := hcs
    exact ⟨none, [], 0, rfl, ⟨rfl, Nat.zero_le _, fun h => absurd h (by show ¬ (0 < 0); omega)⟩, Nat.zero_le _, by simp, Nat.le_refl _⟩
  · simp [Value.cells] at hcs
    obtain ⟨rfl, rfl, rfl⟩ := hcs
    simp only [if_true] at hmm
    subst hmm
    have each : ∀ i, i < len0 → ∃ l : List Int, (∃ (A : Option Addr) (c : Nat), V i = .slice A l.length c ∧ Kd.C (Kd.int .u8) w A l.length l ∧ l.length ≤ c) ∧ ∀ x ∈ l, (Lit.int .u8 x).wf = true := by
      intro i hi
      obtain ⟨A, l, c, h0, h1, h2, h3, h4⟩ := open_cell_u8 he hq hcq (hx i (by omega)).2
      exact ⟨l, ⟨A, c, by simpa using h0, h1, h4⟩, h3⟩
    obtain ⟨F, hF⟩ := Go.Deep.choose_lt each
    refine ⟨some a, (List.range len0).map F, m, by simp, ⟨rfl, ?_, fun _ => ⟨a, rfl, ?_⟩⟩, ?_, ?_, ?_⟩
    · rw [List.length_map, List.length_range]
      have : maxLen ≤ 9223372036854775807 := by decide
      omega
    · intro j l hj
      rw [List.getElem?_map] at hj
      have hj2 : j < len0 := by
        rcases Nat.lt_or_ge j len0 with h | h
        · exact h
        · rw [List.getElem?_eq_none (by rw [List.length_range]; omega)] at hj
          cases hj
      rw [List.getElem?_range hj2] at hj
      obtain rfl := Option.some.inj hj
      obtain ⟨⟨A, c, h1, h2, h3⟩, _⟩ := hF j hj2
      refine ⟨[V j], rfl, ⟨A, c, by rw [h1], h3, h2⟩, ?_⟩
      intro i u hu
      cases i with
      | zero =>
        obtain rfl := Option.some.inj hu
        show w.cell? (a.add (j * 1 + 0)) = _
        rw [Nat.mul_one, Nat.add_zero]
        exact (hx j (by omega)).1
      | succ i => cases hu
    · rw [List.length_map, List.length_range]
      omega
    · intro l hl2 x hx2
      obtain ⟨i, hi, rfl⟩ := List.mem_map.1 hl2
      exact (hF i (List.mem_range.1 hi)).2 x hx2
    · rw [List.length_map, List.length_range]
      exact hl
/-- An argument that is an array of four slices of bytes. -/
theorem open_arr4_u8s {r : Reach} {b0 : Nat} {t e q : TypeId} {v : Value} {d : DataW H} {p : List MemPlace} (ht : P.underlying t = some (.array 4 e)) (he : P.underlying e = some (.slice q)) (hq : P.underlying q = some (.int .u8)) (hc : P.cellsOf t = 4) (hce : P.cellsOf e = 1) (hcq : P.cellsOf q = 1) (hv : Value.okWide P w r b0 t v) (h : DataW.Trod enc P w base (fun _ => true) held t v d p) :
    ∃ (A0 A1 A2 A3 : Option Addr) (l0 l1 l2 l3 : List Int) (c0 c1 c2 c3 : Nat), v = .agg #[.slice A0 l0.length c0, .slice A1 l1.length c1, .slice A2 l2.length c2, .slice A3 l3.length c3] ∧
      (Kd.C (Kd.int .u8) w A0 l0.length l0 ∧ l0.length ≤ maxLen ∧ (∀ x ∈ l0, (Lit.int .u8 x).wf = true) ∧ l0.length ≤ c0) ∧
      (Kd.C (Kd.int .u8) w A1 l1.length l1 ∧ l1.length ≤ maxLen ∧ (∀ x ∈ l1, (Lit.int .u8 x).wf = true) ∧ l1.length ≤ c1) ∧
      (Kd.C (Kd.int .u8) w A2 l2.length l2 ∧ l2.length ≤ maxLen ∧ (∀ x ∈ l2, (Lit.int .u8 x).wf = true) ∧ l2.length ≤ c2) ∧
      (Kd.C (Kd.int .u8) w A3 l3.length l3 ∧ l3.length ≤ maxLen ∧ (∀ x ∈ l3, (Lit.int .u8 x).wf = true) ∧ l3.length ≤ c3) := by
  obtain ⟨cs, rfl, hsz⟩ := okWide_arr ht hv
  obtain ⟨c0, c1, c2, c3, rfl⟩ := array4 (hsz.trans hc)
  obtain ⟨fuel, hf⟩ := h
  obtain ⟨y0, y1, y2, y3, m, hx, hy0, hy1, hy2, hy3⟩ := trod_array4 ht hce hf
  obtain ⟨A0, l0, k0, e0, h0⟩ := open_cell_u8 he hq hcq hy0
  obtain ⟨A1, l1, k1, e1, h1⟩ := open_cell_u8 he hq hcq hy1
  obtain ⟨A2, l2, k2, e2, h2⟩ := open_cell_u8 he hq hcq hy2
  obtain ⟨A3, l3, k3, e3, h3⟩ := open_cell_u8 he hq hcq hy3
  simp only [List.cons.injEq, and_true] at e0 e1 e2 e3
  subst e0 e1 e2 e3
  exact ⟨A0, A1, A2, A3, l0, l1, l2, l3, k0, k1, k2, k3, rfl, h0, h1, h2, h3⟩
end
end Go.Proofs.Ytajpgmpidphmgaa.RowH
