/- Part of the proof of LawDriversTakes: every definition and lemma is one that it names. -/
import Derived.Test.YtojankgmedccdaaRows
import Derived.HandedShaped
import Derived.Test.YtojankgmedccdaaYTPuY
import Derived.Laws.IdiomArrays
namespace Go.Proofs.Ytojankgmedccdaa.driversTakes
open Go.ChangeShapes Go.WideShapes Go.ChangeAt Go.RowKit
open Go.ChangeMaps (open_string shut_string)
set_option linter.unusedVariables false
theorem own : ownKnob Try.prog.godebug = none := by kernel_rfl
theorem laidOut : laidOutB Try.prog = true := by kernel_rfl
theorem glob (W : World) (h : W.ShapedOpen Try.prog) : Own.EN W :=
  Go.Proofs.cell_of_shapedOpen_int (zero := #[.int .i64 0]) (t := 3) h (of_decide_eq_true (by kernel_rfl)) (by kernel_rfl) rfl (by kernel_rfl) (by kernel_rfl) Try.underlying3
set_option maxRecDepth 100000 in
theorem lifted (os : Os) (started : os.Started) (H : Type) (enc : TypeId × Value → H) :
    ReturnsInHanded {} Try.checked os 5 .any (Rows.driversTakesSpec.pre6 enc Try.prog Try.f5 Rows.driversTakesRow.domain false) (Rows.driversTakesSpec.post enc Try.prog Try.f5 false true false false) := by
  refine returnsInHanded_of_change_shaped (C := Try.checked) own started (by kernel_rfl) Try.func5
    (ChangeSpec.witness6 (enc := enc) (C := Try.checked) false ⟨#[], #[.agg #[.int .i64 0, .int .i64 0, .string ⟨#[]⟩, .slice none 0 0, .slice none 0 0], .agg #[.int .i64 0, .int .i64 0, .slice none 0 0, .slice none 0 0, .slice none 0 0], .int .i64 0], []⟩ 8 (by kernel_rfl) (by kernel_rfl) (by kernel_rfl) (by kernel_rfl)) ?_
  intro W base args ds gs before b hW hB i X _
  have a : ∀ (j : Nat) t v, Try.f5.params[j]? = some t → args[j]? = some v → Value.okWide Try.prog W .any base t v := b
  have o := hW
  obtain ⟨p, q, g, hV, rfl, iC, kC⟩ := hW
  have hA : DataW.TrodAll enc Try.prog W 0 (fun _ => true) true Try.f5.params.toList args.toList ds p := g
  rw [Try.params5] at hA a
  obtain ⟨v0, uC, d0, aC, p0, q0, r, rfl, rfl, h0, r0⟩ := trodAll_cons hA
  obtain ⟨v1, vC, d1, bC, p1, q1, rfl, rfl, rfl, h1, r1⟩ := trodAll_cons r0
  obtain ⟨v2, wC, d2, cC, p2, q2, rfl, rfl, rfl, h2, r2⟩ := trodAll_cons r1
  obtain ⟨rfl, rfl, rfl⟩ := trodAll_nil r2
  obtain rfl : args = #[v0, v1, v2] := by cases args; simp_all
  obtain ⟨rfl, rfl⟩ := trodVars_none hV
  have k0 := h0
  have k1 := h1
  have k2 := h2
  have Y : ∀ x ∈ p0, x.block < W.heap.size := by obtain ⟨m, hm⟩ := k0; exact DataW.trod_lt m _ _ _ hm
  have Z : ∀ x ∈ p1, x.block < W.heap.size := by obtain ⟨m, hm⟩ := k1; exact DataW.trod_lt m _ _ _ hm
  have aB : ∀ x ∈ p2, x.block < W.heap.size := by obtain ⟨m, hm⟩ := k2; exact DataW.trod_lt m _ _ _ hm
  obtain ⟨b0, rfl, _, _, xC⟩ := open_int Try.underlying3 (a 2 3 v2 rfl rfl) h2
  obtain ⟨c, rfl, _⟩ := okWide_struct Try.underlying26 (a 0 26 v0 rfl rfl)
  obtain ⟨d, rfl, _⟩ := okWide_struct Try.underlying33 (a 1 33 v1 rfl rfl)
  obtain ⟨n0, G⟩ := h0
  obtain ⟨n1, I⟩ := h1
  obtain ⟨x, ⟨A3, c3, A4, c4, e0, s, J, u, L⟩, hx⟩ := RowV.M5 n0 _ _ G
  obtain ⟨z, l, ⟨B2, d2, B3, d3, B4, d4, e1, w, O, B, T, D, U⟩, hz, hl, hy⟩ := RowV.Km n1 _ _ I
  obtain ⟨c⟩ := c
  obtain ⟨d⟩ := d
  have k : c = _ := e0
  have n : d = _ := e1
  subst k n
  clear g b i
  obtain ⟨K, hK⟩ := Pure.ME (n0 + n1) x (RowV.Kl _ _ _ (by omega) hx) z (RowV.GN _ _ _ (by omega) hz) l hl (fun y h => RowV.GN _ _ _ (by omega) (hy y h).2) b0
  refine (PGn.BL.calls K x.f0 x.f1 x.f2 A3 c3 x.f3 A4 c4 x.f4 z.f0 z.f1 B2 d2 z.f2 B3 d3 z.f3 B4 d4 l b0 true W (glob W X) J s L u O w T B U D hK).mono fun e W' ⟨he, bel⟩ => ?_
  subst he
  exact ⟨_, rfl, _, _, _, [], _, [], o, trodAll_mk1 (shut_bool Try.underlying4 _), (trodAll_cons_mk (Below.trod laidOut (by kernel_rfl) (of_decide_eq_true (by kernel_rfl)) k0 bel Y) (trodAll_cons_mk (Below.trod laidOut (by kernel_rfl) (of_decide_eq_true (by kernel_rfl)) k1 bel Z) (trodAll_cons_mk (Below.trod laidOut (by kernel_rfl) (of_decide_eq_true (by kernel_rfl)) k2 bel aB) trodAll_mk0))), rfl, bel.frame _, fun h => by cases h⟩
theorem over : Rows.driversTakesRow.holds Try.pinned (OpenSpec.ofChange Rows.driversTakesSpec) :=
  OpenClaim.holds_of_wide 5 Try.f5 rfl rfl rfl rfl rfl rfl rfl ⟨rfl, rfl, rfl, rfl, rfl⟩ rfl rfl rfl rfl rfl (by kernel_rfl) Try.func5 (by kernel_rfl)
    (of_decide_eq_true (by kernel_rfl)) (by unfold Func.isWrapper; first | (rw [if_pos (by decide +kernel)]; kernel_rfl) | (rw [if_neg (by decide +kernel)]; exact ⟨rfl, rfl⟩))
    (fun a started H enc _ => lifted a started H enc)
theorem proved : Rows.DriversTakesSaid := over
end Go.Proofs.Ytojankgmedccdaa.driversTakes
namespace Go.Proofs.Ytojankgmedccdaa
theorem driversTakes_holds : Rows.DriversTakesSaid := driversTakes.proved
end Go.Proofs.Ytojankgmedccdaa
