/- Part of the proof of LawDriversAssigns: every definition and lemma is one that it names. -/
import Derived.Test.YtojankgmedccdaaRows
import Derived.HandedShaped
import Derived.Test.YtojankgmedccdaaYAPuZ
import Derived.Test.YtojankgmedccdaaYARowC
namespace Go.Proofs.Ytojankgmedccdaa.driversAssigns
open Go.ChangeShapes Go.WideShapes Go.ChangeAt Go.RowKit
open Go.ChangeMaps (open_string shut_string)
set_option linter.unusedVariables false
theorem own : ownKnob Try.prog.godebug = none := by kernel_rfl
theorem laidOut : laidOutB Try.prog = true := by kernel_rfl
theorem glob (W : World) (h : W.ShapedOpen Try.prog) : Own.EN W :=
  Go.Proofs.cell_of_shapedOpen_int (zero := #[.int .i64 0]) (t := 3) h (of_decide_eq_true (by kernel_rfl)) (by kernel_rfl) rfl (by kernel_rfl) (by kernel_rfl) Try.underlying3
set_option maxRecDepth 100000 in
theorem lifted (U : Os) (started : U.Started) (H : Type) (enc : TypeId × Value → H) :
    ReturnsInHanded {} Try.checked U 4 .any (Rows.driversAssignsSpec.pre6 enc Try.prog Try.f4 Rows.driversAssignsRow.domain false) (Rows.driversAssignsSpec.post enc Try.prog Try.f4 false true false false) := by
  refine returnsInHanded_of_change_shaped (C := Try.checked) own started (by kernel_rfl) Try.func4
    (ChangeSpec.witness6 (enc := enc) (C := Try.checked) false ⟨#[], #[.agg #[.int .i64 0, .int .i64 0, .string ⟨#[]⟩, .slice none 0 0, .slice none 0 0, .int .i64 0, .int .i64 0, .slice none 0 0, .slice none 0 0, .slice none 0 0, .int .i64 0, .slice none 0 0, .slice none 0 0, .bool false]], []⟩ 8 (by kernel_rfl) (by kernel_rfl) (by kernel_rfl) (by kernel_rfl)) ?_
  intro W base args ds gs before a J L i y _; have b : ∀ (j : Nat) t v, Try.f4.params[j]? = some t → args[j]? = some v → Value.okWide Try.prog W .any base t v := a; have s := J; obtain ⟨p, q, g, hV, rfl, bC, dC⟩ := J; have I : DataW.TrodAll enc Try.prog W 0 (fun _ => true) true Try.f4.params.toList args.toList ds p := g; rw [Try.params4] at I b; obtain ⟨v0, kC, d0, wB, p0, q0, u, rfl, rfl, G, r0⟩ := trodAll_cons I; obtain ⟨rfl, rfl, rfl⟩ := trodAll_nil r0; obtain rfl : args = #[v0] := by cases args; simp_all
  obtain ⟨rfl, rfl⟩ := trodVars_none hV; have O := G; have D : ∀ x ∈ p0, x.block < W.heap.size := by obtain ⟨m, hm⟩ := O; exact DataW.trod_lt m _ _ _ hm
  obtain ⟨d, rfl, _⟩ := okWide_struct Try.underlying40 (b 0 40 v0 rfl rfl); obtain ⟨T, w⟩ := G; obtain ⟨x, z, l, now, c, after, tr, ⟨X, c3, Y, c4, Z, c7, A8, c8, A9, c9, k, o, n, c12, e0, a1, a2, a3, a4, b1, b2, b3, b4, b5, b6, d1, d2, f1, f2⟩, hx, hz, hl, hy, B, hw, m1, m2, eC⟩ := RowC.Mm T _ _ w; obtain ⟨d⟩ := d; have r : d = _ := e0; subst r; clear g a i; obtain ⟨K, hK⟩ := Pure.Kk T x hx z hz l hl hy now c B after tr; refine (PGn.C8.calls K x.f0 x.f1 x.f2 X c3 x.f3 Y c4 x.f4 z.f0 z.f1 Z c7 z.f2 A8 c8 z.f3 A9 c9 l now k o c n c12 after tr true W (glob W y) a2 a1 a4 a3 b2 b1 b4 b3 b6 b5 d2 d1 f2 f1 hK).mono fun e W' ⟨he, bel⟩ => ?_; subst he; exact ⟨_, rfl, _, _, _, [], _, [], s, trodAll_mk1 (shut_bool Try.underlying4 _), (trodAll_cons_mk (Below.trod laidOut (by kernel_rfl) (of_decide_eq_true (by kernel_rfl)) O bel D) trodAll_mk0), rfl, bel.frame _, fun h => by cases h⟩
theorem over : Rows.driversAssignsRow.holds Try.pinned (OpenSpec.ofChange Rows.driversAssignsSpec) :=
  OpenClaim.holds_of_wide 4 Try.f4 rfl rfl rfl rfl rfl rfl rfl ⟨rfl, rfl, rfl, rfl, rfl⟩ rfl rfl rfl rfl rfl (by kernel_rfl) Try.func4 (by kernel_rfl)
    (of_decide_eq_true (by kernel_rfl)) (by unfold Func.isWrapper; first | (rw [if_pos (by decide +kernel)]; kernel_rfl) | (rw [if_neg (by decide +kernel)]; exact ⟨rfl, rfl⟩))
    (fun a started H enc _ => lifted a started H enc)
theorem proved : Rows.DriversAssignsSaid := over
end Go.Proofs.Ytojankgmedccdaa.driversAssigns
namespace Go.Proofs.Ytojankgmedccdaa
theorem driversAssigns_holds : Rows.DriversAssignsSaid := driversAssigns.proved
end Go.Proofs.Ytojankgmedccdaa
