/- Part of the proof of LawDriversOwn: every definition and lemma is one that it names. -/
import Derived.Test.YtojankgmedccdaaRows
import Derived.HandedShaped
import Derived.Test.YtojankgmedccdaaYOPuJ
import Derived.Test.YtojankgmedccdaaYOPOwC
import Derived.Test.YtojankgmedccdaaYORowC
namespace Go.Proofs.Ytojankgmedccdaa.driversOwn
open Go.ChangeShapes Go.WideShapes Go.ChangeAt Go.RowKit
open Go.ChangeMaps (open_string shut_string)
set_option linter.unusedVariables false
theorem own : ownKnob Try.prog.godebug = none := by kernel_rfl
theorem laidOut : laidOutB Try.prog = true := by kernel_rfl
theorem glob (W : World) (h : W.ShapedOpen Try.prog) : Own.Dk W :=
  Go.Proofs.cell_of_shapedOpen_int (zero := #[.int .i64 0]) (t := 3) h (of_decide_eq_true (by kernel_rfl)) (by kernel_rfl) rfl (by kernel_rfl) (by kernel_rfl) Try.underlying3
set_option maxRecDepth 100000 in
theorem lifted (os : Os) (started : os.Started) (H : Type) (enc : TypeId × Value → H) :
    ReturnsInHanded {} Try.checked os 14 .any (Rows.driversOwnSpec.pre6 enc Try.prog Try.f14 Rows.driversOwnRow.domain false) (Rows.driversOwnSpec.post enc Try.prog Try.f14 false true false false) := by
  refine returnsInHanded_of_change_shaped (C := Try.checked) own started (by kernel_rfl) Try.func14
    (ChangeSpec.witness6 (enc := enc) (C := Try.checked) false ⟨#[], #[.agg #[.int .i64 0, .int .i64 0, .string ⟨#[]⟩, .slice none 0 0, .slice none 0 0, .int .i64 0, .int .i64 0, .slice none 0 0, .slice none 0 0, .slice none 0 0, .int .i64 0, .slice none 0 0, .slice none 0 0, .bool false]], []⟩ 8 (by kernel_rfl) (by kernel_rfl) (by kernel_rfl) (by kernel_rfl)) ?_
  intro W base args ds gs before a hW uB w u _; have c : ∀ (j : Nat) t v, Try.f14.params[j]? = some t → args[j]? = some v → Value.okWide Try.prog W .any base t v := a; have D := hW; obtain ⟨p, q, s, hV, rfl, gC, iC⟩ := hW; have hA : DataW.TrodAll enc Try.prog W 0 (fun _ => true) true Try.f14.params.toList args.toList ds p := s; rw [Try.params14] at hA c; obtain ⟨v0, aD, d0, zB, p0, q0, G, rfl, rfl, h0, r0⟩ := trodAll_cons hA; obtain ⟨rfl, rfl, rfl⟩ := trodAll_nil r0; obtain rfl : args = #[v0] := by cases args; simp_all
  obtain ⟨rfl, rfl⟩ := trodVars_none hV; have k0 := h0; have L : ∀ x ∈ p0, x.block < W.heap.size := by obtain ⟨m, hm⟩ := k0; exact DataW.trod_lt m _ _ _ hm
  obtain ⟨i, rfl, _⟩ := okWide_struct Try.underlying40 (c 0 40 v0 rfl rfl); obtain ⟨n0, I⟩ := h0; obtain ⟨x, z, l, now, b, after, tr, ⟨O, c3, T, c4, U, c7, X, c8, Y, c9, k, r, o, c12, e0, a1, a2, a3, a4, b1, b2, b3, b4, b5, b6, d1, d2, f1, f2⟩, hx, hz, hl, hy, J, hw, m1, m2, jC⟩ := RowC.NB n0 _ _ I; obtain ⟨i⟩ := i; have B : i = _ := e0; subst B; clear s a w; refine Calls.mono (R := fun e Z => e = .returned (.bool true) ∧ Below W.heap.size W Z) ?_ fun e Z ⟨he, bel⟩ => ?_
  · obtain ⟨K, ⟨hf, ha⟩ | ⟨q1, q2, q3, q4, q5, q6, r1, r2, r3, r4, r5, r6, r7, s1, s2, v1, v2, v3, v4, v5, hQ⟩⟩ := Pure.PR n0 x hx z hz l hl hy now b J after tr
    · exact PGn.PS K x.f0 x.f1 x.f2 O c3 x.f3 T c4 x.f4 z.f0 z.f1 U c7 z.f2 X c8 z.f3 Y c9 l now k r b o c12 after tr W (glob W u) a2 a1 a4 a3 b2 b1 b4 b3 b6 b5 d2 d1 f2 f1 hf ha
    · exact PGn.Ol K x.f0 x.f1 x.f2 O c3 x.f3 T c4 x.f4 z.f0 z.f1 U c7 z.f2 X c8 z.f3 Y c9 l now k r b o c12 after tr q1 q2 q3 q4 q5 q6 r1 r2 r3 r4 r5 r6 r7 s1 s2 v1 v2 v3 v4 v5 W (glob W u) a2 a1 a4 a3 b2 b1 b4 b3 b6 b5 d2 d1 f2 f1 (by cases x; cases z; exact hQ)
  subst he; exact ⟨_, rfl, _, _, _, [], _, [], D, trodAll_mk1 (shut_bool Try.underlying4 _), (trodAll_cons_mk (Below.trod laidOut (by kernel_rfl) (of_decide_eq_true (by kernel_rfl)) k0 bel L) trodAll_mk0), rfl, bel.frame _, fun h => by cases h⟩
theorem over : Rows.driversOwnRow.holds Try.pinned (OpenSpec.ofChange Rows.driversOwnSpec) :=
  OpenClaim.holds_of_wide 14 Try.f14 rfl rfl rfl rfl rfl rfl rfl ⟨rfl, rfl, rfl, rfl, rfl⟩ rfl rfl rfl rfl rfl (by kernel_rfl) Try.func14 (by kernel_rfl)
    (of_decide_eq_true (by kernel_rfl)) (by unfold Func.isWrapper; first | (rw [if_pos (by decide +kernel)]; kernel_rfl) | (rw [if_neg (by decide +kernel)]; exact ⟨rfl, rfl⟩))
    (fun a started H enc _ => lifted a started H enc)
theorem proved : Rows.DriversOwnSaid := over
end Go.Proofs.Ytojankgmedccdaa.driversOwn
namespace Go.Proofs.Ytojankgmedccdaa
theorem driversOwn_holds : Rows.DriversOwnSaid := driversOwn.proved
end Go.Proofs.Ytojankgmedccdaa
