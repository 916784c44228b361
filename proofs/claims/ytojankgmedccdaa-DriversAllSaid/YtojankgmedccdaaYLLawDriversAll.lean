/- Part of the proof of LawDriversAll: every definition and lemma is one that it names. -/
import Derived.Test.YtojankgmedccdaaRows
import Derived.HandedShaped
import Derived.Test.YtojankgmedccdaaYLPuM
namespace Go.Proofs.Ytojankgmedccdaa.driversAll
open Go.ChangeShapes Go.WideShapes Go.ChangeAt Go.RowKit
open Go.ChangeMaps (open_string shut_string)
open Wo
set_option linter.unusedVariables false
theorem own : ownKnob Try.prog.godebug = none := by kernel_rfl
theorem laidOut : laidOutB Try.prog = true := by kernel_rfl
theorem glob (W : World) (h : W.ShapedOpen Try.prog) : Own.EG W :=
  Go.Proofs.cell_of_shapedOpen_int (zero := #[.int .i64 0]) (t := 3) h (of_decide_eq_true (by kernel_rfl)) (by kernel_rfl) rfl (by kernel_rfl) (by kernel_rfl) Try.underlying3
set_option maxRecDepth 100000 in
theorem lifted (os : Os) (started : os.Started) (H : Type) (enc : TypeId × Value → H) :
    ReturnsInHanded {} Try.checked os 12 .any (Rows.driversAllSpec.pre6 enc Try.prog Try.f12 Rows.driversAllRow.domain false) (Rows.driversAllSpec.post enc Try.prog Try.f12 false true false false) := by
  refine returnsInHanded_of_change_shaped (C := Try.checked) own started (by kernel_rfl) Try.func12
    (ChangeSpec.witness6 (enc := enc) (C := Try.checked) false ⟨#[], #[.agg #[.int .i64 0, .int .i64 0, .string ⟨#[]⟩, .slice none 0 0, .slice none 0 0], .agg #[.int .i64 0, .int .i64 0, .slice none 0 0, .slice none 0 0, .slice none 0 0]], []⟩ 8 (by kernel_rfl) (by kernel_rfl) (by kernel_rfl) (by kernel_rfl)) ?_
  intro W base args ds gs before b hW eB i Y _; have a : ∀ (j : Nat) t v, Try.f12.params[j]? = some t → args[j]? = some v → Value.okWide Try.prog W .any base t v := b; have r := hW; obtain ⟨p, q, g, hV, rfl, fC, hC⟩ := hW; have hA : DataW.TrodAll enc Try.prog W 0 (fun _ => true) true Try.f12.params.toList args.toList ds p := g; rw [Try.params12] at hA a; obtain ⟨v0, pC, d0, yB, p0, q0, s, rfl, rfl, h0, r0⟩ := trodAll_cons hA; obtain ⟨v1, qC, d1, zB, p1, q1, rfl, rfl, rfl, h1, r1⟩ := trodAll_cons r0; obtain ⟨rfl, rfl, rfl⟩ := trodAll_nil r1; obtain rfl : args = #[v0, v1] := by cases args; simp_all
  obtain ⟨rfl, rfl⟩ := trodVars_none hV; have k0 := h0; have k1 := h1; have Z : ∀ x ∈ p0, x.block < W.heap.size := by obtain ⟨m, hm⟩ := k0; exact DataW.trod_lt m _ _ _ hm
  have aB : ∀ x ∈ p1, x.block < W.heap.size := by obtain ⟨m, hm⟩ := k1; exact DataW.trod_lt m _ _ _ hm
  obtain ⟨c, rfl, _⟩ := okWide_struct Try.underlying26 (a 0 26 v0 rfl rfl); obtain ⟨d, rfl, _⟩ := okWide_struct Try.underlying33 (a 1 33 v1 rfl rfl); obtain ⟨n0, I⟩ := h0; obtain ⟨n1, J⟩ := h1; obtain ⟨x, ⟨A3, c3, A4, c4, e0, u, L, w, O⟩, hx⟩ := RowV.M5 n0 _ _ I; obtain ⟨z, l, ⟨B2, d2, B3, d3, B4, d4, e1, B, T, D, U, G, X⟩, hz, hl, hy⟩ := RowV.Ku n1 _ _ J; obtain ⟨c⟩ := c; obtain ⟨d⟩ := d; have n : c = _ := e0; have o : d = _ := e1; subst n o; clear g b i; obtain ⟨K, hK⟩ := Pure.OW (n0 + n1) x (RowV.Kt _ _ _ (by omega) hx) z (RowV.GQ _ _ _ (by omega) hz) l hl (fun y h => RowV.GQ _ _ _ (by omega) (hy y h).2); refine (PGn.AZ.calls K x.f0 x.f1 x.f2 A3 c3 x.f3 A4 c4 x.f4 z.f0 z.f1 (fun k => k < W.heap.size) B2 d2 z.f2 (fun k => k < W.heap.size) B3 d3 z.f3 (fun k => k < W.heap.size) B4 d4 l true W (glob W Y) L u O w (Kd.Dm B (Kd.C_F (Kd.GD .u8) T)) (Kd.Dm D (Kd.C_F PTy.J8 U)) (Kd.Dm G (Kd.C_F PTy.Ml X)) hK).mono fun e W' ⟨he, bel⟩ => ?_; subst he; exact ⟨_, rfl, _, _, _, [], _, [], r, trodAll_mk1 (shut_bool Try.underlying4 _), (trodAll_cons_mk (Below.trod laidOut (by kernel_rfl) (of_decide_eq_true (by kernel_rfl)) k0 bel Z) (trodAll_cons_mk (Below.trod laidOut (by kernel_rfl) (of_decide_eq_true (by kernel_rfl)) k1 bel aB) trodAll_mk0)), rfl, bel.frame _, fun h => by cases h⟩
theorem over : Rows.driversAllRow.holds Try.pinned (OpenSpec.ofChange Rows.driversAllSpec) :=
  OpenClaim.holds_of_wide 12 Try.f12 rfl rfl rfl rfl rfl rfl rfl ⟨rfl, rfl, rfl, rfl, rfl⟩ rfl rfl rfl rfl rfl (by kernel_rfl) Try.func12 (by kernel_rfl)
    (of_decide_eq_true (by kernel_rfl)) (by unfold Func.isWrapper; first | (rw [if_pos (by decide +kernel)]; kernel_rfl) | (rw [if_neg (by decide +kernel)]; exact ⟨rfl, rfl⟩))
    (fun a started H enc _ => lifted a started H enc)
theorem proved : Rows.DriversAllSaid := over
end Go.Proofs.Ytojankgmedccdaa.driversAll
namespace Go.Proofs.Ytojankgmedccdaa
theorem driversAll_holds : Rows.DriversAllSaid := driversAll.proved
end Go.Proofs.Ytojankgmedccdaa
