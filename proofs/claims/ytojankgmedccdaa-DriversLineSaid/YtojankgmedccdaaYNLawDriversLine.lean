/- Part of the proof of LawDriversLine: every definition and lemma is one that it names. -/
import Derived.Test.YtojankgmedccdaaRows
import Derived.HandedShaped
import Derived.Test.YtojankgmedccdaaYNPuQ
import Derived.Test.YtojankgmedccdaaYNRowC
namespace Go.Proofs.Ytojankgmedccdaa.driversLine
open Go.ChangeShapes Go.WideShapes Go.ChangeAt Go.RowKit
open Go.ChangeMaps (open_string shut_string)
open Wo
set_option linter.unusedVariables false
theorem own : ownKnob Try.prog.godebug = none := by kernel_rfl
theorem laidOut : laidOutB Try.prog = true := by kernel_rfl
theorem glob (W : World) (h : W.ShapedOpen Try.prog) : Own.EP W :=
  Go.Proofs.cell_of_shapedOpen_int (zero := #[.int .i64 0]) (t := 3) h (of_decide_eq_true (by kernel_rfl)) (by kernel_rfl) rfl (by kernel_rfl) (by kernel_rfl) Try.underlying3
theorem open_gaps {H : Type} {enc : TypeId × Value → H} {w : World} {base : Nat} {held : Bool} {fuel : Nat} {cs : List Value} {x : DataW H × List MemPlace} (h : DataW.trod enc Try.prog w base (fun _ => true) held fuel 66 cs = some x) :
    ∃ (A : Option Addr) (l : List Int) (c : Nat), cs = [.slice A l.length c] ∧ (Kd.int .u16).C w A l.length l ∧ l.length ≤ c ∧ l.length ≤ maxLen ∧ ∀ z ∈ l, (Lit.int .u16 z).wf = true :=
  RowV.open_row (Kd.int .u16) (fun z => (Lit.int .u16 z).wf = true) Try.underlying66 (by kernel_rfl) (fun m _ a y d => by
    obtain ⟨n, rfl, _, b⟩ := DataW.trod_int Try.underlying67 d; exact ⟨n, rfl, b⟩) h
theorem wf16 {z : Int} (h : (Lit.int .u16 z).wf = true) : 0 ≤ z ∧ z < 65536 := by
  have c : IntKind.u16.min ≤ z ∧ z ≤ IntKind.u16.max := by simpa [Lit.wf] using h
  have a : IntKind.u16.min = 0 := by kernel_rfl
  have b : IntKind.u16.max = 65535 := by kernel_rfl
  omega
set_option maxHeartbeats 4000000 in
set_option maxRecDepth 100000 in
theorem lifted (os : Os) (started : os.Started) (H : Type) (enc : TypeId × Value → H) :
    ReturnsInHanded {} Try.checked os 11 .any (Rows.driversLineSpec.pre6 enc Try.prog Try.f11 Rows.driversLineRow.domain false) (Rows.driversLineSpec.post enc Try.prog Try.f11 false true false false) := by
  refine returnsInHanded_of_change_shaped (C := Try.checked) own started (by kernel_rfl) Try.func11
    (ChangeSpec.witness6 (enc := enc) (C := Try.checked) false ⟨#[], #[.agg #[.int .i64 0, .int .i64 0, .string ⟨#[]⟩, .slice none 0 0, .slice none 0 0, .int .i64 0, .int .i64 0, .slice none 0 0, .slice none 0 0, .slice none 0 0, .int .i64 0, .slice none 0 0, .slice none 0 0, .bool false], .slice none 0 0, .int .u16 0], []⟩ 8 (by kernel_rfl) (by kernel_rfl) (by kernel_rfl) (by kernel_rfl)) ?_
  intro W base args ds gs before c hW lB o U _; have a : ∀ (j : Nat) t v, Try.f11.params[j]? = some t → args[j]? = some v → Value.okWide Try.prog W .any base t v := c; have y := hW; obtain ⟨p, q, n, hV, rfl, uC, vC⟩ := hW; have hA : DataW.TrodAll enc Try.prog W 0 (fun _ => true) true Try.f11.params.toList args.toList ds p := n; rw [Try.params11] at hA a; obtain ⟨v0, hD, d0, nC, p0, q0, D, rfl, rfl, h0, r0⟩ := trodAll_cons hA; obtain ⟨v1, jD, d1, oC, p1, q1, rfl, rfl, rfl, h1, r1⟩ := trodAll_cons r0; obtain ⟨v2, kD, d2, pC, p2, q2, rfl, rfl, rfl, h2, r2⟩ := trodAll_cons r1; obtain ⟨rfl, rfl, rfl⟩ := trodAll_nil r2; obtain rfl : args = #[v0, v1, v2] := by cases args; simp_all
  obtain ⟨rfl, rfl⟩ := trodVars_none hV; have k0 := h0; have k1 := h1; have k2 := h2; have Y : ∀ x ∈ p0, x.block < W.heap.size := by obtain ⟨m, hm⟩ := k0; exact DataW.trod_lt m _ _ _ hm
  have Z : ∀ x ∈ p1, x.block < W.heap.size := by obtain ⟨m, hm⟩ := k1; exact DataW.trod_lt m _ _ _ hm
  have aB : ∀ x ∈ p2, x.block < W.heap.size := by obtain ⟨m, hm⟩ := k2; exact DataW.trod_lt m _ _ _ hm
  obtain ⟨dl, rfl, _, _, r⟩ := open_int Try.underlying67 (a 2 67 v2 rfl rfl) h2; obtain ⟨g, rfl, _⟩ := okWide_struct Try.underlying40 (a 0 40 v0 rfl rfl); obtain ⟨n0, L⟩ := h0; obtain ⟨n1, O⟩ := h1; obtain ⟨B0, l0, e0, rfl⟩ := okWide_slice Try.underlying66 (a 1 66 v1 rfl rfl); obtain ⟨B, b, e, e1, T, G, I, J⟩ := open_gaps O; have k : [Value.slice B0 l0 e0] = [.slice B b.length e] := e1; simp only [List.cons.injEq, Value.slice.injEq, and_true] at k; obtain ⟨rfl, rfl, rfl⟩ := k; obtain ⟨x, z, l, now, d, after, tr, ⟨A3, c3, A4, c4, A7, c7, A8, c8, A9, c9, s, w, u, c12, i, a1, a2, a3, a4, b1, b2, b3, b4, b5, b6, d1, d2, f1, f2⟩, hx, hz, hl, hy, X, hw, m1, m2, wC⟩ := RowC.Mo n0 _ _ L; obtain ⟨g⟩ := g; have i : g = _ := i; subst i; clear n c o; obtain ⟨K, hK⟩ := Pure.OT n0 x hx z hz l now d m1 X after tr b I (fun z h => wf16 (J z h)) dl (wf16 r).1 (wf16 r).2; refine (PGn.AV.calls K x.f0 x.f1 x.f2 A3 c3 x.f3 A4 c4 x.f4 z.f0 z.f1 A7 c7 z.f2 A8 c8 z.f3 A9 c9 l now (fun k_ => k_ < W.heap.size) s w d u c12 after tr B0 e0 b dl true W (glob W U) a2 a1 a4 a3 b2 b1 b4 b3 b6 b5 (Kd.Di d1 (Kd.C_F PTy.H9 d2)) f2 f1 T G hK).mono fun e W' ⟨he, bel⟩ => ?_; subst he; exact ⟨_, rfl, _, _, _, [], _, [], y, trodAll_mk1 (shut_bool Try.underlying4 _), (trodAll_cons_mk (Below.trod laidOut (by kernel_rfl) (of_decide_eq_true (by kernel_rfl)) k0 bel Y) (trodAll_cons_mk (Below.trod laidOut (by kernel_rfl) (of_decide_eq_true (by kernel_rfl)) k1 bel Z) (trodAll_cons_mk (Below.trod laidOut (by kernel_rfl) (of_decide_eq_true (by kernel_rfl)) k2 bel aB) trodAll_mk0))), rfl, bel.frame _, fun h => by cases h⟩
theorem over : Rows.driversLineRow.holds Try.pinned (OpenSpec.ofChange Rows.driversLineSpec) :=
  OpenClaim.holds_of_wide 11 Try.f11 rfl rfl rfl rfl rfl rfl rfl ⟨rfl, rfl, rfl, rfl, rfl⟩ rfl rfl rfl rfl rfl (by kernel_rfl) Try.func11 (by kernel_rfl)
    (of_decide_eq_true (by kernel_rfl)) (by unfold Func.isWrapper; first | (rw [if_pos (by decide +kernel)]; kernel_rfl) | (rw [if_neg (by decide +kernel)]; exact ⟨rfl, rfl⟩))
    (fun a started H enc _ => lifted a started H enc)
theorem proved : Rows.DriversLineSaid := over
end Go.Proofs.Ytojankgmedccdaa.driversLine
namespace Go.Proofs.Ytojankgmedccdaa
theorem driversLine_holds : Rows.DriversLineSaid := driversLine.proved
end Go.Proofs.Ytojankgmedccdaa
