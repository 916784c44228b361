/- Part of the proof of LawDriversOrder: every definition and lemma is one that it names. -/
import Derived.Test.YtojankgmedccdaaRows
import Derived.HandedShaped
import Derived.WalkKit
import Derived.ProofKit
import Derived.OpenShut
import Derived.ShutString
import Derived.ChangeOld
import Derived.Below
import Derived.SizedLaws
import Derived.Test.YtojankgmedccdaaQPuO
import Derived.Test.YtojankgmedccdaaQRowA
import Derived.Test.YtojankgmedccdaaQShelf
namespace Go.Proofs.Ytojankgmedccdaa.driversOrder
open YtojankgmedccdaaW.PrintWords
open Go.ChangeShapes Go.WideShapes Go.ChangeAt Go.RowKit
open Go.ChangeMaps (open_string shut_string)
set_option linter.unusedVariables false
theorem own : ownKnob Try.prog.godebug = none := by kernel_rfl
theorem laidOut : laidOutB Try.prog = true := by kernel_rfl
theorem glob (W : World) (h : W.ShapedOpen Try.prog) : Own.Glob W :=
  Go.Proofs.cell_of_shapedOpen_int (zero := #[.int .i64 0]) (t := 3) h (of_decide_eq_true (by kernel_rfl)) (by kernel_rfl) rfl (by kernel_rfl) (by kernel_rfl) Try.underlying3
theorem open_vals {H : Type} {enc : TypeId × Value → H} {w : World} {base : Nat} {held : Bool} {fuel : Nat} {cs : List Value} {x : DataW H × List MemPlace} (h : DataW.trod enc Try.prog w base (fun _ => true) held fuel 28 cs = some x) :
    ∃ (A : Option Addr) (l : List PTy.S30) (c : Nat), cs = [.slice A l.length c] ∧ PTy.k30.C w A l.length l ∧ l.length ≤ c ∧ l.length ≤ maxLen ∧ ∀ z ∈ l, RowV.okV fuel z :=
  RowV.open_row PTy.k30 (RowV.okV fuel) Try.underlying28 (by kernel_rfl) (fun m hm cs' y hy => by
    obtain ⟨z, ⟨B2, d2, B3, d3, rfl, q1, q2, q3, q4⟩, hz⟩ := RowV.open_val m cs' y hy
    exact ⟨z, PTy.k30_mk w z q1 q2 q3 q4, RowV.okV_up _ _ _ (by omega) hz⟩) h
set_option maxHeartbeats 4000000 in
set_option maxRecDepth 100000 in
theorem lifted (os : Os) (started : os.Started) (H : Type) (enc : TypeId × Value → H) :
    ReturnsInHanded {} Try.checked os 13 .any (Rows.driversOrderSpec.pre6 enc Try.prog Try.f13 Rows.driversOrderRow.domain false) (Rows.driversOrderSpec.post enc Try.prog Try.f13 false true false false) := by
  refine returnsInHanded_of_change_shaped (C := Try.checked) own started (by kernel_rfl) Try.func13
    (ChangeSpec.witness6 (enc := enc) (C := Try.checked) false ⟨#[], #[.agg #[.int .i64 0, .int .i64 0, .string ⟨#[]⟩, .slice none 0 0, .slice none 0 0], .slice none 0 0, .agg #[.int .u8 0, .int .u8 0]], []⟩ 8 (by kernel_rfl) (by kernel_rfl) (by kernel_rfl) (by kernel_rfl)) ?_
  intro W base args ds gs before hval0 hW hcnd hsz0 hsh _
  have hval : ∀ (j : Nat) t v, Try.f13.params[j]? = some t → args[j]? = some v → Value.okWide Try.prog W .any base t v := hval0
  have hW' := hW
  obtain ⟨p, q, hA0, hV, rfl, hfz, hnd⟩ := hW
  have hA : DataW.TrodAll enc Try.prog W 0 (fun _ => true) true Try.f13.params.toList args.toList ds p := hA0
  rw [Try.params13] at hA hval
  obtain ⟨v0, vs0, d0, ds0, p0, q0, hargs, rfl, rfl, h0, r0⟩ := trodAll_cons hA
  obtain ⟨v1, vs1, d1, ds1, p1, q1, rfl, rfl, rfl, h1, r1⟩ := trodAll_cons r0
  obtain ⟨v2, vs2, d2, ds2, p2, q2, rfl, rfl, rfl, h2, r2⟩ := trodAll_cons r1
  obtain ⟨rfl, rfl, rfl⟩ := trodAll_nil r2
  obtain rfl : args = #[v0, v1, v2] := by cases args; simp_all
  obtain ⟨rfl, rfl⟩ := trodVars_none hV
  have k0 := h0
  have k1 := h1
  have k2 := h2
  have lt0 : ∀ x ∈ p0, x.block < W.heap.size := by obtain ⟨m, hm⟩ := k0; exact DataW.trod_lt m _ _ _ hm
  have lt1 : ∀ x ∈ p1, x.block < W.heap.size := by obtain ⟨m, hm⟩ := k1; exact DataW.trod_lt m _ _ _ hm
  have lt2 : ∀ x ∈ p2, x.block < W.heap.size := by obtain ⟨m, hm⟩ := k2; exact DataW.trod_lt m _ _ _ hm
  obtain ⟨b0, b1, rfl, e2, _, wb0, wb1⟩ := RowA.open_arr2_u8 Try.underlying71 Try.underlying5 (by kernel_rfl) (by kernel_rfl) (hval 2 71 v2 rfl rfl) h2
  obtain ⟨cs0, rfl, _⟩ := okWide_struct Try.underlying26 (hval 0 26 v0 rfl rfl)
  obtain ⟨n0, hn0⟩ := h0
  obtain ⟨n1, hn1⟩ := h1
  obtain ⟨x, ⟨A3, c3, A4, c4, e0, hc3, hr3, hc4, hr4⟩, hx⟩ := RowV.open_typ n0 _ _ hn0
  obtain ⟨B0, l0, d0, rfl⟩ := okWide_slice Try.underlying28 (hval 1 28 v1 rfl rfl)
  obtain ⟨B, l, d, e1, hs, hd, hl, hy⟩ := open_vals hn1
  have e1' : [Value.slice B0 l0 d0] = [.slice B l.length d] := e1
  simp only [List.cons.injEq, Value.slice.injEq, and_true] at e1'
  obtain ⟨rfl, rfl, rfl⟩ := e1'
  obtain ⟨cs0⟩ := cs0
  have e0' : cs0 = _ := e0
  subst e0'
  clear hA0 hval0 hsz0
  obtain ⟨K, hK⟩ := Pure.order_law (n0 + n1) x (RowV.okT_up _ _ _ (by omega) hx) l (fun y h => RowV.okV_up _ _ _ (by omega) (hy y h)) b0 b1 (RowA.u8_of wb0).1 (RowA.u8_of wb0).2 (RowA.u8_of wb1).1 (RowA.u8_of wb1).2
  refine (POr.v15DriversOrder.calls K x.f0 x.f1 x.f2 A3 c3 x.f3 A4 c4 x.f4 _ B0 d0 l b0 b1 true W (glob W hsh) hr3 hc3 hr4 hc4 (Kd.V_mk hd (Kd.C_F PTy.k30_heap hs)) hK).mono fun e W' ⟨he, bel⟩ => ?_
  subst he
  exact ⟨_, rfl, _, _, _, [], _, [], hW', trodAll_mk1 (shut_bool Try.underlying4 _), (trodAll_cons_mk (Below.trod laidOut (by kernel_rfl) (of_decide_eq_true (by kernel_rfl)) k0 bel lt0) (trodAll_cons_mk (Below.trod laidOut (by kernel_rfl) (of_decide_eq_true (by kernel_rfl)) k1 bel lt1) (trodAll_cons_mk (Below.trod laidOut (by kernel_rfl) (of_decide_eq_true (by kernel_rfl)) k2 bel lt2) trodAll_mk0))), rfl, bel.frame _, fun h => by cases h⟩
theorem over : Rows.driversOrderRow.holds Try.pinned (OpenSpec.ofChange Rows.driversOrderSpec) :=
  OpenClaim.holds_of_wide 13 Try.f13 rfl rfl rfl rfl rfl rfl rfl ⟨rfl, rfl, rfl, rfl, rfl⟩ rfl rfl rfl rfl rfl (by kernel_rfl) Try.func13 (by kernel_rfl)
    (of_decide_eq_true (by kernel_rfl)) (by unfold Func.isWrapper; first | (rw [if_pos (by decide +kernel)]; kernel_rfl) | (rw [if_neg (by decide +kernel)]; exact ⟨rfl, rfl⟩))
    (fun os started H enc _ => lifted os started H enc)
theorem proved : Rows.DriversOrderSaid := over
end Go.Proofs.Ytojankgmedccdaa.driversOrder
namespace Go.Proofs.Ytojankgmedccdaa
theorem driversOrder_holds : Rows.DriversOrderSaid := driversOrder.proved
end Go.Proofs.Ytojankgmedccdaa
