/- Lemmas. -/
import Derived.Test.YtojankgmedccdaaYOPIsx11
section
namespace Go.Proofs.Ytojankgmedccdaa.PAw
open Go.RowKit Own PTy Hand PIs Wo
attribute [local go_sem] BI BJ Ba Bc Ao Ap BL BM
set_option linter.unusedVariables false
set_option linter.unusedSimpArgs false
def G9 : Option Int → Value
 | none => .nilIface
 | some c => .iface 0 (.int .i64 c)
theorem EN : G9 none = .nilIface := rfl
theorem EO (c : Int) : G9 (some c) = .iface 0 (.int .i64 c) := rfl
theorem info3 : (Try.prog.info? 3).map (fun i => (i.zero, i.size, i.bytes)) = some (some (.int .i64 0), 1, 8) := by kernel_rfl
theorem Gu : (Try.prog.info? 30).map (fun i => (i.zero, i.size, i.bytes)) = some (some (.agg #[(.int .i64 0), (.int .i64 0), (.slice none 0 0), (.slice none 0 0)]), 4, 64) := by kernel_rfl
theorem F4 : (Try.prog.info? 63).map (fun i => (i.zero, i.size, i.bytes)) = some (some (.agg #[(.int .i64 0), (.int .i64 0), (.int .i64 0), (.slice none 0 0), (.slice none 0 0)]), 5, 72) := by kernel_rfl
theorem Ei : (Try.prog.info? 73).map (fun i => (i.zero, i.size, i.bytes)) = some (some (.int .u8 0), 1, 1) := by kernel_rfl
end Go.Proofs.Ytojankgmedccdaa.PAw
end
section
namespace Go.Proofs.Ytojankgmedccdaa.PAw
open Go.RowKit Own PTy Hand PIs Wo
attribute [local go_sem] BI BJ Ba Bc Ao Ap BL BM
set_option linter.unusedVariables false
set_option linter.unusedSimpArgs false
def J2.f (a0 : Int) : Option (Int × Int × List Int × (List (S30))) := some (1, 0, (([a0] : List Int)), ([] : List (S30)))
set_option maxHeartbeats 8000000 in
set_option maxRecDepth 100000 in
theorem J2.calls (a0 : Int) (T : Int) (r2 : Int) (r3 : List Int) (r4 : List (S30)) (w : World) (h : J2.f a0 = some (T, r2, r3, r4)) :
  Calls Try.prog 40 #[.int .u8 a0] w fun e w' => ∃ z D : Value, e = .returned (.agg #[.int .i64 T, .int .i64 r2, z, D]) ∧ Kd.R (Kd.int .u8) 73 w' w.heap.size (fun _ => True) z r3 ∧ Kd.R k30 30 w' w.heap.size (fun W => nw z W) D r4 ∧ Below w.heap.size w w' := by
 have U := Try.underlying30
 have u := mk0 (Below.refl w.heap.size w)
 have H := h; unfold J2.f at H
 clear h
 obtain ⟨r, b⟩ : ∃ X : List Int, X = (([a0] : List Int)) := ⟨_, rfl⟩
 replace H : (some (1, 0, r, ([] : List (S30)))) = some (T, r2, r3, r4) := by first | (rw [b]; with_reducible exact H) | (have s := (Option.bind_some _ _).symm.trans H; rw [b]; with_reducible exact s) | (have s := (Option.bind_some _ _).symm.trans H; with_reducible exact s) | with_reducible exact H | (rw [b]; exact H) | exact H
 have j := mk0 b; clear b
 simp only [Option.some.injEq, Prod.mk.injEq] at H
 obtain ⟨rfl, rfl, rfl, rfl⟩ := H
 go_enter Try.func40, Try.ntmps40
 go_wp2_with (first | ((with_reducible refine AU rfl (N := 2) rfl (cs := #[.int .i64 0, .int .i64 0, .slice none 0 0, .slice none 0 0]) (t := 30) ?hr ?_); (case hr => first | (go_simp; done) | (go_simp; rfl)); intro k hg Y o B; have a := mk0 (o); have c := bs (be u) hg; replace u := kh u B; clear B o hg) | ((with_reducible refine D6 (N := 4) rfl ?_); refine Kd.Ib (Kd.int .u8) _ 73 ?hg (N := 4) ?hd (xs := ([a0] : List Int)) (inner := [.int .u8 a0]) (ok := fun _ => True) (okp := fun _ => True) ?hr ?hp (fun _ G => G) trivial (Below.refl _ _) (Nat.le_refl _) (by simp) ?_; (case hd => rfl); (case hg => rfl); (case hr => first | (go_simp; done) | (go_simp; rfl)); (case hp => exact (Cu.one (show Kd.M (Kd.int .u8) _ _ _ a0 [.int .u8 a0] from rfl) (Cu.none _ _))); intro v260 Z l B O v; clear O v; (first | rw [← j.out] at l | (simp only [Int.reduceToNat] at l; rw [← j.out] at l)); have i := mk0 (Kd.Cc l (AX (be1 u c))); replace a := kb a B; replace u := kh1 u c B; clear B l; obtain ⟨I, J, L⟩ := Kd.Bo i.out; subst L; have z6 := Ar a.out))
 refine bodyPost_ret (results_cell_row rfl _ _ k 30 #[.int .i64 1, .int .i64 0, .slice I r.length J, .slice none 0 0] (0, 0) _ rfl (pB a) Try.underlying30 rfl (by kernel_rfl)) rfl ?_
 exact ⟨_, _, rfl, by exact DZ (Kd.BS (rI (q := k) (Kd.Bf i.out a.out (by decide)) (fun _ G => G.2)) (fun _ G => trivial)), by first | exact Kd.Da _ _ _ _ _ | exact Kd.Dw _ _ _ _ _ | exact Kd.C9 _ _ _ _ _ | exact Kd.Du _ _ _ _ _ | exact Kd.Dv _ _ _ _ _, be1 u c⟩
end Go.Proofs.Ytojankgmedccdaa.PAw
end
