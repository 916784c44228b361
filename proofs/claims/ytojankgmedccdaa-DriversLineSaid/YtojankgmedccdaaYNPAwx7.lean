/- Lemmas. -/
import Derived.Test.YtojankgmedccdaaYNPIsx11
section
namespace Go.Proofs.Ytojankgmedccdaa.PAw
open Go.RowKit Own PTy Hand PIs Wo
attribute [local go_sem] BS BU Bf Bg BC BD BX BZ
set_option linter.unusedVariables false
set_option linter.unusedSimpArgs false
def H8 : Option Int → Value
 | none => .nilIface
 | some c => .iface 0 (.int .i64 c)
theorem DN : H8 none = .nilIface := rfl
theorem DR (c : Int) : H8 (some c) = .iface 0 (.int .i64 c) := rfl
theorem IW : (Try.prog.info? 30).map (fun i => (i.zero, i.size, i.bytes)) = some (some (.agg #[(.int .i64 0), (.int .i64 0), (.slice none 0 0), (.slice none 0 0)]), 4, 64) := by kernel_rfl
theorem Ep : (Try.prog.info? 63).map (fun i => (i.zero, i.size, i.bytes)) = some (some (.agg #[(.int .i64 0), (.int .i64 0), (.int .i64 0), (.slice none 0 0), (.slice none 0 0)]), 5, 72) := by kernel_rfl
theorem Fz : (Try.prog.info? 73).map (fun i => (i.zero, i.size, i.bytes)) = some (some (.int .u8 0), 1, 1) := by kernel_rfl
end Go.Proofs.Ytojankgmedccdaa.PAw
end
section
namespace Go.Proofs.Ytojankgmedccdaa.PAw
open Go.RowKit Own PTy Hand PIs Wo
attribute [local go_sem] BS BU Bf Bg BC BD BX BZ
set_option linter.unusedVariables false
set_option linter.unusedSimpArgs false
def KF.f (a0 : Int) : Option (Int × Int × List Int × (List (S30))) := some (1, 0, (([a0] : List Int)), ([] : List (S30)))
set_option maxHeartbeats 8000000 in
set_option maxRecDepth 100000 in
theorem KF.calls (a0 : Int) (B : Int) (D : Int) (G : List Int) (I : List (S30)) (w : World) (h : KF.f a0 = some (B, D, G, I)) :
  Calls Try.prog 40 #[.int .u8 a0] w fun e w' => ∃ p s : Value, e = .returned (.agg #[.int .i64 B, .int .i64 D, p, s]) ∧ Kd.R (Kd.int .u8) 73 w' w.heap.size (fun _ => True) p G ∧ Kd.R k30 30 w' w.heap.size (fun L => nw p L) s I ∧ Below w.heap.size w w' := by
 have J := Try.underlying30
 have n := mk0 (Below.refl w.heap.size w)
 have H := h; unfold KF.f at H
 clear h
 obtain ⟨l, b⟩ : ∃ O : List Int, O = (([a0] : List Int)) := ⟨_, rfl⟩
 replace H : (some (1, 0, l, ([] : List (S30)))) = some (B, D, G, I) := by first | (rw [b]; with_reducible exact H) | (have m := (Option.bind_some _ _).symm.trans H; rw [b]; with_reducible exact m) | (have m := (Option.bind_some _ _).symm.trans H; with_reducible exact m) | with_reducible exact H | (rw [b]; exact H) | exact H
 have g := mk0 b; clear b
 simp only [Option.some.injEq, Prod.mk.injEq] at H
 obtain ⟨rfl, rfl, rfl, rfl⟩ := H
 go_enter Try.func40, Try.ntmps40
 go_wp2_with (first | ((with_reducible refine AQ rfl (N := 2) rfl (cs := #[.int .i64 0, .int .i64 0, .slice none 0 0, .slice none 0 0]) (t := 30) ?hr ?_); (case hr => first | (go_simp; done) | (go_simp; rfl)); intro i hg T k r; have a := mk0 (k); have c := bs (be n) hg; replace n := kh n r; clear r k hg) | ((with_reducible refine FW (N := 4) rfl ?_); refine Kd.KM (Kd.int .u8) _ 73 ?hg (N := 4) ?hd (xs := ([a0] : List Int)) (inner := [.int .u8 a0]) (ok := fun _ => True) (okp := fun _ => True) ?hr ?hp (fun _ u => u) trivial (Below.refl _ _) (Nat.le_refl _) (by simp) ?_; (case hd => rfl); (case hg => rfl); (case hr => first | (go_simp; done) | (go_simp; rfl)); (case hp => exact (CK.one (show Kd.M (Kd.int .u8) _ _ _ a0 [.int .u8 a0] from rfl) (CK.none _ _))); intro v260 U j r z o; clear z o; (first | rw [← g.out] at j | (simp only [Int.reduceToNat] at j; rw [← g.out] at j)); have d := mk0 (Kd.Cb j (AU (be1 n c))); replace a := kb a r; replace n := kh1 n c r; clear r j; obtain ⟨v, x, y⟩ := Kd.Bt d.out; subst y; have W := Ay a.out))
 refine bodyPost_ret (results_cell_row rfl _ _ i 30 #[.int .i64 1, .int .i64 0, .slice v l.length x, .slice none 0 0] (0, 0) _ rfl (pB a) Try.underlying30 rfl (by kernel_rfl)) rfl ?_
 exact ⟨_, _, rfl, by exact Dx (Kd.BK (rI (q := i) (Kd.Ai d.out a.out (by decide)) zza) (fun _ u => trivial)), by first | exact Kd.Dq _ _ _ _ _ | exact Kd.ED _ _ _ _ _ | exact Kd.DZ _ _ _ _ _ | exact Kd.EB _ _ _ _ _ | exact Kd.EC _ _ _ _ _, be1 n c⟩
end Go.Proofs.Ytojankgmedccdaa.PAw
end
