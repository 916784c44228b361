/- Lemmas for LawDriversTakes. -/
import Derived.Test.YtojankgmedccdaaYTPGnx0
section
namespace Go.Proofs.Ytojankgmedccdaa.PGn
open Go.RowKit Own PTy Hand PIs PAw YtojankgmedccdaaW.PrintWords YtojankgmedccdaaW.PrintLast YtojankgmedccdaaW.PrintMore
attribute [local go_sem] BN BO Be Bf Az BA BR BS
set_option linter.unusedVariables false
set_option linter.unusedSimpArgs false
def EW.f (b : Int) (c : Int) (d : List Int) (e : List (S30)) (a : List (S63)) (g : Int) : Option (Bool) := if (a.length : Int) > 0 then (if 0 < (a.length : Int) then (some (decide (((AA a 0).f0) < g))) else (none)) else (some false)
set_option maxHeartbeats 8000000 in
set_option maxRecDepth 100000 in
theorem EW.calls {y z : Int} {u : Option Addr} {B : Nat} {j : List Int} {v : Option Addr} {D : Nat} {k : List (S30)} {x : Option Addr} {G : Nat} {a : List (S63)} {a1 : Int} {r : Bool} {w : World} (T : Kd.C (Kd.int .u8) w u j.length j) (J : j.length ≤ B) (U : Kd.C k30 w v k.length k) (L : k.length ≤ D) (W : Kd.C k63 w x a.length a) (O : a.length ≤ G) (h : EW.f y z j k a a1 = some r) :
  Calls Try.prog 47 #[.agg #[.int .i64 y, .int .i64 z, .slice u j.length B, .slice v k.length D, .slice x a.length G], .int .i64 a1] w fun e w' => e = .returned (.bool r) ∧ Below w.heap.size w w' := by
 have cC := Try.underlying33
 have uB := mk0 T; have qB := mk0 J; clear T J; have wB := mk0 U; have sB := mk0 L; clear U L; have Z := mk0 W; have tB := mk0 O; clear W O
 have I := mk0 (Below.refl w.heap.size w)
 have H := h; unfold EW.f at H
 clear h
 by_cases c3 : (a.length : Int) > 0
 rotate_left
 ·rw [if_neg c3] at H
  have fB : decide (0 < (a.length : Int)) = false := decide_eq_false c3
  have gB : decide (0 < a.length) = false := decide_eq_false (by omega)
  clear c3; obtain rfl := sI H
  go_enter Try.func47, Try.ntmps47
  go_wp2_with ((with_reducible refine AJ rfl (N := 2) rfl (cs := #[.int .i64 y, .int .i64 z, .slice u j.length B, .slice v k.length D, .slice x a.length G]) (t := 33) ?hr ?_); (case hr => first | (go_simp; done) | (go_simp; rfl)); intro aB hg w7 l hb; have q := mk0 (l); have s := bs (be I) hg; replace I := kh I hb; clear hb l hg; have eC := cells5 q.out)
  go_ret
  exact ⟨rfl, be1 I s⟩
 rw [if_pos c3] at H; have fB : decide (0 < (a.length : Int)) = true := decide_eq_true c3
 have gB : decide (0 < a.length) = true := decide_eq_true (by omega)
 clear c3
 replace H := iN H; obtain ⟨c4, aC, H⟩ := H
 have bC : decide (0 < a.length) = true := decide_eq_true (by omega)
 clear c4
 obtain rfl := sI H
 go_enter Try.func47, Try.ntmps47
 go_wp2_with ((with_reducible refine AJ rfl (N := 2) rfl (cs := #[.int .i64 y, .int .i64 z, .slice u j.length B, .slice v k.length D, .slice x a.length G]) (t := 33) ?hr ?_); (case hr => first | (go_simp; done) | (go_simp; rfl)); intro aB hg w5 l hb; have q := mk0 (l); have s := bs (be I) hg; replace I := kh I hb; clear hb l hg; have dC := cells5 q.out; have X : 0 ≤ (0 : Int) := (by omega); have Y : 0 < (a.length : Int) := of_decide_eq_true (by assumption); obtain ⟨xB, kB, mB, lB, oB, hB, b, c, d, g, i, o, m, p, n⟩ := Cg Z.out 0 X Y; cases hB; have yB : (0 < a.length) = True := eq_true (by omega); (try rw [show ((0 : Int)).toNat = 0 from rfl] at b); (try rw [show 0 * 5 = 0 from rfl] at b); (try rw [Addr.add_zero'] at b); (try rw [show ((0 : Int)).toNat = 0 from rfl] at c); (try rw [show 0 * 5 = 0 from rfl] at c); (try rw [Addr.add_zero'] at c); (try rw [show ((0 : Int)).toNat = 0 from rfl] at d); (try rw [show 0 * 5 = 0 from rfl] at d); (try rw [Addr.add_zero'] at d); (try rw [show ((0 : Int)).toNat = 0 from rfl] at g); (try rw [show 0 * 5 = 0 from rfl] at g); (try rw [Addr.add_zero'] at g); (try rw [show ((0 : Int)).toNat = 0 from rfl] at i); (try rw [show 0 * 5 = 0 from rfl] at i); (try rw [Addr.add_zero'] at i); replace b := AC I.out b; replace c := AC I.out c; replace d := AC I.out d; replace g := AC I.out g; replace i := AC I.out i; have dB := mk0 m; have bB := mk0 o; clear m o; have eB := mk0 n; have cB := mk0 p; clear n p; replace X := eq_true X; replace Y := eq_true Y)
 go_ret
 exact ⟨rfl, be1 I s⟩
end Go.Proofs.Ytojankgmedccdaa.PGn
end
section
namespace Go.Proofs.Ytojankgmedccdaa.PGn
open Go.RowKit Own PTy Hand PIs PAw YtojankgmedccdaaW.PrintWords YtojankgmedccdaaW.PrintLast YtojankgmedccdaaW.PrintMore
attribute [local go_sem] BN BO Be Bf Az BA BR BS
set_option linter.unusedVariables false
set_option linter.unusedSimpArgs false
end Go.Proofs.Ytojankgmedccdaa.PGn
end
section
namespace Go.Proofs.Ytojankgmedccdaa.PGn
open Go.RowKit Own PTy Hand PIs PAw YtojankgmedccdaaW.PrintWords YtojankgmedccdaaW.PrintLast YtojankgmedccdaaW.PrintMore
attribute [local go_sem] BN BO Be Bf Az BA BR BS
set_option linter.unusedVariables false
set_option linter.unusedSimpArgs false
def FT.f (a : Int) (b : Int) (c : List Int) (d : List (S30)) : Option (Int × Int × List Int × (List (S30))) := if a = 1 then (if 0 < (c.length : Int) then (some (a, b, (([rd c 0] : List Int)), ([] : List (S30)))) else (none)) else (some (a, b, ([] : List Int), ([] : List (S30))))
set_option maxHeartbeats 8000000 in
set_option maxRecDepth 100000 in
theorem FT.calls {l r : Int} {aB : Option Addr} {cB : Nat} {n : List Int} {bB : Option Addr} {dB : Nat} {W : List (S30)} {r1 r2 : Int} {r3 : List Int} {r4 : List (S30)} {w : World} (mB : Kd.C (Kd.int .u8) w aB n.length n) (kB : n.length ≤ cB) (oB : Kd.C k30 w bB W.length W) (lB : W.length ≤ dB) (h : FT.f l r n W = some (r1, r2, r3, r4)) :
  Calls Try.prog 49 #[.agg #[.int .i64 l, .int .i64 r, .slice aB n.length cB, .slice bB W.length dB]] w fun e w' => ∃ yB eC : Value, e = .returned (.agg #[.int .i64 r1, .int .i64 r2, yB, eC]) ∧ Kd.R (Kd.int .u8) 73 w' w.heap.size (fun _ => True) yB r3 ∧ Kd.R k30 30 w' w.heap.size (fun k_ => some k_ ≠ (yB : Value).ownBlock) eC r4 ∧ Below w.heap.size w w' := by
 have cD := Try.underlying30
 have uB := mk0 mB; have fC := mk0 kB; clear mB kB; have hC := mk0 oB; have gC := mk0 lB; clear oB lB
 have L := mk0 (Below.refl w.heap.size w)
 have H := h; unfold FT.f at H
 clear h
 replace H := iE' H; obtain ⟨c2, aC, bC, H⟩ | ⟨aC, bC, H⟩ := H
 ·simp only [Option.some.injEq, Prod.mk.injEq] at H
  obtain ⟨rfl, rfl, rfl, rfl⟩ := H
  go_enter Try.func49, Try.ntmps49
  go_wp2_with (first | ((with_reducible refine AJ rfl (N := 1) rfl (cs := #[.int .i64 l, .int .i64 r, .slice aB n.length cB, .slice bB W.length dB]) (t := 30) ?hr ?_); (case hr => first | (go_simp; done) | (go_simp; rfl)); intro wB hg pD j J; have b := mk0 (j); have d := bs (be L) hg; replace L := kh L J; clear J j hg) | ((with_reducible refine AJ rfl (N := 2) rfl (cs := #[.int .i64 0, .int .i64 0, .slice none 0 0, .slice none 0 0]) (t := 30) ?hr ?_); (case hr => first | (go_simp; done) | (go_simp; rfl)); intro Y hg qD j J; have i := mk0 (j); have k := bs (be1 L d) hg; replace L := kh1 L d J; have ⟨v, x⟩ := nn b hg; replace b := kb b J; clear J j hg; have ⟨kC, oC⟩ := no v x; have hD := Au b.out) | ((with_reducible refine AJ rfl (N := 3) rfl (cs := #[.int .i64 0, .int .i64 0, .slice none 0 0, .slice none 0 0]) (t := 30) ?hr ?_); (case hr => first | (go_simp; done) | (go_simp; rfl)); intro m hg rD j J; have u := mk0 (j); have T := bs (be2 L d k) hg; have O := bs (be2 L d k) hg; replace L := kh2 L d k J; have ⟨s, y⟩ := nn b hg; have ⟨c, z⟩ := nn i hg; obtain ⟨b, i⟩ := tb2 J b i; clear J j hg; have ⟨lC, pC⟩ := no y s; have ⟨mC, qC⟩ := no z c; have jD := Au u.out; have kD := Au b.out; have lD := Au i.out))
  refine bodyPost_ret (results_cell_row rfl _ _ Y 30 #[.int .i64 l, .int .i64 r, .slice none 0 0, .slice none 0 0] (0, 0) _ rfl (by refine Cn ?_; refine CK (cs := #[.int .i64 l, .int .i64 r, .slice none 0 0, .slice none 0 0]) ?_ 3 _ rfl; refine Cn ?_; refine CK (cs := #[.int .i64 l, .int .i64 r, .slice none 0 0, .slice none 0 0]) ?_ 2 _ rfl; refine Cn ?_; refine CK (cs := #[.int .i64 l, .int .i64 0, .slice none 0 0, .slice none 0 0]) ?_ 1 _ rfl; refine Cn ?_; refine CK (cs := #[.int .i64 0, .int .i64 0, .slice none 0 0, .slice none 0 0]) ?_ 0 _ rfl; refine Cn ?_; refine Dp ?_ c.out _; refine Cn ?_; refine Dp ?_ c.out _; refine Cn ?_; refine Dp ?_ c.out _; refine Cn ?_; refine Dp ?_ c.out _; refine Cn ?_; exact i.out) Try.underlying30 rfl (by kernel_rfl)) rfl ?_
  exact ⟨_, _, rfl, by first | exact Kd.D5 _ _ _ _ _ | exact Kd.ET _ _ _ _ _ | exact Kd.D7 _ _ _ _ _ | exact Kd.ER _ _ _ _ _ | exact Kd.ES _ _ _ _ _, by first | exact Kd.D5 _ _ _ _ _ | exact Kd.ET _ _ _ _ _ | exact Kd.D7 _ _ _ _ _ | exact Kd.ER _ _ _ _ _ | exact Kd.ES _ _ _ _ _, be3 L d k O⟩
 replace H := iN H; obtain ⟨c3, wC, H⟩ := H
 have xC : decide (0 < n.length) = true := decide_eq_true (by omega)
 clear c3
 obtain ⟨eB, U⟩ : ∃ y_ : List Int, y_ = (([rd n 0] : List Int)) := ⟨_, rfl⟩
 replace H : (some (l, r, eB, ([] : List (S30)))) = some (r1, r2, r3, r4) := by first | (rw [U]; with_reducible exact H) | (have tB := (Option.bind_some _ _).symm.trans H; rw [U]; with_reducible exact tB) | (have tB := (Option.bind_some _ _).symm.trans H; with_reducible exact tB) | with_reducible exact H | (rw [U]; exact H) | exact H
 have hB := mk0 U; clear U
 simp only [Option.some.injEq, Prod.mk.injEq] at H
 obtain ⟨rfl, rfl, rfl, rfl⟩ := H
 go_enter Try.func49, Try.ntmps49
 go_wp2_with (first | ((with_reducible refine AJ rfl (N := 1) rfl (cs := #[.int .i64 l, .int .i64 r, .slice aB n.length cB, .slice bB W.length dB]) (t := 30) ?hr ?_); (case hr => first | (go_simp; done) | (go_simp; rfl)); intro wB hg w4 j J; have b := mk0 (j); have d := bs (be L) hg; replace L := kh L J; clear J j hg) | ((with_reducible refine AJ rfl (N := 2) rfl (cs := #[.int .i64 0, .int .i64 0, .slice none 0 0, .slice none 0 0]) (t := 30) ?hr ?_); (case hr => first | (go_simp; done) | (go_simp; rfl)); intro Y hg w5 j J; have i := mk0 (j); have k := bs (be1 L d) hg; replace L := kh1 L d J; have ⟨v, x⟩ := nn b hg; replace b := kb b J; clear J j hg; have ⟨yC, aD⟩ := no v x; have tD := Au b.out) | ((with_reducible refine AJ rfl (N := 3) rfl (cs := #[.int .i64 0, .int .i64 0, .slice none 0 0, .slice none 0 0]) (t := 30) ?hr ?_); (case hr => first | (go_simp; done) | (go_simp; rfl)); intro m hg w8 j J; have u := mk0 (j); have T := bs (be2 L d k) hg; have O := bs (be2 L d k) hg; replace L := kh2 L d k J; have ⟨s, y⟩ := nn b hg; have ⟨c, z⟩ := nn i hg; obtain ⟨b, i⟩ := tb2 J b i; clear J j hg; have ⟨zC, bD⟩ := no y s; have ⟨jC, nC⟩ := no z c; have dD := Au u.out; have eD := Au b.out; have qB : 0 ≤ (0 : Int) := (by omega); have sB : 0 < (n.length : Int) := of_decide_eq_true (by assumption); obtain ⟨X, cC, a⟩ := Kd.Dr uB.out 0 qB sB; cases cC; have rC : (0 < n.length) = True := eq_true (by omega); (try rw [show ((0 : Int)).toNat = 0 from rfl] at a); (try rw [Addr.add_zero'] at a); have B : X.block ≠ m := Nat.ne_of_lt (Nat.lt_of_lt_of_le (by have := World.block_lt_of_cell? _ _ a; first | rwa [add_block] at this | exact this) T.out); have D : X.block ≠ m := Nat.ne_of_lt (Nat.lt_of_lt_of_le (by have := World.block_lt_of_cell? _ _ a; first | rwa [add_block] at this | exact this) T.out); have G : X.block ≠ m := Nat.ne_of_lt (Nat.lt_of_lt_of_le (by have := World.block_lt_of_cell? _ _ a; first | rwa [add_block] at this | exact this) T.out); have I : X.block ≠ m := Nat.ne_of_lt (Nat.lt_of_lt_of_le (by have := World.block_lt_of_cell? _ _ a; first | rwa [add_block] at this | exact this) T.out); replace a := AC L.out a; replace a := (cell_far (p := ⟨m, 0, none⟩) (by first | (rw [add_block]; exact B) | (show (Addr.add _ _).block ≠ _; rw [add_block]; exact B) | exact B) (.int .i64 l)).trans a; replace a := (cell_far (p := ⟨m, 1, none⟩) (by first | (rw [add_block]; exact D) | (show (Addr.add _ _).block ≠ _; rw [add_block]; exact D) | exact D) (.int .i64 r)).trans a; replace a := (cell_far (p := ⟨m, 2, none⟩) (by first | (rw [add_block]; exact G) | (show (Addr.add _ _).block ≠ _; rw [add_block]; exact G) | exact G) (.slice none 0 0)).trans a; replace a := (cell_far (p := ⟨m, 3, none⟩) (by first | (rw [add_block]; exact I) | (show (Addr.add _ _).block ≠ _; rw [add_block]; exact I) | exact I) (.slice none 0 0)).trans a; clear B; clear D; clear G; clear I; replace qB := eq_true qB; replace sB := eq_true sB) | ((with_reducible refine Ep (N := 16) rfl ?_); refine Kd.JB (Kd.int .u8) _ 73 ?hg (N := 16) ?hd (xs := ([rd n 0] : List Int)) (inner := [.int .u8 (rd n 0)]) (ok := fun _ => True) (okp := fun _ => True) ?hr ?hp (fun _ hk => hk) trivial (Below.refl _ _) (Nat.le_refl _) (by simp) ?_; (case hd => rfl); (case hg => rfl); (case hr => first | (go_simp; done) | (go_simp; rfl)); (case hp => exact (Bz.one (show Kd.M (Kd.int .u8) _ _ _ (rd n 0) [.int .u8 (rd n 0)] from rfl) (Bz.none _ _))); intro v254 oD Z J iC xB; clear iC xB; (first | rw [← hB.out] at Z | (simp only [Int.reduceToNat] at Z; rw [← hB.out] at Z)); have gB := mk0 (Kd.CF Z (AP (be3 L d k O))); replace b := kF s b J; replace i := kF c i J; replace u := mk0 (AY (g := m) (o := .cells #[.int .i64 l, .int .i64 r, .slice none 0 0, .slice none 0 0] 30 (0, 0)) (pB u) J); replace L := kh3 L d k O J; clear J Z; obtain ⟨fB, jB, dC⟩ := Kd.Bg gB.out; subst dC; have fD := Au u.out; have gD := Au i.out))
 refine bodyPost_ret (results_cell_row rfl _ _ Y 30 #[.int .i64 l, .int .i64 r, .slice fB eB.length jB, .slice none 0 0] (0, 0) _ rfl (by refine Cn ?_; refine CK (cs := #[.int .i64 l, .int .i64 r, .slice fB eB.length jB, .slice none 0 0]) ?_ 3 _ rfl; refine Cn ?_; refine CK (cs := #[.int .i64 l, .int .i64 r, .slice none 0 0, .slice none 0 0]) ?_ 2 _ rfl; refine Cn ?_; refine CK (cs := #[.int .i64 l, .int .i64 0, .slice none 0 0, .slice none 0 0]) ?_ 1 _ rfl; refine Cn ?_; refine CK (cs := #[.int .i64 0, .int .i64 0, .slice none 0 0, .slice none 0 0]) ?_ 0 _ rfl; refine Cn ?_; refine Dp ?_ c.out _; refine Cn ?_; exact i.out) Try.underlying30 rfl (by kernel_rfl)) rfl ?_
 exact ⟨_, _, rfl, by exact CS (Kd.Ai (rI (q := Y) (Kd.OP (p := ⟨m, 2, none⟩) (Kd.Ao (Kd.Ao gB.out u.out (by decide)) i.out (by decide)) (fun _ hk => hk.1.2) (.slice fB eB.length jB)) (fun _ hk => hk.2)) (fun _ hk => trivial)), by first | exact Kd.D5 _ _ _ _ _ | exact Kd.ET _ _ _ _ _ | exact Kd.D7 _ _ _ _ _ | exact Kd.ER _ _ _ _ _ | exact Kd.ES _ _ _ _ _, be3 L d k O⟩
end Go.Proofs.Ytojankgmedccdaa.PGn
end
