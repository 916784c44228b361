/- Lemmas for LawDriversGives. -/
import Derived.Test.YtojankgmedccdaaYGPAwx7
namespace Go.Proofs.Ytojankgmedccdaa.PAw
open Go.RowKit Own PTy Hand PIs YtojankgmedccdaaW.PrintWords YtojankgmedccdaaW.PrintLast YtojankgmedccdaaW.PrintMore
attribute [local go_sem] BI BJ Be Bf Ar Au BK BL
set_option linter.unusedVariables false
set_option linter.unusedSimpArgs false
def CF.f (k : Nat) (b : Int) (c : Int) (d : ByteArray) (h : List ByteArray) (i : List (S26)) (e : Int) (g : Int) (j : List Int) (l : List (S30)) (a : List (S63)) : Option (Int × Int) := (Aq.f k b c d h i e g j l a).bind fun m => (if m = true then (if (a.length : Int) = 0 then (none) else (if 0 < (a.length : Int) then (some ((AA a 0).f0, 0)) else (none))) else (none))
set_option maxHeartbeats 8000000 in
set_option maxRecDepth 100000 in
theorem CF.calls (k : Nat) (G : Int) (I : Int) (J : ByteArray) (T : Option Addr) (aB : Nat) (m : List ByteArray) (U : Option Addr) (bB : Nat) (n : List (S26)) (L : Int) (O : Int) (W : Option Addr) (cB : Nat) (o : List Int) (X : Option Addr) (dB : Nat) (p : List (S30)) (Y : Option Addr) (eB : Nat) (a : List (S63)) (r1 : Int) (r2 : Int) (w : World) (hG : D8 w) (lB : Kd.C Kd.string w T m.length m) (fB : m.length ≤ aB) (mB : Kd.C k26 w U n.length n) (gB : n.length ≤ bB) (oB : Kd.C (Kd.int .u8) w W o.length o) (hB : o.length ≤ cB) (qB : Kd.C k30 w X p.length p) (jB : p.length ≤ dB) (sB : Kd.C k63 w Y a.length a) (kB : a.length ≤ eB) (h : CF.f k G I J m n L O o p a = some (r1, r2)) :
  Calls Try.prog 25 #[.agg #[.int .i64 G, .int .i64 I, .string J, .slice T m.length aB, .slice U n.length bB], .agg #[.int .i64 L, .int .i64 O, .slice W o.length cB, .slice X p.length dB, .slice Y a.length eB]] w fun e w' => e = .returned (.tuple #[.int .i64 r1, .int .i64 r2]) ∧ Below w.heap.size w w' := by
 have HG := mk0 hG; clear hG
 have bD := Try.underlying26
 have cD := Try.underlying33
 have cC := mk0 lB; have xB := mk0 fB; clear lB fB; have dC := mk0 mB; have yB := mk0 gB; clear mB gB; have eC := mk0 oB; have zB := mk0 hB; clear oB hB; have fC := mk0 qB; have aC := mk0 jB; clear qB jB; have Z := mk0 sB; have bC := mk0 kB; clear sB kB
 have q := mk0 (Below.refl w.heap.size w)
 have H := h; unfold CF.f at H
 clear h
 replace H := bS H; obtain ⟨fD, A3, H⟩ := H
 replace H := iB' H; obtain ⟨rfl, H⟩ | ⟨rfl, H⟩ := H
 ·exact absurd H (by simp)
 by_cases c5 : (a.length : Int) = 0
 ·rw [if_pos c5] at H
  exact absurd H (by simp)
 rw [if_neg c5] at H
 have tC : ((a.length : Int) == 0) = false := beq_eq_false_iff_ne.mpr c5
 have uC : ((a.length : Int) != 0) = true := bne_iff_ne.mpr c5
 have vC : ¬ (a = []) := fun h_ => c5 (by rw [h_]; rfl)
 replace H := iN H; obtain ⟨c6, wC, H⟩ := H
 have xC : decide (0 < a.length) = true := decide_eq_true (by omega)
 clear c6
 simp only [Option.some.injEq, Prod.mk.injEq] at H
 obtain ⟨rfl, rfl⟩ := H
 go_enter Try.func25, Try.ntmps25
 go_wp2_with (first | ((with_reducible refine AP rfl (N := 2) rfl (cs := #[.int .i64 G, .int .i64 I, .string J, .slice T m.length aB, .slice U n.length bB]) (t := 26) ?hr ?_); (case hr => first | (go_simp; done) | (go_simp; rfl)); intro qC hg w7 s hb; have j := mk0 (s); have l := bs (be q) hg; replace q := kh q hb; clear hb s hg) | ((with_reducible refine AP rfl (N := 3) rfl (cs := #[.int .i64 L, .int .i64 O, .slice W o.length cB, .slice X p.length dB, .slice Y a.length eB]) (t := 33) ?hr ?_); (case hr => first | (go_simp; done) | (go_simp; rfl)); intro rC hg w8 s hb; have r := mk0 (s); have z := bs (be1 q l) hg; replace q := kh1 q l hb; have ⟨B, D⟩ := nn j hg; replace j := kb j hb; clear hb s hg; have ⟨zC, aD⟩ := no B D; have mD := cells5 j.out; have nD := cells5 r.out) | ((with_reducible refine AR (f := 19) rfl ?_); refine CO Try.func19 (Aq.calls k G I J _ _ m _ _ n L O _ _ o _ _ p _ _ a true _ (AZ HG.out (be2 q l z)) (cu cC q) xB.out (cu dC q) yB.out (cu eC q) zB.out (cu fC q) aC.out (cu Z q) bC.out A3.out) ?_; intro lD hb; obtain ⟨j, r⟩ := tb2 hb j r; replace q := kh2 q l z hb; have oD := cells5 r.out; have tB : 0 ≤ (0 : Int) := (by omega); have uB : 0 < (a.length : Int) := of_decide_eq_true (by assumption); obtain ⟨pC, lC, nC, mC, oC, kC, b, c, d, g, i, x, u, y, v⟩ := DV Z.out 0 tB uB; cases kC; have sC : (0 < a.length) = True := eq_true (by omega); (try rw [show ((0 : Int)).toNat = 0 from rfl] at b); (try rw [show 0 * 5 = 0 from rfl] at b); (try rw [Addr.add_zero'] at b); (try rw [show ((0 : Int)).toNat = 0 from rfl] at c); (try rw [show 0 * 5 = 0 from rfl] at c); (try rw [Addr.add_zero'] at c); (try rw [show ((0 : Int)).toNat = 0 from rfl] at d); (try rw [show 0 * 5 = 0 from rfl] at d); (try rw [Addr.add_zero'] at d); (try rw [show ((0 : Int)).toNat = 0 from rfl] at g); (try rw [show 0 * 5 = 0 from rfl] at g); (try rw [Addr.add_zero'] at g); (try rw [show ((0 : Int)).toNat = 0 from rfl] at i); (try rw [show 0 * 5 = 0 from rfl] at i); (try rw [Addr.add_zero'] at i); replace b := Ae q.out b; replace c := Ae q.out c; replace d := Ae q.out d; replace g := Ae q.out g; replace i := Ae q.out i; have iC := mk0 u; have gC := mk0 x; clear u x; have jC := mk0 v; have hC := mk0 y; clear v y; replace tB := eq_true tB; replace uB := eq_true uB))
 go_ret2
 exact ⟨rfl, be2 q l z⟩
def drivers_behind.f (b : Int) (c : Int) (d : List Int) (e : List (S30)) (a : List (S63)) (g : Int) : Option (Bool) := if (a.length : Int) > 0 then (if 0 < (a.length : Int) then (some (decide (((AA a 0).f0) < g))) else (none)) else (some false)
set_option maxHeartbeats 8000000 in
set_option maxRecDepth 100000 in
theorem drivers_behind.calls {y z : Int} {u : Option Addr} {B : Nat} {j : List Int} {v : Option Addr} {D : Nat} {k : List (S30)} {x : Option Addr} {G : Nat} {a : List (S63)} {a1 : Int} {r : Bool} {w : World} (T : Kd.C (Kd.int .u8) w u j.length j) (J : j.length ≤ B) (U : Kd.C k30 w v k.length k) (L : k.length ≤ D) (W : Kd.C k63 w x a.length a) (O : a.length ≤ G) (h : drivers_behind.f y z j k a a1 = some r) :
  Calls Try.prog 50 #[.agg #[.int .i64 y, .int .i64 z, .slice u j.length B, .slice v k.length D, .slice x a.length G], .int .i64 a1] w fun e w' => e = .returned (.bool r) ∧ Below w.heap.size w w' := by
 have cC := Try.underlying33
 have uB := mk0 T; have qB := mk0 J; clear T J; have wB := mk0 U; have sB := mk0 L; clear U L; have Z := mk0 W; have tB := mk0 O; clear W O
 have I := mk0 (Below.refl w.heap.size w)
 have H := h; unfold drivers_behind.f at H
 clear h
 by_cases c3 : (a.length : Int) > 0
 rotate_left
 ·rw [if_neg c3] at H
  have fB : decide (0 < (a.length : Int)) = false := decide_eq_false c3
  have gB : decide (0 < a.length) = false := decide_eq_false (by omega)
  clear c3; obtain rfl := sI H
  go_enter Try.func50, Try.ntmps50
  go_wp2_with ((with_reducible refine AP rfl (N := 2) rfl (cs := #[.int .i64 y, .int .i64 z, .slice u j.length B, .slice v k.length D, .slice x a.length G]) (t := 33) ?hr ?_); (case hr => first | (go_simp; done) | (go_simp; rfl)); intro aB hg w7 l hb; have q := mk0 (l); have s := bs (be I) hg; replace I := kh I hb; clear hb l hg; have z8 := cells5 q.out)
  go_ret
  exact ⟨rfl, be1 I s⟩
 rw [if_pos c3] at H; have fB : decide (0 < (a.length : Int)) = true := decide_eq_true c3
 have gB : decide (0 < a.length) = true := decide_eq_true (by omega)
 clear c3
 replace H := iN H; obtain ⟨c4, aC, H⟩ := H
 have bC : decide (0 < a.length) = true := decide_eq_true (by omega)
 clear c4
 obtain rfl := sI H
 go_enter Try.func50, Try.ntmps50
 go_wp2_with ((with_reducible refine AP rfl (N := 2) rfl (cs := #[.int .i64 y, .int .i64 z, .slice u j.length B, .slice v k.length D, .slice x a.length G]) (t := 33) ?hr ?_); (case hr => first | (go_simp; done) | (go_simp; rfl)); intro aB hg w5 l hb; have q := mk0 (l); have s := bs (be I) hg; replace I := kh I hb; clear hb l hg; have z6 := cells5 q.out; have X : 0 ≤ (0 : Int) := (by omega); have Y : 0 < (a.length : Int) := of_decide_eq_true (by assumption); obtain ⟨xB, kB, mB, lB, oB, hB, b, c, d, g, i, o, m, p, n⟩ := DV Z.out 0 X Y; cases hB; have yB : (0 < a.length) = True := eq_true (by omega); (try rw [show ((0 : Int)).toNat = 0 from rfl] at b); (try rw [show 0 * 5 = 0 from rfl] at b); (try rw [Addr.add_zero'] at b); (try rw [show ((0 : Int)).toNat = 0 from rfl] at c); (try rw [show 0 * 5 = 0 from rfl] at c); (try rw [Addr.add_zero'] at c); (try rw [show ((0 : Int)).toNat = 0 from rfl] at d); (try rw [show 0 * 5 = 0 from rfl] at d); (try rw [Addr.add_zero'] at d); (try rw [show ((0 : Int)).toNat = 0 from rfl] at g); (try rw [show 0 * 5 = 0 from rfl] at g); (try rw [Addr.add_zero'] at g); (try rw [show ((0 : Int)).toNat = 0 from rfl] at i); (try rw [show 0 * 5 = 0 from rfl] at i); (try rw [Addr.add_zero'] at i); replace b := Ae I.out b; replace c := Ae I.out c; replace d := Ae I.out d; replace g := Ae I.out g; replace i := Ae I.out i; have dB := mk0 m; have bB := mk0 o; clear m o; have eB := mk0 n; have cB := mk0 p; clear n p; replace X := eq_true X; replace Y := eq_true Y)
 go_ret
 exact ⟨rfl, be1 I s⟩
def drivers_copied.f (a : Int) (b : Int) (c : List Int) (d : List (S30)) : Option (Int × Int × List Int × (List (S30))) := (EQ.f c).bind fun t109 => (some (a, b, t109, d))
set_option maxHeartbeats 8000000 in
set_option maxRecDepth 100000 in
theorem drivers_copied.calls {k l : Int} {B : Option Addr} {D : Nat} {d : List Int} (y : Nat → Prop) {s : Option Addr} {u : Nat} {g : List (S30)} {r1 r2 : Int} {r3 : List Int} {r4 : List (S30)} {w : World} (O : Kd.C (Kd.int .u8) w B d.length d) (L : d.length ≤ D) (Z : Kd.V k30 30 w w.heap.size (fun r => y r) (.slice s g.length u) g) (h : drivers_copied.f k l d g = some (r1, r2, r3, r4)) :
  Calls Try.prog 51 #[.agg #[.int .i64 k, .int .i64 l, .slice B d.length D, .slice s g.length u]] w fun e w' => ∃ aB bB : Value, e = .returned (.agg #[.int .i64 r1, .int .i64 r2, aB, bB]) ∧ Kd.R (Kd.int .u8) 73 w' w.heap.size (fun r => (w.heap.size ≤ r)) aB r3 ∧ Kd.V k30 30 w' w.heap.size (fun r => (y r ∨ w.heap.size ≤ r) ∧ some r ≠ (aB : Value).ownBlock) bB r4 ∧ Below w.heap.size w w' := by
 have fB := Try.underlying30
 have X := mk0 O; have W := mk0 L; clear O L
 have b := mk0 (show Kd.V k30 30 w w.heap.size (fun r => (y r ∨ w.heap.size ≤ r)) (.slice s g.length u) g from Kd.AL Z (fun r m => .inl m))
 have G := mk0 (Below.refl w.heap.size w)
 have H := h; unfold drivers_copied.f at H
 clear h
 replace H := bS H; obtain ⟨t109, A2, H⟩ := H
 simp only [Option.some.injEq, Prod.mk.injEq] at H
 obtain ⟨rfl, rfl, rfl, rfl⟩ := H
 go_enter Try.func51, Try.ntmps51
 go_wp2_with (first | ((with_reducible refine AP rfl (N := 1) rfl (cs := #[.int .i64 k, .int .i64 l, .slice B d.length D, .slice s g.length u]) (t := 30) ?hr ?_); (case hr => first | (go_simp; done) | (go_simp; rfl)); intro z hg w3 v I; replace b := vB b hg I; have a := mk0 (v); have c := bs (be G) hg; replace G := kh G I; clear I v hg) | ((with_reducible refine AP rfl (N := 2) rfl (cs := #[.int .i64 0, .int .i64 0, .slice none 0 0, .slice none 0 0]) (t := 30) ?hr ?_); (case hr => first | (go_simp; done) | (go_simp; rfl)); intro o hg w4 v I; replace b := vB b hg I; have i := mk0 (v); have n := bs (be1 G c) hg; replace G := kh1 G c I; have ⟨x, j⟩ := nn a hg; replace a := kb a I; clear I v hg; have ⟨dB, eB⟩ := no x j; have z6 := BN a.out) | ((with_reducible refine AR (f := 68) rfl ?_); refine Gd Try.func68 #[.slice B d.length D] ?_; (with_reducible refine (EQ.calls _ _ d t109 _ ?side1 ?side2 A2.out).mono ?_); (case side1 => exact cu X G); (case side2 => exact W.out); rintro e w7 ⟨v110, rfl, Y, I⟩; refine ⟨_, rfl, ?_⟩; replace b := mk0 (Kd.Az (Bj b.out) (Kd.BG Y) I); have J := mk0 (Kd.CS (Kd.Dn (M := fun r => (w.heap.size ≤ r)) Y (AQ (be2 G c n)) (fun r h_ => h_)) (AQ (be2 G c n))); obtain ⟨a, i⟩ := tb2 I a i; replace G := kh2 G c n I; (try clear Y); obtain ⟨T, U, cB⟩ := Kd.Bn J.out; subst cB; have z9 := BN a.out; have oB := BN i.out))
 refine bodyPost_ret (results_cell_row rfl _ _ o 30 #[.int .i64 k, .int .i64 l, .slice T t109.length U, .slice s g.length u] (0, 0) _ rfl (by refine Dt ?_; refine CV (cs := #[.int .i64 k, .int .i64 l, .slice T t109.length U, .slice none 0 0]) ?_ 3 _ rfl; refine Dt ?_; refine CV (cs := #[.int .i64 k, .int .i64 l, .slice none 0 0, .slice none 0 0]) ?_ 2 _ rfl; refine Dt ?_; refine CV (cs := #[.int .i64 k, .int .i64 0, .slice none 0 0, .slice none 0 0]) ?_ 1 _ rfl; refine Dt ?_; refine CV (cs := #[.int .i64 0, .int .i64 0, .slice none 0 0, .slice none 0 0]) ?_ 0 _ rfl; refine Dt ?_; refine EF ?_ j.out _; refine Dt ?_; exact i.out) Try.underlying30 rfl (by kernel_rfl)) rfl ?_
 exact ⟨_, _, rfl, by exact DZ (Kd.BC (rI (q := o) (Kd.PO (p := ⟨z, 2, none⟩) (Kd.Ao (Kd.Ao J.out a.out (by decide)) i.out (by decide)) (fun _ m => m.1.2) (.slice T t109.length U)) (fun _ m => m.2)) (fun _ m => m.1.1.1)), by exact BO (Kd.AL (vI (q := o) (Kd.PT (p := ⟨z, 2, none⟩) (Kd.AL (Kd.AL b.out (fun r m => (⟨m, m.1.1.2⟩ : _ ∧ r ≠ z))) (fun r m => (⟨m, m.1.1.2⟩ : _ ∧ r ≠ o))) (fun _ m => m.1.2) (.slice T t109.length U)) (fun _ m => m.2)) (fun _ m => ⟨m.1.1.1.1.1, m.1.1.2⟩)), be2 G c n⟩
def drivers_all.l0 : Nat → List (S63) → List (S63) → Int → Int → Option ((List (S63)))
 | 0, _, _, _, _ => none
 | k + 1, x3, c, d, b => if b < d then (if 0 ≤ b then (if b < (c.length : Int) then ((drivers_copied.f ((AA c b).f1.f0) ((AA c b).f1.f1) ((AA c b).f1.f2) ((AA c b).f1.f3)).bind fun a => (if x3.length < 1954687338268 then (drivers_all.l0 k (x3 ++ [(⟨(AA c b).f0, (⟨a.1, a.2.1, a.2.2.1, a.2.2.2⟩ : S30)⟩ : S63)]) c d (wrap64 (b + 1))) else (none))) else (none)) else (none)) else (some x3)
def drivers_all.f (k : Nat) (l0 : List (S63)) : Option ((List (S63))) := if 0 ≤ (l0.length : Int) then (if ((l0.length : Int) : Int).toNat ≤ 3909374676536 then (drivers_all.l0 k (([] : List (S63))) l0 (l0.length : Int) 0) else (none)) else (none)
def drivers_all.T5 : Bool × List (List Nat × List Nat) := (true, [([], []), ([], []), ([1], [1]), ([], []), ([3], [3]), ([4], [4]), ([2, 5], [2, 5]), ([6], [6]), ([0, 7, 5], [0, 7]), ([8, 8, 0, 1, 2, 3, 4, 5, 6, 7, 8], [0, 8])])
def drivers_all.B5 : List Nat := [0, 0, 2, 0, 8, 24, 62, 126, 255, 511]
theorem drivers_all.ND : Ct .any (opsOf Try.f52 5) = drivers_all.T5 := by kernel_rfl
theorem drivers_all.J2 : CW drivers_all.T5.2 drivers_all.B5 = true := by kernel_rfl
set_option maxHeartbeats 8000000 in
set_option maxRecDepth 100000 in
theorem drivers_all.calls {k : Nat} (B : Nat → Prop) {A0 : Option Addr} {c0 : Nat} {l0 r : List (S63)} {w : World} (lE : Kd.V k63 63 w w.heap.size (fun d => B d) (.slice A0 l0.length c0) l0) (h : drivers_all.f k l0 = some r) :
  Calls Try.prog 52 #[.slice A0 l0.length c0] w fun e w' => ∃ eE : Value, e = .returned (eE) ∧ Kd.N k63 63 w' w.heap.size (fun d => (B d ∨ w.heap.size ≤ d)) eE r ∧ Below w.heap.size w w' := by
 have sE := Try.underlying63
 have rE := Try.underlying30
 have yC := mk0 (show Kd.V k63 63 w w.heap.size (fun d => (B d ∨ w.heap.size ≤ d)) (.slice A0 l0.length c0) l0 from Kd.AL lE (fun d m => .inl m))
 have G := mk0 (Below.refl w.heap.size w)
 have H := h; unfold drivers_all.f at H
 clear h
 by_cases c2 : 0 ≤ (l0.length : Int)
 rotate_left
 ·rw [if_neg c2] at H
  exact absurd H (by simp)
 rw [if_pos c2] at H; have oD := eq_true c2; have pD : decide (0 ≤ (l0.length : Int)) = true := decide_eq_true c2; clear c2
 by_cases c3 : ((l0.length : Int) : Int).toNat ≤ 3909374676536
 rotate_left
 ·rw [if_neg c3] at H
  exact absurd H (by simp)
 rw [if_pos c3] at H; have qD := eq_true c3; have rD : decide (((l0.length : Int) : Int).toNat ≤ 3909374676536) = true := decide_eq_true c3; clear c3
 obtain ⟨wC, fB⟩ : ∃ y_ : List (S63), y_ = (([] : List (S63))) := ⟨_, rfl⟩
 replace H : (drivers_all.l0 k wC l0 (l0.length : Int) 0) = some r := by first | (rw [fB]; with_reducible exact H) | (have bC := (Option.bind_some _ _).symm.trans H; rw [fB]; with_reducible exact bC) | (have bC := (Option.bind_some _ _).symm.trans H; with_reducible exact bC) | with_reducible exact H | (rw [fB]; exact H) | exact H
 have jC := mk0 fB; clear fB
 have H' := mk0 H
 clear H
 go_enter Try.func52, Try.ntmps52
 go_wp2_with ((with_reducible refine FJ (N := 8) rfl ?_); refine Kd.N8 k63 _ 63 rfl (N' := 8) rfl 31 _ _ rfl (l0.length : Int) rfl rfl Try.underlying31 (.agg #[(.int .i64 0), (.int .i64 0), (.int .i64 0), (.slice none 0 0), (.slice none 0 0)]) 72 E9 rfl (by decide) (by omega) z63 (ok := fun d => w.heap.size ≤ d) (okp := fun _ => False) (Gp _ _ z63 (Nat.le_refl _) (Kd.K3 _ _ _) (Nat.le_refl _) (Kd.K3 _ _ _)) (fun _ m => m.elim) (Nat.le_refl _) (of_decide_eq_true (by assumption)) (Nat.le_trans (Nat.mul_le_mul_right _ (of_decide_eq_true (by assumption) : (l0.length : Int).toNat ≤ 3909374676536)) (by omega)) (Below.refl _ _) (Nat.le_refl _) ?_; intro v113 w4 hC hb kE gD; clear kE gD; (first | rw [← jC.out] at hC | (simp only [Int.reduceToNat] at hC; rw [← jC.out] at hC)); replace yC := mk0 (Kd.Az (Bj yC.out) (Kd.Bp hC) hb); have zC := mk0 (Kd.DF (Kd.Av (ok' := fun d => (B d ∨ w.heap.size ≤ d)) hC (fun d cC => (.inr (Nat.le_trans (AQ (be G)) cC)))) (AQ (be G))); replace G := kh G hb; clear hb hC)
 go_loopg [3, 11] k (fun kq v3 v11 w' => ∃ (L : List (S63)) (a : Int), v11 = .int .i64 a ∧ Aside0 (drivers_all.l0 kq L l0 (l0.length : Int) a = some r) ∧ Aside0 (kq ≤ k) ∧ Aside0 (Kd.N k63 63 w' w.heap.size (fun d => (B d ∨ w.heap.size ≤ d)) v3 L) ∧ Aside0 (Kd.V k63 63 w' w.heap.size (fun d => (B d ∨ w.heap.size ≤ d) ∧ some d ≠ (v3 : Value).ownBlock) (.slice A0 l0.length c0) l0) ∧ Aside0 (Below w.heap.size w w'))
 case atStart => exact ⟨(wC), (0), rfl, H', ⟨Nat.le_refl _⟩, ⟨D9 zC.out⟩, ⟨Bj yC.out⟩, ⟨be G⟩⟩
 case round =>
  clear H'
  try clear c2; try clear oD; try clear pD; try clear c3; try clear qD; try clear rD
  obtain ⟨L, a, rfl, HA, lD, y, z, G⟩ := hrel
  cases gk with
  | zero => exact absurd HA.out (by simp [drivers_all.l0])
  | succ k1 =>
   have H := HA.out; clear HA
   simp only [drivers_all.l0] at H
   replace H := iD' H; obtain ⟨-, sD, H⟩ | ⟨-, sD, H⟩ := H
   ·obtain rfl := sI H
    go_wp2
    go_ret
    exact ⟨_, rfl, D9 y.out, be G⟩
   replace H := iN H; obtain ⟨-, pE, H⟩ := H
   replace H := iN H; obtain ⟨-, qE, H⟩ := H
   replace H := Option.bind_eq_some_iff.mp H
   obtain ⟨⟨t117, zB, t119, aC⟩, hD, H⟩ := H
   replace H : (if L.length < 1954687338268 then (drivers_all.l0 k1 (L ++ [(⟨(AA l0 a).f0, (⟨t117, zB, t119, aC⟩ : S30)⟩ : S63)]) l0 (l0.length : Int) (wrap64 (a + 1))) else (none)) = some r := H
   have A9 := mk0 hD; clear hD
   by_cases c10 : L.length < 1954687338268
   rotate_left
   ·rw [if_neg c10] at H
    exact absurd H (by simp)
   rw [if_pos c10] at H; have bD := mk0 c10; clear c10
   obtain ⟨xC, gB⟩ : ∃ y_ : List (S63), y_ = (L ++ [(⟨(AA l0 a).f0, (⟨t117, zB, t119, aC⟩ : S30)⟩ : S63)]) := ⟨_, rfl⟩
   replace H : (drivers_all.l0 k1 xC l0 (l0.length : Int) (wrap64 (a + 1))) = some r := by first | (rw [gB]; with_reducible exact H) | (have bC := (Option.bind_some _ _).symm.trans H; rw [gB]; with_reducible exact bC) | (have bC := (Option.bind_some _ _).symm.trans H; with_reducible exact bC) | with_reducible exact H | (rw [gB]; exact H) | exact H
   have cD := mk0 gB; clear gB
   have H' := mk0 H
   clear H
   have eC : 0 ≤ (a : Int) := od
   have fC : a < (l0.length : Int) := od
   obtain ⟨dD, p, u, s, x, uD, wD, xD, yD, nC, oC, xB, uB, yB, wB⟩ := DV (Kd.AO z.out).2.2 a eC fC
   cases uD
   obtain ⟨jE, rC, qC, mB⟩ := Kd.FQ z.out z63 a eC (by first | exact fC | exact of_decide_eq_true (by assumption) | (have e_ := (Kd.AO z.out).1; omega))
   obtain ⟨aE, cE, bE, dE, rfl, hB, dB, jB, eB⟩ := DX qC
   have I := mB 3 _ rfl
   rw [BZ _ _ 3 (by omega)] at I
   replace I := Option.some.inj (I.symm.trans nC)
   injection I with hva_ hvn_ hvc_
   rw [hva_] at dB
   rw [hvc_] at hB
   have j := mk0 (show Kd.V (Kd.int .u8) 73 _ w.heap.size _ _ ((AA l0 a).f1.f2) from Kd.C8 hB dB)
   clear hva_ hvn_ hvc_ dB hB
   have J := mB 4 _ rfl
   rw [BZ _ _ 4 (by omega)] at J
   replace J := Option.some.inj (J.symm.trans oC)
   injection J with hva_ hvn_ hvc_
   rw [hva_] at eB
   rw [hvc_] at jB
   have l := mk0 (show Kd.V k30 30 _ w.heap.size _ _ ((AA l0 a).f1.f3) from Kd.C8 jB eB)
   clear hva_ hvn_ hvc_ eB jB; clear mB rC; have qB := mk0 uB; have iC := mk0 xB; clear uB xB; have sB := mk0 wB; have kD := mk0 yB; clear wB yB; replace eC := eq_true eC; replace fC := eq_true fC
   try go_wp2_with ((with_reducible refine AP rfl (N := 5) rfl (cs := #[.int .i64 0, .int .i64 0, .int .i64 0, .slice none 0 0, .slice none 0 0]) (t := 63) ?hr ?_); (case hr => first | (go_simp; done) | (go_simp; rfl)); intro b hg dC vC hb; obtain ⟨y, z, j, l⟩ := tg4 hg hb y z j l; obtain ⟨qB, sB⟩ := tb2 hb qB sB; have c := mk0 (vC); have D := bs (be G) hg; replace G := kh G hb; clear hb vC hg; have z12 := cells5 c.out)
   have U : Aside0 (Kd.N k63 63 (((((dC.setCell ⟨b, 0, none⟩ (.int .i64 ((AA l0 a).f0))).setCell ⟨b, 1, none⟩ (.int .i64 ((AA l0 a).f1.f0))).setCell ⟨b, 2, none⟩ (.int .i64 ((AA l0 a).f1.f1))).setCell ⟨b, 3, none⟩ (.slice p ((AA l0 a).f1.f2).length u)).setCell ⟨b, 4, none⟩ (.slice s ((AA l0 a).f1.f3).length x)) w.heap.size (fun d => (B d ∨ w.heap.size ≤ d) ∧ d ≠ b) u3 L) := ⟨DL (Kd.Av (nI (q := b) (Kd.Av y.out (fun d m => (⟨m, m.2⟩ : _ ∧ d ≠ b))) (fun _ m => m.2)) (fun _ m => ⟨m.1.1, m.1.2⟩))⟩
   have W : Aside0 (Kd.V k63 63 (((((dC.setCell ⟨b, 0, none⟩ (.int .i64 ((AA l0 a).f0))).setCell ⟨b, 1, none⟩ (.int .i64 ((AA l0 a).f1.f0))).setCell ⟨b, 2, none⟩ (.int .i64 ((AA l0 a).f1.f1))).setCell ⟨b, 3, none⟩ (.slice p ((AA l0 a).f1.f2).length u)).setCell ⟨b, 4, none⟩ (.slice s ((AA l0 a).f1.f3).length x)) w.heap.size (fun d => (B d ∨ w.heap.size ≤ d) ∧ some d ≠ (u3 : Value).ownBlock ∧ d ≠ b) (.slice (some dD) l0.length c0) l0) := ⟨BO (Kd.AL (vI (q := b) (Kd.AL z.out (fun d m => (⟨m, m.2⟩ : _ ∧ d ≠ b))) (fun _ m => m.2)) (fun _ m => ⟨m.1.1.1, ⟨m.1.1.2, m.1.2⟩⟩))⟩
   have X : Aside0 (Kd.V (Kd.int .u8) 73 (((((dC.setCell ⟨b, 0, none⟩ (.int .i64 ((AA l0 a).f0))).setCell ⟨b, 1, none⟩ (.int .i64 ((AA l0 a).f1.f0))).setCell ⟨b, 2, none⟩ (.int .i64 ((AA l0 a).f1.f1))).setCell ⟨b, 3, none⟩ (.slice p ((AA l0 a).f1.f2).length u)).setCell ⟨b, 4, none⟩ (.slice s ((AA l0 a).f1.f3).length x)) w.heap.size (fun d => (B d ∨ w.heap.size ≤ d) ∧ some d ≠ (u3 : Value).ownBlock ∧ d ≠ b) (.slice p ((AA l0 a).f1.f2).length u) ((AA l0 a).f1.f2)) := ⟨BO (Kd.AL (vI (q := b) (Kd.AL j.out (fun d m => (⟨m, m.2⟩ : _ ∧ d ≠ b))) (fun _ m => m.2)) (fun _ m => ⟨m.1.1.1, ⟨m.1.1.2, m.1.2⟩⟩))⟩
   have Y : Aside0 (Kd.V k30 30 (((((dC.setCell ⟨b, 0, none⟩ (.int .i64 ((AA l0 a).f0))).setCell ⟨b, 1, none⟩ (.int .i64 ((AA l0 a).f1.f0))).setCell ⟨b, 2, none⟩ (.int .i64 ((AA l0 a).f1.f1))).setCell ⟨b, 3, none⟩ (.slice p ((AA l0 a).f1.f2).length u)).setCell ⟨b, 4, none⟩ (.slice s ((AA l0 a).f1.f3).length x)) w.heap.size (fun d => (B d ∨ w.heap.size ≤ d) ∧ some d ≠ (u3 : Value).ownBlock ∧ d ≠ b) (.slice s ((AA l0 a).f1.f3).length x) ((AA l0 a).f1.f3)) := ⟨BO (Kd.AL (vI (q := b) (Kd.AL l.out (fun d m => (⟨m, m.2⟩ : _ ∧ d ≠ b))) (fun _ m => m.2)) (fun _ m => ⟨m.1.1.1, ⟨m.1.1.2, m.1.2⟩⟩))⟩
   have Z : Aside0 ((((((dC.setCell ⟨b, 0, none⟩ (.int .i64 ((AA l0 a).f0))).setCell ⟨b, 1, none⟩ (.int .i64 ((AA l0 a).f1.f0))).setCell ⟨b, 2, none⟩ (.int .i64 ((AA l0 a).f1.f1))).setCell ⟨b, 3, none⟩ (.slice p ((AA l0 a).f1.f2).length u)).setCell ⟨b, 4, none⟩ (.slice s ((AA l0 a).f1.f3).length x)).heap[b]? = some (.cells #[.int .i64 ((AA l0 a).f0), .int .i64 ((AA l0 a).f1.f0), .int .i64 ((AA l0 a).f1.f1), .slice p ((AA l0 a).f1.f2).length u, .slice s ((AA l0 a).f1.f3).length x] 63 (0, 0))) := ⟨pB c⟩
   have bB : Aside0 (Below w.heap.size w (((((dC.setCell ⟨b, 0, none⟩ (.int .i64 ((AA l0 a).f0))).setCell ⟨b, 1, none⟩ (.int .i64 ((AA l0 a).f1.f0))).setCell ⟨b, 2, none⟩ (.int .i64 ((AA l0 a).f1.f1))).setCell ⟨b, 3, none⟩ (.slice p ((AA l0 a).f1.f2).length u)).setCell ⟨b, 4, none⟩ (.slice s ((AA l0 a).f1.f3).length x))) := ⟨be1 G D⟩
   try clear y
   try clear z
   try clear j
   try clear l
   try clear c
   try clear G
   generalize (((((dC.setCell ⟨b, 0, none⟩ (.int .i64 ((AA l0 a).f0))).setCell ⟨b, 1, none⟩ (.int .i64 ((AA l0 a).f1.f0))).setCell ⟨b, 2, none⟩ (.int .i64 ((AA l0 a).f1.f1))).setCell ⟨b, 3, none⟩ (.slice p ((AA l0 a).f1.f2).length u)).setCell ⟨b, 4, none⟩ (.slice s ((AA l0 a).f1.f3).length x)) = nE at U W X Y Z bB ⊢
   have y := U; have z := W; have j := X; have l := Y; have c := Z; have G := bB; clear U W X Y Z bB
   have U := mk0 (Kd.DR y.out)
   have W := mk0 (Kd.BU z.out)
   have X := mk0 (Kd.BU j.out)
   have Y := mk0 (Kd.BU l.out)
   have Z := mk0 (AX c.out)
   have bB := mk0 (Ad G.out)
   clear y; clear z; clear j; clear l; clear c; clear G; have y := U; have z := W; have j := X; have l := Y; have c := Z; have G := bB; clear U W X Y Z bB
   refine Cz (n := 10) (S := fun w' => w'.cell? ⟨b, 0, none⟩ = some (.int .i64 ((AA l0 a).f0)) ∧ w'.cell? ⟨b, 1, none⟩ = some (.int .i64 ((AA l0 a).f1.f0)) ∧ w'.cell? ⟨b, 2, none⟩ = some (.int .i64 ((AA l0 a).f1.f1)) ∧ w'.cell? ⟨b, 3, none⟩ = some (.slice p ((AA l0 a).f1.f2).length u) ∧ w'.cell? ⟨b, 4, none⟩ = some (.slice s ((AA l0 a).f1.f3).length x)) (ds := []) (tf 0 10) (by kernel_rfl) rfl rfl ⟨bc c 0, bc c 1, bc c 2, bc c 3, bc c 4⟩ (fun T => ?_); refine Bz drivers_all.ND drivers_all.J2 (fun cB mD => ?_)
   generalize nE.drew = dF at y z j l c G T ⊢
   refine pv 0 15 (tf 1 9) cB ?_
   refine pv 1 16 (tf 2 8) cB ?_
   refine pv 3 18 #[true, true, false, true, false, false, false, false, false, false] cB ?_
   refine Bl (i := 2) (N := some 17) (v := ?_) (a' := ?_) (tf 4 6) rfl rfl (Aj cB.out mD.out (by kernel_rfl)) (fun _ _ _ h => h) (Or.inl ⟨by rfl, ?_⟩) T ?_ ?_
   rotate_left
   ·rintro w' ⟨s0, s1, s2, s3, s4⟩
    go_simp
    with_reducible rfl
   rotate_left
   ·simp only [ps]
    rfl
   refine Bl (i := 4) (N := some 19) (v := ?_) (a' := ?_) (tf 5 5) rfl rfl (Aj cB.out mD.out (by kernel_rfl)) (fun _ _ _ h => h) (Or.inl ⟨by rfl, ?_⟩) T ?_ ?_
   rotate_left
   ·rintro w' ⟨s0, s1, s2, s3, s4⟩
    go_simp
    with_reducible rfl
   rotate_left
   ·simp only [ps]
    rfl
   refine DN (i := 5) (N := some 20) (tf 6 4) rfl rfl (Bv cB.out (by kernel_rfl)) (by decide) (fun K hK => ?_)
   refine Cx Try.func51 (by kernel_rfl) rfl #[.agg #[.int .i64 ((AA l0 a).f1.f0), .int .i64 ((AA l0 a).f1.f1), .slice p ((AA l0 a).f1.f2).length u, .slice s ((AA l0 a).f1.f3).length x]] (by rfl) rfl rfl (by (try simp only [List.map_toArray, List.map_cons, List.map_nil]); first | done | rfl | (simp only [List.length_drop, List.length_take]; rfl)) ?_
   with_reducible refine (drivers_copied.calls (fun d => ((B d ∨ w.heap.size ≤ d) ∧ (some d ≠ (u3 : Value).ownBlock ∧ d ≠ b))) ?side1 ?side2 ?side3 A9.out).mono ?_
   (case side1 => exact ((Kd.AO (Bj j.out)).2.2))
   (case side2 => exact iC.out)
   (case side3 => exact l.out)
   rintro e eF ⟨v120, v123, rfl, gC, vD, hb⟩
   refine ⟨_, rfl, ?_⟩
   have U := mk0 (Kd.Fz (D9 y.out) (Kd.BG gC) hb)
   have W := mk0 (Kd.Az (Bj z.out) (Kd.BG gC) hb)
   have X := mk0 (Kd.Az (Bj j.out) (Kd.BG gC) hb)
   have Y := mk0 (Kd.Az (Bj l.out) (Kd.BG gC) hb)
   have Z := mk0 (Kd.CS (Kd.Dn (M := fun d => (w.heap.size ≤ d)) (Kd.BC (ok' := fun d => True) gC (fun _ cC => trivial)) (AQ (be1 G D)) (fun d h_ => h_)) (AQ (be1 G D)))
   have bB := mk0 (Kd.Dm (Kd.AL (ok' := fun d => (B d ∨ w.heap.size ≤ d) ∧ some d ≠ (v120 : Value).ownBlock ∧ some d ≠ (u3 : Value).ownBlock ∧ d ≠ b) vD (fun d cC => ⟨Or.elim cC.1 (fun mC => mC.1) (fun lC => (.inr (Nat.le_trans (AQ (be1 G D)) lC))), cC.2, Or.elim cC.1 (fun mC => mC.2.1) (fun lC => (Kd.fresh' (Kd.Gy (D9 y.out)) d lC)), Or.elim cC.1 (fun mC => mC.2.2) (fun lC => (Kd.Al (g := b) (o := .cells #[.int .i64 ((AA l0 a).f0), .int .i64 ((AA l0 a).f1.f0), .int .i64 ((AA l0 a).f1.f1), .slice p ((AA l0 a).f1.f2).length u, .slice s ((AA l0 a).f1.f3).length x] 63 (0, 0)) (AY c.out) d lC))⟩)) (AQ (be1 G D)))
   have pC := kb c hb
   have zD := kh1 G D hb
   clear y; clear z; clear j; clear l; clear c; clear G; have y := U; have z := W; have j := X; have l := Y; have kB := Z; have O := bB; have c := pC; have G := zD; clear U W X Y Z bB pC zD
   try clear hb
   try clear m
   try clear gC
   try clear vD
   obtain ⟨jD, tD, sC⟩ := Kd.Bu O.out
   (first | subst sC | (injection sC with f1_ f2_ f3_; have eD := f1_.symm; have fD := f3_.symm; clear f1_ f2_ f3_; subst eD; subst fD))
   obtain ⟨oB, tB, tC⟩ := Kd.Bn kB.out
   (first | subst tC | (injection tC with f1_ f2_ f3_; have eD := f1_.symm; have fD := f3_.symm; clear f1_ f2_ f3_; subst eD; subst fD))
   refine hK.out _ _ ⟨bc c 0, bc c 1, bc c 2, bc c 3, bc c 4⟩ (fun T => ?_)
   clear hK K
   refine CJ (a' := ?_) ?_ ?_
   rotate_left
   ·show Act.put _ (some 20) _ = _
    simp only [ps]
    rfl
   refine pv 6 21 (tf 7 3) cB ?_
   refine DN (i := 7) (N := some 22) (tf 8 2) rfl rfl (Bv cB.out (by kernel_rfl)) (by decide) (fun K hK => ?_)
   refine CU (w1 := ?_) (v := ?_) (by rfl) rfl ?_ ?_
   rotate_left 2
   ·go_simp
    constructor
    ·rfl
    ·rfl
   refine hK.out _ _ ⟨(Ai (Ac c.out _) 0).trans rfl, (Ai (Ac c.out _) 1).trans rfl, (Ai (Ac c.out _) 2).trans rfl, (Ai (Ac c.out _) 3).trans rfl, (Ai (Ac c.out _) 4).trans rfl⟩ (fun T => ?_)
   clear hK K
   refine CJ (a' := ?_) ?_ ?_
   rotate_left
   ·show Act.put _ (some 22) _ = _
    simp only [ps]
    rfl
   refine DN (i := 8) (N := some 23) (tf 9 1) rfl rfl (Bv cB.out (by kernel_rfl)) (by decide) (fun K hK => ?_)
   refine Kd.E5 k63 (w0 := w) w.heap.size (by rfl) (.tmp 15) (.tmp 22) 31 63 (.agg #[(.int .i64 0), (.int .i64 0), (.int .i64 0), (.slice none 0 0), (.slice none 0 0)]) 72 rfl Try.underlying31 E9 rfl (by decide) (by omega) u3 L (⟨(AA l0 a).f0, (⟨t117, zB, t119, aC⟩ : S30)⟩ : S63) [.int .i64 ((AA l0 a).f0), .int .i64 t117, .int .i64 zB, .slice oB t119.length tB, .slice jD aC.length tD] (fun d => (B d ∨ w.heap.size ≤ d) ∧ d ≠ b) (fun d => ((fun d => (B d ∨ w.heap.size ≤ d) ∧ d ≠ b)) d ∧ some d ≠ (u3 : Value).ownBlock) rfl rfl ?aP (fun _ m => m) ?aF ?aO ?aB ?aS ?aL ?_
   (case aP => exact (Gp _ _ (⟨(AA l0 a).f0, (⟨t117, zB, t119, aC⟩ : S30)⟩ : S63) (Kd.C9 (Kd.BC (ok' := (fun d => ((fun d => (B d ∨ w.heap.size ≤ d) ∧ d ≠ b)) d ∧ some d ≠ (u3 : Value).ownBlock)) (Kd.Ao (Kd.Ca (kB.out) (Kd.DD y.out) (by decide)) c.out (by decide)) (fun d m => ⟨⟨(.inr (m.1.1.1)), m.2⟩, m.1.2⟩))).2.1 (Kd.R_F (Kd.BC (ok' := (fun d => ((fun d => (B d ∨ w.heap.size ≤ d) ∧ d ≠ b)) d ∧ some d ≠ (u3 : Value).ownBlock)) (Kd.Ao (Kd.Ca (kB.out) (Kd.DD y.out) (by decide)) c.out (by decide)) (fun d m => ⟨⟨(.inr (m.1.1.1)), m.2⟩, m.1.2⟩))) (Kd.AO (Kd.AL (ok' := (fun d => ((fun d => (B d ∨ w.heap.size ≤ d) ∧ d ≠ b)) d ∧ some d ≠ (u3 : Value).ownBlock)) (O.out) (fun d m => ⟨⟨m.1, m.2.2.2⟩, m.2.2.1⟩))).2.1 (Kd.V_F (Kd.AL (ok' := (fun d => ((fun d => (B d ∨ w.heap.size ≤ d) ∧ d ≠ b)) d ∧ some d ≠ (u3 : Value).ownBlock)) (O.out) (fun d m => ⟨⟨m.1, m.2.2.2⟩, m.2.2.1⟩)))))
   (case aB => exact (be1 G D))
   (case aF => exact (fun d m => ⟨(.inr (Nat.le_trans (AQ (be1 G D)) m)), Kd.Al (g := b) (o := .cells #[.int .i64 ((AA l0 a).f0), .int .i64 ((AA l0 a).f1.f0), .int .i64 ((AA l0 a).f1.f1), .slice p ((AA l0 a).f1.f2).length u, .slice s ((AA l0 a).f1.f3).length x] 63 (0, 0)) (AY c.out) d m⟩))
   (case aO => exact (DL (Kd.Av y.out (fun _ m => ⟨m.1.1, m.1.2⟩))))
   (case aS => exact (AQ (be1 G D)))
   (case aL => have := bD.out; omega)
   intro v126 fF ho hb hg kC
   rw [← cD.out] at ho
   have U := mk0 (Kd.Bt (ok := (fun d => (B d ∨ w.heap.size ≤ d) ∧ some d ≠ (.slice oB t119.length tB : Value).ownBlock ∧ d ≠ b)) (BO (Kd.AL z.out (fun _ m => ⟨⟨m.1.1, ⟨m.2, m.1.2.2⟩⟩, m.1.2.1⟩))) hg kC)
   have W := mk0 (Kd.Bt (ok := (fun d => (B d ∨ w.heap.size ≤ d) ∧ some d ≠ (.slice oB t119.length tB : Value).ownBlock ∧ d ≠ b)) (BO (Kd.AL j.out (fun _ m => ⟨⟨m.1.1, ⟨m.2, m.1.2.2⟩⟩, m.1.2.1⟩))) hg kC)
   have X := mk0 (Kd.Bt (ok := (fun d => (B d ∨ w.heap.size ≤ d) ∧ some d ≠ (.slice oB t119.length tB : Value).ownBlock ∧ d ≠ b)) (BO (Kd.AL l.out (fun _ m => ⟨⟨m.1.1, ⟨m.2, m.1.2.2⟩⟩, m.1.2.1⟩))) hg kC)
   have Y := mk0 (Bg (g := b) (o := .cells #[.int .i64 ((AA l0 a).f0), .int .i64 ((AA l0 a).f1.f0), .int .i64 ((AA l0 a).f1.f1), .slice p ((AA l0 a).f1.f2).length u, .slice s ((AA l0 a).f1.f3).length x] 63 (0, 0)) (AY c.out) hg (Kd.Mj y.out (fun _ m => m.1.2)))
   have Z := mk0 (Kd.Bt (ok := (fun d => (B d ∨ w.heap.size ≤ d) ∧ some d ≠ (.slice oB t119.length tB : Value).ownBlock ∧ d ≠ b)) (BO (Kd.AL O.out (fun _ m => ⟨⟨m.1, ⟨m.2.1, m.2.2.2⟩⟩, m.2.2.1⟩))) hg kC)
   have bB := mk0 (hb)
   have pC := mk0 (ho)
   clear z; clear j; clear l; clear c; clear O; clear G; clear y; clear kB; have z := U; have j := W; have l := X; have c := Y; have O := Z; have G := bB; have aD := pC; clear U W X Y Z bB pC; clear ho hb hg kC
   refine hK.out _ _ ⟨bc c 0, bc c 1, bc c 2, bc c 3, bc c 4⟩ (fun T => ?_)
   clear hK K
   refine CJ (a' := ?_) ?_ ?_
   rotate_left
   ·show Act.put _ (some 23) _ = _
    simp only [ps]
    rfl
   refine pv 9 3 (tf 10 0) cB ?_
   refine Dv (Cu cB.out (by kernel_rfl)) ?_
   try go_wp2
   go_roundg k1
   case measure => have := lD.out; omega
   case rel => exact ⟨(xC), (wrap64 (a + 1)), rfl, H', ⟨by have := lD.out; omega⟩, ⟨DL (Kd.Av aD.out (fun _ m => m.1))⟩, ⟨BO (Kd.AL z.out (fun _ m => ⟨m.1.1, m.2⟩))⟩, ⟨be1 G D⟩⟩
end Go.Proofs.Ytojankgmedccdaa.PAw
