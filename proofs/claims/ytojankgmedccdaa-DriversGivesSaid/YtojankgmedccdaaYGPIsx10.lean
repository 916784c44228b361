/- Lemmas for LawDriversGives. -/
import Derived.Test.YtojankgmedccdaaYGPIsx6
import Derived.Test.YtojankgmedccdaaYGPIsx8
namespace Go.Proofs.Ytojankgmedccdaa.PIs
open Go.RowKit Own PTy Hand YtojankgmedccdaaW.PrintWords YtojankgmedccdaaW.PrintLast YtojankgmedccdaaW.PrintMore
attribute [local go_sem] BI BJ Be Bf Ar Au BK BL
set_option linter.unusedVariables false
set_option linter.unusedSimpArgs false
def Br.f (d : Int) (c : Int) (b : List Int) (a : List (S30)) (g : Bool) (e : Bool) (a3 : Bool) : Option (Bool) := if g = true then (if e = true then (if a3 = true then (some true) else (some ((a.length : Int) == 0))) else (if (b.length : Int) = 0 then (if a3 = true then (some true) else (some ((a.length : Int) == 0))) else (some false))) else (if c = 0 then (if e = true then (if a3 = true then (some true) else (some ((a.length : Int) == 0))) else (if (b.length : Int) = 0 then (if a3 = true then (some true) else (some ((a.length : Int) == 0))) else (some false))) else (some false))
set_option maxHeartbeats 8000000 in
set_option maxRecDepth 100000 in
theorem Br.calls {m n : Int} {k : Option Addr} {o : Nat} {d : List Int} {l : Option Addr} {p : Nat} {g : List (S30)} {a1 a2 a3 r : Bool} {w : World} (v : Kd.C (Kd.int .u8) w k d.length d) (s : d.length ≤ o) (x : Kd.C k30 w l g.length g) (u : g.length ≤ p) (h : Br.f m n d g a1 a2 a3 = some r) :
  Calls Try.prog 80 #[.agg #[.int .i64 m, .int .i64 n, .slice k d.length o, .slice l g.length p], .bool a1, .bool a2, .bool a3] w fun e w' => e = .returned (.bool r) ∧ Below w.heap.size w w' := by
 have cB := Try.underlying30
 have O := mk0 v; have J := mk0 s; clear v s; have T := mk0 x; have L := mk0 u; clear x u
 have i := mk0 (Below.refl w.heap.size w)
 have H := h; unfold Br.f at H
 clear h
 replace H := iB H; obtain ⟨rfl, H⟩ | ⟨rfl, H⟩ := H
 ·replace H := iB H; obtain ⟨rfl, H⟩ | ⟨rfl, H⟩ := H
  ·replace H := iB H; obtain ⟨rfl, H⟩ | ⟨rfl, H⟩ := H
   ·obtain rfl := sI H
    go_enter Try.func80, Try.ntmps80
    go_wp2_with ((with_reducible refine AP rfl (N := 4) rfl (cs := #[.int .i64 m, .int .i64 n, .slice k d.length o, .slice l g.length p]) (t := 30) ?hr ?_); (case hr => first | (go_simp; done) | (go_simp; rfl)); intro j hg w8 a q; have c := mk0 (a); have b := bs (be i) hg; replace i := kh i q; clear q a hg)
    go_ret
    exact ⟨rfl, be1 i b⟩
   obtain rfl := sI H
   go_enter Try.func80, Try.ntmps80
   go_wp2_with ((with_reducible refine AP rfl (N := 4) rfl (cs := #[.int .i64 m, .int .i64 n, .slice k d.length o, .slice l g.length p]) (t := 30) ?hr ?_); (case hr => first | (go_simp; done) | (go_simp; rfl)); intro j hg w9 a q; have c := mk0 (a); have b := bs (be i) hg; replace i := kh i q; clear q a hg; have qB := BN c.out)
   go_ret
   exact ⟨rfl, be1 i b⟩
  replace H := iE' H; obtain ⟨U, y, z, H⟩ | ⟨y, z, H⟩ := H
  ·have W : ¬ (d = []) := fun Z => U (by rw [Z]; rfl)
   obtain rfl := sI H
   go_enter Try.func80, Try.ntmps80
   go_wp2_with ((with_reducible refine AP rfl (N := 4) rfl (cs := #[.int .i64 m, .int .i64 n, .slice k d.length o, .slice l g.length p]) (t := 30) ?hr ?_); (case hr => first | (go_simp; done) | (go_simp; rfl)); intro j hg gB a q; have c := mk0 (a); have b := bs (be i) hg; replace i := kh i q; clear q a hg; have uB := BN c.out)
   go_ret
   exact ⟨rfl, be1 i b⟩
  replace H := iB H; obtain ⟨rfl, H⟩ | ⟨rfl, H⟩ := H
  ·obtain rfl := sI H
   go_enter Try.func80, Try.ntmps80
   go_wp2_with ((with_reducible refine AP rfl (N := 4) rfl (cs := #[.int .i64 m, .int .i64 n, .slice k d.length o, .slice l g.length p]) (t := 30) ?hr ?_); (case hr => first | (go_simp; done) | (go_simp; rfl)); intro j hg eB a q; have c := mk0 (a); have b := bs (be i) hg; replace i := kh i q; clear q a hg; have sB := BN c.out)
   go_ret
   exact ⟨rfl, be1 i b⟩
  obtain rfl := sI H
  go_enter Try.func80, Try.ntmps80
  go_wp2_with ((with_reducible refine AP rfl (N := 4) rfl (cs := #[.int .i64 m, .int .i64 n, .slice k d.length o, .slice l g.length p]) (t := 30) ?hr ?_); (case hr => first | (go_simp; done) | (go_simp; rfl)); intro j hg fB a q; have c := mk0 (a); have b := bs (be i) hg; replace i := kh i q; clear q a hg; have tB := BN c.out)
  go_ret
  exact ⟨rfl, be1 i b⟩
 replace H := iE' H; obtain ⟨dB, B, D, H⟩ | ⟨B, D, H⟩ := H
 ·obtain rfl := sI H
  go_enter Try.func80, Try.ntmps80
  go_wp2_with ((with_reducible refine AP rfl (N := 4) rfl (cs := #[.int .i64 m, .int .i64 n, .slice k d.length o, .slice l g.length p]) (t := 30) ?hr ?_); (case hr => first | (go_simp; done) | (go_simp; rfl)); intro j hg oB a q; have c := mk0 (a); have b := bs (be i) hg; replace i := kh i q; clear q a hg; have z35 := BN c.out)
  go_ret
  exact ⟨rfl, be1 i b⟩
 replace H := iB H; obtain ⟨rfl, H⟩ | ⟨rfl, H⟩ := H
 ·replace H := iB H; obtain ⟨rfl, H⟩ | ⟨rfl, H⟩ := H
  ·obtain rfl := sI H
   go_enter Try.func80, Try.ntmps80
   go_wp2_with ((with_reducible refine AP rfl (N := 4) rfl (cs := #[.int .i64 m, .int .i64 n, .slice k d.length o, .slice l g.length p]) (t := 30) ?hr ?_); (case hr => first | (go_simp; done) | (go_simp; rfl)); intro j hg hB a q; have c := mk0 (a); have b := bs (be i) hg; replace i := kh i q; clear q a hg; have z23 := BN c.out)
   go_ret
   exact ⟨rfl, be1 i b⟩
  obtain rfl := sI H
  go_enter Try.func80, Try.ntmps80
  go_wp2_with ((with_reducible refine AP rfl (N := 4) rfl (cs := #[.int .i64 m, .int .i64 n, .slice k d.length o, .slice l g.length p]) (t := 30) ?hr ?_); (case hr => first | (go_simp; done) | (go_simp; rfl)); intro j hg jB a q; have c := mk0 (a); have b := bs (be i) hg; replace i := kh i q; clear q a hg; have z25 := BN c.out)
  go_ret
  exact ⟨rfl, be1 i b⟩
 replace H := iE' H; obtain ⟨X, G, I, H⟩ | ⟨G, I, H⟩ := H
 ·have Y : ¬ (d = []) := fun Z => X (by rw [Z]; rfl)
  obtain rfl := sI H
  go_enter Try.func80, Try.ntmps80
  go_wp2_with ((with_reducible refine AP rfl (N := 4) rfl (cs := #[.int .i64 m, .int .i64 n, .slice k d.length o, .slice l g.length p]) (t := 30) ?hr ?_); (case hr => first | (go_simp; done) | (go_simp; rfl)); intro j hg mB a q; have c := mk0 (a); have b := bs (be i) hg; replace i := kh i q; clear q a hg; have z33 := BN c.out)
  go_ret
  exact ⟨rfl, be1 i b⟩
 replace H := iB H; obtain ⟨rfl, H⟩ | ⟨rfl, H⟩ := H
 ·obtain rfl := sI H
  go_enter Try.func80, Try.ntmps80
  go_wp2_with ((with_reducible refine AP rfl (N := 4) rfl (cs := #[.int .i64 m, .int .i64 n, .slice k d.length o, .slice l g.length p]) (t := 30) ?hr ?_); (case hr => first | (go_simp; done) | (go_simp; rfl)); intro j hg kB a q; have c := mk0 (a); have b := bs (be i) hg; replace i := kh i q; clear q a hg; have z29 := BN c.out)
  go_ret
  exact ⟨rfl, be1 i b⟩
 obtain rfl := sI H
 go_enter Try.func80, Try.ntmps80
 go_wp2_with ((with_reducible refine AP rfl (N := 4) rfl (cs := #[.int .i64 m, .int .i64 n, .slice k d.length o, .slice l g.length p]) (t := 30) ?hr ?_); (case hr => first | (go_simp; done) | (go_simp; rfl)); intro j hg lB a q; have c := mk0 (a); have b := bs (be i) hg; replace i := kh i q; clear q a hg; have z31 := BN c.out)
 go_ret
 exact ⟨rfl, be1 i b⟩
def Cf.j0 : Nat → Int → Bool → Int → Int → ByteArray → List ByteArray → List (S26) → Int → Int → List Int → List (S30) → Option (Bool)
 | 0, _, _, _, _, _, _, _, _, _, _, _ => none
 | k + 1, h, s, p, e, q, g, r, d, a, b, c => if s = true then ((Br.f d a b c false true false).bind fun i => (if i = true then ((FT.f b).bind fun j => (if j = true then (some ((b.length : Int) == (mx e 1))) else (some false))) else (some false))) else (if h = 2 then ((Br.f d a b c true false false).bind fun l => (if l = true then (if a = 0 then (some true) else (some (a == 1))) else (some false))) else (if h = 3 then ((Br.f d a b c true false false).bind fun m => (if m = true then (if a ≥ (-2147483648) then (some (decide (a ≤ 2147483647))) else (some false)) else (some false))) else (if h = 5 then ((Br.f d a b c true false false).bind fun n => (if n = true then (if a ≥ 0 then (some (decide (a < (g.length : Int)))) else (some false)) else (some false))) else ((Br.f d a b c false false true).bind fun o => (if o = true then (if (c.length : Int) = e then (none) else (some false)) else (some false))))))
def Cf.f (k : Nat) (a : Int) (c : Int) (d : ByteArray) (g : List ByteArray) (h : List (S26)) (b : Int) (e : Int) (i : List Int) (j : List (S30)) : Option (Bool) := if b = a then (if a = 1 then (Cf.j0 k a (a == 1) a c d g h b e i j) else (Cf.j0 k a (a == 4) a c d g h b e i j)) else (some false)
set_option maxHeartbeats 8000000 in
set_option maxRecDepth 100000 in
theorem Cf.calls {k : Nat} {v x : Int} {I : ByteArray} {L : Option Addr} {W : Nat} {y : List ByteArray} {O : Option Addr} {X : Nat} {z : List (S26)} {J q : Int} {T : Option Addr} {Y : Nat} {s : List Int} {U : Option Addr} {Z : Nat} {B : List (S30)} {r : Bool} {w : World} (hB : Kd.C Kd.string w L y.length y) (dB : y.length ≤ W) (jB : Kd.C k26 w O z.length z) (eB : z.length ≤ X) (kB : Kd.C (Kd.int .u8) w T s.length s) (fB : s.length ≤ Y) (lB : Kd.C k30 w U B.length B) (gB : B.length ≤ Z) (h : Cf.f k v x I y z J q s B = some r) :
  Calls Try.prog 67 #[.agg #[.int .i64 v, .int .i64 x, .string I, .slice L y.length W, .slice O z.length X], .agg #[.int .i64 J, .int .i64 q, .slice T s.length Y, .slice U B.length Z]] w fun e w' => e = .returned (.bool r) ∧ Below w.heap.size w w' := by
 have cE := Try.underlying26
 have dE := Try.underlying30
 have tC := mk0 hB; have rC := mk0 dB; clear hB dB; have uC := mk0 jB; have sC := mk0 eB; clear jB eB; have m := mk0 kB; have l := mk0 fB; clear kB fB; have o := mk0 lB; have n := mk0 gB; clear lB gB
 have j := mk0 (Below.refl w.heap.size w)
 have H := h; unfold Cf.f at H
 clear h
 replace H := iE' H; obtain ⟨c3, oB, qB, H⟩ | ⟨oB, qB, H⟩ := H
 ·obtain rfl := sI H
  go_enter Try.func67, Try.ntmps67
  go_wp2_with (first | ((with_reducible refine AP rfl (N := 2) rfl (cs := #[.int .i64 v, .int .i64 x, .string I, .slice L y.length W, .slice O z.length X]) (t := 26) ?hr ?_); (case hr => first | (go_simp; done) | (go_simp; rfl)); intro bB hg mF u p; have b := mk0 (u); have c := bs (be j) hg; replace j := kh j p; clear p u hg) | ((with_reducible refine AP rfl (N := 3) rfl (cs := #[.int .i64 J, .int .i64 q, .slice T s.length Y, .slice U B.length Z]) (t := 30) ?hr ?_); (case hr => first | (go_simp; done) | (go_simp; rfl)); intro cB hg oF u p; have a := mk0 (u); have i := bs (be1 j c) hg; replace j := kh1 j c p; have ⟨d, g⟩ := nn b hg; replace b := kb b p; clear p u hg; have ⟨kD, zD⟩ := no g d; have z89 := BN a.out; have rF := cells5 b.out))
  go_ret
  exact ⟨rfl, be2 j c i⟩
 have yB := mk0 H; clear H
 go_enter Try.func67, Try.ntmps67
 go_upto_if 12 with (first | ((with_reducible refine AP rfl (N := 2) rfl (cs := #[.int .i64 v, .int .i64 x, .string I, .slice L y.length W, .slice O z.length X]) (t := 26) ?hr ?_); (case hr => first | (go_simp; done) | (go_simp; rfl)); intro bB hg w5 u p; have b := mk0 (u); have c := bs (be j) hg; replace j := kh j p; clear p u hg) | ((with_reducible refine AP rfl (N := 3) rfl (cs := #[.int .i64 J, .int .i64 q, .slice T s.length Y, .slice U B.length Z]) (t := 30) ?hr ?_); (case hr => first | (go_simp; done) | (go_simp; rfl)); intro cB hg w6 u p; have a := mk0 (u); have i := bs (be1 j c) hg; replace j := kh1 j c p; have ⟨d, g⟩ := nn b hg; replace b := kb b p; clear p u hg; have ⟨aE, bE⟩ := no g d; have z8 := BN a.out; have z9 := cells5 b.out))
 (try simp only [Act.put, List.setIfInBounds_toArray, List.set_cons_zero, List.set_cons_succ])
 go_cut [12] (fun v12 wc => ∃ (kq : Nat) (aB : Bool), v12 = .bool aB ∧ Aside0 (Cf.j0 kq v aB v x I y z J q s B = some r) ∧ Aside0 (kq ≤ k) ∧ Aside0 (wc.heap[bB]? = some (.cells #[.int .i64 v, .int .i64 x, .string I, (.slice L y.length W), (.slice O z.length X)] 26 (0, 0))) ∧ Aside0 (wc.heap[cB]? = some (.cells #[.int .i64 J, .int .i64 q, (.slice T s.length Y), (.slice U B.length Z)] 30 (0, 0))) ∧ Aside0 (Below w.heap.size w wc))
 case first =>
  have H := yB.out; clear yB
  replace H := iE' H; obtain ⟨mE, G, zB, H⟩ | ⟨G, zB, H⟩ := H
  ·(first | rw [G] | (simp only [CP, Dj]; rw [G]) | skip)
   have H' := mk0 H
   clear H
   go_wp2
   go_meet
   case rel => exact ⟨_, ((v == 4)), rfl, H', ⟨by omega⟩, ⟨bu b⟩, ⟨bu a⟩, ⟨be2 j c i⟩⟩
  (first | rw [G] | (simp only [CP, Dj]; rw [G]) | skip)
  have H' := mk0 H
  clear H
  go_wp2
  go_meet
  case rel => exact ⟨_, ((v == 1)), (by first | rfl | (simp; done) | (simp [*]; done)), H', ⟨by omega⟩, ⟨bu b⟩, ⟨bu a⟩, ⟨be2 j c i⟩⟩
 case rest =>
  clear yB; try clear c3; try clear oB; try clear qB
  obtain ⟨kq, aB, rfl, HA, lE, b, a, j⟩ := hcut
  cases kq with
  | zero => exact absurd HA.out (by simp [Cf.j0])
  | succ tE =>
   have H := HA.out; clear HA
   simp only [Cf.j0] at H
   replace H := iB H; obtain ⟨rfl, H⟩ | ⟨rfl, H⟩ := H
   ·replace H := bS H; obtain ⟨eE, mB, H⟩ := H
    replace H := iB' H; obtain ⟨rfl, H⟩ | ⟨rfl, H⟩ := H
    ·obtain rfl := sI H; have ⟨xC, nD⟩ := no g d
     have z27 := BN a.out
     go_wp2_with ((with_reducible refine AR (f := 80) rfl ?_); refine CO Try.func80 (Br.calls (cu m j) l.out (cu o j) n.out mB.out) ?_; intro xE p; obtain ⟨b, a⟩ := tb2 p b a; replace j := kh2 j c i p)
     go_ret
     exact ⟨rfl, be2 j c i⟩
    replace H := bS H; obtain ⟨fE, tB, H⟩ := H
    replace H := iB' H; obtain ⟨rfl, H⟩ | ⟨rfl, H⟩ := H
    ·obtain rfl := sI H; have ⟨wC, mD⟩ := no g d
     have z23 := BN a.out
     go_wp2_with (first | ((with_reducible refine AR (f := 80) rfl ?_); refine CO Try.func80 (Br.calls (cu m j) l.out (cu o j) n.out mB.out) ?_; intro wE p; obtain ⟨b, a⟩ := tb2 p b a; replace j := kh2 j c i p; have z25 := BN a.out) | (go_at_call 81; refine (FT.calls _ _ s false _ (cu m j) l.out tB.out).mono ?_; rintro e w' ⟨rfl, ⟨nd, rfl⟩⟩))
     go_ret
     exact ⟨rfl, be2 j c i⟩
    obtain ⟨sB, D⟩ : ∃ j_ : Int, (mx x 1) = j_ := ⟨_, rfl⟩
    replace H : (some ((s.length : Int) == (sB))) = some r := by first | (rw [D] at H; exact H) | (simp only [D] at H ⊢; exact H)
    (try rw [D] at mB)
    (try rw [D] at tB)
    have nC : (if x < 1 then 1 else x) = sB := D
    obtain rfl := sI H; have ⟨vC, lD⟩ := no g d
    have pF := BN a.out
    go_wp2_with (first | ((with_reducible refine AR (f := 80) rfl ?_); refine CO Try.func80 (Br.calls (cu m j) l.out (cu o j) n.out mB.out) ?_; intro vE p; obtain ⟨b, a⟩ := tb2 p b a; replace j := kh2 j c i p; have z20 := BN a.out) | (go_at_call 81; refine (FT.calls _ _ s true _ (cu m j) l.out tB.out).mono ?_; rintro e w' ⟨rfl, ⟨nd, rfl⟩⟩; have z21 := cells5 b.out))
    go_ret
    exact ⟨by first | rfl | (simp [CQ, CR] <;> rfl) | (simp only [← D]; first | rfl | (simp [CQ, CR] <;> rfl)) | (simp [*, CQ, CR] <;> rfl), be2 j c i⟩
   replace H := iE H; obtain ⟨aC, bC, H⟩ | ⟨nE, aC, bC, H⟩ := H
   ·replace H := bS H; obtain ⟨gE, uB, H⟩ := H
    replace H := iB' H; obtain ⟨rfl, H⟩ | ⟨rfl, H⟩ := H
    ·obtain rfl := sI H; have ⟨aD, qD⟩ := no g d
     have z42 := BN a.out
     go_wp2_with ((with_reducible refine AR (f := 80) rfl ?_); refine CO Try.func80 (Br.calls (cu m j) l.out (cu o j) n.out uB.out) ?_; intro aF p; obtain ⟨b, a⟩ := tb2 p b a; replace j := kh2 j c i p)
     go_ret
     exact ⟨rfl, be2 j c i⟩
    replace H := iE' H; obtain ⟨pE, cC, dC, H⟩ | ⟨cC, dC, H⟩ := H
    ·obtain rfl := sI H; have ⟨zC, pD⟩ := no g d
     have z38 := BN a.out
     go_wp2_with ((with_reducible refine AR (f := 80) rfl ?_); refine CO Try.func80 (Br.calls (cu m j) l.out (cu o j) n.out uB.out) ?_; intro zE p; obtain ⟨b, a⟩ := tb2 p b a; replace j := kh2 j c i p; have z40 := BN a.out)
     go_ret
     exact ⟨rfl, be2 j c i⟩
    obtain rfl := sI H; have ⟨yC, oD⟩ := no g d
    have z34 := BN a.out
    go_wp2_with ((with_reducible refine AR (f := 80) rfl ?_); refine CO Try.func80 (Br.calls (cu m j) l.out (cu o j) n.out uB.out) ?_; intro yE p; obtain ⟨b, a⟩ := tb2 p b a; replace j := kh2 j c i p; have z36 := BN a.out)
    go_ret
    exact ⟨rfl, be2 j c i⟩
   replace H := iE H; obtain ⟨eC, fC, H⟩ | ⟨qE, eC, fC, H⟩ := H
   ·replace H := bS H; obtain ⟨hE, wB, H⟩ := H
    replace H := iB' H; obtain ⟨rfl, H⟩ | ⟨rfl, H⟩ := H
    ·obtain rfl := sI H; have ⟨dD, tD⟩ := no g d
     have z57 := BN a.out
     go_wp2_with ((with_reducible refine AR (f := 80) rfl ?_); refine CO Try.func80 (Br.calls (cu m j) l.out (cu o j) n.out wB.out) ?_; intro eF p; obtain ⟨b, a⟩ := tb2 p b a; replace j := kh2 j c i p)
     go_ret
     exact ⟨rfl, be2 j c i⟩
    by_cases c47 : q ≥ (-2147483648)
    rotate_left
    ·rw [if_neg c47] at H
     have gC : decide ((-2147483648) ≤ q) = false := decide_eq_false c47; clear c47; obtain rfl := sI H; have ⟨cD, sD⟩ := no g d
     have z53 := BN a.out
     go_wp2_with ((with_reducible refine AR (f := 80) rfl ?_); refine CO Try.func80 (Br.calls (cu m j) l.out (cu o j) n.out wB.out) ?_; intro dF p; obtain ⟨b, a⟩ := tb2 p b a; replace j := kh2 j c i p; have z55 := BN a.out)
     go_ret
     exact ⟨rfl, be2 j c i⟩
    rw [if_pos c47] at H; have gC : decide ((-2147483648) ≤ q) = true := decide_eq_true c47; clear c47; obtain rfl := sI H; have ⟨bD, rD⟩ := no g d
    have z49 := BN a.out
    go_wp2_with ((with_reducible refine AR (f := 80) rfl ?_); refine CO Try.func80 (Br.calls (cu m j) l.out (cu o j) n.out wB.out) ?_; intro cF p; obtain ⟨b, a⟩ := tb2 p b a; replace j := kh2 j c i p; have z51 := BN a.out)
    go_ret
    exact ⟨rfl, be2 j c i⟩
   replace H := iE' H; obtain ⟨c59, hC, iC, H⟩ | ⟨hC, iC, H⟩ := H
   ·replace H := bS H; obtain ⟨kE, mC, H⟩ := H
    replace H := iB' H; obtain ⟨rfl, H⟩ | ⟨rfl, H⟩ := H
    ·obtain rfl := sI H; have ⟨jD, yD⟩ := no g d
     have z84 := BN a.out
     go_wp2_with ((with_reducible refine AR (f := 80) rfl ?_); refine CO Try.func80 (Br.calls (cu m j) l.out (cu o j) n.out mC.out) ?_; intro lF p; obtain ⟨b, a⟩ := tb2 p b a; replace j := kh2 j c i p)
     go_ret
     exact ⟨rfl, be2 j c i⟩
    replace H := iE H; obtain ⟨kC, lC, H⟩ | ⟨rE, kC, lC, H⟩ := H
    ·exact absurd H (by simp)
    obtain rfl := sI H; have ⟨hD, xD⟩ := no g d
    have z79 := BN a.out
    go_wp2_with ((with_reducible refine AR (f := 80) rfl ?_); refine CO Try.func80 (Br.calls (cu m j) l.out (cu o j) n.out mC.out) ?_; intro jF p; obtain ⟨b, a⟩ := tb2 p b a; replace j := kh2 j c i p; have qF := BN a.out; have z82 := cells5 b.out)
    go_ret
    exact ⟨rfl, be2 j c i⟩
   replace H := bS H; obtain ⟨jE, xB, H⟩ := H
   replace H := iB' H; obtain ⟨rfl, H⟩ | ⟨rfl, H⟩ := H
   ·obtain rfl := sI H; have ⟨gD, wD⟩ := no g d
    have z73 := BN a.out
    go_wp2_with ((with_reducible refine AR (f := 80) rfl ?_); refine CO Try.func80 (Br.calls (cu m j) l.out (cu o j) n.out xB.out) ?_; intro hF p; obtain ⟨b, a⟩ := tb2 p b a; replace j := kh2 j c i p)
    go_ret
    exact ⟨rfl, be2 j c i⟩
   by_cases c62 : q ≥ 0
   rotate_left
   ·rw [if_neg c62] at H
    have jC : decide (0 ≤ q) = false := decide_eq_false c62; clear c62; obtain rfl := sI H; have ⟨fD, vD⟩ := no g d
    have z69 := BN a.out
    go_wp2_with ((with_reducible refine AR (f := 80) rfl ?_); refine CO Try.func80 (Br.calls (cu m j) l.out (cu o j) n.out xB.out) ?_; intro gF p; obtain ⟨b, a⟩ := tb2 p b a; replace j := kh2 j c i p; have z71 := BN a.out)
    go_ret
    exact ⟨rfl, be2 j c i⟩
   rw [if_pos c62] at H; have jC : decide (0 ≤ q) = true := decide_eq_true c62; clear c62; obtain rfl := sI H; have ⟨eD, uD⟩ := no g d
   have z64 := BN a.out
   go_wp2_with ((with_reducible refine AR (f := 80) rfl ?_); refine CO Try.func80 (Br.calls (cu m j) l.out (cu o j) n.out xB.out) ?_; intro fF p; obtain ⟨b, a⟩ := tb2 p b a; replace j := kh2 j c i p; have z66 := BN a.out; have z67 := cells5 b.out)
   go_ret
   exact ⟨rfl, be2 j c i⟩
def CL.f (k : Nat) (a : Int) (b : Int) (c : ByteArray) (d : List ByteArray) (e : List (S26)) (g : Int) (h : Int) (i : List Int) (j : List (S30)) : Option (Bool) := (BX.f k a b c d e).bind fun t194 => (if t194 = true then ((Cf.f k a b c d e g h i j).bind fun l => (some l)) else (some false))
set_option maxHeartbeats 8000000 in
set_option maxRecDepth 100000 in
theorem CL.calls {k : Nat} {s u : Int} {v : ByteArray} {D : Option Addr} {T : Nat} {m : List ByteArray} {G : Option Addr} {U : Nat} {n : List (S26)} {L O : Int} {I : Option Addr} {W : Nat} {o : List Int} {J : Option Addr} {X : Nat} {p : List (S30)} {r : Bool} {w : World} (hG : D8 w) (cB : Kd.C Kd.string w D m.length m) (Y : m.length ≤ T) (dB : Kd.C k26 w G n.length n) (Z : n.length ≤ U) (eB : Kd.C (Kd.int .u8) w I o.length o) (aB : o.length ≤ W) (fB : Kd.C k30 w J p.length p) (bB : p.length ≤ X) (h : CL.f k s u v m n L O o p = some r) :
  Calls Try.prog 45 #[.agg #[.int .i64 s, .int .i64 u, .string v, .slice D m.length T, .slice G n.length U], .agg #[.int .i64 L, .int .i64 O, .slice I o.length W, .slice J p.length X]] w fun e w' => e = .returned (.bool r) ∧ Below w.heap.size w w' := by
 have HG := mk0 hG; clear hG
 have yB := Try.underlying26
 have zB := Try.underlying30
 have z := mk0 cB; have x := mk0 Y; clear cB Y; have B := mk0 dB; have y := mk0 Z; clear dB Z; have jB := mk0 eB; have gB := mk0 aB; clear eB aB; have kB := mk0 fB; have hB := mk0 bB; clear fB bB
 have l := mk0 (Below.refl w.heap.size w)
 have H := h; unfold CL.f at H
 clear h
 replace H := bS H; obtain ⟨t194, A3, H⟩ := H
 replace H := iB' H; obtain ⟨rfl, H⟩ | ⟨rfl, H⟩ := H
 ·obtain rfl := sI H
  go_enter Try.func45, Try.ntmps45
  go_wp2_with (first | ((with_reducible refine AP rfl (N := 2) rfl (cs := #[.int .i64 s, .int .i64 u, .string v, .slice D m.length T, .slice G n.length U]) (t := 26) ?hr ?_); (case hr => first | (go_simp; done) | (go_simp; rfl)); intro lB hg eC g q; have a := mk0 (g); have b := bs (be l) hg; replace l := kh l q; clear q g hg) | ((with_reducible refine AP rfl (N := 3) rfl (cs := #[.int .i64 L, .int .i64 O, .slice I o.length W, .slice J p.length X]) (t := 30) ?hr ?_); (case hr => first | (go_simp; done) | (go_simp; rfl)); intro mB hg fC g q; have c := mk0 (g); have d := bs (be1 l b) hg; replace l := kh1 l b q; have ⟨i, j⟩ := nn a hg; replace a := kb a q; clear q g hg; have ⟨oB, qB⟩ := no i j; have z17 := cells5 a.out) | ((with_reducible refine AR (f := 43) rfl ?_); refine CO Try.func43 (BX.calls k s u v _ _ m _ _ n false _ (AZ HG.out (be2 l b d)) (cu z l) x.out (cu B l) y.out A3.out) ?_; intro gC q; obtain ⟨a, c⟩ := tb2 q a c; replace l := kh2 l b d q))
  go_ret
  exact ⟨rfl, be2 l b d⟩
 replace H := bS H; obtain ⟨aC, A5, H⟩ := H; obtain rfl := sI H
 go_enter Try.func45, Try.ntmps45
 go_wp2_with (first | ((with_reducible refine AP rfl (N := 2) rfl (cs := #[.int .i64 s, .int .i64 u, .string v, .slice D m.length T, .slice G n.length U]) (t := 26) ?hr ?_); (case hr => first | (go_simp; done) | (go_simp; rfl)); intro lB hg w6 g q; have a := mk0 (g); have b := bs (be l) hg; replace l := kh l q; clear q g hg) | ((with_reducible refine AP rfl (N := 3) rfl (cs := #[.int .i64 L, .int .i64 O, .slice I o.length W, .slice J p.length X]) (t := 30) ?hr ?_); (case hr => first | (go_simp; done) | (go_simp; rfl)); intro mB hg w7 g q; have c := mk0 (g); have d := bs (be1 l b) hg; replace l := kh1 l b q; have ⟨i, j⟩ := nn a hg; replace a := kb a q; clear q g hg; have ⟨wB, xB⟩ := no i j; have z9 := cells5 a.out) | ((with_reducible refine AR (f := 43) rfl ?_); refine CO Try.func43 (BX.calls k s u v _ _ m _ _ n true _ (AZ HG.out (be2 l b d)) (cu z l) x.out (cu B l) y.out A3.out) ?_; intro cC q; obtain ⟨a, c⟩ := tb2 q a c; replace l := kh2 l b d q; have hC := cells5 a.out; have z12 := BN c.out) | (go_at_call 67; refine (Cf.calls (cu z l) x.out (cu B l) y.out (cu jB l) gB.out (cu kB l) hB.out A5.out).mono ?_; rintro e dC ⟨rfl, q⟩; obtain ⟨a, c⟩ := tb2 q a c; replace l := kh2 l b d q))
 go_ret
 exact ⟨rfl, be2 l b d⟩
end Go.Proofs.Ytojankgmedccdaa.PIs
