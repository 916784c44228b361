/- Lemmas. -/
import Derived.Test.YtojankgmedccdaaYNPIsx6
import Derived.Test.YtojankgmedccdaaYNPIsx9
set_option maxHeartbeats 8000000
set_option maxRecDepth 100000
namespace Go.Proofs.Ytojankgmedccdaa.PIs
open Go.RowKit Own PTy Hand Wo
attribute [local go_sem] BS BU Bf Bg BC BD BX BZ
set_option linter.unusedVariables false
set_option linter.unusedSimpArgs false
def EG.f (k : Nat) (a : Int) (b : Int) (c : ByteArray) (d : List ByteArray) (e : List (S26)) : Option (Bool) := (Ah.f k a b c d e).bind fun t182 => (if t182 = true then (if a = 1 then (some true) else (if a = 2 then (some true) else (if a = 3 then (some true) else (some (a == 5))))) else (some false))
theorem EG.calls {k : Nat} {j l : Int} {m : ByteArray} {o : Option Addr} {x : Nat} {c : List ByteArray} {p : Option Addr} {y : Nat} {d : List (S26)} {r : Bool} {w : World} (G : Kd.C Kd.string w o c.length c) (B : c.length ≤ x) (I : Kd.C k26 w p d.length d) (D : d.length ≤ y) (h : EG.f k j l m c d = some r) :
  Calls Try.prog 18 #[.agg #[.int .i64 j, .int .i64 l, .string m, .slice o c.length x, .slice p d.length y]] w fun e w' => e = .returned (.bool r) ∧ Below w.heap.size w w' := by
 have Y := Try.underlying26
 have u := mk0 G; have q := mk0 B; clear G B; have v := mk0 I; have s := mk0 D; clear I D
 have i := mk0 (Below.refl w.heap.size w)
 have H := h; unfold EG.f at H
 clear h
 replace H := bS H; obtain ⟨t182, O, H⟩ := H
 replace H := iB' H; obtain ⟨rfl, H⟩ | ⟨rfl, H⟩ := H
 ·obtain rfl := sI H; go_enter Try.func18, Try.ntmps18; go_wp2_with (first | ((with_reducible refine AQ rfl (N := 1) rfl (cs := #[.int .i64 j, .int .i64 l, .string m, .slice o c.length x, .slice p d.length y]) (t := 26) ?hr ?_); (case hr => first | (go_simp; done) | (go_simp; rfl)); intro z hg gB g n; have a := mk0 (g); have b := bs (be i) hg; replace i := kh i n; clear n g hg; have z24 := cells5 a.out) | ((with_reducible refine AJ (f := 44) rfl ?_); refine CS Try.func44 (Ah.calls k j l m _ _ c _ _ d false _ (cu u i) q.out (cu v i) s.out O.out) ?_; intro hB n; replace a := kb a n; replace i := kh1 i b n)); go_ret; exact ⟨rfl, be1 i b⟩
 replace H := iE H; obtain ⟨T, U, H⟩ | ⟨c4, T, U, H⟩ := H
 ·obtain rfl := sI H; go_enter Try.func18, Try.ntmps18; go_wp2_with (first | ((with_reducible refine AQ rfl (N := 1) rfl (cs := #[.int .i64 j, .int .i64 l, .string m, .slice o c.length x, .slice p d.length y]) (t := 26) ?hr ?_); (case hr => first | (go_simp; done) | (go_simp; rfl)); intro z hg w5 g n; have a := mk0 (g); have b := bs (be i) hg; replace i := kh i n; clear n g hg; have z6 := cells5 a.out) | ((with_reducible refine AJ (f := 44) rfl ?_); refine CS Try.func44 (Ah.calls k j l m _ _ c _ _ d true _ (cu u i) q.out (cu v i) s.out O.out) ?_; intro w7 n; replace a := kb a n; replace i := kh1 i b n; have z8 := cells5 a.out)); go_ret; exact ⟨rfl, be1 i b⟩
 replace H := iE H; obtain ⟨W, X, H⟩ | ⟨c9, W, X, H⟩ := H
 ·obtain rfl := sI H; go_enter Try.func18, Try.ntmps18; go_wp2_with (first | ((with_reducible refine AQ rfl (N := 1) rfl (cs := #[.int .i64 j, .int .i64 l, .string m, .slice o c.length x, .slice p d.length y]) (t := 26) ?hr ?_); (case hr => first | (go_simp; done) | (go_simp; rfl)); intro z hg aB g n; have a := mk0 (g); have b := bs (be i) hg; replace i := kh i n; clear n g hg; have jB := cells5 a.out) | ((with_reducible refine AJ (f := 44) rfl ?_); refine CS Try.func44 (Ah.calls k j l m _ _ c _ _ d true _ (cu u i) q.out (cu v i) s.out O.out) ?_; intro bB n; replace a := kb a n; replace i := kh1 i b n; have kB := cells5 a.out)); go_ret; exact ⟨rfl, be1 i b⟩
 replace H := iE' H; obtain ⟨Z, J, L, H⟩ | ⟨J, L, H⟩ := H
 ·obtain rfl := sI H; go_enter Try.func18, Try.ntmps18; go_wp2_with (first | ((with_reducible refine AQ rfl (N := 1) rfl (cs := #[.int .i64 j, .int .i64 l, .string m, .slice o c.length x, .slice p d.length y]) (t := 26) ?hr ?_); (case hr => first | (go_simp; done) | (go_simp; rfl)); intro z hg eB g n; have a := mk0 (g); have b := bs (be i) hg; replace i := kh i n; clear n g hg; have z20 := cells5 a.out) | ((with_reducible refine AJ (f := 44) rfl ?_); refine CS Try.func44 (Ah.calls k j l m _ _ c _ _ d true _ (cu u i) q.out (cu v i) s.out O.out) ?_; intro fB n; replace a := kb a n; replace i := kh1 i b n; have z22 := cells5 a.out)); go_ret; exact ⟨rfl, be1 i b⟩
 obtain rfl := sI H
 go_enter Try.func18, Try.ntmps18
 go_wp2_with (first | ((with_reducible refine AQ rfl (N := 1) rfl (cs := #[.int .i64 j, .int .i64 l, .string m, .slice o c.length x, .slice p d.length y]) (t := 26) ?hr ?_); (case hr => first | (go_simp; done) | (go_simp; rfl)); intro z hg cB g n; have a := mk0 (g); have b := bs (be i) hg; replace i := kh i n; clear n g hg; have lB := cells5 a.out) | ((with_reducible refine AJ (f := 44) rfl ?_); refine CS Try.func44 (Ah.calls k j l m _ _ c _ _ d true _ (cu u i) q.out (cu v i) s.out O.out) ?_; intro dB n; replace a := kb a n; replace i := kh1 i b n; have mB := cells5 a.out))
 go_ret
 exact ⟨rfl, be1 i b⟩
def CF.f (d : Int) (c : Int) (b : List Int) (a : List (S30)) (g : Bool) (e : Bool) (a3 : Bool) : Option (Bool) := if g = true then (if e = true then (if a3 = true then (some true) else (some ((a.length : Int) == 0))) else (if (b.length : Int) = 0 then (if a3 = true then (some true) else (some ((a.length : Int) == 0))) else (some false))) else (if c = 0 then (if e = true then (if a3 = true then (some true) else (some ((a.length : Int) == 0))) else (if (b.length : Int) = 0 then (if a3 = true then (some true) else (some ((a.length : Int) == 0))) else (some false))) else (some false))
theorem CF.calls {m n : Int} {k : Option Addr} {o : Nat} {d : List Int} {l : Option Addr} {p : Nat} {g : List (S30)} {a1 a2 a3 r : Bool} {w : World} (v : Kd.C (Kd.int .u8) w k d.length d) (s : d.length ≤ o) (x : Kd.C k30 w l g.length g) (u : g.length ≤ p) (h : CF.f m n d g a1 a2 a3 = some r) :
  Calls Try.prog 80 #[.agg #[.int .i64 m, .int .i64 n, .slice k d.length o, .slice l g.length p], .bool a1, .bool a2, .bool a3] w fun e w' => e = .returned (.bool r) ∧ Below w.heap.size w w' := by
 have cB := Try.underlying30
 have O := mk0 v; have J := mk0 s; clear v s; have T := mk0 x; have L := mk0 u; clear x u
 have i := mk0 (Below.refl w.heap.size w)
 have H := h; unfold CF.f at H
 clear h
 replace H := iB H; obtain ⟨rfl, H⟩ | ⟨rfl, H⟩ := H
 ·replace H := iB H; obtain ⟨rfl, H⟩ | ⟨rfl, H⟩ := H
  ·replace H := iB H; obtain ⟨rfl, H⟩ | ⟨rfl, H⟩ := H
   ·obtain rfl := sI H; go_enter Try.func80, Try.ntmps80; go_wp2_with ((with_reducible refine AQ rfl (N := 4) rfl (cs := #[.int .i64 m, .int .i64 n, .slice k d.length o, .slice l g.length p]) (t := 30) ?hr ?_); (case hr => first | (go_simp; done) | (go_simp; rfl)); intro j hg w8 a q; have c := mk0 (a); have b := bs (be i) hg; replace i := kh i q; clear q a hg); go_ret; exact ⟨rfl, be1 i b⟩
   obtain rfl := sI H; go_enter Try.func80, Try.ntmps80; go_wp2_with ((with_reducible refine AQ rfl (N := 4) rfl (cs := #[.int .i64 m, .int .i64 n, .slice k d.length o, .slice l g.length p]) (t := 30) ?hr ?_); (case hr => first | (go_simp; done) | (go_simp; rfl)); intro j hg w9 a q; have c := mk0 (a); have b := bs (be i) hg; replace i := kh i q; clear q a hg; have sB := Ay c.out); go_ret; exact ⟨rfl, be1 i b⟩
  replace H := iE' H; obtain ⟨U, y, z, H⟩ | ⟨y, z, H⟩ := H
  ·have W : ¬ (d = []) := fun Z => U (by rw [Z]; rfl); obtain rfl := sI H; go_enter Try.func80, Try.ntmps80; go_wp2_with ((with_reducible refine AQ rfl (N := 4) rfl (cs := #[.int .i64 m, .int .i64 n, .slice k d.length o, .slice l g.length p]) (t := 30) ?hr ?_); (case hr => first | (go_simp; done) | (go_simp; rfl)); intro j hg gB a q; have c := mk0 (a); have b := bs (be i) hg; replace i := kh i q; clear q a hg; have wB := Ay c.out); go_ret; exact ⟨rfl, be1 i b⟩
  replace H := iB H; obtain ⟨rfl, H⟩ | ⟨rfl, H⟩ := H
  ·obtain rfl := sI H; go_enter Try.func80, Try.ntmps80; go_wp2_with ((with_reducible refine AQ rfl (N := 4) rfl (cs := #[.int .i64 m, .int .i64 n, .slice k d.length o, .slice l g.length p]) (t := 30) ?hr ?_); (case hr => first | (go_simp; done) | (go_simp; rfl)); intro j hg eB a q; have c := mk0 (a); have b := bs (be i) hg; replace i := kh i q; clear q a hg; have tB := Ay c.out); go_ret; exact ⟨rfl, be1 i b⟩
  obtain rfl := sI H; go_enter Try.func80, Try.ntmps80; go_wp2_with ((with_reducible refine AQ rfl (N := 4) rfl (cs := #[.int .i64 m, .int .i64 n, .slice k d.length o, .slice l g.length p]) (t := 30) ?hr ?_); (case hr => first | (go_simp; done) | (go_simp; rfl)); intro j hg fB a q; have c := mk0 (a); have b := bs (be i) hg; replace i := kh i q; clear q a hg; have uB := Ay c.out); go_ret; exact ⟨rfl, be1 i b⟩
 replace H := iE' H; obtain ⟨dB, B, D, H⟩ | ⟨B, D, H⟩ := H
 ·obtain rfl := sI H; go_enter Try.func80, Try.ntmps80; go_wp2_with ((with_reducible refine AQ rfl (N := 4) rfl (cs := #[.int .i64 m, .int .i64 n, .slice k d.length o, .slice l g.length p]) (t := 30) ?hr ?_); (case hr => first | (go_simp; done) | (go_simp; rfl)); intro j hg qB a q; have c := mk0 (a); have b := bs (be i) hg; replace i := kh i q; clear q a hg; have z35 := Ay c.out); go_ret; exact ⟨rfl, be1 i b⟩
 replace H := iB H; obtain ⟨rfl, H⟩ | ⟨rfl, H⟩ := H
 ·replace H := iB H; obtain ⟨rfl, H⟩ | ⟨rfl, H⟩ := H
  ·obtain rfl := sI H; go_enter Try.func80, Try.ntmps80; go_wp2_with ((with_reducible refine AQ rfl (N := 4) rfl (cs := #[.int .i64 m, .int .i64 n, .slice k d.length o, .slice l g.length p]) (t := 30) ?hr ?_); (case hr => first | (go_simp; done) | (go_simp; rfl)); intro j hg hB a q; have c := mk0 (a); have b := bs (be i) hg; replace i := kh i q; clear q a hg; have z23 := Ay c.out); go_ret; exact ⟨rfl, be1 i b⟩
  obtain rfl := sI H; go_enter Try.func80, Try.ntmps80; go_wp2_with ((with_reducible refine AQ rfl (N := 4) rfl (cs := #[.int .i64 m, .int .i64 n, .slice k d.length o, .slice l g.length p]) (t := 30) ?hr ?_); (case hr => first | (go_simp; done) | (go_simp; rfl)); intro j hg jB a q; have c := mk0 (a); have b := bs (be i) hg; replace i := kh i q; clear q a hg; have z25 := Ay c.out); go_ret; exact ⟨rfl, be1 i b⟩
 replace H := iE' H; obtain ⟨X, G, I, H⟩ | ⟨G, I, H⟩ := H
 ·have Y : ¬ (d = []) := fun Z => X (by rw [Z]; rfl); obtain rfl := sI H; go_enter Try.func80, Try.ntmps80; go_wp2_with ((with_reducible refine AQ rfl (N := 4) rfl (cs := #[.int .i64 m, .int .i64 n, .slice k d.length o, .slice l g.length p]) (t := 30) ?hr ?_); (case hr => first | (go_simp; done) | (go_simp; rfl)); intro j hg mB a q; have c := mk0 (a); have b := bs (be i) hg; replace i := kh i q; clear q a hg; have z33 := Ay c.out); go_ret; exact ⟨rfl, be1 i b⟩
 replace H := iB H; obtain ⟨rfl, H⟩ | ⟨rfl, H⟩ := H
 ·obtain rfl := sI H; go_enter Try.func80, Try.ntmps80; go_wp2_with ((with_reducible refine AQ rfl (N := 4) rfl (cs := #[.int .i64 m, .int .i64 n, .slice k d.length o, .slice l g.length p]) (t := 30) ?hr ?_); (case hr => first | (go_simp; done) | (go_simp; rfl)); intro j hg kB a q; have c := mk0 (a); have b := bs (be i) hg; replace i := kh i q; clear q a hg; have z29 := Ay c.out); go_ret; exact ⟨rfl, be1 i b⟩
 obtain rfl := sI H
 go_enter Try.func80, Try.ntmps80
 go_wp2_with ((with_reducible refine AQ rfl (N := 4) rfl (cs := #[.int .i64 m, .int .i64 n, .slice k d.length o, .slice l g.length p]) (t := 30) ?hr ?_); (case hr => first | (go_simp; done) | (go_simp; rfl)); intro j hg lB a q; have c := mk0 (a); have b := bs (be i) hg; replace i := kh i q; clear q a hg; have z31 := Ay c.out)
 go_ret
 exact ⟨rfl, be1 i b⟩
def Co.j0 : Nat → Int → Bool → Int → Int → ByteArray → List ByteArray → List (S26) → Int → Int → List Int → List (S30) → Option (Bool)
 | 0, _, _, _, _, _, _, _, _, _, _, _ => none
 | k + 1, h, s, p, e, q, g, r, d, a, b, c => if s = true then ((CF.f d a b c false true false).bind fun i => (if i = true then ((GD.f b).bind fun j => (if j = true then (some ((b.length : Int) == (mx e 1))) else (some false))) else (some false))) else (if h = 2 then ((CF.f d a b c true false false).bind fun l => (if l = true then (if a = 0 then (some true) else (some (a == 1))) else (some false))) else (if h = 3 then ((CF.f d a b c true false false).bind fun m => (if m = true then (if a ≥ (-2147483648) then (some (decide (a ≤ 2147483647))) else (some false)) else (some false))) else (if h = 5 then ((CF.f d a b c true false false).bind fun n => (if n = true then (if a ≥ 0 then (some (decide (a < (g.length : Int)))) else (some false)) else (some false))) else ((CF.f d a b c false false true).bind fun o => (if o = true then (if (c.length : Int) = e then (none) else (some false)) else (some false))))))
def Co.f (k : Nat) (a : Int) (c : Int) (d : ByteArray) (g : List ByteArray) (h : List (S26)) (b : Int) (e : Int) (i : List Int) (j : List (S30)) : Option (Bool) := if b = a then (if a = 1 then (Co.j0 k a (a == 1) a c d g h b e i j) else (Co.j0 k a (a == 4) a c d g h b e i j)) else (some false)
theorem Co.calls {k : Nat} {v x : Int} {I : ByteArray} {L : Option Addr} {W : Nat} {y : List ByteArray} {O : Option Addr} {X : Nat} {z : List (S26)} {J q : Int} {T : Option Addr} {Y : Nat} {s : List Int} {U : Option Addr} {Z : Nat} {B : List (S30)} {r : Bool} {w : World} (hB : Kd.C Kd.string w L y.length y) (dB : y.length ≤ W) (jB : Kd.C k26 w O z.length z) (eB : z.length ≤ X) (kB : Kd.C (Kd.int .u8) w T s.length s) (fB : s.length ≤ Y) (lB : Kd.C k30 w U B.length B) (gB : B.length ≤ Z) (h : Co.f k v x I y z J q s B = some r) :
  Calls Try.prog 67 #[.agg #[.int .i64 v, .int .i64 x, .string I, .slice L y.length W, .slice O z.length X], .agg #[.int .i64 J, .int .i64 q, .slice T s.length Y, .slice U B.length Z]] w fun e w' => e = .returned (.bool r) ∧ Below w.heap.size w w' := by
 have dE := Try.underlying26
 have eE := Try.underlying30
 have uC := mk0 hB; have sC := mk0 dB; clear hB dB; have vC := mk0 jB; have tC := mk0 eB; clear jB eB; have m := mk0 kB; have l := mk0 fB; clear kB fB; have o := mk0 lB; have n := mk0 gB; clear lB gB
 have j := mk0 (Below.refl w.heap.size w)
 have H := h; unfold Co.f at H
 clear h
 replace H := iE' H; obtain ⟨c3, qB, sB, H⟩ | ⟨qB, sB, H⟩ := H
 ·obtain rfl := sI H; go_enter Try.func67, Try.ntmps67; go_wp2_with (first | ((with_reducible refine AQ rfl (N := 2) rfl (cs := #[.int .i64 v, .int .i64 x, .string I, .slice L y.length W, .slice O z.length X]) (t := 26) ?hr ?_); (case hr => first | (go_simp; done) | (go_simp; rfl)); intro bB hg oF u p; have b := mk0 (u); have c := bs (be j) hg; replace j := kh j p; clear p u hg) | ((with_reducible refine AQ rfl (N := 3) rfl (cs := #[.int .i64 J, .int .i64 q, .slice T s.length Y, .slice U B.length Z]) (t := 30) ?hr ?_); (case hr => first | (go_simp; done) | (go_simp; rfl)); intro cB hg pF u p; have a := mk0 (u); have i := bs (be1 j c) hg; replace j := kh1 j c p; have ⟨d, g⟩ := nn b hg; replace b := kb b p; clear p u hg; have ⟨lD, aE⟩ := no g d; have z89 := Ay a.out; have sF := cells5 b.out)); go_ret; exact ⟨rfl, be2 j c i⟩
 have zB := mk0 H; clear H
 go_enter Try.func67, Try.ntmps67
 go_upto_if 12 with (first | ((with_reducible refine AQ rfl (N := 2) rfl (cs := #[.int .i64 v, .int .i64 x, .string I, .slice L y.length W, .slice O z.length X]) (t := 26) ?hr ?_); (case hr => first | (go_simp; done) | (go_simp; rfl)); intro bB hg w5 u p; have b := mk0 (u); have c := bs (be j) hg; replace j := kh j p; clear p u hg) | ((with_reducible refine AQ rfl (N := 3) rfl (cs := #[.int .i64 J, .int .i64 q, .slice T s.length Y, .slice U B.length Z]) (t := 30) ?hr ?_); (case hr => first | (go_simp; done) | (go_simp; rfl)); intro cB hg w6 u p; have a := mk0 (u); have i := bs (be1 j c) hg; replace j := kh1 j c p; have ⟨d, g⟩ := nn b hg; replace b := kb b p; clear p u hg; have ⟨bE, cE⟩ := no g d; have z8 := Ay a.out; have z9 := cells5 b.out))
 (try simp only [Act.put, List.setIfInBounds_toArray, List.set_cons_zero, List.set_cons_succ])
 go_cut [12] (fun v12 wc => ∃ (kq : Nat) (aB : Bool), v12 = .bool aB ∧ Aside0 (Co.j0 kq v aB v x I y z J q s B = some r) ∧ Aside0 (kq ≤ k) ∧ Aside0 (bk wc bB 26 #[.int .i64 v, .int .i64 x, .string I, (.slice L y.length W), (.slice O z.length X)]) ∧ Aside0 (bk wc cB 30 #[.int .i64 J, .int .i64 q, (.slice T s.length Y), (.slice U B.length Z)]) ∧ Aside0 (Below w.heap.size w wc))
 case first =>
  have H := zB.out; clear zB; replace H := iE' H; obtain ⟨nE, G, aC, H⟩ | ⟨G, aC, H⟩ := H
  ·(first | rw [G] | (simp only [Bw, DI]; rw [G]) | skip); have H' := mk0 H; clear H; go_wp2; go_meet
   case rel => exact ⟨_, ((v == 4)), rfl, H', ⟨by omega⟩, ⟨bu b⟩, ⟨bu a⟩, ⟨be2 j c i⟩⟩
  (first | rw [G] | (simp only [Bw, DI]; rw [G]) | skip); have H' := mk0 H; clear H; go_wp2; go_meet
  case rel => exact ⟨_, ((v == 1)), (by first | rfl | (simp; done) | (simp [*]; done)), H', ⟨by omega⟩, ⟨bu b⟩, ⟨bu a⟩, ⟨be2 j c i⟩⟩
 case rest =>
  clear zB; try clear c3; try clear qB; try clear sB
  obtain ⟨kq, aB, rfl, HA, mE, b, a, j⟩ := hcut; cases kq with
  | zero => exact absurd HA.out (by simp [Co.j0])
  | succ uE =>
   have H := HA.out; clear HA; simp only [Co.j0] at H; replace H := iB H; obtain ⟨rfl, H⟩ | ⟨rfl, H⟩ := H
   ·replace H := bS H; obtain ⟨fE, mB, H⟩ := H; replace H := iB' H; obtain ⟨rfl, H⟩ | ⟨rfl, H⟩ := H
    ·obtain rfl := sI H; have ⟨yC, oD⟩ := no g d; have z27 := Ay a.out; go_wp2_with ((with_reducible refine AJ (f := 80) rfl ?_); refine CS Try.func80 (CF.calls (cu m j) l.out (cu o j) n.out mB.out) ?_; intro yE p; obtain ⟨b, a⟩ := tb2 p b a; replace j := kh2 j c i p); go_ret; exact ⟨rfl, be2 j c i⟩
    replace H := bS H; obtain ⟨gE, uB, H⟩ := H; replace H := iB' H; obtain ⟨rfl, H⟩ | ⟨rfl, H⟩ := H
    ·obtain rfl := sI H; have ⟨xC, nD⟩ := no g d; have z23 := Ay a.out; go_wp2_with (first | ((with_reducible refine AJ (f := 80) rfl ?_); refine CS Try.func80 (CF.calls (cu m j) l.out (cu o j) n.out mB.out) ?_; intro xE p; obtain ⟨b, a⟩ := tb2 p b a; replace j := kh2 j c i p; have z25 := Ay a.out) | (go_at_call 81; refine (GD.calls _ _ s false _ (cu m j) l.out uB.out).mono ?_; rintro e w' ⟨rfl, nd, rfl⟩)); go_ret; exact ⟨rfl, be2 j c i⟩
    obtain ⟨tB, D⟩ : ∃ j_ : Int, (mx x 1) = j_ := ⟨_, rfl⟩; replace H : (some ((s.length : Int) == (tB))) = some r := by first | (rw [D] at H; exact H) | (simp only [D] at H ⊢; exact H)
    (try rw [D] at mB); (try rw [D] at uB); have oC : (if x < 1 then 1 else x) = tB := D; obtain rfl := sI H; have ⟨wC, mD⟩ := no g d; have qF := Ay a.out; go_wp2_with (first | ((with_reducible refine AJ (f := 80) rfl ?_); refine CS Try.func80 (CF.calls (cu m j) l.out (cu o j) n.out mB.out) ?_; intro wE p; obtain ⟨b, a⟩ := tb2 p b a; replace j := kh2 j c i p; have z20 := Ay a.out) | (go_at_call 81; refine (GD.calls _ _ s true _ (cu m j) l.out uB.out).mono ?_; rintro e w' ⟨rfl, nd, rfl⟩; have z21 := cells5 b.out)); go_ret; exact ⟨by first | rfl | (simp [DN, DR] <;> rfl) | (simp only [← D]; first | rfl | (simp [DN, DR] <;> rfl)) | (simp [*, DN, DR] <;> rfl), be2 j c i⟩
   replace H := iE H; obtain ⟨bC, cC, H⟩ | ⟨oE, bC, cC, H⟩ := H
   ·replace H := bS H; obtain ⟨hE, wB, H⟩ := H; replace H := iB' H; obtain ⟨rfl, H⟩ | ⟨rfl, H⟩ := H
    ·obtain rfl := sI H; have ⟨bD, rD⟩ := no g d; have z42 := Ay a.out; go_wp2_with ((with_reducible refine AJ (f := 80) rfl ?_); refine CS Try.func80 (CF.calls (cu m j) l.out (cu o j) n.out wB.out) ?_; intro cF p; obtain ⟨b, a⟩ := tb2 p b a; replace j := kh2 j c i p); go_ret; exact ⟨rfl, be2 j c i⟩
    replace H := iE' H; obtain ⟨qE, dC, eC, H⟩ | ⟨dC, eC, H⟩ := H
    ·obtain rfl := sI H; have ⟨aD, qD⟩ := no g d; have z38 := Ay a.out; go_wp2_with ((with_reducible refine AJ (f := 80) rfl ?_); refine CS Try.func80 (CF.calls (cu m j) l.out (cu o j) n.out wB.out) ?_; intro aF p; obtain ⟨b, a⟩ := tb2 p b a; replace j := kh2 j c i p; have z40 := Ay a.out); go_ret; exact ⟨rfl, be2 j c i⟩
    obtain rfl := sI H; have ⟨zC, pD⟩ := no g d; have z34 := Ay a.out; go_wp2_with ((with_reducible refine AJ (f := 80) rfl ?_); refine CS Try.func80 (CF.calls (cu m j) l.out (cu o j) n.out wB.out) ?_; intro zE p; obtain ⟨b, a⟩ := tb2 p b a; replace j := kh2 j c i p; have z36 := Ay a.out); go_ret; exact ⟨rfl, be2 j c i⟩
   replace H := iE H; obtain ⟨fC, gC, H⟩ | ⟨rE, fC, gC, H⟩ := H
   ·replace H := bS H; obtain ⟨jE, xB, H⟩ := H; replace H := iB' H; obtain ⟨rfl, H⟩ | ⟨rfl, H⟩ := H
    ·obtain rfl := sI H; have ⟨eD, uD⟩ := no g d; have z57 := Ay a.out; go_wp2_with ((with_reducible refine AJ (f := 80) rfl ?_); refine CS Try.func80 (CF.calls (cu m j) l.out (cu o j) n.out xB.out) ?_; intro fF p; obtain ⟨b, a⟩ := tb2 p b a; replace j := kh2 j c i p); go_ret; exact ⟨rfl, be2 j c i⟩
    by_cases c47 : q ≥ (-2147483648); rotate_left
    ·rw [if_neg c47] at H; have hC : decide ((-2147483648) ≤ q) = false := decide_eq_false c47; clear c47; obtain rfl := sI H; have ⟨dD, tD⟩ := no g d; have z53 := Ay a.out; go_wp2_with ((with_reducible refine AJ (f := 80) rfl ?_); refine CS Try.func80 (CF.calls (cu m j) l.out (cu o j) n.out xB.out) ?_; intro eF p; obtain ⟨b, a⟩ := tb2 p b a; replace j := kh2 j c i p; have z55 := Ay a.out); go_ret; exact ⟨rfl, be2 j c i⟩
    rw [if_pos c47] at H; have hC : decide ((-2147483648) ≤ q) = true := decide_eq_true c47; clear c47; obtain rfl := sI H; have ⟨cD, sD⟩ := no g d; have z49 := Ay a.out; go_wp2_with ((with_reducible refine AJ (f := 80) rfl ?_); refine CS Try.func80 (CF.calls (cu m j) l.out (cu o j) n.out xB.out) ?_; intro dF p; obtain ⟨b, a⟩ := tb2 p b a; replace j := kh2 j c i p; have z51 := Ay a.out); go_ret; exact ⟨rfl, be2 j c i⟩
   replace H := iE' H; obtain ⟨c59, iC, jC, H⟩ | ⟨iC, jC, H⟩ := H
   ·replace H := bS H; obtain ⟨lE, nC, H⟩ := H; replace H := iB' H; obtain ⟨rfl, H⟩ | ⟨rfl, H⟩ := H
    ·obtain rfl := sI H; have ⟨kD, zD⟩ := no g d; have z84 := Ay a.out; go_wp2_with ((with_reducible refine AJ (f := 80) rfl ?_); refine CS Try.func80 (CF.calls (cu m j) l.out (cu o j) n.out nC.out) ?_; intro mF p; obtain ⟨b, a⟩ := tb2 p b a; replace j := kh2 j c i p); go_ret; exact ⟨rfl, be2 j c i⟩
    replace H := iE H; obtain ⟨lC, mC, H⟩ | ⟨sE, lC, mC, H⟩ := H
    ·exact absurd H (by simp)
    obtain rfl := sI H; have ⟨jD, yD⟩ := no g d; have z79 := Ay a.out; go_wp2_with ((with_reducible refine AJ (f := 80) rfl ?_); refine CS Try.func80 (CF.calls (cu m j) l.out (cu o j) n.out nC.out) ?_; intro lF p; obtain ⟨b, a⟩ := tb2 p b a; replace j := kh2 j c i p; have rF := Ay a.out; have z82 := cells5 b.out); go_ret; exact ⟨rfl, be2 j c i⟩
   replace H := bS H; obtain ⟨kE, yB, H⟩ := H; replace H := iB' H; obtain ⟨rfl, H⟩ | ⟨rfl, H⟩ := H
   ·obtain rfl := sI H; have ⟨hD, xD⟩ := no g d; have z73 := Ay a.out; go_wp2_with ((with_reducible refine AJ (f := 80) rfl ?_); refine CS Try.func80 (CF.calls (cu m j) l.out (cu o j) n.out yB.out) ?_; intro jF p; obtain ⟨b, a⟩ := tb2 p b a; replace j := kh2 j c i p); go_ret; exact ⟨rfl, be2 j c i⟩
   by_cases c62 : q ≥ 0; rotate_left
   ·rw [if_neg c62] at H; have kC : decide (0 ≤ q) = false := decide_eq_false c62; clear c62; obtain rfl := sI H; have ⟨gD, wD⟩ := no g d; have z69 := Ay a.out; go_wp2_with ((with_reducible refine AJ (f := 80) rfl ?_); refine CS Try.func80 (CF.calls (cu m j) l.out (cu o j) n.out yB.out) ?_; intro hF p; obtain ⟨b, a⟩ := tb2 p b a; replace j := kh2 j c i p; have z71 := Ay a.out); go_ret; exact ⟨rfl, be2 j c i⟩
   rw [if_pos c62] at H; have kC : decide (0 ≤ q) = true := decide_eq_true c62; clear c62; obtain rfl := sI H; have ⟨fD, vD⟩ := no g d; have z64 := Ay a.out; go_wp2_with ((with_reducible refine AJ (f := 80) rfl ?_); refine CS Try.func80 (CF.calls (cu m j) l.out (cu o j) n.out yB.out) ?_; intro gF p; obtain ⟨b, a⟩ := tb2 p b a; replace j := kh2 j c i p; have z66 := Ay a.out; have z67 := cells5 b.out); go_ret; exact ⟨rfl, be2 j c i⟩
def Ca.f (k : Nat) (a : Int) (b : Int) (c : ByteArray) (d : List ByteArray) (e : List (S26)) (g : Int) (h : Int) (i : List Int) (j : List (S30)) : Option (Bool) := (Bc.f k a b c d e).bind fun t194 => (if t194 = true then ((Co.f k a b c d e g h i j).bind fun l => (some l)) else (some false))
theorem Ca.calls {k : Nat} {s u : Int} {v : ByteArray} {D : Option Addr} {T : Nat} {m : List ByteArray} {G : Option Addr} {U : Nat} {n : List (S26)} {L O : Int} {I : Option Addr} {W : Nat} {o : List Int} {J : Option Addr} {X : Nat} {p : List (S30)} {r : Bool} {w : World} (hG : EP w) (cB : Kd.C Kd.string w D m.length m) (Y : m.length ≤ T) (dB : Kd.C k26 w G n.length n) (Z : n.length ≤ U) (eB : Kd.C (Kd.int .u8) w I o.length o) (aB : o.length ≤ W) (fB : Kd.C k30 w J p.length p) (bB : p.length ≤ X) (h : Ca.f k s u v m n L O o p = some r) :
  Calls Try.prog 45 #[.agg #[.int .i64 s, .int .i64 u, .string v, .slice D m.length T, .slice G n.length U], .agg #[.int .i64 L, .int .i64 O, .slice I o.length W, .slice J p.length X]] w fun e w' => e = .returned (.bool r) ∧ Below w.heap.size w w' := by
 have HG := mk0 hG; clear hG
 have zB := Try.underlying26
 have aC := Try.underlying30
 have z := mk0 cB; have x := mk0 Y; clear cB Y; have B := mk0 dB; have y := mk0 Z; clear dB Z; have jB := mk0 eB; have gB := mk0 aB; clear eB aB; have kB := mk0 fB; have hB := mk0 bB; clear fB bB
 have l := mk0 (Below.refl w.heap.size w)
 have H := h; unfold Ca.f at H
 clear h
 replace H := bS H; obtain ⟨t194, A3, H⟩ := H
 replace H := iB' H; obtain ⟨rfl, H⟩ | ⟨rfl, H⟩ := H
 ·obtain rfl := sI H; go_enter Try.func45, Try.ntmps45; go_wp2_with (first | ((with_reducible refine AQ rfl (N := 2) rfl (cs := #[.int .i64 s, .int .i64 u, .string v, .slice D m.length T, .slice G n.length U]) (t := 26) ?hr ?_); (case hr => first | (go_simp; done) | (go_simp; rfl)); intro lB hg fC g q; have a := mk0 (g); have b := bs (be l) hg; replace l := kh l q; clear q g hg) | ((with_reducible refine AQ rfl (N := 3) rfl (cs := #[.int .i64 L, .int .i64 O, .slice I o.length W, .slice J p.length X]) (t := 30) ?hr ?_); (case hr => first | (go_simp; done) | (go_simp; rfl)); intro mB hg gC g q; have c := mk0 (g); have d := bs (be1 l b) hg; replace l := kh1 l b q; have ⟨i, j⟩ := nn a hg; replace a := kb a q; clear q g hg; have ⟨qB, sB⟩ := no i j; have z17 := cells5 a.out) | ((with_reducible refine AJ (f := 43) rfl ?_); refine CS Try.func43 (Bc.calls k s u v _ _ m _ _ n false _ (Aa HG.out (be2 l b d)) (cu z l) x.out (cu B l) y.out A3.out) ?_; intro hC q; obtain ⟨a, c⟩ := tb2 q a c; replace l := kh2 l b d q)); go_ret; exact ⟨rfl, be2 l b d⟩
 replace H := bS H; obtain ⟨bC, A5, H⟩ := H; obtain rfl := sI H
 go_enter Try.func45, Try.ntmps45
 go_wp2_with (first | ((with_reducible refine AQ rfl (N := 2) rfl (cs := #[.int .i64 s, .int .i64 u, .string v, .slice D m.length T, .slice G n.length U]) (t := 26) ?hr ?_); (case hr => first | (go_simp; done) | (go_simp; rfl)); intro lB hg w6 g q; have a := mk0 (g); have b := bs (be l) hg; replace l := kh l q; clear q g hg) | ((with_reducible refine AQ rfl (N := 3) rfl (cs := #[.int .i64 L, .int .i64 O, .slice I o.length W, .slice J p.length X]) (t := 30) ?hr ?_); (case hr => first | (go_simp; done) | (go_simp; rfl)); intro mB hg w7 g q; have c := mk0 (g); have d := bs (be1 l b) hg; replace l := kh1 l b q; have ⟨i, j⟩ := nn a hg; replace a := kb a q; clear q g hg; have ⟨xB, yB⟩ := no i j; have z9 := cells5 a.out) | ((with_reducible refine AJ (f := 43) rfl ?_); refine CS Try.func43 (Bc.calls k s u v _ _ m _ _ n true _ (Aa HG.out (be2 l b d)) (cu z l) x.out (cu B l) y.out A3.out) ?_; intro dC q; obtain ⟨a, c⟩ := tb2 q a c; replace l := kh2 l b d q; have iC := cells5 a.out; have z12 := Ay c.out) | (go_at_call 67; refine (Co.calls (cu z l) x.out (cu B l) y.out (cu jB l) gB.out (cu kB l) hB.out A5.out).mono ?_; rintro e eC ⟨rfl, q⟩; obtain ⟨a, c⟩ := tb2 q a c; replace l := kh2 l b d q))
 go_ret
 exact ⟨rfl, be2 l b d⟩
end Go.Proofs.Ytojankgmedccdaa.PIs
