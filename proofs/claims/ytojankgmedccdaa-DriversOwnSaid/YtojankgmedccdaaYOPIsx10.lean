/- Lemmas. -/
import Derived.Test.YtojankgmedccdaaYOPIsx6
import Derived.Test.YtojankgmedccdaaYOPIsx8
set_option maxHeartbeats 8000000
set_option maxRecDepth 100000
namespace Go.Proofs.Ytojankgmedccdaa.PIs
open Go.RowKit Own PTy Hand Wo
attribute [local go_sem] BI BJ Ba Bc Ao Ap BL BM
set_option linter.unusedVariables false
set_option linter.unusedSimpArgs false
def Bv.f (e : Int) (c : Int) (b : List Int) (a : List (S30)) (i : Bool) (h : Bool) (a3 : Bool) : Option (Bool) := if i = true then (if h = true then (if a3 = true then (some true) else (some ((a.length : Int) == 0))) else (if (b.length : Int) = 0 then (if a3 = true then (some true) else (some ((a.length : Int) == 0))) else (some false))) else (if c = 0 then (if h = true then (if a3 = true then (some true) else (some ((a.length : Int) == 0))) else (if (b.length : Int) = 0 then (if a3 = true then (some true) else (some ((a.length : Int) == 0))) else (some false))) else (some false))
theorem Bv.calls {s u : Int} {o : Option Addr} {v : Nat} {i : List Int} {q : Option Addr} {z : Nat} {j : List (S30)} {a1 a2 a3 r : Bool} {w : World} (I : Kd.C (Kd.int .u8) w o i.length i) (D : i.length ≤ v) (J : Kd.C k30 w q j.length j) (G : j.length ≤ z) (h : Bv.f s u i j a1 a2 a3 = some r) :
  Calls Try.prog 80 #[.agg #[.int .i64 s, .int .i64 u, .slice o i.length v, .slice q j.length z], .bool a1, .bool a2, .bool a3] w fun e w' => e = .returned (.bool r) ∧ Below w.heap.size w w' := by
 have kB := Try.underlying30
 have aB := mk0 I; have Y := mk0 D; clear I D; have bB := mk0 J; have Z := mk0 G; clear J G
 have k := mk0 (Below.refl w.heap.size w)
 have H := h; unfold Bv.f at H
 clear h
 replace H := iB H; obtain ⟨rfl, H⟩ | ⟨rfl, H⟩ := H
 ·replace H := iB H; obtain ⟨rfl, H⟩ | ⟨rfl, H⟩ := H
  ·replace H := iB H; obtain ⟨rfl, H⟩ | ⟨rfl, H⟩ := H
   ·obtain rfl := sI H; go_enter Try.func80, Try.ntmps80; go_wp2_with ((with_reducible refine AU rfl (N := 4) rfl (cs := #[.int .i64 s, .int .i64 u, .slice o i.length v, .slice q j.length z]) (t := 30) ?hr ?_); (case hr => first | (go_simp; done) | (go_simp; rfl)); intro l hg w8 a B; have c := mk0 (a); have b := bs (be k) hg; replace k := kh k B; clear B a hg); go_ret; exact ⟨rfl, be1 k b⟩
   obtain rfl := sI H; go_enter Try.func80, Try.ntmps80; go_wp2_with ((with_reducible refine AU rfl (N := 4) rfl (cs := #[.int .i64 s, .int .i64 u, .slice o i.length v, .slice q j.length z]) (t := 30) ?hr ?_); (case hr => first | (go_simp; done) | (go_simp; rfl)); intro l hg w9 a B; have c := mk0 (a); have b := bs (be k) hg; replace k := kh k B; clear B a hg; have aC := Ar c.out); go_ret; exact ⟨rfl, be1 k b⟩
  replace H := iE' H; obtain ⟨cB, L, O, H⟩ | ⟨L, O, H⟩ := H
  ·have dB : ¬ (i = []) := fun h_ => cB (by rw [h_]; rfl); obtain rfl := sI H; go_enter Try.func80, Try.ntmps80; go_wp2_with ((with_reducible refine AU rfl (N := 4) rfl (cs := #[.int .i64 s, .int .i64 u, .slice o i.length v, .slice q j.length z]) (t := 30) ?hr ?_); (case hr => first | (go_simp; done) | (go_simp; rfl)); intro l hg sB a B; have c := mk0 (a); have b := bs (be k) hg; replace k := kh k B; clear B a hg; have dC := Ar c.out); go_ret; exact ⟨rfl, be1 k b⟩
  replace H := iB H; obtain ⟨rfl, H⟩ | ⟨rfl, H⟩ := H
  ·obtain rfl := sI H; go_enter Try.func80, Try.ntmps80; go_wp2_with ((with_reducible refine AU rfl (N := 4) rfl (cs := #[.int .i64 s, .int .i64 u, .slice o i.length v, .slice q j.length z]) (t := 30) ?hr ?_); (case hr => first | (go_simp; done) | (go_simp; rfl)); intro l hg mB a B; have c := mk0 (a); have b := bs (be k) hg; replace k := kh k B; clear B a hg; have bC := Ar c.out); go_ret; exact ⟨rfl, be1 k b⟩
  obtain rfl := sI H; go_enter Try.func80, Try.ntmps80; go_wp2_with ((with_reducible refine AU rfl (N := 4) rfl (cs := #[.int .i64 s, .int .i64 u, .slice o i.length v, .slice q j.length z]) (t := 30) ?hr ?_); (case hr => first | (go_simp; done) | (go_simp; rfl)); intro l hg qB a B; have c := mk0 (a); have b := bs (be k) hg; replace k := kh k B; clear B a hg; have cC := Ar c.out); go_ret; exact ⟨rfl, be1 k b⟩
 replace H := iE' H; obtain ⟨lB, T, U, H⟩ | ⟨T, U, H⟩ := H
 ·obtain rfl := sI H; go_enter Try.func80, Try.ntmps80; go_wp2_with ((with_reducible refine AU rfl (N := 4) rfl (cs := #[.int .i64 s, .int .i64 u, .slice o i.length v, .slice q j.length z]) (t := 30) ?hr ?_); (case hr => first | (go_simp; done) | (go_simp; rfl)); intro l hg zB a B; have c := mk0 (a); have b := bs (be k) hg; replace k := kh k B; clear B a hg; have z35 := Ar c.out); go_ret; exact ⟨rfl, be1 k b⟩
 replace H := iB H; obtain ⟨rfl, H⟩ | ⟨rfl, H⟩ := H
 ·replace H := iB H; obtain ⟨rfl, H⟩ | ⟨rfl, H⟩ := H
  ·obtain rfl := sI H; go_enter Try.func80, Try.ntmps80; go_wp2_with ((with_reducible refine AU rfl (N := 4) rfl (cs := #[.int .i64 s, .int .i64 u, .slice o i.length v, .slice q j.length z]) (t := 30) ?hr ?_); (case hr => first | (go_simp; done) | (go_simp; rfl)); intro l hg tB a B; have c := mk0 (a); have b := bs (be k) hg; replace k := kh k B; clear B a hg; have z23 := Ar c.out); go_ret; exact ⟨rfl, be1 k b⟩
  obtain rfl := sI H; go_enter Try.func80, Try.ntmps80; go_wp2_with ((with_reducible refine AU rfl (N := 4) rfl (cs := #[.int .i64 s, .int .i64 u, .slice o i.length v, .slice q j.length z]) (t := 30) ?hr ?_); (case hr => first | (go_simp; done) | (go_simp; rfl)); intro l hg uB a B; have c := mk0 (a); have b := bs (be k) hg; replace k := kh k B; clear B a hg; have z25 := Ar c.out); go_ret; exact ⟨rfl, be1 k b⟩
 replace H := iE' H; obtain ⟨eB, W, X, H⟩ | ⟨W, X, H⟩ := H
 ·have fB : ¬ (i = []) := fun h_ => eB (by rw [h_]; rfl); obtain rfl := sI H; go_enter Try.func80, Try.ntmps80; go_wp2_with ((with_reducible refine AU rfl (N := 4) rfl (cs := #[.int .i64 s, .int .i64 u, .slice o i.length v, .slice q j.length z]) (t := 30) ?hr ?_); (case hr => first | (go_simp; done) | (go_simp; rfl)); intro l hg yB a B; have c := mk0 (a); have b := bs (be k) hg; replace k := kh k B; clear B a hg; have z33 := Ar c.out); go_ret; exact ⟨rfl, be1 k b⟩
 replace H := iB H; obtain ⟨rfl, H⟩ | ⟨rfl, H⟩ := H
 ·obtain rfl := sI H; go_enter Try.func80, Try.ntmps80; go_wp2_with ((with_reducible refine AU rfl (N := 4) rfl (cs := #[.int .i64 s, .int .i64 u, .slice o i.length v, .slice q j.length z]) (t := 30) ?hr ?_); (case hr => first | (go_simp; done) | (go_simp; rfl)); intro l hg wB a B; have c := mk0 (a); have b := bs (be k) hg; replace k := kh k B; clear B a hg; have z29 := Ar c.out); go_ret; exact ⟨rfl, be1 k b⟩
 obtain rfl := sI H
 go_enter Try.func80, Try.ntmps80
 go_wp2_with ((with_reducible refine AU rfl (N := 4) rfl (cs := #[.int .i64 s, .int .i64 u, .slice o i.length v, .slice q j.length z]) (t := 30) ?hr ?_); (case hr => first | (go_simp; done) | (go_simp; rfl)); intro l hg xB a B; have c := mk0 (a); have b := bs (be k) hg; replace k := kh k B; clear B a hg; have z31 := Ar c.out)
 go_ret
 exact ⟨rfl, be1 k b⟩
def Ce.j0 : Nat → Int → Bool → Int → Int → ByteArray → List ByteArray → List (S26) → Int → Int → List Int → List (S30) → Option (Bool)
 | 0, _, _, _, _, _, _, _, _, _, _, _ => none
 | k + 1, j, B, v, h, w, i, z, e, a, b, c => if B = true then ((Bv.f e a b c false true false).bind fun l => (if l = true then ((Fh.f b).bind fun o => (if o = true then (some ((b.length : Int) == (mx h 1))) else (some false))) else (some false))) else (if j = 2 then ((Bv.f e a b c true false false).bind fun q => (if q = true then (if a = 0 then (some true) else (some (a == 1))) else (some false))) else (if j = 3 then ((Bv.f e a b c true false false).bind fun r => (if r = true then (if a ≥ (-2147483648) then (some (decide (a ≤ 2147483647))) else (some false)) else (some false))) else (if j = 5 then ((Bv.f e a b c true false false).bind fun s => (if s = true then (if a ≥ 0 then (some (decide (a < (i.length : Int)))) else (some false)) else (some false))) else ((Bv.f e a b c false false true).bind fun u => (if u = true then (if (c.length : Int) = h then (none) else (some false)) else (some false))))))
def Ce.f (k : Nat) (a : Int) (c : Int) (e : ByteArray) (i : List ByteArray) (j : List (S26)) (b : Int) (h : Int) (l : List Int) (o : List (S30)) : Option (Bool) := if b = a then (if a = 1 then (Ce.j0 k a (a == 1) a c e i j b h l o) else (Ce.j0 k a (a == 4) a c e i j b h l o)) else (some false)
theorem Ce.calls {k : Nat} {I J : Int} {X : ByteArray} {Z : Option Addr} {dB : Nat} {L : List ByteArray} {aB : Option Addr} {eB : Nat} {O : List (S26)} {Y B : Int} {bB : Option Addr} {fB : Nat} {D : List Int} {cB : Option Addr} {gB : Nat} {T : List (S30)} {r : Bool} {w : World} (tB : Kd.C Kd.string w Z L.length L) (lB : L.length ≤ dB) (uB : Kd.C k26 w aB O.length O) (mB : O.length ≤ eB) (wB : Kd.C (Kd.int .u8) w bB D.length D) (qB : D.length ≤ fB) (xB : Kd.C k30 w cB T.length T) (sB : T.length ≤ gB) (h : Ce.f k I J X L O Y B D T = some r) :
  Calls Try.prog 67 #[.agg #[.int .i64 I, .int .i64 J, .string X, .slice Z L.length dB, .slice aB O.length eB], .agg #[.int .i64 Y, .int .i64 B, .slice bB D.length fB, .slice cB T.length gB]] w fun e w' => e = .returned (.bool r) ∧ Below w.heap.size w w' := by
 have lE := Try.underlying26
 have mE := Try.underlying30
 have bD := mk0 tB; have zC := mk0 lB; clear tB lB; have cD := mk0 uB; have aD := mk0 mB; clear uB mB; have s := mk0 wB; have q := mk0 qB; clear wB qB; have v := mk0 xB; have u := mk0 sB; clear xB sB
 have o := mk0 (Below.refl w.heap.size w)
 have H := h; unfold Ce.f at H
 clear h
 replace H := iE' H; obtain ⟨c3, zB, aC, H⟩ | ⟨zB, aC, H⟩ := H
 ·obtain rfl := sI H; go_enter Try.func67, Try.ntmps67; go_wp2_with (first | ((with_reducible refine AU rfl (N := 2) rfl (cs := #[.int .i64 I, .int .i64 J, .string X, .slice Z L.length dB, .slice aB O.length eB]) (t := 26) ?hr ?_); (case hr => first | (go_simp; done) | (go_simp; rfl)); intro jB hg wF G z; have b := mk0 (G); have c := bs (be o) hg; replace o := kh o z; clear z G hg) | ((with_reducible refine AU rfl (N := 3) rfl (cs := #[.int .i64 Y, .int .i64 B, .slice bB D.length fB, .slice cB T.length gB]) (t := 30) ?hr ?_); (case hr => first | (go_simp; done) | (go_simp; rfl)); intro kB hg xF G z; have a := mk0 (G); have l := bs (be1 o c) hg; replace o := kh1 o c z; have ⟨i, j⟩ := nn b hg; replace b := kb b z; clear z G hg; have ⟨sD, hE⟩ := no j i; have z89 := Ar a.out; have aG := cells5 b.out)); go_ret; exact ⟨rfl, be2 o c l⟩
 have gC := mk0 H; clear H
 go_enter Try.func67, Try.ntmps67
 go_upto_if 12 with (first | ((with_reducible refine AU rfl (N := 2) rfl (cs := #[.int .i64 I, .int .i64 J, .string X, .slice Z L.length dB, .slice aB O.length eB]) (t := 26) ?hr ?_); (case hr => first | (go_simp; done) | (go_simp; rfl)); intro jB hg w5 G z; have b := mk0 (G); have c := bs (be o) hg; replace o := kh o z; clear z G hg) | ((with_reducible refine AU rfl (N := 3) rfl (cs := #[.int .i64 Y, .int .i64 B, .slice bB D.length fB, .slice cB T.length gB]) (t := 30) ?hr ?_); (case hr => first | (go_simp; done) | (go_simp; rfl)); intro kB hg w6 G z; have a := mk0 (G); have l := bs (be1 o c) hg; replace o := kh1 o c z; have ⟨i, j⟩ := nn b hg; replace b := kb b z; clear z G hg; have ⟨jE, kE⟩ := no j i; have z8 := Ar a.out; have z9 := cells5 b.out))
 (try simp only [Act.put, List.setIfInBounds_toArray, List.set_cons_zero, List.set_cons_succ])
 go_cut [12] (fun v12 wc => ∃ (kq : Nat) (hB : Bool), v12 = .bool hB ∧ Aside0 (Ce.j0 kq I hB I J X L O Y B D T = some r) ∧ Aside0 (kq ≤ k) ∧ Aside0 (bk wc jB 26 #[.int .i64 I, .int .i64 J, .string X, (.slice Z L.length dB), (.slice aB O.length eB)]) ∧ Aside0 (bk wc kB 30 #[.int .i64 Y, .int .i64 B, (.slice bB D.length fB), (.slice cB T.length gB)]) ∧ Aside0 (Below w.heap.size w wc))
 case first =>
  have H := gC.out; clear gC; replace H := iE' H; obtain ⟨uE, W, hC, H⟩ | ⟨W, hC, H⟩ := H
  ·(first | rw [W] | (simp only [CG, DK]; rw [W]) | skip); have H' := mk0 H; clear H; go_wp2; go_meet
   case rel => exact ⟨_, ((I == 4)), rfl, H', ⟨by omega⟩, ⟨bu b⟩, ⟨bu a⟩, ⟨be2 o c l⟩⟩
  (first | rw [W] | (simp only [CG, DK]; rw [W]) | skip); have H' := mk0 H; clear H; go_wp2; go_meet
  case rel => exact ⟨_, ((I == 1)), (by first | rfl | (simp; done) | (simp [*]; done)), H', ⟨by omega⟩, ⟨bu b⟩, ⟨bu a⟩, ⟨be2 o c l⟩⟩
 case rest =>
  clear gC; try clear c3; try clear zB; try clear aC
  obtain ⟨kq, hB, rfl, HA, tE, b, a, o⟩ := hcut; cases kq with
  | zero => exact absurd HA.out (by simp [Ce.j0])
  | succ cF =>
   have H := HA.out; clear HA; simp only [Ce.j0] at H; replace H := iB H; obtain ⟨rfl, H⟩ | ⟨rfl, H⟩ := H
   ·replace H := bS H; obtain ⟨nE, yB, H⟩ := H; replace H := iB' H; obtain ⟨rfl, H⟩ | ⟨rfl, H⟩ := H
    ·obtain rfl := sI H; have ⟨fD, vD⟩ := no j i; have z27 := Ar a.out; go_wp2_with ((with_reducible refine AP (f := 80) rfl ?_); refine CS Try.func80 (Bv.calls (cu s o) q.out (cu v o) u.out yB.out) ?_; intro gF z; obtain ⟨b, a⟩ := tb2 z b a; replace o := kh2 o c l z); go_ret; exact ⟨rfl, be2 o c l⟩
    replace H := bS H; obtain ⟨oE, cC, H⟩ := H; replace H := iB' H; obtain ⟨rfl, H⟩ | ⟨rfl, H⟩ := H
    ·obtain rfl := sI H; have ⟨eD, uD⟩ := no j i; have z23 := Ar a.out; go_wp2_with (first | ((with_reducible refine AP (f := 80) rfl ?_); refine CS Try.func80 (Bv.calls (cu s o) q.out (cu v o) u.out yB.out) ?_; intro fF z; obtain ⟨b, a⟩ := tb2 z b a; replace o := kh2 o c l z; have z25 := Ar a.out) | (go_at_call 81; refine (Fh.calls _ _ D false _ (cu s o) q.out cC.out).mono ?_; rintro e w' ⟨rfl, nd, rfl⟩)); go_ret; exact ⟨rfl, be2 o c l⟩
    obtain ⟨bC, U⟩ : ∃ j_ : Int, (mx J 1) = j_ := ⟨_, rfl⟩; replace H : (some ((D.length : Int) == (bC))) = some r := by first | (rw [U] at H; exact H) | (simp only [U] at H ⊢; exact H)
    (try rw [U] at yB); (try rw [U] at cC); have vC : (if J < 1 then 1 else J) = bC := U; obtain rfl := sI H; have ⟨dD, tD⟩ := no j i; have yF := Ar a.out; go_wp2_with (first | ((with_reducible refine AP (f := 80) rfl ?_); refine CS Try.func80 (Bv.calls (cu s o) q.out (cu v o) u.out yB.out) ?_; intro eF z; obtain ⟨b, a⟩ := tb2 z b a; replace o := kh2 o c l z; have z20 := Ar a.out) | (go_at_call 81; refine (Fh.calls _ _ D true _ (cu s o) q.out cC.out).mono ?_; rintro e w' ⟨rfl, nd, rfl⟩; have z21 := cells5 b.out)); go_ret; exact ⟨by first | rfl | (simp [EN, EO] <;> rfl) | (simp only [← U]; first | rfl | (simp [EN, EO] <;> rfl)) | (simp [*, EN, EO] <;> rfl), be2 o c l⟩
   replace H := iE H; obtain ⟨iC, jC, H⟩ | ⟨vE, iC, jC, H⟩ := H
   ·replace H := bS H; obtain ⟨pE, dC, H⟩ := H; replace H := iB' H; obtain ⟨rfl, H⟩ | ⟨rfl, H⟩ := H
    ·obtain rfl := sI H; have ⟨jD, yD⟩ := no j i; have z42 := Ar a.out; go_wp2_with ((with_reducible refine AP (f := 80) rfl ?_); refine CS Try.func80 (Bv.calls (cu s o) q.out (cu v o) u.out dC.out) ?_; intro lF z; obtain ⟨b, a⟩ := tb2 z b a; replace o := kh2 o c l z); go_ret; exact ⟨rfl, be2 o c l⟩
    replace H := iE' H; obtain ⟨xE, kC, lC, H⟩ | ⟨kC, lC, H⟩ := H
    ·obtain rfl := sI H; have ⟨hD, xD⟩ := no j i; have z38 := Ar a.out; go_wp2_with ((with_reducible refine AP (f := 80) rfl ?_); refine CS Try.func80 (Bv.calls (cu s o) q.out (cu v o) u.out dC.out) ?_; intro jF z; obtain ⟨b, a⟩ := tb2 z b a; replace o := kh2 o c l z; have z40 := Ar a.out); go_ret; exact ⟨rfl, be2 o c l⟩
    obtain rfl := sI H; have ⟨gD, wD⟩ := no j i; have z34 := Ar a.out; go_wp2_with ((with_reducible refine AP (f := 80) rfl ?_); refine CS Try.func80 (Bv.calls (cu s o) q.out (cu v o) u.out dC.out) ?_; intro hF z; obtain ⟨b, a⟩ := tb2 z b a; replace o := kh2 o c l z; have z36 := Ar a.out); go_ret; exact ⟨rfl, be2 o c l⟩
   replace H := iE H; obtain ⟨mC, nC, H⟩ | ⟨yE, mC, nC, H⟩ := H
   ·replace H := bS H; obtain ⟨qE, eC, H⟩ := H; replace H := iB' H; obtain ⟨rfl, H⟩ | ⟨rfl, H⟩ := H
    ·obtain rfl := sI H; have ⟨mD, bE⟩ := no j i; have z57 := Ar a.out; go_wp2_with ((with_reducible refine AP (f := 80) rfl ?_); refine CS Try.func80 (Bv.calls (cu s o) q.out (cu v o) u.out eC.out) ?_; intro pF z; obtain ⟨b, a⟩ := tb2 z b a; replace o := kh2 o c l z); go_ret; exact ⟨rfl, be2 o c l⟩
    by_cases c47 : B ≥ (-2147483648); rotate_left
    ·rw [if_neg c47] at H; have oC : decide ((-2147483648) ≤ B) = false := decide_eq_false c47; clear c47; obtain rfl := sI H; have ⟨lD, aE⟩ := no j i; have z53 := Ar a.out; go_wp2_with ((with_reducible refine AP (f := 80) rfl ?_); refine CS Try.func80 (Bv.calls (cu s o) q.out (cu v o) u.out eC.out) ?_; intro oF z; obtain ⟨b, a⟩ := tb2 z b a; replace o := kh2 o c l z; have z55 := Ar a.out); go_ret; exact ⟨rfl, be2 o c l⟩
    rw [if_pos c47] at H; have oC : decide ((-2147483648) ≤ B) = true := decide_eq_true c47; clear c47; obtain rfl := sI H; have ⟨kD, zD⟩ := no j i; have z49 := Ar a.out; go_wp2_with ((with_reducible refine AP (f := 80) rfl ?_); refine CS Try.func80 (Bv.calls (cu s o) q.out (cu v o) u.out eC.out) ?_; intro mF z; obtain ⟨b, a⟩ := tb2 z b a; replace o := kh2 o c l z; have z51 := Ar a.out); go_ret; exact ⟨rfl, be2 o c l⟩
   replace H := iE' H; obtain ⟨c59, pC, qC, H⟩ | ⟨pC, qC, H⟩ := H
   ·replace H := bS H; obtain ⟨sE, uC, H⟩ := H; replace H := iB' H; obtain ⟨rfl, H⟩ | ⟨rfl, H⟩ := H
    ·obtain rfl := sI H; have ⟨rD, gE⟩ := no j i; have z84 := Ar a.out; go_wp2_with ((with_reducible refine AP (f := 80) rfl ?_); refine CS Try.func80 (Bv.calls (cu s o) q.out (cu v o) u.out uC.out) ?_; intro uF z; obtain ⟨b, a⟩ := tb2 z b a; replace o := kh2 o c l z); go_ret; exact ⟨rfl, be2 o c l⟩
    replace H := iE H; obtain ⟨sC, tC, H⟩ | ⟨zE, sC, tC, H⟩ := H
    ·exact absurd H (by simp)
    obtain rfl := sI H; have ⟨qD, fE⟩ := no j i; have z79 := Ar a.out; go_wp2_with ((with_reducible refine AP (f := 80) rfl ?_); refine CS Try.func80 (Bv.calls (cu s o) q.out (cu v o) u.out uC.out) ?_; intro tF z; obtain ⟨b, a⟩ := tb2 z b a; replace o := kh2 o c l z; have zF := Ar a.out; have z82 := cells5 b.out); go_ret; exact ⟨rfl, be2 o c l⟩
   replace H := bS H; obtain ⟨rE, fC, H⟩ := H; replace H := iB' H; obtain ⟨rfl, H⟩ | ⟨rfl, H⟩ := H
   ·obtain rfl := sI H; have ⟨pD, eE⟩ := no j i; have z73 := Ar a.out; go_wp2_with ((with_reducible refine AP (f := 80) rfl ?_); refine CS Try.func80 (Bv.calls (cu s o) q.out (cu v o) u.out fC.out) ?_; intro sF z; obtain ⟨b, a⟩ := tb2 z b a; replace o := kh2 o c l z); go_ret; exact ⟨rfl, be2 o c l⟩
   by_cases c62 : B ≥ 0; rotate_left
   ·rw [if_neg c62] at H; have rC : decide (0 ≤ B) = false := decide_eq_false c62; clear c62; obtain rfl := sI H; have ⟨oD, dE⟩ := no j i; have z69 := Ar a.out; go_wp2_with ((with_reducible refine AP (f := 80) rfl ?_); refine CS Try.func80 (Bv.calls (cu s o) q.out (cu v o) u.out fC.out) ?_; intro rF z; obtain ⟨b, a⟩ := tb2 z b a; replace o := kh2 o c l z; have z71 := Ar a.out); go_ret; exact ⟨rfl, be2 o c l⟩
   rw [if_pos c62] at H; have rC : decide (0 ≤ B) = true := decide_eq_true c62; clear c62; obtain rfl := sI H; have ⟨nD, cE⟩ := no j i; have z64 := Ar a.out; go_wp2_with ((with_reducible refine AP (f := 80) rfl ?_); refine CS Try.func80 (Bv.calls (cu s o) q.out (cu v o) u.out fC.out) ?_; intro qF z; obtain ⟨b, a⟩ := tb2 z b a; replace o := kh2 o c l z; have z66 := Ar a.out; have z67 := cells5 b.out); go_ret; exact ⟨rfl, be2 o c l⟩
def Bz.f (k : Nat) (a : Int) (b : Int) (c : ByteArray) (e : List ByteArray) (h : List (S26)) (i : Int) (j : Int) (l : List Int) (o : List (S30)) : Option (Bool) := (BU.f k a b c e h).bind fun t194 => (if t194 = true then ((Ce.f k a b c e h i j l o).bind fun q => (some q)) else (some false))
theorem Bz.calls {k : Nat} {D G : Int} {I : ByteArray} {U : Option Addr} {bB : Nat} {s : List ByteArray} {W : Option Addr} {cB : Nat} {u : List (S26)} {Z aB : Int} {X : Option Addr} {dB : Nat} {v : List Int} {Y : Option Addr} {eB : Nat} {z : List (S30)} {r : Bool} {w : World} (hG : Dk w) (kB : Kd.C Kd.string w U s.length s) (fB : s.length ≤ bB) (lB : Kd.C k26 w W u.length u) (gB : u.length ≤ cB) (mB : Kd.C (Kd.int .u8) w X v.length v) (hB : v.length ≤ dB) (qB : Kd.C k30 w Y z.length z) (jB : z.length ≤ eB) (h : Bz.f k D G I s u Z aB v z = some r) :
  Calls Try.prog 45 #[.agg #[.int .i64 D, .int .i64 G, .string I, .slice U s.length bB, .slice W u.length cB], .agg #[.int .i64 Z, .int .i64 aB, .slice X v.length dB, .slice Y z.length eB]] w fun e w' => e = .returned (.bool r) ∧ Below w.heap.size w w' := by
 have HG := mk0 hG; clear hG
 have gC := Try.underlying26
 have hC := Try.underlying30
 have O := mk0 kB; have J := mk0 fB; clear kB fB; have T := mk0 lB; have L := mk0 gB; clear lB gB; have uB := mk0 mB; have sB := mk0 hB; clear mB hB; have wB := mk0 qB; have tB := mk0 jB; clear qB jB
 have q := mk0 (Below.refl w.heap.size w)
 have H := h; unfold Bz.f at H
 clear h
 replace H := bS H; obtain ⟨t194, A3, H⟩ := H
 replace H := iB' H; obtain ⟨rfl, H⟩ | ⟨rfl, H⟩ := H
 ·obtain rfl := sI H; go_enter Try.func45, Try.ntmps45; go_wp2_with (first | ((with_reducible refine AU rfl (N := 2) rfl (cs := #[.int .i64 D, .int .i64 G, .string I, .slice U s.length bB, .slice W u.length cB]) (t := 26) ?hr ?_); (case hr => first | (go_simp; done) | (go_simp; rfl)); intro xB hg mC j B; have a := mk0 (j); have b := bs (be q) hg; replace q := kh q B; clear B j hg) | ((with_reducible refine AU rfl (N := 3) rfl (cs := #[.int .i64 Z, .int .i64 aB, .slice X v.length dB, .slice Y z.length eB]) (t := 30) ?hr ?_); (case hr => first | (go_simp; done) | (go_simp; rfl)); intro yB hg nC j B; have c := mk0 (j); have i := bs (be1 q b) hg; replace q := kh1 q b B; have ⟨l, o⟩ := nn a hg; replace a := kb a B; clear B j hg; have ⟨zB, aC⟩ := no l o; have z17 := cells5 a.out) | ((with_reducible refine AP (f := 43) rfl ?_); refine CS Try.func43 (BU.calls k D G I _ _ s _ _ u false _ (Ad HG.out (be2 q b i)) (cu O q) J.out (cu T q) L.out A3.out) ?_; intro oC B; obtain ⟨a, c⟩ := tb2 B a c; replace q := kh2 q b i B)); go_ret; exact ⟨rfl, be2 q b i⟩
 replace H := bS H; obtain ⟨iC, A5, H⟩ := H; obtain rfl := sI H
 go_enter Try.func45, Try.ntmps45
 go_wp2_with (first | ((with_reducible refine AU rfl (N := 2) rfl (cs := #[.int .i64 D, .int .i64 G, .string I, .slice U s.length bB, .slice W u.length cB]) (t := 26) ?hr ?_); (case hr => first | (go_simp; done) | (go_simp; rfl)); intro xB hg w6 j B; have a := mk0 (j); have b := bs (be q) hg; replace q := kh q B; clear B j hg) | ((with_reducible refine AU rfl (N := 3) rfl (cs := #[.int .i64 Z, .int .i64 aB, .slice X v.length dB, .slice Y z.length eB]) (t := 30) ?hr ?_); (case hr => first | (go_simp; done) | (go_simp; rfl)); intro yB hg w7 j B; have c := mk0 (j); have i := bs (be1 q b) hg; replace q := kh1 q b B; have ⟨l, o⟩ := nn a hg; replace a := kb a B; clear B j hg; have ⟨eC, fC⟩ := no l o; have z9 := cells5 a.out) | ((with_reducible refine AP (f := 43) rfl ?_); refine CS Try.func43 (BU.calls k D G I _ _ s _ _ u true _ (Ad HG.out (be2 q b i)) (cu O q) J.out (cu T q) L.out A3.out) ?_; intro kC B; obtain ⟨a, c⟩ := tb2 B a c; replace q := kh2 q b i B; have pC := cells5 a.out; have z12 := Ar c.out) | (go_at_call 67; refine (Ce.calls (cu O q) J.out (cu T q) L.out (cu uB q) sB.out (cu wB q) tB.out A5.out).mono ?_; rintro e lC ⟨rfl, B⟩; obtain ⟨a, c⟩ := tb2 B a c; replace q := kh2 q b i B))
 go_ret
 exact ⟨rfl, be2 q b i⟩
end Go.Proofs.Ytojankgmedccdaa.PIs
