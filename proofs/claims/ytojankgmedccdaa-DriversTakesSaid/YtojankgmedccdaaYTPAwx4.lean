/- Lemmas for LawDriversTakes. -/
import Derived.Test.YtojankgmedccdaaYTPAwx1
import Derived.Test.YtojankgmedccdaaYTPAwx3
namespace Go.Proofs.Ytojankgmedccdaa.PAw
open Go.RowKit Own PTy Hand PIs YtojankgmedccdaaW.PrintWords YtojankgmedccdaaW.PrintLast YtojankgmedccdaaW.PrintMore
attribute [local go_sem] BN BO Be Bf Az BA BR BS
set_option linter.unusedVariables false
set_option linter.unusedSimpArgs false
def Ew.f (k : Nat) (a : Int) (b : Int) (c : ByteArray) (i : List ByteArray) (j : List (S26)) (d : Int) (e : Int) (l : List Int) (m : List (S30)) (g : Int) (h : Int) (n : List Int) (o : List (S30)) : Option (Bool × Int) := (Cm.f k a b c i j d e l m).bind fun p => (if p = true then ((Cm.f k a b c i j g h n o).bind fun q => (if q = true then ((ED.f k d e l m g h n o).bind fun r => (some (r, 0))) else (none))) else (none))
set_option maxHeartbeats 8000000 in
set_option maxRecDepth 100000 in
theorem Ew.calls {k : Nat} {lB mB : Int} {oB : ByteArray} {L : Option Addr} {qB : Nat} {q : List ByteArray} {O : Option Addr} {sB : Nat} {r : List (S26)} {D G : Int} {T : Option Addr} {tB : Nat} {m : List Int} {U : Option Addr} {uB : Nat} {n : List (S30)} {I J : Int} {W : Option Addr} {wB : Nat} {o : List Int} {X : Option Addr} {xB : Nat} {p : List (S30)} {r1 : Bool} {r2 : Int} {w : World} (hG : EN w) (eC : Kd.C Kd.string w L q.length q) (yB : q.length ≤ qB) (fC : Kd.C k26 w O r.length r) (zB : r.length ≤ sB) (gC : Kd.C (Kd.int .u8) w T m.length m) (aC : m.length ≤ tB) (hC : Kd.C k30 w U n.length n) (bC : n.length ≤ uB) (iC : Kd.C (Kd.int .u8) w W o.length o) (cC : o.length ≤ wB) (jC : Kd.C k30 w X p.length p) (dC : p.length ≤ xB) (h : Ew.f k lB mB oB q r D G m n I J o p = some (r1, r2)) :
  Calls Try.prog 72 #[.agg #[.int .i64 lB, .int .i64 mB, .string oB, .slice L q.length qB, .slice O r.length sB], .agg #[.int .i64 D, .int .i64 G, .slice T m.length tB, .slice U n.length uB], .agg #[.int .i64 I, .int .i64 J, .slice W o.length wB, .slice X p.length xB]] w fun e w' => e = .returned (.tuple #[.bool r1, .int .i64 r2]) ∧ Below w.heap.size w w' := by
 have HG := mk0 hG; clear hG
 have wC := Try.underlying26
 have xC := Try.underlying30
 have eB := mk0 eC; have Y := mk0 yB; clear eC yB; have fB := mk0 fC; have Z := mk0 zB; clear fC zB; have gB := mk0 gC; have aB := mk0 aC; clear gC aC; have hB := mk0 hC; have bB := mk0 bC; clear hC bC; have jB := mk0 iC; have cB := mk0 cC; clear iC cC; have kB := mk0 jC; have dB := mk0 dC; clear jC dC
 have i := mk0 (Below.refl w.heap.size w)
 have H := h; unfold Ew.f at H
 clear h
 replace H := bS H; obtain ⟨aD, A4, H⟩ := H
 replace H := iB' H; obtain ⟨rfl, H⟩ | ⟨rfl, H⟩ := H
 ·exact absurd H (by simp)
 replace H := bS H; obtain ⟨bD, A6, H⟩ := H
 replace H := iB' H; obtain ⟨rfl, H⟩ | ⟨rfl, H⟩ := H
 ·exact absurd H (by simp)
 replace H := bS H; obtain ⟨kC, A8, H⟩ := H
 simp only [Option.some.injEq, Prod.mk.injEq] at H
 obtain ⟨rfl, rfl⟩ := H
 go_enter Try.func72, Try.ntmps72
 go_wp2_with (first | ((with_reducible refine AJ rfl (N := 3) rfl (cs := #[.int .i64 lB, .int .i64 mB, .string oB, .slice L q.length qB, .slice O r.length sB]) (t := 26) ?hr ?_); (case hr => first | (go_simp; done) | (go_simp; rfl)); intro lC hg w9 l s; have a := mk0 (l); have c := bs (be i) hg; replace i := kh i s; clear s l hg) | ((with_reducible refine AJ rfl (N := 4) rfl (cs := #[.int .i64 D, .int .i64 G, .slice T m.length tB, .slice U n.length uB]) (t := 30) ?hr ?_); (case hr => first | (go_simp; done) | (go_simp; rfl)); intro mC hg fD l s; have b := mk0 (l); have g := bs (be1 i c) hg; replace i := kh1 i c s; have ⟨u, x⟩ := nn a hg; replace a := kb a s; clear s l hg) | ((with_reducible refine AJ rfl (N := 5) rfl (cs := #[.int .i64 I, .int .i64 J, .slice W o.length wB, .slice X p.length xB]) (t := 30) ?hr ?_); (case hr => first | (go_simp; done) | (go_simp; rfl)); intro nC hg gD l s; have d := mk0 (l); have j := bs (be2 i c g) hg; replace i := kh2 i c g s; have ⟨v, z⟩ := nn a hg; have ⟨y, B⟩ := nn b hg; obtain ⟨a, b⟩ := tb2 s a b; clear s l hg; have ⟨oC, rC⟩ := no u x; have ⟨pC, sC⟩ := no v z; have lD := cells5 a.out; have ⟨qC, tC⟩ := no y B; have mD := Au b.out) | ((with_reducible refine AL (f := 45) rfl ?_); refine CV Try.func45 (Cm.calls (Al HG.out (be3 i c g j)) (cu eB i) Y.out (cu fB i) Z.out (cu gB i) aB.out (cu hB i) bB.out A4.out) ?_; intro hD s; obtain ⟨a, b, d⟩ := tb3 s a b d; replace i := kh3 i c g j s; have nD := cells5 a.out; have oD := Au d.out) | (go_at_call 45; refine (Cm.calls (Al HG.out (be3 i c g j)) (cu eB i) Y.out (cu fB i) Z.out (cu jB i) cB.out (cu kB i) dB.out A6.out).mono ?_; rintro e jD ⟨rfl, s⟩; obtain ⟨a, b, d⟩ := tb3 s a b d; replace i := kh3 i c g j s; have z21 := Au b.out; have z22 := Au d.out) | ((with_reducible refine AL (f := 84) rfl ?_); refine CV Try.func84 (ED.calls k D G _ _ m _ _ n I J _ _ o _ _ p kC _ (cu gB i) aB.out (cu hB i) bB.out (cu jB i) cB.out (cu kB i) dB.out A8.out) ?_; intro kD s; obtain ⟨a, b, d⟩ := tb3 s a b d; replace i := kh3 i c g j s))
 go_ret2
 exact ⟨rfl, be3 i c g j⟩
def Dh.f (k : Nat) (b : Int) (c : Int) (d : ByteArray) (j : List ByteArray) (l : List (S26)) (e : Int) (g : Int) (m : List Int) (n : List (S30)) (h : Int) (i : Int) (o : List Int) (p : List (S30)) : Option (Bool) := (Ew.f k b c d j l e g m n h i o p).bind fun a => (if a.1 = true then (none) else (some false))
set_option maxHeartbeats 8000000 in
set_option maxRecDepth 100000 in
theorem Dh.calls {k : Nat} {U W : Int} {X : ByteArray} {G : Option Addr} {cB : Nat} {i : List ByteArray} {I : Option Addr} {dB : Nat} {j : List (S26)} {Y Z : Int} {J : Option Addr} {eB : Nat} {l : List Int} {L : Option Addr} {fB : Nat} {m : List (S30)} {aB bB : Int} {O : Option Addr} {gB : Nat} {n : List Int} {T : Option Addr} {hB : Nat} {o : List (S30)} {r : Bool} {w : World} (hG : EN w) (sB : Kd.C Kd.string w G i.length i) (jB : i.length ≤ cB) (tB : Kd.C k26 w I j.length j) (kB : j.length ≤ dB) (uB : Kd.C (Kd.int .u8) w J l.length l) (lB : l.length ≤ eB) (wB : Kd.C k30 w L m.length m) (mB : m.length ≤ fB) (xB : Kd.C (Kd.int .u8) w O n.length n) (oB : n.length ≤ gB) (yB : Kd.C k30 w T o.length o) (qB : o.length ≤ hB) (h : Dh.f k U W X i j Y Z l m aB bB n o = some r) :
  Calls Try.prog 56 #[.agg #[.int .i64 U, .int .i64 W, .string X, .slice G i.length cB, .slice I j.length dB], .agg #[.int .i64 Y, .int .i64 Z, .slice J l.length eB, .slice L m.length fB], .agg #[.int .i64 aB, .int .i64 bB, .slice O n.length gB, .slice T o.length hB]] w fun e w' => e = .returned (.bool r) ∧ Below w.heap.size w w' := by
 have HG := mk0 hG; clear hG
 have xC := Try.underlying26
 have yC := Try.underlying30
 have fC := mk0 sB; have zB := mk0 jB; clear sB jB; have gC := mk0 tB; have aC := mk0 kB; clear tB kB; have hC := mk0 uB; have bC := mk0 lB; clear uB lB; have iC := mk0 wB; have cC := mk0 mB; clear wB mB; have jC := mk0 xB; have dC := mk0 oB; clear xB oB; have kC := mk0 yB; have eC := mk0 qB; clear yB qB
 have p := mk0 (Below.refl w.heap.size w)
 have H := h; unfold Dh.f at H
 clear h
 replace H := Option.bind_eq_some_iff.mp H
 obtain ⟨⟨mC, zC⟩, lC, H⟩ := H
 replace H : (if mC = true then (none) else (some false)) = some r := H
 have A4 := mk0 lC; clear lC
 replace H := iB H; obtain ⟨rfl, H⟩ | ⟨rfl, H⟩ := H
 ·exact absurd H (by simp)
 obtain rfl := sI H
 go_enter Try.func56, Try.ntmps56
 go_wp2_with (first | ((with_reducible refine AJ rfl (N := 3) rfl (cs := #[.int .i64 U, .int .i64 W, .string X, .slice G i.length cB, .slice I j.length dB]) (t := 26) ?hr ?_); (case hr => first | (go_simp; done) | (go_simp; rfl)); intro nC hg w6 d D; have a := mk0 (d); have b := bs (be p) hg; replace p := kh p D; clear D d hg) | ((with_reducible refine AJ rfl (N := 4) rfl (cs := #[.int .i64 Y, .int .i64 Z, .slice J l.length eB, .slice L m.length fB]) (t := 30) ?hr ?_); (case hr => first | (go_simp; done) | (go_simp; rfl)); intro oC hg w7 d D; have c := mk0 (d); have g := bs (be1 p b) hg; replace p := kh1 p b D; have ⟨u, x⟩ := nn a hg; replace a := kb a D; clear D d hg) | ((with_reducible refine AJ rfl (N := 5) rfl (cs := #[.int .i64 aB, .int .i64 bB, .slice O n.length gB, .slice T o.length hB]) (t := 30) ?hr ?_); (case hr => first | (go_simp; done) | (go_simp; rfl)); intro pC hg w8 d D; have q := mk0 (d); have s := bs (be2 p b g) hg; replace p := kh2 p b g D; have ⟨v, z⟩ := nn a hg; have ⟨y, B⟩ := nn c hg; obtain ⟨a, c⟩ := tb2 D a c; clear D d hg; have ⟨vC, wC⟩ := no u x; have ⟨qC, sC⟩ := no v z; have dD := cells5 a.out; have ⟨rC, tC⟩ := no y B; have eD := Au c.out; have fD := Au q.out) | ((with_reducible refine AL (f := 72) rfl ?_); refine CV Try.func72 (Ew.calls (Al HG.out (be3 p b g s)) (cu fC p) zB.out (cu gC p) aC.out (cu hC p) bC.out (cu iC p) cC.out (cu jC p) dC.out (cu kC p) eC.out A4.out) ?_; intro cD D; obtain ⟨a, c, q⟩ := tb3 D a c q; replace p := kh3 p b g s D))
 go_ret
 exact ⟨rfl, be3 p b g s⟩
end Go.Proofs.Ytojankgmedccdaa.PAw
