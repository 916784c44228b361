/- Lemmas for LawDriversGives. -/
import Derived.Test.YtojankgmedccdaaYGPGnx0
section
namespace Go.Proofs.Ytojankgmedccdaa.PGn
open Go.RowKit Own PTy Hand PIs PAw YtojankgmedccdaaW.PrintWords YtojankgmedccdaaW.PrintLast YtojankgmedccdaaW.PrintMore
attribute [local go_sem] BI BJ Be Bf Ar Au BK BL
set_option linter.unusedVariables false
set_option linter.unusedSimpArgs false
def Da.f : Nat → Int → Int → List Int → List (S30) → Int → Int → List Int → List (S30) → Option (Bool)
 | 0, _, _, _, _, _, _, _, _ => none
 | k + 1, j, a, c, d, l, b, e, g => if a = b then ((api_Bit_96.f k c e).bind fun h => (if h = true then ((EJ.f d g).bind fun i => (some i)) else (some false))) else (some false)
set_option maxHeartbeats 8000000 in
set_option maxRecDepth 100000 in
theorem Da.calls (k : Nat) : ∀ (x : Int) (y : Int) (q : Option Addr) (D : Nat) (m : List Int) (s : Option Addr) (G : Nat) (i : List (S30)) (z : Int) (B : Int) (u : Option Addr) (I : Nat) (n : List Int) (v : Option Addr) (J : Nat) (j : List (S30)) (r : Bool) (w : World) (X : Kd.C (Kd.int .u8) w q m.length m) (O : m.length ≤ D) (Y : Kd.C k30 w s i.length i) (T : i.length ≤ G) (Z : Kd.C (Kd.int .u8) w u n.length n) (U : n.length ≤ I) (aB : Kd.C k30 w v j.length j) (W : j.length ≤ J) (h : Da.f k x y m i z B n j = some r),
  Calls Try.prog 84 #[.agg #[.int .i64 x, .int .i64 y, .slice q m.length D, .slice s i.length G], .agg #[.int .i64 z, .int .i64 B, .slice u n.length I, .slice v j.length J]] w fun e w' => e = .returned (.bool r) ∧ Below w.heap.size w w' := by
 induction k using Nat.strongRecOn with
 | _ k ih =>
 intro x y q D m s G i z B u I n v J j r w X O Y T Z U aB W h
 cases k with
 | zero => exact absurd h (by simp [Da.f])
 | succ k =>
 simp only [Da.f] at h
 have aC := Try.underlying30
 have dB := mk0 X; have bB := mk0 O; clear X O; have kB := mk0 Y; have hB := mk0 T; clear Y T; have eB := mk0 Z; have cB := mk0 U; clear Z U; have lB := mk0 aB; have jB := mk0 W; clear aB W
 have o := mk0 (Below.refl w.heap.size w)
 have H := h; unfold Da.f at H
 clear h
 replace H := iE' H; obtain ⟨c3, mB, oB, H⟩ | ⟨mB, oB, H⟩ := H
 ·obtain rfl := sI H
  go_enter Try.func84, Try.ntmps84
  go_wp2_with (first | ((with_reducible refine AP rfl (N := 2) rfl (cs := #[.int .i64 x, .int .i64 y, .slice q m.length D, .slice s i.length G]) (t := 30) ?hr ?_); (case hr => first | (go_simp; done) | (go_simp; rfl)); intro fB hg mC c L; have a := mk0 (c); have b := bs (be o) hg; replace o := kh o L; clear L c hg) | ((with_reducible refine AP rfl (N := 3) rfl (cs := #[.int .i64 z, .int .i64 B, .slice u n.length I, .slice v j.length J]) (t := 30) ?hr ?_); (case hr => first | (go_simp; done) | (go_simp; rfl)); intro gB hg nC c L; have p := mk0 (c); have l := bs (be1 o b) hg; replace o := kh1 o b L; have ⟨d, g⟩ := nn a hg; replace a := kb a L; clear L c hg; have ⟨tB, wB⟩ := no d g; have hC := BN a.out; have iC := BN p.out))
  go_ret
  exact ⟨rfl, be2 o b l⟩
 replace H := bS H; obtain ⟨cC, A4, H⟩ := H
 replace H := iB' H; obtain ⟨rfl, H⟩ | ⟨rfl, H⟩ := H
 ·obtain rfl := sI H
  go_enter Try.func84, Try.ntmps84
  go_wp2_with (first | ((with_reducible refine AP rfl (N := 2) rfl (cs := #[.int .i64 x, .int .i64 y, .slice q m.length D, .slice s i.length G]) (t := 30) ?hr ?_); (case hr => first | (go_simp; done) | (go_simp; rfl)); intro fB hg kC c L; have a := mk0 (c); have b := bs (be o) hg; replace o := kh o L; clear L c hg) | ((with_reducible refine AP rfl (N := 3) rfl (cs := #[.int .i64 z, .int .i64 B, .slice u n.length I, .slice v j.length J]) (t := 30) ?hr ?_); (case hr => first | (go_simp; done) | (go_simp; rfl)); intro gB hg lC c L; have p := mk0 (c); have l := bs (be1 o b) hg; replace o := kh1 o b L; have ⟨d, g⟩ := nn a hg; replace a := kb a L; clear L c hg; have ⟨sB, uB⟩ := no d g; have fC := BN a.out; have gC := BN p.out) | (go_at_call 96; refine (api_Bit_96.calls (cu dB o) bB.out (cu eB o) cB.out A4.out).mono ?_; rintro e w' ⟨rfl, ⟨nd, rfl⟩⟩))
  go_ret
  exact ⟨rfl, be2 o b l⟩
 replace H := bS H; obtain ⟨qB, A6, H⟩ := H; obtain rfl := sI H
 go_enter Try.func84, Try.ntmps84
 go_wp2_with (first | ((with_reducible refine AP rfl (N := 2) rfl (cs := #[.int .i64 x, .int .i64 y, .slice q m.length D, .slice s i.length G]) (t := 30) ?hr ?_); (case hr => first | (go_simp; done) | (go_simp; rfl)); intro fB hg w7 c L; have a := mk0 (c); have b := bs (be o) hg; replace o := kh o L; clear L c hg) | ((with_reducible refine AP rfl (N := 3) rfl (cs := #[.int .i64 z, .int .i64 B, .slice u n.length I, .slice v j.length J]) (t := 30) ?hr ?_); (case hr => first | (go_simp; done) | (go_simp; rfl)); intro gB hg w8 c L; have p := mk0 (c); have l := bs (be1 o b) hg; replace o := kh1 o b L; have ⟨d, g⟩ := nn a hg; replace a := kb a L; clear L c hg; have ⟨yB, zB⟩ := no d g; have dC := BN a.out; have eC := BN p.out) | (go_at_call 96; refine (api_Bit_96.calls (cu dB o) bB.out (cu eB o) cB.out A4.out).mono ?_; rintro e w' ⟨rfl, ⟨nd, rfl⟩⟩) | (go_at_call 97; (with_reducible refine (EJ.calls _ _ i _ _ j qB _ ?side1 ?side2 ?side3 ?side4 A6.out).mono ?_); (case side1 => exact (Kd.BR kB.out (be2 o b l))); (case side2 => exact hB.out); (case side3 => exact (Kd.BR lB.out (be2 o b l))); (case side4 => exact jB.out); rintro e w' ⟨rfl, ⟨nd, rfl⟩⟩))
 go_ret
 exact ⟨rfl, be2 o b l⟩
end Go.Proofs.Ytojankgmedccdaa.PGn
end
section
namespace Go.Proofs.Ytojankgmedccdaa.PGn
open Go.RowKit Own PTy Hand PIs PAw YtojankgmedccdaaW.PrintWords YtojankgmedccdaaW.PrintLast YtojankgmedccdaaW.PrintMore
attribute [local go_sem] BI BJ Be Bf Ar Au BK BL
set_option linter.unusedVariables false
set_option linter.unusedSimpArgs false
def Dz.f (k : Nat) (a : Int) (b : Int) (c : ByteArray) (i : List ByteArray) (j : List (S26)) (d : Int) (e : Int) (l : List Int) (m : List (S30)) (g : Int) (h : Int) (n : List Int) (o : List (S30)) : Option (Bool × Int) := (CL.f k a b c i j d e l m).bind fun p => (if p = true then ((CL.f k a b c i j g h n o).bind fun q => (if q = true then ((Da.f k d e l m g h n o).bind fun r => (some (r, 0))) else (some (false, 2)))) else (some (false, 2)))
set_option maxHeartbeats 8000000 in
set_option maxRecDepth 100000 in
theorem Dz.calls {k : Nat} {gB hB : Int} {jB : ByteArray} {aB : Option Addr} {kB : Nat} {z : List ByteArray} {bB : Option Addr} {lB : Nat} {B : List (S26)} {L O : Int} {cB : Option Addr} {mB : Nat} {u : List Int} {dB : Option Addr} {oB : Nat} {v : List (S30)} {T U : Int} {eB : Option Addr} {qB : Nat} {x : List Int} {fB : Option Addr} {sB : Nat} {y : List (S30)} {r1 : Bool} {r2 : Int} {w : World} (hG : D8 w) (hC : Kd.C Kd.string w aB z.length z) (bC : z.length ≤ kB) (iC : Kd.C k26 w bB B.length B) (cC : B.length ≤ lB) (jC : Kd.C (Kd.int .u8) w cB u.length u) (dC : u.length ≤ mB) (kC : Kd.C k30 w dB v.length v) (eC : v.length ≤ oB) (lC : Kd.C (Kd.int .u8) w eB x.length x) (fC : x.length ≤ qB) (mC : Kd.C k30 w fB y.length y) (gC : y.length ≤ sB) (h : Dz.f k gB hB jB z B L O u v T U x y = some (r1, r2)) :
  Calls Try.prog 72 #[.agg #[.int .i64 gB, .int .i64 hB, .string jB, .slice aB z.length kB, .slice bB B.length lB], .agg #[.int .i64 L, .int .i64 O, .slice cB u.length mB, .slice dB v.length oB], .agg #[.int .i64 T, .int .i64 U, .slice eB x.length qB, .slice fB y.length sB]] w fun e w' => e = .returned (.tuple #[.bool r1, .int .i64 r2]) ∧ Below w.heap.size w w' := by
 have HG := mk0 hG; clear hG
 have lD := Try.underlying26
 have mD := Try.underlying30
 have I := mk0 hC; have D := mk0 bC; clear hC bC; have J := mk0 iC; have G := mk0 cC; clear iC cC; have Y := mk0 jC; have W := mk0 dC; clear jC dC; have Z := mk0 kC; have X := mk0 eC; clear kC eC; have wB := mk0 lC; have tB := mk0 fC; clear lC fC; have xB := mk0 mC; have uB := mk0 gC; clear mC gC
 have j := mk0 (Below.refl w.heap.size w)
 have H := h; unfold Dz.f at H
 clear h
 replace H := bS H; obtain ⟨pD, A4, H⟩ := H
 replace H := iB' H; obtain ⟨rfl, H⟩ | ⟨rfl, H⟩ := H
 ·simp only [Option.some.injEq, Prod.mk.injEq] at H
  obtain ⟨rfl, rfl⟩ := H
  go_enter Try.func72, Try.ntmps72
  go_wp2_with (first | ((with_reducible refine AP rfl (N := 3) rfl (cs := #[.int .i64 gB, .int .i64 hB, .string jB, .slice aB z.length kB, .slice bB B.length lB]) (t := 26) ?hr ?_); (case hr => first | (go_simp; done) | (go_simp; rfl)); intro yB hg pE g m; have a := mk0 (g); have b := bs (be j) hg; replace j := kh j m; clear m g hg) | ((with_reducible refine AP rfl (N := 4) rfl (cs := #[.int .i64 L, .int .i64 O, .slice cB u.length mB, .slice dB v.length oB]) (t := 30) ?hr ?_); (case hr => first | (go_simp; done) | (go_simp; rfl)); intro zB hg qE g m; have c := mk0 (g); have d := bs (be1 j b) hg; replace j := kh1 j b m; have ⟨n, p⟩ := nn a hg; replace a := kb a m; clear m g hg) | ((with_reducible refine AP rfl (N := 5) rfl (cs := #[.int .i64 T, .int .i64 U, .slice eB x.length qB, .slice fB y.length sB]) (t := 30) ?hr ?_); (case hr => first | (go_simp; done) | (go_simp; rfl)); intro aC hg rE g m; have i := mk0 (g); have l := bs (be2 j b d) hg; replace j := kh2 j b d m; have ⟨o, r⟩ := nn a hg; have ⟨q, s⟩ := nn c hg; obtain ⟨a, c⟩ := tb2 m a c; clear m g hg; have ⟨wC, fD⟩ := no n p; have ⟨xC, gD⟩ := no o r; have bE := cells5 a.out; have ⟨yC, hD⟩ := no q s; have cE := BN c.out) | ((with_reducible refine AR (f := 45) rfl ?_); refine CO Try.func45 (CL.calls (AZ HG.out (be3 j b d l)) (cu I j) D.out (cu J j) G.out (cu Y j) W.out (cu Z j) X.out A4.out) ?_; intro sE m; obtain ⟨a, c, i⟩ := tb3 m a c i; replace j := kh3 j b d l m))
  go_ret2
  exact ⟨rfl, be3 j b d l⟩
 replace H := bS H; obtain ⟨qD, A6, H⟩ := H
 replace H := iB' H; obtain ⟨rfl, H⟩ | ⟨rfl, H⟩ := H
 ·simp only [Option.some.injEq, Prod.mk.injEq] at H
  obtain ⟨rfl, rfl⟩ := H
  go_enter Try.func72, Try.ntmps72
  go_wp2_with (first | ((with_reducible refine AP rfl (N := 3) rfl (cs := #[.int .i64 gB, .int .i64 hB, .string jB, .slice aB z.length kB, .slice bB B.length lB]) (t := 26) ?hr ?_); (case hr => first | (go_simp; done) | (go_simp; rfl)); intro yB hg kE g m; have a := mk0 (g); have b := bs (be j) hg; replace j := kh j m; clear m g hg) | ((with_reducible refine AP rfl (N := 4) rfl (cs := #[.int .i64 L, .int .i64 O, .slice cB u.length mB, .slice dB v.length oB]) (t := 30) ?hr ?_); (case hr => first | (go_simp; done) | (go_simp; rfl)); intro zB hg lE g m; have c := mk0 (g); have d := bs (be1 j b) hg; replace j := kh1 j b m; have ⟨n, p⟩ := nn a hg; replace a := kb a m; clear m g hg) | ((with_reducible refine AP rfl (N := 5) rfl (cs := #[.int .i64 T, .int .i64 U, .slice eB x.length qB, .slice fB y.length sB]) (t := 30) ?hr ?_); (case hr => first | (go_simp; done) | (go_simp; rfl)); intro aC hg mE g m; have i := mk0 (g); have l := bs (be2 j b d) hg; replace j := kh2 j b d m; have ⟨o, r⟩ := nn a hg; have ⟨q, s⟩ := nn c hg; obtain ⟨a, c⟩ := tb2 m a c; clear m g hg; have ⟨tC, cD⟩ := no n p; have ⟨uC, dD⟩ := no o r; have xD := cells5 a.out; have ⟨vC, eD⟩ := no q s; have yD := BN c.out) | ((with_reducible refine AR (f := 45) rfl ?_); refine CO Try.func45 (CL.calls (AZ HG.out (be3 j b d l)) (cu I j) D.out (cu J j) G.out (cu Y j) W.out (cu Z j) X.out A4.out) ?_; intro nE m; obtain ⟨a, c, i⟩ := tb3 m a c i; replace j := kh3 j b d l m; have zD := cells5 a.out; have aE := BN i.out) | (go_at_call 45; refine (CL.calls (AZ HG.out (be3 j b d l)) (cu I j) D.out (cu J j) G.out (cu wB j) tB.out (cu xB j) uB.out A6.out).mono ?_; rintro e oE ⟨rfl, m⟩; obtain ⟨a, c, i⟩ := tb3 m a c i; replace j := kh3 j b d l m))
  go_ret2
  exact ⟨rfl, be3 j b d l⟩
 replace H := bS H; obtain ⟨oC, A8, H⟩ := H
 simp only [Option.some.injEq, Prod.mk.injEq] at H
 obtain ⟨rfl, rfl⟩ := H
 go_enter Try.func72, Try.ntmps72
 go_wp2_with (first | ((with_reducible refine AP rfl (N := 3) rfl (cs := #[.int .i64 gB, .int .i64 hB, .string jB, .slice aB z.length kB, .slice bB B.length lB]) (t := 26) ?hr ?_); (case hr => first | (go_simp; done) | (go_simp; rfl)); intro yB hg w9 g m; have a := mk0 (g); have b := bs (be j) hg; replace j := kh j m; clear m g hg) | ((with_reducible refine AP rfl (N := 4) rfl (cs := #[.int .i64 L, .int .i64 O, .slice cB u.length mB, .slice dB v.length oB]) (t := 30) ?hr ?_); (case hr => first | (go_simp; done) | (go_simp; rfl)); intro zB hg eE g m; have c := mk0 (g); have d := bs (be1 j b) hg; replace j := kh1 j b m; have ⟨n, p⟩ := nn a hg; replace a := kb a m; clear m g hg) | ((with_reducible refine AP rfl (N := 5) rfl (cs := #[.int .i64 T, .int .i64 U, .slice eB x.length qB, .slice fB y.length sB]) (t := 30) ?hr ?_); (case hr => first | (go_simp; done) | (go_simp; rfl)); intro aC hg fE g m; have i := mk0 (g); have l := bs (be2 j b d) hg; replace j := kh2 j b d m; have ⟨o, r⟩ := nn a hg; have ⟨q, s⟩ := nn c hg; obtain ⟨a, c⟩ := tb2 m a c; clear m g hg; have ⟨qC, zC⟩ := no n p; have ⟨rC, aD⟩ := no o r; have rD := cells5 a.out; have ⟨sC, bD⟩ := no q s; have sD := BN c.out) | ((with_reducible refine AR (f := 45) rfl ?_); refine CO Try.func45 (CL.calls (AZ HG.out (be3 j b d l)) (cu I j) D.out (cu J j) G.out (cu Y j) W.out (cu Z j) X.out A4.out) ?_; intro gE m; obtain ⟨a, c, i⟩ := tb3 m a c i; replace j := kh3 j b d l m; have tD := cells5 a.out; have uD := BN i.out) | (go_at_call 45; refine (CL.calls (AZ HG.out (be3 j b d l)) (cu I j) D.out (cu J j) G.out (cu wB j) tB.out (cu xB j) uB.out A6.out).mono ?_; rintro e hE ⟨rfl, m⟩; obtain ⟨a, c, i⟩ := tb3 m a c i; replace j := kh3 j b d l m; have vD := BN c.out; have wD := BN i.out) | ((with_reducible refine AR (f := 84) rfl ?_); refine CO Try.func84 (Da.calls k L O _ _ u _ _ v T U _ _ x _ _ y oC _ (cu Y j) W.out (cu Z j) X.out (cu wB j) tB.out (cu xB j) uB.out A8.out) ?_; intro jE m; obtain ⟨a, c, i⟩ := tb3 m a c i; replace j := kh3 j b d l m))
 go_ret2
 exact ⟨rfl, be3 j b d l⟩
end Go.Proofs.Ytojankgmedccdaa.PGn
end
section
namespace Go.Proofs.Ytojankgmedccdaa.PGn
open Go.RowKit Own PTy Hand PIs PAw YtojankgmedccdaaW.PrintWords YtojankgmedccdaaW.PrintLast YtojankgmedccdaaW.PrintMore
attribute [local go_sem] BI BJ Be Bf Ar Au BK BL
set_option linter.unusedVariables false
set_option linter.unusedSimpArgs false
def Cm.f (k : Nat) (b : Int) (c : Int) (d : ByteArray) (j : List ByteArray) (l : List (S26)) (e : Int) (g : Int) (m : List Int) (n : List (S30)) (h : Int) (i : Int) (o : List Int) (p : List (S30)) : Option (Bool) := (Dz.f k b c d j l e g m n h i o p).bind fun a => (if a.1 = true then (some (a.2 == 0)) else (some false))
set_option maxHeartbeats 8000000 in
set_option maxRecDepth 100000 in
theorem Cm.calls {k : Nat} {U W : Int} {X : ByteArray} {G : Option Addr} {cB : Nat} {v : List ByteArray} {I : Option Addr} {dB : Nat} {x : List (S26)} {Y Z : Int} {J : Option Addr} {eB : Nat} {y : List Int} {L : Option Addr} {fB : Nat} {z : List (S30)} {aB bB : Int} {O : Option Addr} {gB : Nat} {B : List Int} {T : Option Addr} {hB : Nat} {D : List (S30)} {r : Bool} {w : World} (hG : D8 w) (fC : Kd.C Kd.string w G v.length v) (zB : v.length ≤ cB) (gC : Kd.C k26 w I x.length x) (aC : x.length ≤ dB) (hC : Kd.C (Kd.int .u8) w J y.length y) (bC : y.length ≤ eB) (iC : Kd.C k30 w L z.length z) (cC : z.length ≤ fB) (jC : Kd.C (Kd.int .u8) w O B.length B) (dC : B.length ≤ gB) (kC : Kd.C k30 w T D.length D) (eC : D.length ≤ hB) (h : Cm.f k U W X v x Y Z y z aB bB B D = some r) :
  Calls Try.prog 56 #[.agg #[.int .i64 U, .int .i64 W, .string X, .slice G v.length cB, .slice I x.length dB], .agg #[.int .i64 Y, .int .i64 Z, .slice J y.length eB, .slice L z.length fB], .agg #[.int .i64 aB, .int .i64 bB, .slice O B.length gB, .slice T D.length hB]] w fun e w' => e = .returned (.bool r) ∧ Below w.heap.size w w' := by
 have HG := mk0 hG; clear hG
 have gD := Try.underlying26
 have hD := Try.underlying30
 have sB := mk0 fC; have jB := mk0 zB; clear fC zB; have tB := mk0 gC; have kB := mk0 aC; clear gC aC; have uB := mk0 hC; have lB := mk0 bC; clear hC bC; have wB := mk0 iC; have mB := mk0 cC; clear iC cC; have xB := mk0 jC; have oB := mk0 dC; clear jC dC; have yB := mk0 kC; have qB := mk0 eC; clear kC eC
 have i := mk0 (Below.refl w.heap.size w)
 have H := h; unfold Cm.f at H
 clear h
 replace H := Option.bind_eq_some_iff.mp H
 obtain ⟨⟨pC, qC⟩, oC, H⟩ := H
 replace H : (if pC = true then (some (qC == 0)) else (some false)) = some r := H
 have A4 := mk0 oC; clear oC
 replace H := iB H; obtain ⟨rfl, H⟩ | ⟨rfl, H⟩ := H
 ·obtain rfl := sI H
  go_enter Try.func56, Try.ntmps56
  go_wp2_with (first | ((with_reducible refine AP rfl (N := 3) rfl (cs := #[.int .i64 U, .int .i64 W, .string X, .slice G v.length cB, .slice I x.length dB]) (t := 26) ?hr ?_); (case hr => first | (go_simp; done) | (go_simp; rfl)); intro lC hg w6 d u; have a := mk0 (d); have b := bs (be i) hg; replace i := kh i u; clear u d hg) | ((with_reducible refine AP rfl (N := 4) rfl (cs := #[.int .i64 Y, .int .i64 Z, .slice J y.length eB, .slice L z.length fB]) (t := 30) ?hr ?_); (case hr => first | (go_simp; done) | (go_simp; rfl)); intro mC hg w7 d u; have c := mk0 (d); have g := bs (be1 i b) hg; replace i := kh1 i b u; have ⟨m, o⟩ := nn a hg; replace a := kb a u; clear u d hg) | ((with_reducible refine AP rfl (N := 5) rfl (cs := #[.int .i64 aB, .int .i64 bB, .slice O B.length gB, .slice T D.length hB]) (t := 30) ?hr ?_); (case hr => first | (go_simp; done) | (go_simp; rfl)); intro nC hg w8 d u; have j := mk0 (d); have l := bs (be2 i b g) hg; replace i := kh2 i b g u; have ⟨n, q⟩ := nn a hg; have ⟨p, s⟩ := nn c hg; obtain ⟨a, c⟩ := tb2 u a c; clear u d hg; have ⟨eD, fD⟩ := no m o; have ⟨rC, wC⟩ := no n q; have jD := cells5 a.out; have ⟨sC, xC⟩ := no p s; have kD := BN c.out; have lD := BN j.out) | ((with_reducible refine AR (f := 72) rfl ?_); refine CO Try.func72 (Dz.calls (AZ HG.out (be3 i b g l)) (cu sB i) jB.out (cu tB i) kB.out (cu uB i) lB.out (cu wB i) mB.out (cu xB i) oB.out (cu yB i) qB.out A4.out) ?_; intro pD u; obtain ⟨a, c, j⟩ := tb3 u a c j; replace i := kh3 i b g l u))
  go_ret
  exact ⟨rfl, be3 i b g l⟩
 obtain rfl := sI H
 go_enter Try.func56, Try.ntmps56
 go_wp2_with (first | ((with_reducible refine AP rfl (N := 3) rfl (cs := #[.int .i64 U, .int .i64 W, .string X, .slice G v.length cB, .slice I x.length dB]) (t := 26) ?hr ?_); (case hr => first | (go_simp; done) | (go_simp; rfl)); intro lC hg qD d u; have a := mk0 (d); have b := bs (be i) hg; replace i := kh i u; clear u d hg) | ((with_reducible refine AP rfl (N := 4) rfl (cs := #[.int .i64 Y, .int .i64 Z, .slice J y.length eB, .slice L z.length fB]) (t := 30) ?hr ?_); (case hr => first | (go_simp; done) | (go_simp; rfl)); intro mC hg rD d u; have c := mk0 (d); have g := bs (be1 i b) hg; replace i := kh1 i b u; have ⟨m, o⟩ := nn a hg; replace a := kb a u; clear u d hg) | ((with_reducible refine AP rfl (N := 5) rfl (cs := #[.int .i64 aB, .int .i64 bB, .slice O B.length gB, .slice T D.length hB]) (t := 30) ?hr ?_); (case hr => first | (go_simp; done) | (go_simp; rfl)); intro nC hg sD d u; have j := mk0 (d); have l := bs (be2 i b g) hg; replace i := kh2 i b g u; have ⟨n, q⟩ := nn a hg; have ⟨p, s⟩ := nn c hg; obtain ⟨a, c⟩ := tb2 u a c; clear u d hg; have ⟨tC, yC⟩ := no m o; have ⟨uC, zC⟩ := no n q; have mD := cells5 a.out; have ⟨vC, aD⟩ := no p s; have nD := BN c.out; have oD := BN j.out) | ((with_reducible refine AR (f := 72) rfl ?_); refine CO Try.func72 (Dz.calls (AZ HG.out (be3 i b g l)) (cu sB i) jB.out (cu tB i) kB.out (cu uB i) lB.out (cu wB i) mB.out (cu xB i) oB.out (cu yB i) qB.out A4.out) ?_; intro tD u; obtain ⟨a, c, j⟩ := tb3 u a c j; replace i := kh3 i b g l u))
 go_ret
 exact ⟨rfl, be3 i b g l⟩
end Go.Proofs.Ytojankgmedccdaa.PGn
end
