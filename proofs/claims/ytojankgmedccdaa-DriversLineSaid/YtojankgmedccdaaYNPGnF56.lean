/- Lemmas. -/
import Derived.Test.YtojankgmedccdaaYNPGnx0
set_option maxHeartbeats 8000000
set_option maxRecDepth 100000
section
namespace Go.Proofs.Ytojankgmedccdaa.PGn
open Go.RowKit Own PTy Hand PIs PAw Wo
attribute [local go_sem] BS BU Bf Bg BC BD BX BZ
set_option linter.unusedVariables false
set_option linter.unusedSimpArgs false
def Du.f : Nat → Int → Int → List Int → List (S30) → Int → Int → List Int → List (S30) → Option (Bool)
 | 0, _, _, _, _, _, _, _, _ => none
 | k + 1, j, a, c, d, l, b, e, g => if a = b then ((api_Bit_96.f k c e).bind fun h => (if h = true then ((Eg.f d g).bind fun i => (some i)) else (some false))) else (some false)
theorem Du.calls (k : Nat) : ∀ (x : Int) (y : Int) (q : Option Addr) (D : Nat) (m : List Int) (s : Option Addr) (G : Nat) (i : List (S30)) (z : Int) (B : Int) (u : Option Addr) (I : Nat) (n : List Int) (v : Option Addr) (J : Nat) (j : List (S30)) (r : Bool) (w : World) (X : Kd.C (Kd.int .u8) w q m.length m) (O : m.length ≤ D) (Y : Kd.C k30 w s i.length i) (T : i.length ≤ G) (Z : Kd.C (Kd.int .u8) w u n.length n) (U : n.length ≤ I) (aB : Kd.C k30 w v j.length j) (W : j.length ≤ J) (h : Du.f k x y m i z B n j = some r),
  Calls Try.prog 84 #[.agg #[.int .i64 x, .int .i64 y, .slice q m.length D, .slice s i.length G], .agg #[.int .i64 z, .int .i64 B, .slice u n.length I, .slice v j.length J]] w fun e w' => e = .returned (.bool r) ∧ Below w.heap.size w w' := by
 induction k using Nat.strongRecOn with
 | _ k ih =>
 intro x y q D m s G i z B u I n v J j r w X O Y T Z U aB W h
 cases k with
 | zero => exact absurd h (by simp [Du.f])
 | succ k =>
 simp only [Du.f] at h
 have bC := Try.underlying30
 have dB := mk0 X; have bB := mk0 O; clear X O; have kB := mk0 Y; have hB := mk0 T; clear Y T; have eB := mk0 Z; have cB := mk0 U; clear Z U; have lB := mk0 aB; have jB := mk0 W; clear aB W
 have o := mk0 (Below.refl w.heap.size w)
 have H := h; unfold Du.f at H
 clear h
 replace H := iE' H; obtain ⟨c3, mB, qB, H⟩ | ⟨mB, qB, H⟩ := H
 ·obtain rfl := sI H; go_enter Try.func84, Try.ntmps84; go_wp2_with (first | ((with_reducible refine AQ rfl (N := 2) rfl (cs := #[.int .i64 x, .int .i64 y, .slice q m.length D, .slice s i.length G]) (t := 30) ?hr ?_); (case hr => first | (go_simp; done) | (go_simp; rfl)); intro fB hg nC c L; have a := mk0 (c); have b := bs (be o) hg; replace o := kh o L; clear L c hg) | ((with_reducible refine AQ rfl (N := 3) rfl (cs := #[.int .i64 z, .int .i64 B, .slice u n.length I, .slice v j.length J]) (t := 30) ?hr ?_); (case hr => first | (go_simp; done) | (go_simp; rfl)); intro gB hg oC c L; have p := mk0 (c); have l := bs (be1 o b) hg; replace o := kh1 o b L; have ⟨d, g⟩ := nn a hg; replace a := kb a L; clear L c hg; have ⟨uB, xB⟩ := no d g; have iC := Ay a.out; have jC := Ay p.out)); go_ret; exact ⟨rfl, be2 o b l⟩
 replace H := bS H; obtain ⟨dC, A4, H⟩ := H
 replace H := iB' H; obtain ⟨rfl, H⟩ | ⟨rfl, H⟩ := H
 ·obtain rfl := sI H; go_enter Try.func84, Try.ntmps84; go_wp2_with (first | ((with_reducible refine AQ rfl (N := 2) rfl (cs := #[.int .i64 x, .int .i64 y, .slice q m.length D, .slice s i.length G]) (t := 30) ?hr ?_); (case hr => first | (go_simp; done) | (go_simp; rfl)); intro fB hg lC c L; have a := mk0 (c); have b := bs (be o) hg; replace o := kh o L; clear L c hg) | ((with_reducible refine AQ rfl (N := 3) rfl (cs := #[.int .i64 z, .int .i64 B, .slice u n.length I, .slice v j.length J]) (t := 30) ?hr ?_); (case hr => first | (go_simp; done) | (go_simp; rfl)); intro gB hg mC c L; have p := mk0 (c); have l := bs (be1 o b) hg; replace o := kh1 o b L; have ⟨d, g⟩ := nn a hg; replace a := kb a L; clear L c hg; have ⟨tB, wB⟩ := no d g; have gC := Ay a.out; have hC := Ay p.out) | (go_at_call 96; refine (api_Bit_96.calls (cu dB o) bB.out (cu eB o) cB.out A4.out).mono ?_; rintro e w' ⟨rfl, nd, rfl⟩)); go_ret; exact ⟨rfl, be2 o b l⟩
 replace H := bS H; obtain ⟨sB, A6, H⟩ := H; obtain rfl := sI H
 go_enter Try.func84, Try.ntmps84
 go_wp2_with (first | ((with_reducible refine AQ rfl (N := 2) rfl (cs := #[.int .i64 x, .int .i64 y, .slice q m.length D, .slice s i.length G]) (t := 30) ?hr ?_); (case hr => first | (go_simp; done) | (go_simp; rfl)); intro fB hg w7 c L; have a := mk0 (c); have b := bs (be o) hg; replace o := kh o L; clear L c hg) | ((with_reducible refine AQ rfl (N := 3) rfl (cs := #[.int .i64 z, .int .i64 B, .slice u n.length I, .slice v j.length J]) (t := 30) ?hr ?_); (case hr => first | (go_simp; done) | (go_simp; rfl)); intro gB hg w8 c L; have p := mk0 (c); have l := bs (be1 o b) hg; replace o := kh1 o b L; have ⟨d, g⟩ := nn a hg; replace a := kb a L; clear L c hg; have ⟨zB, aC⟩ := no d g; have eC := Ay a.out; have fC := Ay p.out) | (go_at_call 96; refine (api_Bit_96.calls (cu dB o) bB.out (cu eB o) cB.out A4.out).mono ?_; rintro e w' ⟨rfl, nd, rfl⟩) | (go_at_call 97; (with_reducible refine (Eg.calls _ _ i _ _ j sB _ ?side1 ?side2 ?side3 ?side4 A6.out).mono ?_); (case side1 => exact (Kd.Ap kB.out (be2 o b l))); (case side2 => exact hB.out); (case side3 => exact (Kd.Ap lB.out (be2 o b l))); (case side4 => exact jB.out); rintro e w' ⟨rfl, nd, rfl⟩))
 go_ret
 exact ⟨rfl, be2 o b l⟩
end Go.Proofs.Ytojankgmedccdaa.PGn
end
section
namespace Go.Proofs.Ytojankgmedccdaa.PGn
open Go.RowKit Own PTy Hand PIs PAw Wo
attribute [local go_sem] BS BU Bf Bg BC BD BX BZ
set_option linter.unusedVariables false
set_option linter.unusedSimpArgs false
def EK.f (k : Nat) (a : Int) (b : Int) (c : ByteArray) (i : List ByteArray) (j : List (S26)) (d : Int) (e : Int) (l : List Int) (m : List (S30)) (g : Int) (h : Int) (n : List Int) (o : List (S30)) : Option (Bool × Int) := (Ca.f k a b c i j d e l m).bind fun p => (if p = true then ((Ca.f k a b c i j g h n o).bind fun q => (if q = true then ((Du.f k d e l m g h n o).bind fun r => (some (r, 0))) else (some (false, 2)))) else (some (false, 2)))
theorem EK.calls {k : Nat} {gB hB : Int} {jB : ByteArray} {aB : Option Addr} {kB : Nat} {z : List ByteArray} {bB : Option Addr} {lB : Nat} {B : List (S26)} {L O : Int} {cB : Option Addr} {mB : Nat} {u : List Int} {dB : Option Addr} {qB : Nat} {v : List (S30)} {T U : Int} {eB : Option Addr} {sB : Nat} {x : List Int} {fB : Option Addr} {tB : Nat} {y : List (S30)} {r1 : Bool} {r2 : Int} {w : World} (hG : EP w) (iC : Kd.C Kd.string w aB z.length z) (cC : z.length ≤ kB) (jC : Kd.C k26 w bB B.length B) (dC : B.length ≤ lB) (kC : Kd.C (Kd.int .u8) w cB u.length u) (eC : u.length ≤ mB) (lC : Kd.C k30 w dB v.length v) (fC : v.length ≤ qB) (mC : Kd.C (Kd.int .u8) w eB x.length x) (gC : x.length ≤ sB) (nC : Kd.C k30 w fB y.length y) (hC : y.length ≤ tB) (h : EK.f k gB hB jB z B L O u v T U x y = some (r1, r2)) :
  Calls Try.prog 72 #[.agg #[.int .i64 gB, .int .i64 hB, .string jB, .slice aB z.length kB, .slice bB B.length lB], .agg #[.int .i64 L, .int .i64 O, .slice cB u.length mB, .slice dB v.length qB], .agg #[.int .i64 T, .int .i64 U, .slice eB x.length sB, .slice fB y.length tB]] w fun e w' => e = .returned (.tuple #[.bool r1, .int .i64 r2]) ∧ Below w.heap.size w w' := by
 have HG := mk0 hG; clear hG
 have mD := Try.underlying26
 have nD := Try.underlying30
 have I := mk0 iC; have D := mk0 cC; clear iC cC; have J := mk0 jC; have G := mk0 dC; clear jC dC; have Y := mk0 kC; have W := mk0 eC; clear kC eC; have Z := mk0 lC; have X := mk0 fC; clear lC fC; have xB := mk0 mC; have uB := mk0 gC; clear mC gC; have yB := mk0 nC; have wB := mk0 hC; clear nC hC
 have j := mk0 (Below.refl w.heap.size w)
 have H := h; unfold EK.f at H
 clear h
 replace H := bS H; obtain ⟨qD, A4, H⟩ := H
 replace H := iB' H; obtain ⟨rfl, H⟩ | ⟨rfl, H⟩ := H
 ·simp only [Option.some.injEq, Prod.mk.injEq] at H; obtain ⟨rfl, rfl⟩ := H; go_enter Try.func72, Try.ntmps72; go_wp2_with (first | ((with_reducible refine AQ rfl (N := 3) rfl (cs := #[.int .i64 gB, .int .i64 hB, .string jB, .slice aB z.length kB, .slice bB B.length lB]) (t := 26) ?hr ?_); (case hr => first | (go_simp; done) | (go_simp; rfl)); intro zB hg qE g m; have a := mk0 (g); have b := bs (be j) hg; replace j := kh j m; clear m g hg) | ((with_reducible refine AQ rfl (N := 4) rfl (cs := #[.int .i64 L, .int .i64 O, .slice cB u.length mB, .slice dB v.length qB]) (t := 30) ?hr ?_); (case hr => first | (go_simp; done) | (go_simp; rfl)); intro aC hg rE g m; have c := mk0 (g); have d := bs (be1 j b) hg; replace j := kh1 j b m; have ⟨n, p⟩ := nn a hg; replace a := kb a m; clear m g hg) | ((with_reducible refine AQ rfl (N := 5) rfl (cs := #[.int .i64 T, .int .i64 U, .slice eB x.length sB, .slice fB y.length tB]) (t := 30) ?hr ?_); (case hr => first | (go_simp; done) | (go_simp; rfl)); intro bC hg sE g m; have i := mk0 (g); have l := bs (be2 j b d) hg; replace j := kh2 j b d m; have ⟨o, r⟩ := nn a hg; have ⟨q, s⟩ := nn c hg; obtain ⟨a, c⟩ := tb2 m a c; clear m g hg; have ⟨xC, gD⟩ := no n p; have ⟨yC, hD⟩ := no o r; have cE := cells5 a.out; have ⟨zC, jD⟩ := no q s; have dE := Ay c.out) | ((with_reducible refine AJ (f := 45) rfl ?_); refine CS Try.func45 (Ca.calls (Aa HG.out (be3 j b d l)) (cu I j) D.out (cu J j) G.out (cu Y j) W.out (cu Z j) X.out A4.out) ?_; intro tE m; obtain ⟨a, c, i⟩ := tb3 m a c i; replace j := kh3 j b d l m)); go_ret2; exact ⟨rfl, be3 j b d l⟩
 replace H := bS H; obtain ⟨rD, A6, H⟩ := H
 replace H := iB' H; obtain ⟨rfl, H⟩ | ⟨rfl, H⟩ := H
 ·simp only [Option.some.injEq, Prod.mk.injEq] at H; obtain ⟨rfl, rfl⟩ := H; go_enter Try.func72, Try.ntmps72; go_wp2_with (first | ((with_reducible refine AQ rfl (N := 3) rfl (cs := #[.int .i64 gB, .int .i64 hB, .string jB, .slice aB z.length kB, .slice bB B.length lB]) (t := 26) ?hr ?_); (case hr => first | (go_simp; done) | (go_simp; rfl)); intro zB hg lE g m; have a := mk0 (g); have b := bs (be j) hg; replace j := kh j m; clear m g hg) | ((with_reducible refine AQ rfl (N := 4) rfl (cs := #[.int .i64 L, .int .i64 O, .slice cB u.length mB, .slice dB v.length qB]) (t := 30) ?hr ?_); (case hr => first | (go_simp; done) | (go_simp; rfl)); intro aC hg mE g m; have c := mk0 (g); have d := bs (be1 j b) hg; replace j := kh1 j b m; have ⟨n, p⟩ := nn a hg; replace a := kb a m; clear m g hg) | ((with_reducible refine AQ rfl (N := 5) rfl (cs := #[.int .i64 T, .int .i64 U, .slice eB x.length sB, .slice fB y.length tB]) (t := 30) ?hr ?_); (case hr => first | (go_simp; done) | (go_simp; rfl)); intro bC hg nE g m; have i := mk0 (g); have l := bs (be2 j b d) hg; replace j := kh2 j b d m; have ⟨o, r⟩ := nn a hg; have ⟨q, s⟩ := nn c hg; obtain ⟨a, c⟩ := tb2 m a c; clear m g hg; have ⟨uC, dD⟩ := no n p; have ⟨vC, eD⟩ := no o r; have yD := cells5 a.out; have ⟨wC, fD⟩ := no q s; have zD := Ay c.out) | ((with_reducible refine AJ (f := 45) rfl ?_); refine CS Try.func45 (Ca.calls (Aa HG.out (be3 j b d l)) (cu I j) D.out (cu J j) G.out (cu Y j) W.out (cu Z j) X.out A4.out) ?_; intro oE m; obtain ⟨a, c, i⟩ := tb3 m a c i; replace j := kh3 j b d l m; have aE := cells5 a.out; have bE := Ay i.out) | (go_at_call 45; refine (Ca.calls (Aa HG.out (be3 j b d l)) (cu I j) D.out (cu J j) G.out (cu xB j) uB.out (cu yB j) wB.out A6.out).mono ?_; rintro e pE ⟨rfl, m⟩; obtain ⟨a, c, i⟩ := tb3 m a c i; replace j := kh3 j b d l m)); go_ret2; exact ⟨rfl, be3 j b d l⟩
 replace H := bS H; obtain ⟨pC, A8, H⟩ := H
 simp only [Option.some.injEq, Prod.mk.injEq] at H
 obtain ⟨rfl, rfl⟩ := H
 go_enter Try.func72, Try.ntmps72
 go_wp2_with (first | ((with_reducible refine AQ rfl (N := 3) rfl (cs := #[.int .i64 gB, .int .i64 hB, .string jB, .slice aB z.length kB, .slice bB B.length lB]) (t := 26) ?hr ?_); (case hr => first | (go_simp; done) | (go_simp; rfl)); intro zB hg w9 g m; have a := mk0 (g); have b := bs (be j) hg; replace j := kh j m; clear m g hg) | ((with_reducible refine AQ rfl (N := 4) rfl (cs := #[.int .i64 L, .int .i64 O, .slice cB u.length mB, .slice dB v.length qB]) (t := 30) ?hr ?_); (case hr => first | (go_simp; done) | (go_simp; rfl)); intro aC hg fE g m; have c := mk0 (g); have d := bs (be1 j b) hg; replace j := kh1 j b m; have ⟨n, p⟩ := nn a hg; replace a := kb a m; clear m g hg) | ((with_reducible refine AQ rfl (N := 5) rfl (cs := #[.int .i64 T, .int .i64 U, .slice eB x.length sB, .slice fB y.length tB]) (t := 30) ?hr ?_); (case hr => first | (go_simp; done) | (go_simp; rfl)); intro bC hg gE g m; have i := mk0 (g); have l := bs (be2 j b d) hg; replace j := kh2 j b d m; have ⟨o, r⟩ := nn a hg; have ⟨q, s⟩ := nn c hg; obtain ⟨a, c⟩ := tb2 m a c; clear m g hg; have ⟨rC, aD⟩ := no n p; have ⟨sC, bD⟩ := no o r; have sD := cells5 a.out; have ⟨tC, cD⟩ := no q s; have tD := Ay c.out) | ((with_reducible refine AJ (f := 45) rfl ?_); refine CS Try.func45 (Ca.calls (Aa HG.out (be3 j b d l)) (cu I j) D.out (cu J j) G.out (cu Y j) W.out (cu Z j) X.out A4.out) ?_; intro hE m; obtain ⟨a, c, i⟩ := tb3 m a c i; replace j := kh3 j b d l m; have uD := cells5 a.out; have vD := Ay i.out) | (go_at_call 45; refine (Ca.calls (Aa HG.out (be3 j b d l)) (cu I j) D.out (cu J j) G.out (cu xB j) uB.out (cu yB j) wB.out A6.out).mono ?_; rintro e jE ⟨rfl, m⟩; obtain ⟨a, c, i⟩ := tb3 m a c i; replace j := kh3 j b d l m; have wD := Ay c.out; have xD := Ay i.out) | ((with_reducible refine AJ (f := 84) rfl ?_); refine CS Try.func84 (Du.calls k L O _ _ u _ _ v T U _ _ x _ _ y pC _ (cu Y j) W.out (cu Z j) X.out (cu xB j) uB.out (cu yB j) wB.out A8.out) ?_; intro kE m; obtain ⟨a, c, i⟩ := tb3 m a c i; replace j := kh3 j b d l m))
 go_ret2
 exact ⟨rfl, be3 j b d l⟩
end Go.Proofs.Ytojankgmedccdaa.PGn
end
section
namespace Go.Proofs.Ytojankgmedccdaa.PGn
open Go.RowKit Own PTy Hand PIs PAw Wo
attribute [local go_sem] BS BU Bf Bg BC BD BX BZ
set_option linter.unusedVariables false
set_option linter.unusedSimpArgs false
def Cz.f (k : Nat) (b : Int) (c : Int) (d : ByteArray) (j : List ByteArray) (l : List (S26)) (e : Int) (g : Int) (m : List Int) (n : List (S30)) (h : Int) (i : Int) (o : List Int) (p : List (S30)) : Option (Bool) := (EK.f k b c d j l e g m n h i o p).bind fun a => (if a.1 = true then (some (a.2 == 0)) else (some false))
theorem Cz.calls {k : Nat} {U W : Int} {X : ByteArray} {G : Option Addr} {cB : Nat} {v : List ByteArray} {I : Option Addr} {dB : Nat} {x : List (S26)} {Y Z : Int} {J : Option Addr} {eB : Nat} {y : List Int} {L : Option Addr} {fB : Nat} {z : List (S30)} {aB bB : Int} {O : Option Addr} {gB : Nat} {B : List Int} {T : Option Addr} {hB : Nat} {D : List (S30)} {r : Bool} {w : World} (hG : EP w) (gC : Kd.C Kd.string w G v.length v) (aC : v.length ≤ cB) (hC : Kd.C k26 w I x.length x) (bC : x.length ≤ dB) (iC : Kd.C (Kd.int .u8) w J y.length y) (cC : y.length ≤ eB) (jC : Kd.C k30 w L z.length z) (dC : z.length ≤ fB) (kC : Kd.C (Kd.int .u8) w O B.length B) (eC : B.length ≤ gB) (lC : Kd.C k30 w T D.length D) (fC : D.length ≤ hB) (h : Cz.f k U W X v x Y Z y z aB bB B D = some r) :
  Calls Try.prog 56 #[.agg #[.int .i64 U, .int .i64 W, .string X, .slice G v.length cB, .slice I x.length dB], .agg #[.int .i64 Y, .int .i64 Z, .slice J y.length eB, .slice L z.length fB], .agg #[.int .i64 aB, .int .i64 bB, .slice O B.length gB, .slice T D.length hB]] w fun e w' => e = .returned (.bool r) ∧ Below w.heap.size w w' := by
 have HG := mk0 hG; clear hG
 have hD := Try.underlying26
 have jD := Try.underlying30
 have tB := mk0 gC; have jB := mk0 aC; clear gC aC; have uB := mk0 hC; have kB := mk0 bC; clear hC bC; have wB := mk0 iC; have lB := mk0 cC; clear iC cC; have xB := mk0 jC; have mB := mk0 dC; clear jC dC; have yB := mk0 kC; have qB := mk0 eC; clear kC eC; have zB := mk0 lC; have sB := mk0 fC; clear lC fC
 have i := mk0 (Below.refl w.heap.size w)
 have H := h; unfold Cz.f at H
 clear h
 replace H := Option.bind_eq_some_iff.mp H
 obtain ⟨⟨qC, rC⟩, pC, H⟩ := H
 replace H : (if qC = true then (some (rC == 0)) else (some false)) = some r := H
 have A4 := mk0 pC; clear pC
 replace H := iB H; obtain ⟨rfl, H⟩ | ⟨rfl, H⟩ := H
 ·obtain rfl := sI H; go_enter Try.func56, Try.ntmps56; go_wp2_with (first | ((with_reducible refine AQ rfl (N := 3) rfl (cs := #[.int .i64 U, .int .i64 W, .string X, .slice G v.length cB, .slice I x.length dB]) (t := 26) ?hr ?_); (case hr => first | (go_simp; done) | (go_simp; rfl)); intro mC hg w6 d u; have a := mk0 (d); have b := bs (be i) hg; replace i := kh i u; clear u d hg) | ((with_reducible refine AQ rfl (N := 4) rfl (cs := #[.int .i64 Y, .int .i64 Z, .slice J y.length eB, .slice L z.length fB]) (t := 30) ?hr ?_); (case hr => first | (go_simp; done) | (go_simp; rfl)); intro nC hg w7 d u; have c := mk0 (d); have g := bs (be1 i b) hg; replace i := kh1 i b u; have ⟨m, o⟩ := nn a hg; replace a := kb a u; clear u d hg) | ((with_reducible refine AQ rfl (N := 5) rfl (cs := #[.int .i64 aB, .int .i64 bB, .slice O B.length gB, .slice T D.length hB]) (t := 30) ?hr ?_); (case hr => first | (go_simp; done) | (go_simp; rfl)); intro oC hg w8 d u; have j := mk0 (d); have l := bs (be2 i b g) hg; replace i := kh2 i b g u; have ⟨n, q⟩ := nn a hg; have ⟨p, s⟩ := nn c hg; obtain ⟨a, c⟩ := tb2 u a c; clear u d hg; have ⟨fD, gD⟩ := no m o; have ⟨sC, xC⟩ := no n q; have kD := cells5 a.out; have ⟨tC, yC⟩ := no p s; have lD := Ay c.out; have mD := Ay j.out) | ((with_reducible refine AJ (f := 72) rfl ?_); refine CS Try.func72 (EK.calls (Aa HG.out (be3 i b g l)) (cu tB i) jB.out (cu uB i) kB.out (cu wB i) lB.out (cu xB i) mB.out (cu yB i) qB.out (cu zB i) sB.out A4.out) ?_; intro qD u; obtain ⟨a, c, j⟩ := tb3 u a c j; replace i := kh3 i b g l u)); go_ret; exact ⟨rfl, be3 i b g l⟩
 obtain rfl := sI H
 go_enter Try.func56, Try.ntmps56
 go_wp2_with (first | ((with_reducible refine AQ rfl (N := 3) rfl (cs := #[.int .i64 U, .int .i64 W, .string X, .slice G v.length cB, .slice I x.length dB]) (t := 26) ?hr ?_); (case hr => first | (go_simp; done) | (go_simp; rfl)); intro mC hg rD d u; have a := mk0 (d); have b := bs (be i) hg; replace i := kh i u; clear u d hg) | ((with_reducible refine AQ rfl (N := 4) rfl (cs := #[.int .i64 Y, .int .i64 Z, .slice J y.length eB, .slice L z.length fB]) (t := 30) ?hr ?_); (case hr => first | (go_simp; done) | (go_simp; rfl)); intro nC hg sD d u; have c := mk0 (d); have g := bs (be1 i b) hg; replace i := kh1 i b u; have ⟨m, o⟩ := nn a hg; replace a := kb a u; clear u d hg) | ((with_reducible refine AQ rfl (N := 5) rfl (cs := #[.int .i64 aB, .int .i64 bB, .slice O B.length gB, .slice T D.length hB]) (t := 30) ?hr ?_); (case hr => first | (go_simp; done) | (go_simp; rfl)); intro oC hg tD d u; have j := mk0 (d); have l := bs (be2 i b g) hg; replace i := kh2 i b g u; have ⟨n, q⟩ := nn a hg; have ⟨p, s⟩ := nn c hg; obtain ⟨a, c⟩ := tb2 u a c; clear u d hg; have ⟨uC, zC⟩ := no m o; have ⟨vC, aD⟩ := no n q; have nD := cells5 a.out; have ⟨wC, bD⟩ := no p s; have oD := Ay c.out; have pD := Ay j.out) | ((with_reducible refine AJ (f := 72) rfl ?_); refine CS Try.func72 (EK.calls (Aa HG.out (be3 i b g l)) (cu tB i) jB.out (cu uB i) kB.out (cu wB i) lB.out (cu xB i) mB.out (cu yB i) qB.out (cu zB i) sB.out A4.out) ?_; intro uD u; obtain ⟨a, c, j⟩ := tb3 u a c j; replace i := kh3 i b g l u))
 go_ret
 exact ⟨rfl, be3 i b g l⟩
end Go.Proofs.Ytojankgmedccdaa.PGn
end
