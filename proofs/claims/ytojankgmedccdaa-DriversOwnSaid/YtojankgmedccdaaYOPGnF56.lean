/- Lemmas. -/
import Derived.Test.YtojankgmedccdaaYOPGnx0
set_option maxHeartbeats 8000000
set_option maxRecDepth 100000
section
namespace Go.Proofs.Ytojankgmedccdaa.PGn
open Go.RowKit Own PTy Hand PIs PAw Wo
attribute [local go_sem] BI BJ Ba Bc Ao Ap BL BM
set_option linter.unusedVariables false
set_option linter.unusedSimpArgs false
def Ca.f : Nat → Int → Int → List Int → List (S30) → Int → Int → List Int → List (S30) → Option (Bool)
 | 0, _, _, _, _, _, _, _, _ => none
 | k + 1, o, a, c, e, q, b, h, i => if a = b then ((api_Bit_96.f k c h).bind fun j => (if j = true then ((EG.f e i).bind fun l => (some l)) else (some false))) else (some false)
theorem Ca.calls (k : Nat) : ∀ (J : Int) (L : Int) (B : Option Addr) (U : Nat) (s : List Int) (D : Option Addr) (W : Nat) (l : List (S30)) (O : Int) (T : Int) (G : Option Addr) (X : Nat) (u : List Int) (I : Option Addr) (Y : Nat) (o : List (S30)) (r : Bool) (w : World) (eB : Kd.C (Kd.int .u8) w B s.length s) (aB : s.length ≤ U) (fB : Kd.C k30 w D l.length l) (bB : l.length ≤ W) (gB : Kd.C (Kd.int .u8) w G u.length u) (cB : u.length ≤ X) (hB : Kd.C k30 w I o.length o) (dB : o.length ≤ Y) (h : Ca.f k J L s l O T u o = some r),
  Calls Try.prog 84 #[.agg #[.int .i64 J, .int .i64 L, .slice B s.length U, .slice D l.length W], .agg #[.int .i64 O, .int .i64 T, .slice G u.length X, .slice I o.length Y]] w fun e w' => e = .returned (.bool r) ∧ Below w.heap.size w w' := by
 induction k using Nat.strongRecOn with
 | _ k ih =>
 intro J L B U s D W l O T G X u I Y o r w eB aB fB bB gB cB hB dB h
 cases k with
 | zero => exact absurd h (by simp [Ca.f])
 | succ k =>
 simp only [Ca.f] at h
 have iC := Try.underlying30
 have lB := mk0 eB; have jB := mk0 aB; clear eB aB; have wB := mk0 fB; have tB := mk0 bB; clear fB bB; have mB := mk0 gB; have kB := mk0 cB; clear gB cB; have xB := mk0 hB; have uB := mk0 dB; clear hB dB
 have v := mk0 (Below.refl w.heap.size w)
 have H := h; unfold Ca.f at H
 clear h
 replace H := iE' H; obtain ⟨c3, yB, zB, H⟩ | ⟨yB, zB, H⟩ := H
 ·obtain rfl := sI H; go_enter Try.func84, Try.ntmps84; go_wp2_with (first | ((with_reducible refine AU rfl (N := 2) rfl (cs := #[.int .i64 J, .int .i64 L, .slice B s.length U, .slice D l.length W]) (t := 30) ?hr ?_); (case hr => first | (go_simp; done) | (go_simp; rfl)); intro qB hg uC c Z; have a := mk0 (c); have b := bs (be v) hg; replace v := kh v Z; clear Z c hg) | ((with_reducible refine AU rfl (N := 3) rfl (cs := #[.int .i64 O, .int .i64 T, .slice G u.length X, .slice I o.length Y]) (t := 30) ?hr ?_); (case hr => first | (go_simp; done) | (go_simp; rfl)); intro sB hg vC c Z; have z := mk0 (c); have q := bs (be1 v b) hg; replace v := kh1 v b Z; have ⟨i, j⟩ := nn a hg; replace a := kb a Z; clear Z c hg; have ⟨cC, eC⟩ := no i j; have pC := Ar a.out; have qC := Ar z.out)); go_ret; exact ⟨rfl, be2 v b q⟩
 replace H := bS H; obtain ⟨kC, A4, H⟩ := H
 replace H := iB' H; obtain ⟨rfl, H⟩ | ⟨rfl, H⟩ := H
 ·obtain rfl := sI H; go_enter Try.func84, Try.ntmps84; go_wp2_with (first | ((with_reducible refine AU rfl (N := 2) rfl (cs := #[.int .i64 J, .int .i64 L, .slice B s.length U, .slice D l.length W]) (t := 30) ?hr ?_); (case hr => first | (go_simp; done) | (go_simp; rfl)); intro qB hg sC c Z; have a := mk0 (c); have b := bs (be v) hg; replace v := kh v Z; clear Z c hg) | ((with_reducible refine AU rfl (N := 3) rfl (cs := #[.int .i64 O, .int .i64 T, .slice G u.length X, .slice I o.length Y]) (t := 30) ?hr ?_); (case hr => first | (go_simp; done) | (go_simp; rfl)); intro sB hg tC c Z; have z := mk0 (c); have q := bs (be1 v b) hg; replace v := kh1 v b Z; have ⟨i, j⟩ := nn a hg; replace a := kb a Z; clear Z c hg; have ⟨bC, dC⟩ := no i j; have nC := Ar a.out; have oC := Ar z.out) | (go_at_call 96; refine (api_Bit_96.calls (cu lB v) jB.out (cu mB v) kB.out A4.out).mono ?_; rintro e w' ⟨rfl, nd, rfl⟩)); go_ret; exact ⟨rfl, be2 v b q⟩
 replace H := bS H; obtain ⟨aC, A6, H⟩ := H; obtain rfl := sI H
 go_enter Try.func84, Try.ntmps84
 go_wp2_with (first | ((with_reducible refine AU rfl (N := 2) rfl (cs := #[.int .i64 J, .int .i64 L, .slice B s.length U, .slice D l.length W]) (t := 30) ?hr ?_); (case hr => first | (go_simp; done) | (go_simp; rfl)); intro qB hg w7 c Z; have a := mk0 (c); have b := bs (be v) hg; replace v := kh v Z; clear Z c hg) | ((with_reducible refine AU rfl (N := 3) rfl (cs := #[.int .i64 O, .int .i64 T, .slice G u.length X, .slice I o.length Y]) (t := 30) ?hr ?_); (case hr => first | (go_simp; done) | (go_simp; rfl)); intro sB hg w8 c Z; have z := mk0 (c); have q := bs (be1 v b) hg; replace v := kh1 v b Z; have ⟨i, j⟩ := nn a hg; replace a := kb a Z; clear Z c hg; have ⟨gC, hC⟩ := no i j; have lC := Ar a.out; have mC := Ar z.out) | (go_at_call 96; refine (api_Bit_96.calls (cu lB v) jB.out (cu mB v) kB.out A4.out).mono ?_; rintro e w' ⟨rfl, nd, rfl⟩) | (go_at_call 97; (with_reducible refine (EG.calls _ _ l _ _ o aC _ ?side1 ?side2 ?side3 ?side4 A6.out).mono ?_); (case side1 => exact (Kd.Ak wB.out (be2 v b q))); (case side2 => exact tB.out); (case side3 => exact (Kd.Ak xB.out (be2 v b q))); (case side4 => exact uB.out); rintro e w' ⟨rfl, nd, rfl⟩))
 go_ret
 exact ⟨rfl, be2 v b q⟩
end Go.Proofs.Ytojankgmedccdaa.PGn
end
section
namespace Go.Proofs.Ytojankgmedccdaa.PGn
open Go.RowKit Own PTy Hand PIs PAw Wo
attribute [local go_sem] BI BJ Ba Bc Ao Ap BL BM
set_option linter.unusedVariables false
set_option linter.unusedSimpArgs false
def Dn.f (k : Nat) (a : Int) (b : Int) (c : ByteArray) (l : List ByteArray) (o : List (S26)) (e : Int) (h : Int) (q : List Int) (r : List (S30)) (i : Int) (j : Int) (s : List Int) (u : List (S30)) : Option (Bool × Int) := (Bz.f k a b c l o e h q r).bind fun v => (if v = true then ((Bz.f k a b c l o i j s u).bind fun w => (if w = true then ((Ca.f k e h q r i j s u).bind fun z => (some (z, 0))) else (some (false, 2)))) else (some (false, 2)))
theorem Dn.calls {k : Nat} {sB tB : Int} {uB : ByteArray} {hB : Option Addr} {wB : Nat} {O : List ByteArray} {jB : Option Addr} {xB : Nat} {T : List (S26)} {Z aB : Int} {kB : Option Addr} {yB : Nat} {G : List Int} {lB : Option Addr} {zB : Nat} {I : List (S30)} {bB cB : Int} {mB : Option Addr} {aC : Nat} {J : List Int} {qB : Option Addr} {bC : Nat} {L : List (S30)} {r1 : Bool} {r2 : Int} {w : World} (hG : Dk w) (pC : Kd.C Kd.string w hB O.length O) (jC : O.length ≤ wB) (qC : Kd.C k26 w jB T.length T) (kC : T.length ≤ xB) (rC : Kd.C (Kd.int .u8) w kB G.length G) (lC : G.length ≤ yB) (sC : Kd.C k30 w lB I.length I) (mC : I.length ≤ zB) (tC : Kd.C (Kd.int .u8) w mB J.length J) (nC : J.length ≤ aC) (uC : Kd.C k30 w qB L.length L) (oC : L.length ≤ bC) (h : Dn.f k sB tB uB O T Z aB G I bB cB J L = some (r1, r2)) :
  Calls Try.prog 72 #[.agg #[.int .i64 sB, .int .i64 tB, .string uB, .slice hB O.length wB, .slice jB T.length xB], .agg #[.int .i64 Z, .int .i64 aB, .slice kB G.length yB, .slice lB I.length zB], .agg #[.int .i64 bB, .int .i64 cB, .slice mB J.length aC, .slice qB L.length bC]] w fun e w' => e = .returned (.tuple #[.bool r1, .int .i64 r2]) ∧ Below w.heap.size w w' := by
 have HG := mk0 hG; clear hG
 have tD := Try.underlying26
 have uD := Try.underlying30
 have X := mk0 pC; have U := mk0 jC; clear pC jC; have Y := mk0 qC; have W := mk0 kC; clear qC kC; have fB := mk0 rC; have dB := mk0 lC; clear rC lC; have gB := mk0 sC; have eB := mk0 mC; clear sC mC; have eC := mk0 tC; have cC := mk0 nC; clear tC nC; have fC := mk0 uC; have dC := mk0 oC; clear uC oC
 have o := mk0 (Below.refl w.heap.size w)
 have H := h; unfold Dn.f at H
 clear h
 replace H := bS H; obtain ⟨wD, A4, H⟩ := H
 replace H := iB' H; obtain ⟨rfl, H⟩ | ⟨rfl, H⟩ := H
 ·simp only [Option.some.injEq, Prod.mk.injEq] at H; obtain ⟨rfl, rfl⟩ := H; go_enter Try.func72, Try.ntmps72; go_wp2_with (first | ((with_reducible refine AU rfl (N := 3) rfl (cs := #[.int .i64 sB, .int .i64 tB, .string uB, .slice hB O.length wB, .slice jB T.length xB]) (t := 26) ?hr ?_); (case hr => first | (go_simp; done) | (go_simp; rfl)); intro gC hg wE j r; have a := mk0 (j); have b := bs (be o) hg; replace o := kh o r; clear r j hg) | ((with_reducible refine AU rfl (N := 4) rfl (cs := #[.int .i64 Z, .int .i64 aB, .slice kB G.length yB, .slice lB I.length zB]) (t := 30) ?hr ?_); (case hr => first | (go_simp; done) | (go_simp; rfl)); intro hC hg xE j r; have c := mk0 (j); have i := bs (be1 o b) hg; replace o := kh1 o b r; have ⟨s, v⟩ := nn a hg; replace a := kb a r; clear r j hg) | ((with_reducible refine AU rfl (N := 5) rfl (cs := #[.int .i64 bB, .int .i64 cB, .slice mB J.length aC, .slice qB L.length bC]) (t := 30) ?hr ?_); (case hr => first | (go_simp; done) | (go_simp; rfl)); intro iC hg yE j r; have l := mk0 (j); have q := bs (be2 o b i) hg; replace o := kh2 o b i r; have ⟨u, B⟩ := nn a hg; have ⟨z, D⟩ := nn c hg; obtain ⟨a, c⟩ := tb2 r a c; clear r j hg; have ⟨eD, oD⟩ := no s v; have ⟨fD, pD⟩ := no u B; have jE := cells5 a.out; have ⟨gD, qD⟩ := no z D; have kE := Ar c.out) | ((with_reducible refine AP (f := 45) rfl ?_); refine CS Try.func45 (Bz.calls (Ad HG.out (be3 o b i q)) (cu X o) U.out (cu Y o) W.out (cu fB o) dB.out (cu gB o) eB.out A4.out) ?_; intro zE r; obtain ⟨a, c, l⟩ := tb3 r a c l; replace o := kh3 o b i q r)); go_ret2; exact ⟨rfl, be3 o b i q⟩
 replace H := bS H; obtain ⟨xD, A6, H⟩ := H
 replace H := iB' H; obtain ⟨rfl, H⟩ | ⟨rfl, H⟩ := H
 ·simp only [Option.some.injEq, Prod.mk.injEq] at H; obtain ⟨rfl, rfl⟩ := H; go_enter Try.func72, Try.ntmps72; go_wp2_with (first | ((with_reducible refine AU rfl (N := 3) rfl (cs := #[.int .i64 sB, .int .i64 tB, .string uB, .slice hB O.length wB, .slice jB T.length xB]) (t := 26) ?hr ?_); (case hr => first | (go_simp; done) | (go_simp; rfl)); intro gC hg rE j r; have a := mk0 (j); have b := bs (be o) hg; replace o := kh o r; clear r j hg) | ((with_reducible refine AU rfl (N := 4) rfl (cs := #[.int .i64 Z, .int .i64 aB, .slice kB G.length yB, .slice lB I.length zB]) (t := 30) ?hr ?_); (case hr => first | (go_simp; done) | (go_simp; rfl)); intro hC hg sE j r; have c := mk0 (j); have i := bs (be1 o b) hg; replace o := kh1 o b r; have ⟨s, v⟩ := nn a hg; replace a := kb a r; clear r j hg) | ((with_reducible refine AU rfl (N := 5) rfl (cs := #[.int .i64 bB, .int .i64 cB, .slice mB J.length aC, .slice qB L.length bC]) (t := 30) ?hr ?_); (case hr => first | (go_simp; done) | (go_simp; rfl)); intro iC hg tE j r; have l := mk0 (j); have q := bs (be2 o b i) hg; replace o := kh2 o b i r; have ⟨u, B⟩ := nn a hg; have ⟨z, D⟩ := nn c hg; obtain ⟨a, c⟩ := tb2 r a c; clear r j hg; have ⟨bD, lD⟩ := no s v; have ⟨cD, mD⟩ := no u B; have eE := cells5 a.out; have ⟨dD, nD⟩ := no z D; have fE := Ar c.out) | ((with_reducible refine AP (f := 45) rfl ?_); refine CS Try.func45 (Bz.calls (Ad HG.out (be3 o b i q)) (cu X o) U.out (cu Y o) W.out (cu fB o) dB.out (cu gB o) eB.out A4.out) ?_; intro uE r; obtain ⟨a, c, l⟩ := tb3 r a c l; replace o := kh3 o b i q r; have gE := cells5 a.out; have hE := Ar l.out) | (go_at_call 45; refine (Bz.calls (Ad HG.out (be3 o b i q)) (cu X o) U.out (cu Y o) W.out (cu eC o) cC.out (cu fC o) dC.out A6.out).mono ?_; rintro e vE ⟨rfl, r⟩; obtain ⟨a, c, l⟩ := tb3 r a c l; replace o := kh3 o b i q r)); go_ret2; exact ⟨rfl, be3 o b i q⟩
 replace H := bS H; obtain ⟨wC, A8, H⟩ := H
 simp only [Option.some.injEq, Prod.mk.injEq] at H
 obtain ⟨rfl, rfl⟩ := H
 go_enter Try.func72, Try.ntmps72
 go_wp2_with (first | ((with_reducible refine AU rfl (N := 3) rfl (cs := #[.int .i64 sB, .int .i64 tB, .string uB, .slice hB O.length wB, .slice jB T.length xB]) (t := 26) ?hr ?_); (case hr => first | (go_simp; done) | (go_simp; rfl)); intro gC hg w9 j r; have a := mk0 (j); have b := bs (be o) hg; replace o := kh o r; clear r j hg) | ((with_reducible refine AU rfl (N := 4) rfl (cs := #[.int .i64 Z, .int .i64 aB, .slice kB G.length yB, .slice lB I.length zB]) (t := 30) ?hr ?_); (case hr => first | (go_simp; done) | (go_simp; rfl)); intro hC hg mE j r; have c := mk0 (j); have i := bs (be1 o b) hg; replace o := kh1 o b r; have ⟨s, v⟩ := nn a hg; replace a := kb a r; clear r j hg) | ((with_reducible refine AU rfl (N := 5) rfl (cs := #[.int .i64 bB, .int .i64 cB, .slice mB J.length aC, .slice qB L.length bC]) (t := 30) ?hr ?_); (case hr => first | (go_simp; done) | (go_simp; rfl)); intro iC hg nE j r; have l := mk0 (j); have q := bs (be2 o b i) hg; replace o := kh2 o b i r; have ⟨u, B⟩ := nn a hg; have ⟨z, D⟩ := nn c hg; obtain ⟨a, c⟩ := tb2 r a c; clear r j hg; have ⟨yC, hD⟩ := no s v; have ⟨zC, jD⟩ := no u B; have yD := cells5 a.out; have ⟨aD, kD⟩ := no z D; have zD := Ar c.out) | ((with_reducible refine AP (f := 45) rfl ?_); refine CS Try.func45 (Bz.calls (Ad HG.out (be3 o b i q)) (cu X o) U.out (cu Y o) W.out (cu fB o) dB.out (cu gB o) eB.out A4.out) ?_; intro oE r; obtain ⟨a, c, l⟩ := tb3 r a c l; replace o := kh3 o b i q r; have aE := cells5 a.out; have bE := Ar l.out) | (go_at_call 45; refine (Bz.calls (Ad HG.out (be3 o b i q)) (cu X o) U.out (cu Y o) W.out (cu eC o) cC.out (cu fC o) dC.out A6.out).mono ?_; rintro e pE ⟨rfl, r⟩; obtain ⟨a, c, l⟩ := tb3 r a c l; replace o := kh3 o b i q r; have cE := Ar c.out; have dE := Ar l.out) | ((with_reducible refine AP (f := 84) rfl ?_); refine CS Try.func84 (Ca.calls k Z aB _ _ G _ _ I bB cB _ _ J _ _ L wC _ (cu fB o) dB.out (cu gB o) eB.out (cu eC o) cC.out (cu fC o) dC.out A8.out) ?_; intro qE r; obtain ⟨a, c, l⟩ := tb3 r a c l; replace o := kh3 o b i q r))
 go_ret2
 exact ⟨rfl, be3 o b i q⟩
end Go.Proofs.Ytojankgmedccdaa.PGn
end
section
namespace Go.Proofs.Ytojankgmedccdaa.PGn
open Go.RowKit Own PTy Hand PIs PAw Wo
attribute [local go_sem] BI BJ Ba Bc Ao Ap BL BM
set_option linter.unusedVariables false
set_option linter.unusedSimpArgs false
def Cb.f (k : Nat) (b : Int) (c : Int) (e : ByteArray) (o : List ByteArray) (q : List (S26)) (h : Int) (i : Int) (r : List Int) (s : List (S30)) (j : Int) (l : Int) (u : List Int) (v : List (S30)) : Option (Bool) := (Dn.f k b c e o q h i r s j l u v).bind fun a => (if a.1 = true then (some (a.2 == 0)) else (some false))
theorem Cb.calls {k : Nat} {cB dB : Int} {eB : ByteArray} {W : Option Addr} {kB : Nat} {I : List ByteArray} {X : Option Addr} {lB : Nat} {J : List (S26)} {fB gB : Int} {Y : Option Addr} {mB : Nat} {L : List Int} {Z : Option Addr} {qB : Nat} {O : List (S30)} {hB jB : Int} {aB : Option Addr} {sB : Nat} {T : List Int} {bB : Option Addr} {tB : Nat} {U : List (S30)} {r : Bool} {w : World} (hG : Dk w) (nC : Kd.C Kd.string w W I.length I) (hC : I.length ≤ kB) (oC : Kd.C k26 w X J.length J) (iC : J.length ≤ lB) (pC : Kd.C (Kd.int .u8) w Y L.length L) (jC : L.length ≤ mB) (qC : Kd.C k30 w Z O.length O) (kC : O.length ≤ qB) (rC : Kd.C (Kd.int .u8) w aB T.length T) (lC : T.length ≤ sB) (sC : Kd.C k30 w bB U.length U) (mC : U.length ≤ tB) (h : Cb.f k cB dB eB I J fB gB L O hB jB T U = some r) :
  Calls Try.prog 56 #[.agg #[.int .i64 cB, .int .i64 dB, .string eB, .slice W I.length kB, .slice X J.length lB], .agg #[.int .i64 fB, .int .i64 gB, .slice Y L.length mB, .slice Z O.length qB], .agg #[.int .i64 hB, .int .i64 jB, .slice aB T.length sB, .slice bB U.length tB]] w fun e w' => e = .returned (.bool r) ∧ Below w.heap.size w w' := by
 have HG := mk0 hG; clear hG
 have pD := Try.underlying26
 have qD := Try.underlying30
 have bC := mk0 nC; have uB := mk0 hC; clear nC hC; have cC := mk0 oC; have wB := mk0 iC; clear oC iC; have dC := mk0 pC; have xB := mk0 jC; clear pC jC; have eC := mk0 qC; have yB := mk0 kC; clear qC kC; have fC := mk0 rC; have zB := mk0 lC; clear rC lC; have gC := mk0 sC; have aC := mk0 mC; clear sC mC
 have l := mk0 (Below.refl w.heap.size w)
 have H := h; unfold Cb.f at H
 clear h
 replace H := Option.bind_eq_some_iff.mp H
 obtain ⟨⟨xC, yC⟩, wC, H⟩ := H
 replace H : (if xC = true then (some (yC == 0)) else (some false)) = some r := H
 have A4 := mk0 wC; clear wC
 replace H := iB H; obtain ⟨rfl, H⟩ | ⟨rfl, H⟩ := H
 ·obtain rfl := sI H; go_enter Try.func56, Try.ntmps56; go_wp2_with (first | ((with_reducible refine AU rfl (N := 3) rfl (cs := #[.int .i64 cB, .int .i64 dB, .string eB, .slice W I.length kB, .slice X J.length lB]) (t := 26) ?hr ?_); (case hr => first | (go_simp; done) | (go_simp; rfl)); intro tC hg w6 i G; have a := mk0 (i); have b := bs (be l) hg; replace l := kh l G; clear G i hg) | ((with_reducible refine AU rfl (N := 4) rfl (cs := #[.int .i64 fB, .int .i64 gB, .slice Y L.length mB, .slice Z O.length qB]) (t := 30) ?hr ?_); (case hr => first | (go_simp; done) | (go_simp; rfl)); intro uC hg w7 i G; have c := mk0 (i); have j := bs (be1 l b) hg; replace l := kh1 l b G; have ⟨s, v⟩ := nn a hg; replace a := kb a G; clear G i hg) | ((with_reducible refine AU rfl (N := 5) rfl (cs := #[.int .i64 hB, .int .i64 jB, .slice aB T.length sB, .slice bB U.length tB]) (t := 30) ?hr ?_); (case hr => first | (go_simp; done) | (go_simp; rfl)); intro vC hg w8 i G; have o := mk0 (i); have q := bs (be2 l b j) hg; replace l := kh2 l b j G; have ⟨u, B⟩ := nn a hg; have ⟨z, D⟩ := nn c hg; obtain ⟨a, c⟩ := tb2 G a c; clear G i hg; have ⟨nD, oD⟩ := no s v; have ⟨zC, eD⟩ := no u B; have rD := cells5 a.out; have ⟨aD, fD⟩ := no z D; have sD := Ar c.out; have tD := Ar o.out) | ((with_reducible refine AP (f := 72) rfl ?_); refine CS Try.func72 (Dn.calls (Ad HG.out (be3 l b j q)) (cu bC l) uB.out (cu cC l) wB.out (cu dC l) xB.out (cu eC l) yB.out (cu fC l) zB.out (cu gC l) aC.out A4.out) ?_; intro xD G; obtain ⟨a, c, o⟩ := tb3 G a c o; replace l := kh3 l b j q G)); go_ret; exact ⟨rfl, be3 l b j q⟩
 obtain rfl := sI H
 go_enter Try.func56, Try.ntmps56
 go_wp2_with (first | ((with_reducible refine AU rfl (N := 3) rfl (cs := #[.int .i64 cB, .int .i64 dB, .string eB, .slice W I.length kB, .slice X J.length lB]) (t := 26) ?hr ?_); (case hr => first | (go_simp; done) | (go_simp; rfl)); intro tC hg yD i G; have a := mk0 (i); have b := bs (be l) hg; replace l := kh l G; clear G i hg) | ((with_reducible refine AU rfl (N := 4) rfl (cs := #[.int .i64 fB, .int .i64 gB, .slice Y L.length mB, .slice Z O.length qB]) (t := 30) ?hr ?_); (case hr => first | (go_simp; done) | (go_simp; rfl)); intro uC hg zD i G; have c := mk0 (i); have j := bs (be1 l b) hg; replace l := kh1 l b G; have ⟨s, v⟩ := nn a hg; replace a := kb a G; clear G i hg) | ((with_reducible refine AU rfl (N := 5) rfl (cs := #[.int .i64 hB, .int .i64 jB, .slice aB T.length sB, .slice bB U.length tB]) (t := 30) ?hr ?_); (case hr => first | (go_simp; done) | (go_simp; rfl)); intro vC hg aE i G; have o := mk0 (i); have q := bs (be2 l b j) hg; replace l := kh2 l b j G; have ⟨u, B⟩ := nn a hg; have ⟨z, D⟩ := nn c hg; obtain ⟨a, c⟩ := tb2 G a c; clear G i hg; have ⟨bD, gD⟩ := no s v; have ⟨cD, hD⟩ := no u B; have uD := cells5 a.out; have ⟨dD, jD⟩ := no z D; have vD := Ar c.out; have wD := Ar o.out) | ((with_reducible refine AP (f := 72) rfl ?_); refine CS Try.func72 (Dn.calls (Ad HG.out (be3 l b j q)) (cu bC l) uB.out (cu cC l) wB.out (cu dC l) xB.out (cu eC l) yB.out (cu fC l) zB.out (cu gC l) aC.out A4.out) ?_; intro bE G; obtain ⟨a, c, o⟩ := tb3 G a c o; replace l := kh3 l b j q G))
 go_ret
 exact ⟨rfl, be3 l b j q⟩
end Go.Proofs.Ytojankgmedccdaa.PGn
end
