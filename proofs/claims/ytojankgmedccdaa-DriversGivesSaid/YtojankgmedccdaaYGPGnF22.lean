/- Lemmas for LawDriversGives. -/
import Derived.Test.YtojankgmedccdaaYGPGnF26
import Derived.Test.YtojankgmedccdaaYGPGnF38
namespace Go.Proofs.Ytojankgmedccdaa.PGn
open Go.RowKit Own PTy Hand PIs PAw YtojankgmedccdaaW.PrintWords YtojankgmedccdaaW.PrintLast YtojankgmedccdaaW.PrintMore
attribute [local go_sem] BI BJ Be Bf Ar Au BK BL
set_option linter.unusedVariables false
set_option linter.unusedSimpArgs false
def Bh.f (k : Nat) (g : Int) (h : Int) (i : ByteArray) (m : List ByteArray) (n : List (S26)) (j : Int) (l : Int) (o : List Int) (p : List (S30)) (q : List (S63)) (c : Int) (d : List (S30)) (e : List Int) (r : Bool) (s : Bool) : Option (Int × Int × List Int × (List (S30)) × (List (S63)) × Int) := (Cv.f k j l o p q).bind fun b => ((AJ.f k g h i m n b.1 b.2.1 b.2.2.1 b.2.2.2.1 b.2.2.2.2 c d e s).bind fun a => (some (a.1, a.2.1, a.2.2.1, a.2.2.2.1, a.2.2.2.2.1, a.2.2.2.2.2)))
def Bh.T1 : Bool × List (List Nat × List Nat) := (true, [([], []), ([0], [0]), ([], []), ([2], [2]), ([3], [3]), ([], []), ([5], [5]), ([], []), ([7], [7]), ([], []), ([9], [9]), ([], []), ([1, 4, 6, 8, 10, 11, 4], [1, 4, 6, 8, 10, 11]), ([12], [12]), ([12], [12]), ([13, 12, 0, 1, 2, 3, 4, 5, 6, 7, 8, 9, 10, 11, 12, 13, 14], [13]), ([14, 15, 0, 1, 2, 3, 4, 5, 6, 7, 8, 9, 10, 11, 12, 13, 14, 15], [14])])
def Bh.B1 : List Nat := [0, 1, 0, 4, 12, 0, 32, 0, 128, 0, 512, 0, 4095, 8191, 8191, 32767, 65535]
theorem Bh.PE : Ct .any (opsOf Try.f22 1) = Bh.T1 := by kernel_rfl
theorem Bh.NQ : CW Bh.T1.2 Bh.B1 = true := by kernel_rfl
set_option maxHeartbeats 8000000 in
set_option maxRecDepth 100000 in
theorem Bh.calls {k : Nat} {dB eB : Int} {gB : ByteArray} {jB : Option Addr} {tB : Nat} {J : List ByteArray} {kB : Option Addr} {uB : Nat} {L : List (S26)} {qB sB : Int} {lB : Option Addr} {wB : Nat} {Y : List Int} {mB : Option Addr} {xB : Nat} {Z : List (S30)} {oB : Option Addr} {yB : Nat} {aB : List (S63)} {I : Int} (z : Nat → Prop) {O : Option Addr} {T : Nat} {y : List (S30)} {U : Option Addr} {X : Nat} {B : List Int} {fB a1 : Bool} {r1 r2 : Int} {r3 : List Int} {r4 : List (S30)} {r5 : List (S63)} {r6 : Int} {w : World} (hG : D8 w) (kD : Kd.C Kd.string w jB J.length J) (eD : J.length ≤ tB) (lD : Kd.C k26 w kB L.length L) (fD : L.length ≤ uB) (mD : Kd.C (Kd.int .u8) w lB Y.length Y) (gD : Y.length ≤ wB) (nD : Kd.C k30 w mB Z.length Z) (hD : Z.length ≤ xB) (oD : Kd.C k63 w oB aB.length aB) (jD : aB.length ≤ yB) (cE : Kd.V k30 30 w w.heap.size (fun r => z r) (.slice O y.length T) y) (sC : Kd.C (Kd.int .i64) w U B.length B) (rC : B.length ≤ X) (h : Bh.f k dB eB gB J L qB sB Y Z aB I y B fB a1 = some (r1, r2, r3, r4, r5, r6)) :
  Calls Try.prog 22 #[.agg #[.int .i64 dB, .int .i64 eB, .string gB, .slice jB J.length tB, .slice kB L.length uB, .int .i64 qB, .int .i64 sB, .slice lB Y.length wB, .slice mB Z.length xB, .slice oB aB.length yB, .int .i64 I, .slice O y.length T, .slice U B.length X, .bool fB], .bool a1] w fun e w' => ∃ hE dG aF : Value, e = .returned (.tuple #[.agg #[.int .i64 r1, .int .i64 r2, hE, dG, aF], .int .i64 r6]) ∧ Kd.R (Kd.int .u8) 73 w' w.heap.size (fun r => (w.heap.size ≤ r)) hE r3 ∧ Kd.V k30 30 w' w.heap.size (fun r => (z r ∨ w.heap.size ≤ r) ∧ some r ≠ (hE : Value).ownBlock ∧ some r ≠ (aF : Value).ownBlock) dG r4 ∧ Kd.N k63 63 w' w.heap.size (fun r => (z r ∨ w.heap.size ≤ r) ∧ some r ≠ (hE : Value).ownBlock) aF r5 ∧ Below w.heap.size w w' := by
 have HG := mk0 hG; clear hG
 have iH := Try.underlying40
 have hH := Try.underlying33
 have gH := Try.underlying26
 have vE := mk0 kD; have qE := mk0 eD; clear kD eD; have wE := mk0 lD; have rE := mk0 fD; clear lD fD; have xE := mk0 mD; have sE := mk0 gD; clear mD gD; have yE := mk0 nD; have tE := mk0 hD; clear nD hD; have zE := mk0 oD; have uE := mk0 jD; clear oD jD
 have s := mk0 (show Kd.V k30 30 w w.heap.size (fun r => (z r ∨ w.heap.size ≤ r)) (.slice O y.length T) y from Kd.AL cE (fun r hk => .inl hk))
 have bE := mk0 sC; have aE := mk0 rC; clear sC rC
 have HB := mk0 (Below.refl w.heap.size w)
 have H := h; unfold Bh.f at H
 clear h
 replace H := Option.bind_eq_some_iff.mp H
 obtain ⟨⟨sD, tD, bC, oC, pC⟩, cF, H⟩ := H
 replace H : ((AJ.f k dB eB gB J L sD tD bC oC pC I y B a1).bind fun aC => (some (aC.1, aC.2.1, aC.2.2.1, aC.2.2.2.1, aC.2.2.2.2.1, aC.2.2.2.2.2))) = some (r1, r2, r3, r4, r5, r6) := H
 have A3 := mk0 cF; clear cF
 replace H := Option.bind_eq_some_iff.mp H
 obtain ⟨⟨uD, vD, wD, xD, yD, pE⟩, dF, H⟩ := H
 replace H : (some (uD, vD, wD, xD, yD, pE)) = some (r1, r2, r3, r4, r5, r6) := H
 have A4 := mk0 dF; clear dF
 simp only [Option.some.injEq, Prod.mk.injEq] at H
 obtain ⟨rfl, rfl, rfl, rfl, rfl, rfl⟩ := H
 go_enter Try.func22, Try.ntmps22
 try go_wp2_with (first | ((with_reducible refine AP rfl (N := 2) rfl (cs := #[.int .i64 dB, .int .i64 eB, .string gB, .slice jB J.length tB, .slice kB L.length uB, .int .i64 qB, .int .i64 sB, .slice lB Y.length wB, .slice mB Z.length xB, .slice oB aB.length yB, .int .i64 I, .slice O y.length T, .slice U B.length X, .bool fB]) (t := 40) ?hr ?_); (case hr => first | (go_simp; done) | (go_simp; rfl)); intro l hg w5 jC hb; replace s := vB s hg hb; have c := mk0 (jC); have u := bs (be HB) hg; replace HB := kh HB hb; clear hb jC hg) | ((with_reducible refine AP rfl (N := 4) rfl (cs := #[.int .i64 0, .int .i64 0, .slice none 0 0, .slice none 0 0, .slice none 0 0]) (t := 33) ?hr ?_); (case hr => first | (go_simp; done) | (go_simp; rfl)); intro b hg w6 jC hb; replace s := vB s hg hb; have j := mk0 (jC); have x := bs (be1 HB u) hg; replace HB := kh1 HB u hb; have ⟨a, G⟩ := nn c hg; replace c := kb c hb; clear hb jC hg))
 have kC := mk0 (Kd.BU s.out)
 have lC := mk0 (AX c.out)
 have mC := mk0 (AX j.out)
 have nC := mk0 (Ad HB.out)
 clear s; clear c; clear j; clear HB; have s := kC; have c := lC; have j := mC; have HB := nC; clear kC lC mC nC
 refine Cz (n := 17) (S := fun w' => w'.cell? ⟨l, 0, none⟩ = some (.int .i64 dB) ∧ w'.cell? ⟨l, 1, none⟩ = some (.int .i64 eB) ∧ w'.cell? ⟨l, 2, none⟩ = some (.string gB) ∧ w'.cell? ⟨l, 3, none⟩ = some (.slice jB J.length tB) ∧ w'.cell? ⟨l, 4, none⟩ = some (.slice kB L.length uB) ∧ w'.cell? ⟨l, 5, none⟩ = some (.int .i64 qB) ∧ w'.cell? ⟨l, 6, none⟩ = some (.int .i64 sB) ∧ w'.cell? ⟨l, 7, none⟩ = some (.slice lB Y.length wB) ∧ w'.cell? ⟨l, 8, none⟩ = some (.slice mB Z.length xB) ∧ w'.cell? ⟨l, 9, none⟩ = some (.slice oB aB.length yB) ∧ w'.cell? ⟨l, 10, none⟩ = some (.int .i64 I) ∧ w'.cell? ⟨l, 11, none⟩ = some (.slice O y.length T) ∧ w'.cell? ⟨l, 12, none⟩ = some (.slice U B.length X) ∧ w'.cell? ⟨l, 13, none⟩ = some (.bool fB)) (ds := []) (tf 0 17) (by kernel_rfl) rfl rfl ⟨bc c 0, bc c 1, bc c 2, bc c 3, bc c 4, bc c 5, bc c 6, bc c 7, bc c 8, bc c 9, bc c 10, bc c 11, bc c 12, bc c 13⟩ (fun m => ?_); refine Bz Bh.PE Bh.NQ (fun bB aD => ?_)
 generalize w6.drew = w7 at s c j HB m ⊢
 refine pv 0 6 (tf 1 16) bB ?_
 refine pv 2 8 #[true, false, true, false, false, false, false, false, false, false, false, false, false, false, false, false, false] bB ?_
 refine pv 5 11 #[true, false, true, false, false, true, false, false, false, false, false, false, false, false, false, false, false] bB ?_
 refine pv 7 13 #[true, false, true, false, false, true, false, true, false, false, false, false, false, false, false, false, false] bB ?_
 refine pv 9 15 #[true, false, true, false, false, true, false, true, false, true, false, false, false, false, false, false, false] bB ?_
 refine pv 11 17 #[true, false, true, false, false, true, false, true, false, true, false, true, false, false, false, false, false] bB ?_
 refine Bl (i := 1) (N := some 7) (v := ?_) (a' := ?_) #[true, true, true, false, false, true, false, true, false, true, false, true, false, false, false, false, false] rfl rfl (Aj bB.out aD.out (by kernel_rfl)) (fun _ _ _ h => h) (Or.inl ⟨by rfl, ?_⟩) m ?_ ?_
 rotate_left
 ·rintro w' ⟨s0, s1, s2, s3, s4, s5, s6, s7, s8, s9, dE, eE, fE, gE⟩
  go_simp
  with_reducible rfl
 rotate_left
 ·simp only [ps]
  rfl
 refine Bl (i := 3) (N := some 9) (v := ?_) (a' := ?_) #[true, true, true, true, false, true, false, true, false, true, false, true, false, false, false, false, false] rfl rfl (Aj bB.out aD.out (by kernel_rfl)) (fun _ _ _ h => h) (Or.inl ⟨by rfl, ?_⟩) m ?_ ?_
 rotate_left
 ·rintro w' ⟨s0, s1, s2, s3, s4, s5, s6, s7, s8, s9, dE, eE, fE, gE⟩
  go_simp
  with_reducible rfl
 rotate_left
 ·simp only [ps]
  rfl
 refine Bl (i := 6) (N := some 12) (v := ?_) (a' := ?_) #[true, true, true, true, false, true, true, true, false, true, false, true, false, false, false, false, false] rfl rfl (Aj bB.out aD.out (by kernel_rfl)) (fun _ _ _ h => h) (Or.inl ⟨by rfl, ?_⟩) m ?_ ?_
 rotate_left
 ·rintro w' ⟨s0, s1, s2, s3, s4, s5, s6, s7, s8, s9, dE, eE, fE, gE⟩
  go_simp
  with_reducible rfl
 rotate_left
 ·simp only [ps]
  rfl
 refine Bl (i := 8) (N := some 14) (v := ?_) (a' := ?_) #[true, true, true, true, false, true, true, true, true, true, false, true, false, false, false, false, false] rfl rfl (Aj bB.out aD.out (by kernel_rfl)) (fun _ _ _ h => h) (Or.inl ⟨by rfl, ?_⟩) m ?_ ?_
 rotate_left
 ·rintro w' ⟨s0, s1, s2, s3, s4, s5, s6, s7, s8, s9, dE, eE, fE, gE⟩
  go_simp
  with_reducible rfl
 rotate_left
 ·simp only [ps]
  rfl
 refine Bl (i := 10) (N := some 16) (v := ?_) (a' := ?_) #[true, true, true, true, false, true, true, true, true, true, true, true, false, false, false, false, false] rfl rfl (Aj bB.out aD.out (by kernel_rfl)) (fun _ _ _ h => h) (Or.inl ⟨by rfl, ?_⟩) m ?_ ?_
 rotate_left
 ·rintro w' ⟨s0, s1, s2, s3, s4, s5, s6, s7, s8, s9, dE, eE, fE, gE⟩
  go_simp
  with_reducible rfl
 rotate_left
 ·simp only [ps]
  rfl
 refine DN (i := 4) (N := some 10) (tf 12 5) rfl rfl (Bv bB.out (by kernel_rfl)) (by decide) (fun K hK => ?_)
 refine Cx Try.func26 (by kernel_rfl) rfl #[.agg #[.int .i64 qB, .int .i64 sB, .slice lB Y.length wB, .slice mB Z.length xB, .slice oB aB.length yB]] (by rfl) rfl rfl (by (try simp only [List.map_toArray, List.map_cons, List.map_nil]); first | done | rfl | (simp only [List.length_drop, List.length_take]; rfl)) ?_
 with_reducible refine (Cv.calls ?side1 ?side2 ?side3 ?side4 ?side5 ?side6 A3.out).mono ?_
 (case side1 => exact cu xE HB)
 (case side2 => exact sE.out)
 (case side3 => exact cu yE HB)
 (case side4 => exact tE.out)
 (case side5 => exact cu zE HB)
 (case side6 => exact uE.out)
 rintro e w8 ⟨v420, v423, v426, rfl, iC, qC, zB, hb⟩
 refine ⟨_, rfl, ?_⟩
 have kC := mk0 (Kd.AL (Kd.Cs (Kd.Cs (Kd.Cs (Kd.Er (Bj s.out) hb) (Kd.BG iC)) (by first | exact Kd.BG qC | exact Kd.Bp qC)) (by first | exact Kd.BG zB | exact Kd.Bp zB)) (fun _ h_ => h_.1))
 have lC := mk0 (Kd.CS (Kd.Dn (M := fun r => (w.heap.size ≤ r)) iC (AQ (be2 HB u x)) (fun r h_ => h_)) (AQ (be2 HB u x)))
 have mC := mk0 (Kd.DF (Kd.Av (ok' := fun r => (z r ∨ w.heap.size ≤ r) ∧ some r ≠ (v420 : Value).ownBlock ∧ some r ≠ (v426 : Value).ownBlock ∧ r ≠ l ∧ r ≠ b) (Kd.R_N (Kd.D6 (Kd.Ca qC (Kd.Ee zB) (by decide)))) (fun r D => ⟨(.inr (Nat.le_trans (AQ (be2 HB u x)) D.2.1)), D.1.1, D.1.2, (Kd.Al (g := l) (o := .cells #[.int .i64 dB, .int .i64 eB, .string gB, .slice jB J.length tB, .slice kB L.length uB, .int .i64 qB, .int .i64 sB, .slice lB Y.length wB, .slice mB Z.length xB, .slice oB aB.length yB, .int .i64 I, .slice O y.length T, .slice U B.length X, .bool fB] 40 (0, 0)) (AY c.out) r D.2.1), (Kd.Al (g := b) (o := .cells #[.int .i64 0, .int .i64 0, .slice none 0 0, .slice none 0 0, .slice none 0 0] 33 (0, 0)) (AY j.out) r D.2.1)⟩)) (AQ (be2 HB u x)))
 have nC := mk0 (Kd.DF (Kd.Av (ok' := fun r => (z r ∨ w.heap.size ≤ r) ∧ some r ≠ (v420 : Value).ownBlock ∧ some r ≠ (v423 : Value).ownBlock ∧ r ≠ l ∧ r ≠ b) (Kd.R_N (Kd.D6 zB)) (fun r D => ⟨(.inr (Nat.le_trans (AQ (be2 HB u x)) D.2.1)), D.1.1, D.1.2, (Kd.Al (g := l) (o := .cells #[.int .i64 dB, .int .i64 eB, .string gB, .slice jB J.length tB, .slice kB L.length uB, .int .i64 qB, .int .i64 sB, .slice lB Y.length wB, .slice mB Z.length xB, .slice oB aB.length yB, .int .i64 I, .slice O y.length T, .slice U B.length X, .bool fB] 40 (0, 0)) (AY c.out) r D.2.1), (Kd.Al (g := b) (o := .cells #[.int .i64 0, .int .i64 0, .slice none 0 0, .slice none 0 0, .slice none 0 0] 33 (0, 0)) (AY j.out) r D.2.1)⟩)) (AQ (be2 HB u x)))
 have pD := kb c hb
 have qD := kb j hb
 have rD := kh2 HB u x hb
 clear s; clear c; clear j; clear HB; have s := kC; have W := lC; have dC := mC; have eC := nC; have c := pD; have j := qD; have HB := rD; clear kC lC mC nC pD qD rD
 try clear hb
 try clear hk
 try clear iC
 try clear qC
 try clear zB
 obtain ⟨tC, uC, oF⟩ := Kd.Bn W.out
 (first | subst oF | (injection oF with f1_ f2_ f3_; have fC := f1_.symm; have gC := f3_.symm; clear f1_ f2_ f3_; subst fC; subst gC))
 obtain ⟨vC, bD, jE⟩ := Kd.Ce dC.out
 (first | subst jE | (injection jE with f1_ f2_ f3_; have fC := f1_.symm; have gC := f3_.symm; clear f1_ f2_ f3_; subst fC; subst gC))
 obtain ⟨wC, cD, kE⟩ := Kd.Ce eC.out
 (first | subst kE | (injection kE with f1_ f2_ f3_; have fC := f1_.symm; have gC := f3_.symm; clear f1_ f2_ f3_; subst fC; subst gC))
 refine hK.out _ _ ⟨bc c 0, bc c 1, bc c 2, bc c 3, bc c 4, bc c 5, bc c 6, bc c 7, bc c 8, bc c 9, bc c 10, bc c 11, bc c 12, bc c 13⟩ (fun m => ?_)
 clear hK K
 refine CJ (a' := ?_) ?_ ?_
 rotate_left
 ·show Act.put _ (some 10) _ = _
  simp only [ps]
  rfl
 refine DN (i := 12) (N := some 18) (tf 13 4) rfl rfl (Bv bB.out (by kernel_rfl)) (by decide) (fun K hK => ?_)
 refine Cx Try.func38 (by kernel_rfl) rfl #[.agg #[.int .i64 dB, .int .i64 eB, .string gB, .slice jB J.length tB, .slice kB L.length uB], .agg #[.int .i64 sD, .int .i64 tD, .slice tC bC.length uC, .slice vC oC.length bD, .slice wC pC.length cD], .int .i64 I, .slice O y.length T, .slice U B.length X, .bool a1] (by rfl) rfl rfl (by (try simp only [List.map_toArray, List.map_cons, List.map_nil]); first | done | rfl | (simp only [List.length_drop, List.length_take]; rfl)) ?_
 with_reducible refine (AJ.calls k dB eB gB _ _ J _ _ L sD tD _ _ bC (fun r => ((z r ∨ w.heap.size ≤ r) ∧ (some r ≠ (.slice tC bC.length uC : Value).ownBlock ∧ (some r ≠ (.slice wC pC.length cD : Value).ownBlock ∧ (r ≠ l ∧ r ≠ b))))) _ _ oC (fun r => ((z r ∨ w.heap.size ≤ r) ∧ (some r ≠ (.slice tC bC.length uC : Value).ownBlock ∧ (some r ≠ (.slice vC oC.length bD : Value).ownBlock ∧ (r ≠ l ∧ r ≠ b))))) _ _ pC I (fun r => ((((((z r ∨ w.heap.size ≤ r) ∧ r ≠ l) ∧ r ≠ b) ∧ some r ≠ (.slice tC bC.length uC : Value).ownBlock) ∧ some r ≠ (.slice vC oC.length bD : Value).ownBlock) ∧ some r ≠ (.slice wC pC.length cD : Value).ownBlock)) _ _ y _ _ B a1 uD vD wD xD yD pE _ ?side12 ?side1 ?side2 ?side3 ?side4 ?side5 ?side6 ?side7 ?side8 ?side9 ?side10 ?side11 A4.out).mono ?_
 (case side1 => exact cu vE HB)
 (case side2 => exact qE.out)
 (case side3 => exact cu wE HB)
 (case side4 => exact rE.out)
 (case side5 => repeat (first | exact (Kd.C9 W.out).2.2 | (with_reducible refine Kd.Ch ?_ _) | (with_reducible refine Kd.Ci ?_ _) | (with_reducible refine Kd.Cy ?_)))
 (case side6 => exact (Kd.C9 W.out).2.1)
 (case side7 => exact Kd.N_V (dC.out))
 (case side8 => exact Kd.N_V (eC.out))
 (case side9 => exact s.out)
 (case side10 => exact cu bE HB)
 (case side11 => exact aE.out)
 (case side12 => exact AZ HG.out (be2 HB u x))
 rintro e zD ⟨v431, v434, v437, rfl, iC, qC, zB, hb⟩
 refine ⟨_, rfl, ?_⟩
 have kC := mk0 (Kd.AL (Kd.Cs (Kd.Cs (Kd.Er (Bj s.out) hb) (Kd.BG iC)) (by first | exact Kd.BG zB | exact Kd.Bp zB)) (fun _ h_ => h_.1))
 have lC := mk0 (Kd.Fy (DC W.out) (Kd.BG iC) hb)
 have mC := mk0 (Kd.Av (Kd.Ec (Kd.Ec (Kd.Iy (D9 dC.out) hb) (Kd.BG iC)) (by first | exact Kd.BG zB | exact Kd.Bp zB)) (fun _ h_ => h_.1))
 have nC := mk0 (Kd.Av (Kd.Ec (Kd.Ec (Kd.Iy (D9 eC.out) hb) (Kd.BG iC)) (by first | exact Kd.BG zB | exact Kd.Bp zB)) (fun _ h_ => h_.1))
 have pD := mk0 (Kd.CS (Kd.Ff (Kd.Dn (M := fun r => (w.heap.size ≤ r)) (Kd.BC (ok' := fun r => True) iC (fun _ D => trivial)) (AQ (be2 HB u x)) (fun r h_ => h_)) (Kd.En (DC W.out))) (AQ (be2 HB u x)))
 have qD := mk0 (Kd.Dm (Kd.AL (ok' := fun r => (z r ∨ w.heap.size ≤ r) ∧ some r ≠ (v431 : Value).ownBlock ∧ some r ≠ (v437 : Value).ownBlock ∧ some r ≠ (.slice tC bC.length uC : Value).ownBlock ∧ r ≠ l ∧ r ≠ b) qC (fun r D => ⟨Or.elim D.1 (fun d => Or.elim d (fun d => d.1) (fun d => Or.elim d (fun d => d.1) (fun d => d.1.1.1.1.1))) (fun hB => (.inr (Nat.le_trans (AQ (be2 HB u x)) hB))), D.2.1, D.2.2, Or.elim D.1 (fun d => Or.elim d (fun d => d.2.1) (fun d => Or.elim d (fun d => d.2.1) (fun d => d.1.1.2))) (fun hB => (Kd.fresh' (Kd.En (DC W.out)) r hB)), Or.elim D.1 (fun d => Or.elim d (fun d => d.2.2.2.1) (fun d => Or.elim d (fun d => d.2.2.2.1) (fun d => d.1.1.1.1.2))) (fun hB => (Kd.Al (g := l) (o := .cells #[.int .i64 dB, .int .i64 eB, .string gB, .slice jB J.length tB, .slice kB L.length uB, .int .i64 qB, .int .i64 sB, .slice lB Y.length wB, .slice mB Z.length xB, .slice oB aB.length yB, .int .i64 I, .slice O y.length T, .slice U B.length X, .bool fB] 40 (0, 0)) (AY c.out) r hB)), Or.elim D.1 (fun d => Or.elim d (fun d => d.2.2.2.2) (fun d => Or.elim d (fun d => d.2.2.2.2) (fun d => d.1.1.1.2))) (fun hB => (Kd.Al (g := b) (o := .cells #[.int .i64 0, .int .i64 0, .slice none 0 0, .slice none 0 0, .slice none 0 0] 33 (0, 0)) (AY j.out) r hB))⟩)) (AQ (be2 HB u x)))
 have rD := mk0 (Kd.DF (Kd.Av (ok' := fun r => (z r ∨ w.heap.size ≤ r) ∧ some r ≠ (v431 : Value).ownBlock ∧ some r ≠ (.slice tC bC.length uC : Value).ownBlock ∧ r ≠ l ∧ r ≠ b) zB (fun r D => ⟨Or.elim D.1 (fun d => Or.elim d (fun d => d.1) (fun d => Or.elim d (fun d => d.1) (fun d => d.1.1.1.1.1))) (fun hB => (.inr (Nat.le_trans (AQ (be2 HB u x)) hB))), D.2, Or.elim D.1 (fun d => Or.elim d (fun d => d.2.1) (fun d => Or.elim d (fun d => d.2.1) (fun d => d.1.1.2))) (fun hB => (Kd.fresh' (Kd.En (DC W.out)) r hB)), Or.elim D.1 (fun d => Or.elim d (fun d => d.2.2.2.1) (fun d => Or.elim d (fun d => d.2.2.2.1) (fun d => d.1.1.1.1.2))) (fun hB => (Kd.Al (g := l) (o := .cells #[.int .i64 dB, .int .i64 eB, .string gB, .slice jB J.length tB, .slice kB L.length uB, .int .i64 qB, .int .i64 sB, .slice lB Y.length wB, .slice mB Z.length xB, .slice oB aB.length yB, .int .i64 I, .slice O y.length T, .slice U B.length X, .bool fB] 40 (0, 0)) (AY c.out) r hB)), Or.elim D.1 (fun d => Or.elim d (fun d => d.2.2.2.2) (fun d => Or.elim d (fun d => d.2.2.2.2) (fun d => d.1.1.1.2))) (fun hB => (Kd.Al (g := b) (o := .cells #[.int .i64 0, .int .i64 0, .slice none 0 0, .slice none 0 0, .slice none 0 0] 33 (0, 0)) (AY j.out) r hB))⟩)) (AQ (be2 HB u x)))
 have aG := kb c hb
 have bG := kb j hb
 have cG := kh2 HB u x hb
 clear s; clear W; clear dC; clear eC; clear c; clear j; clear HB; have s := kC; have W := lC; have dC := mC; have eC := nC; have xC := pD; have yC := qD; have zC := rD; have c := aG; have j := bG; have HB := cG; clear kC lC mC nC pD qD rD aG bG cG
 try clear hb
 try clear hk
 try clear iC
 try clear qC
 try clear zB
 obtain ⟨eF, jF, lE⟩ := Kd.Bn xC.out
 (first | subst lE | (injection lE with f1_ f2_ f3_; have fC := f1_.symm; have gC := f3_.symm; clear f1_ f2_ f3_; subst fC; subst gC))
 obtain ⟨fF, lF, mE⟩ := Kd.Bu yC.out
 (first | subst mE | (injection mE with f1_ f2_ f3_; have fC := f1_.symm; have gC := f3_.symm; clear f1_ f2_ f3_; subst fC; subst gC))
 obtain ⟨gF, mF, nE⟩ := Kd.Ce zC.out
 (first | subst nE | (injection nE with f1_ f2_ f3_; have fC := f1_.symm; have gC := f3_.symm; clear f1_ f2_ f3_; subst fC; subst gC))
 refine hK.out _ _ ⟨bc c 0, bc c 1, bc c 2, bc c 3, bc c 4, bc c 5, bc c 6, bc c 7, bc c 8, bc c 9, bc c 10, bc c 11, bc c 12, bc c 13⟩ (fun m => ?_)
 clear hK K
 refine CJ (a' := ?_) ?_ ?_
 rotate_left
 ·show Act.put _ (some 18) _ = _
  simp only [ps]
  rfl
 refine pv 13 19 (tf 14 3) bB ?_
 refine pv 14 20 (tf 15 2) bB ?_
 refine DN (i := 15) (N := none) (tf 16 1) rfl rfl (Bv bB.out (by kernel_rfl)) (by decide) (fun K hK => ?_)
 have bH : zD.cell? ⟨b, 0, none⟩ = some (.int .i64 0) := bc j 0
 have vG := AB j.out 0
 have uF := a.out; have pF := G.out
 have cH : zD.cell? ⟨b, 1, none⟩ = some (.int .i64 0) := bc j 1
 have wG := AB j.out 1
 have wF := a.out; have qF := G.out
 have dH : zD.cell? ⟨b, 2, none⟩ = some (.slice none 0 0) := bc j 2
 have xG := AB j.out 2
 have xF := a.out; have rF := G.out
 have eH : zD.cell? ⟨b, 3, none⟩ = some (.slice none 0 0) := bc j 3
 have yG := AB j.out 3
 have yF := a.out; have sF := G.out
 have fH : zD.cell? ⟨b, 4, none⟩ = some (.slice none 0 0) := bc j 4
 have zG := AB j.out 4
 have zF := a.out; have tF := G.out
 refine Fu (w1 := ?_) (by rfl) rfl ?_ ?_
 rotate_left
 ·go_simp
  rfl
 refine hK.out _ _ ⟨((cell_far (p := ⟨b, _, none⟩) a.out _).trans (((cell_far (p := ⟨b, _, none⟩) a.out _).trans (((cell_far (p := ⟨b, _, none⟩) a.out _).trans (((cell_far (p := ⟨b, _, none⟩) a.out _).trans (((cell_far (p := ⟨b, _, none⟩) a.out _).trans (m.1)))))))))), ((cell_far (p := ⟨b, _, none⟩) a.out _).trans (((cell_far (p := ⟨b, _, none⟩) a.out _).trans (((cell_far (p := ⟨b, _, none⟩) a.out _).trans (((cell_far (p := ⟨b, _, none⟩) a.out _).trans (((cell_far (p := ⟨b, _, none⟩) a.out _).trans (m.2.1)))))))))), ((cell_far (p := ⟨b, _, none⟩) a.out _).trans (((cell_far (p := ⟨b, _, none⟩) a.out _).trans (((cell_far (p := ⟨b, _, none⟩) a.out _).trans (((cell_far (p := ⟨b, _, none⟩) a.out _).trans (((cell_far (p := ⟨b, _, none⟩) a.out _).trans (m.2.2.1)))))))))), ((cell_far (p := ⟨b, _, none⟩) a.out _).trans (((cell_far (p := ⟨b, _, none⟩) a.out _).trans (((cell_far (p := ⟨b, _, none⟩) a.out _).trans (((cell_far (p := ⟨b, _, none⟩) a.out _).trans (((cell_far (p := ⟨b, _, none⟩) a.out _).trans (m.2.2.2.1)))))))))), ((cell_far (p := ⟨b, _, none⟩) a.out _).trans (((cell_far (p := ⟨b, _, none⟩) a.out _).trans (((cell_far (p := ⟨b, _, none⟩) a.out _).trans (((cell_far (p := ⟨b, _, none⟩) a.out _).trans (((cell_far (p := ⟨b, _, none⟩) a.out _).trans (m.2.2.2.2.1)))))))))), ((cell_far (p := ⟨b, _, none⟩) a.out _).trans (((cell_far (p := ⟨b, _, none⟩) a.out _).trans (((cell_far (p := ⟨b, _, none⟩) a.out _).trans (((cell_far (p := ⟨b, _, none⟩) a.out _).trans (((cell_far (p := ⟨b, _, none⟩) a.out _).trans (m.2.2.2.2.2.1)))))))))), ((cell_far (p := ⟨b, _, none⟩) a.out _).trans (((cell_far (p := ⟨b, _, none⟩) a.out _).trans (((cell_far (p := ⟨b, _, none⟩) a.out _).trans (((cell_far (p := ⟨b, _, none⟩) a.out _).trans (((cell_far (p := ⟨b, _, none⟩) a.out _).trans (m.2.2.2.2.2.2.1)))))))))), ((cell_far (p := ⟨b, _, none⟩) a.out _).trans (((cell_far (p := ⟨b, _, none⟩) a.out _).trans (((cell_far (p := ⟨b, _, none⟩) a.out _).trans (((cell_far (p := ⟨b, _, none⟩) a.out _).trans (((cell_far (p := ⟨b, _, none⟩) a.out _).trans (m.2.2.2.2.2.2.2.1)))))))))), ((cell_far (p := ⟨b, _, none⟩) a.out _).trans (((cell_far (p := ⟨b, _, none⟩) a.out _).trans (((cell_far (p := ⟨b, _, none⟩) a.out _).trans (((cell_far (p := ⟨b, _, none⟩) a.out _).trans (((cell_far (p := ⟨b, _, none⟩) a.out _).trans (m.2.2.2.2.2.2.2.2.1)))))))))), ((cell_far (p := ⟨b, _, none⟩) a.out _).trans (((cell_far (p := ⟨b, _, none⟩) a.out _).trans (((cell_far (p := ⟨b, _, none⟩) a.out _).trans (((cell_far (p := ⟨b, _, none⟩) a.out _).trans (((cell_far (p := ⟨b, _, none⟩) a.out _).trans (m.2.2.2.2.2.2.2.2.2.1)))))))))), ((cell_far (p := ⟨b, _, none⟩) a.out _).trans (((cell_far (p := ⟨b, _, none⟩) a.out _).trans (((cell_far (p := ⟨b, _, none⟩) a.out _).trans (((cell_far (p := ⟨b, _, none⟩) a.out _).trans (((cell_far (p := ⟨b, _, none⟩) a.out _).trans (m.2.2.2.2.2.2.2.2.2.2.1)))))))))), ((cell_far (p := ⟨b, _, none⟩) a.out _).trans (((cell_far (p := ⟨b, _, none⟩) a.out _).trans (((cell_far (p := ⟨b, _, none⟩) a.out _).trans (((cell_far (p := ⟨b, _, none⟩) a.out _).trans (((cell_far (p := ⟨b, _, none⟩) a.out _).trans (m.2.2.2.2.2.2.2.2.2.2.2.1)))))))))), ((cell_far (p := ⟨b, _, none⟩) a.out _).trans (((cell_far (p := ⟨b, _, none⟩) a.out _).trans (((cell_far (p := ⟨b, _, none⟩) a.out _).trans (((cell_far (p := ⟨b, _, none⟩) a.out _).trans (((cell_far (p := ⟨b, _, none⟩) a.out _).trans (m.2.2.2.2.2.2.2.2.2.2.2.2.1)))))))))), ((cell_far (p := ⟨b, _, none⟩) a.out _).trans (((cell_far (p := ⟨b, _, none⟩) a.out _).trans (((cell_far (p := ⟨b, _, none⟩) a.out _).trans (((cell_far (p := ⟨b, _, none⟩) a.out _).trans (((cell_far (p := ⟨b, _, none⟩) a.out _).trans (m.2.2.2.2.2.2.2.2.2.2.2.2.2))))))))))⟩ (fun m => ?_)
 clear hK K
 refine pv 16 5 (tf 17 0) bB ?_
 refine Dv (Cu bB.out (by kernel_rfl)) ?_
 try go_wp2
 refine bodyPost_ret (EB rfl _ _ b 33 #[.int .i64 uD, .int .i64 vD, .slice eF wD.length jF, .slice fF xD.length lF, .slice gF yD.length mF] (0, 0) _ rfl (pB j) Try.underlying33 rfl (by kernel_rfl)) rfl ?_
 exact ⟨_, _, _, rfl, by exact DZ (Kd.BC (rI (q := b) (Kd.Ao xC.out j.out (by decide)) (fun _ hk => hk.2)) (fun _ hk => hk.1.1.1)), by exact BO (Kd.AL (vI (q := b) (Kd.AL yC.out (fun r hk => (⟨hk, hk.2.2.2.2.2⟩ : _ ∧ r ≠ b))) (fun _ hk => hk.2)) (fun _ hk => ⟨hk.1.1, ⟨hk.1.2.1, hk.1.2.2.1⟩⟩)), by exact DL (Kd.Av (nI (q := b) (Kd.Av zC.out (fun r hk => (⟨hk, hk.2.2.2.2⟩ : _ ∧ r ≠ b))) (fun _ hk => hk.2)) (fun _ hk => ⟨hk.1.1, hk.1.2.1⟩)), be2 HB u x⟩
end Go.Proofs.Ytojankgmedccdaa.PGn
