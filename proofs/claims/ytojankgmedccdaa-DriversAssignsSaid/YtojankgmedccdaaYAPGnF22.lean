/- Lemmas. -/
import Derived.Test.YtojankgmedccdaaYAPGnF26
import Derived.Test.YtojankgmedccdaaYAPGnF38
namespace Go.Proofs.Ytojankgmedccdaa.PGn
open Go.RowKit Own PTy Hand PIs PAw Wo
attribute [local go_sem] BK BL Ba Bc BD BF BM BN
set_option linter.unusedVariables false
set_option linter.unusedSimpArgs false
def Bg.f (k : Nat) (g : Int) (h : Int) (i : ByteArray) (m : List ByteArray) (n : List (S26)) (j : Int) (l : Int) (o : List Int) (p : List (S30)) (q : List (S63)) (c : Int) (d : List (S30)) (e : List Int) (r : Bool) (s : Bool) : Option (Int × Int × List Int × (List (S30)) × (List (S63)) × Int) := (Cz.f k j l o p q).bind fun b => ((AL.f k g h i m n b.1 b.2.1 b.2.2.1 b.2.2.2.1 b.2.2.2.2 c d e s).bind fun a => (some (a.1, a.2.1, a.2.2.1, a.2.2.2.1, a.2.2.2.2.1, a.2.2.2.2.2)))
def Bg.T1 : Bool × List (List Nat × List Nat) := (true, [([], []), ([0], [0]), ([], []), ([2], [2]), ([3], [3]), ([], []), ([5], [5]), ([], []), ([7], [7]), ([], []), ([9], [9]), ([], []), ([1, 4, 6, 8, 10, 11, 4], [1, 4, 6, 8, 10, 11]), ([12], [12]), ([12], [12]), ([13, 12, 0, 1, 2, 3, 4, 5, 6, 7, 8, 9, 10, 11, 12, 13, 14], [13]), ([14, 15, 0, 1, 2, 3, 4, 5, 6, 7, 8, 9, 10, 11, 12, 13, 14, 15], [14])])
def Bg.B1 : List Nat := [0, 1, 0, 4, 12, 0, 32, 0, 128, 0, 512, 0, 4095, 8191, 8191, 32767, 65535]
theorem Bg.Pm : Cv .any (opsOf Try.f22 1) = Bg.T1 := by kernel_rfl
theorem Bg.OA : CS Bg.T1.2 Bg.B1 = true := by kernel_rfl
set_option maxHeartbeats 8000000 in
set_option maxRecDepth 100000 in
theorem Bg.calls {k : Nat} {dB eB : Int} {fB : ByteArray} {mB : Option Addr} {yB : Nat} {J : List ByteArray} {qB : Option Addr} {zB : Nat} {L : List (S26)} {wB xB : Int} {sB : Option Addr} {aC : Nat} {Y : List Int} {tB : Option Addr} {bC : Nat} {Z : List (S30)} {uB : Option Addr} {cC : Nat} {aB : List (S63)} {I : Int} (y : Nat → Prop) {T : Option Addr} {W : Nat} {z : List (S30)} {bB : Option Addr} {cB : Nat} {D : List Int} {hB a1 : Bool} {r1 r2 : Int} {r3 : List Int} {r4 : List (S30)} {r5 : List (S63)} {r6 : Int} {w : World} (hG : EN w) (dD : Kd.C Kd.string w mB J.length J) (yC : J.length ≤ yB) (eD : Kd.C k26 w qB L.length L) (zC : L.length ≤ zB) (fD : Kd.C (Kd.int .u8) w sB Y.length Y) (aD : Y.length ≤ aC) (gD : Kd.C k30 w tB Z.length Z) (bD : Z.length ≤ bC) (hD : Kd.C k63 w uB aB.length aB) (cD : aB.length ≤ cC) (tD : Kd.V k30 30 w w.heap.size (fun r => y r) (.slice T z.length W) z) (mC : Kd.C (Kd.int .i64) w bB D.length D) (lC : D.length ≤ cB) (h : Bg.f k dB eB fB J L wB xB Y Z aB I z D hB a1 = some (r1, r2, r3, r4, r5, r6)) :
  Calls Try.prog 22 #[.agg #[.int .i64 dB, .int .i64 eB, .string fB, .slice mB J.length yB, .slice qB L.length zB, .int .i64 wB, .int .i64 xB, .slice sB Y.length aC, .slice tB Z.length bC, .slice uB aB.length cC, .int .i64 I, .slice T z.length W, .slice bB D.length cB, .bool hB], .bool a1] w fun e w' => ∃ yD qF nE : Value, e = .returned (.tuple #[.agg #[.int .i64 r1, .int .i64 r2, yD, qF, nE], .int .i64 r6]) ∧ Kd.R (Kd.int .u8) 73 w' w.heap.size (fun r => (w.heap.size ≤ r)) yD r3 ∧ Kd.V k30 30 w' w.heap.size (fun r => (y r ∨ w.heap.size ≤ r) ∧ nw yD r ∧ nw nE r) qF r4 ∧ Kd.N k63 63 w' w.heap.size (fun r => (y r ∨ w.heap.size ≤ r) ∧ nw yD r) nE r5 ∧ Below w.heap.size w w' := by
 have HG := mk0 hG; clear hG
 have xG := Try.underlying40
 have wG := Try.underlying33
 have vG := Try.underlying26
 have gE := mk0 dD; have bE := mk0 yC; clear dD yC; have hE := mk0 eD; have cE := mk0 zC; clear eD zC; have jE := mk0 fD; have dE := mk0 aD; clear fD aD; have kE := mk0 gD; have eE := mk0 bD; clear gD bD; have lE := mk0 hD; have fE := mk0 cD; clear hD cD
 have x := mk0 (show Kd.V k30 30 w w.heap.size (fun r => (y r ∨ w.heap.size ≤ r)) (.slice T z.length W) z from Kd.AV tD (fun r hk => .inl hk))
 have sD := mk0 mC; have rD := mk0 lC; clear mC lC
 have X := mk0 (Below.refl w.heap.size w)
 have H := h; unfold Bg.f at H
 clear h
 replace H := Option.bind_eq_some_iff.mp H
 obtain ⟨⟨jD, kD, kB, iC, jC⟩, oE, H⟩ := H
 replace H : ((AL.f k dB eB fB J L jD kD kB iC jC I z D a1).bind fun jB => (some (jB.1, jB.2.1, jB.2.2.1, jB.2.2.2.1, jB.2.2.2.2.1, jB.2.2.2.2.2))) = some (r1, r2, r3, r4, r5, r6) := H
 have A3 := mk0 oE; clear oE
 replace H := Option.bind_eq_some_iff.mp H
 obtain ⟨⟨lD, mD, nD, oD, pD, aE⟩, pE, H⟩ := H
 replace H : (some (lD, mD, nD, oD, pD, aE)) = some (r1, r2, r3, r4, r5, r6) := H
 have A4 := mk0 pE; clear pE
 simp only [Option.some.injEq, Prod.mk.injEq] at H
 obtain ⟨rfl, rfl, rfl, rfl, rfl, rfl⟩ := H
 go_enter Try.func22, Try.ntmps22
 try go_wp2_with (first | ((with_reducible refine AO rfl (N := 2) rfl (cs := #[.int .i64 dB, .int .i64 eB, .string fB, .slice mB J.length yB, .slice qB L.length zB, .int .i64 wB, .int .i64 xB, .slice sB Y.length aC, .slice tB Z.length bC, .slice uB aB.length cC, .int .i64 I, .slice T z.length W, .slice bB D.length cB, .bool hB]) (t := 40) ?hr ?_); (case hr => first | (go_simp; done) | (go_simp; rfl)); intro l hg w5 hC hb; replace x := vB x hg hb; have c := mk0 (hC); have s := bs (be X) hg; replace X := kh X hb; clear hb hC hg) | ((with_reducible refine AO rfl (N := 4) rfl (cs := #[.int .i64 0, .int .i64 0, .slice none 0 0, .slice none 0 0, .slice none 0 0]) (t := 33) ?hr ?_); (case hr => first | (go_simp; done) | (go_simp; rfl)); intro b hg w6 hC hb; replace x := vB x hg hb; have j := mk0 (hC); have u := bs (be1 X s) hg; replace X := kh1 X s hb; have ⟨a, G⟩ := nn c hg; replace c := kb c hb; clear hb hC hg))
 replace x := mk0 (Kd.Bh x.out); replace c := mk0 (AU c.out); replace j := mk0 (AU j.out); replace X := mk0 (Ac X.out)
 refine Ci (n := 17) (S := fun w' => w'.cell? ⟨l, 0, none⟩ = some (.int .i64 dB) ∧ w'.cell? ⟨l, 1, none⟩ = some (.int .i64 eB) ∧ w'.cell? ⟨l, 2, none⟩ = some (.string fB) ∧ w'.cell? ⟨l, 3, none⟩ = some (.slice mB J.length yB) ∧ w'.cell? ⟨l, 4, none⟩ = some (.slice qB L.length zB) ∧ w'.cell? ⟨l, 5, none⟩ = some (.int .i64 wB) ∧ w'.cell? ⟨l, 6, none⟩ = some (.int .i64 xB) ∧ w'.cell? ⟨l, 7, none⟩ = some (.slice sB Y.length aC) ∧ w'.cell? ⟨l, 8, none⟩ = some (.slice tB Z.length bC) ∧ w'.cell? ⟨l, 9, none⟩ = some (.slice uB aB.length cC) ∧ w'.cell? ⟨l, 10, none⟩ = some (.int .i64 I) ∧ w'.cell? ⟨l, 11, none⟩ = some (.slice T z.length W) ∧ w'.cell? ⟨l, 12, none⟩ = some (.slice bB D.length cB) ∧ w'.cell? ⟨l, 13, none⟩ = some (.bool hB)) (ds := []) (tf 0 17) (by kernel_rfl) rfl rfl ⟨bc c 0, bc c 1, bc c 2, bc c 3, bc c 4, bc c 5, bc c 6, bc c 7, bc c 8, bc c 9, bc c 10, bc c 11, bc c 12, bc c 13⟩ (fun m => ?_); refine Bo Bg.Pm Bg.OA (fun O uC => ?_)
 generalize w6.drew = w7 at x c j X m ⊢
 refine pv 0 6 (tf 1 16) O ?_
 refine pv 2 8 #[true, false, true, false, false, false, false, false, false, false, false, false, false, false, false, false, false] O ?_
 refine pv 5 11 #[true, false, true, false, false, true, false, false, false, false, false, false, false, false, false, false, false] O ?_
 refine pv 7 13 #[true, false, true, false, false, true, false, true, false, false, false, false, false, false, false, false, false] O ?_
 refine pv 9 15 #[true, false, true, false, false, true, false, true, false, true, false, false, false, false, false, false, false] O ?_
 refine pv 11 17 #[true, false, true, false, false, true, false, true, false, true, false, true, false, false, false, false, false] O ?_
 refine BR (i := 1) (N := some 7) (v := ?_) (a' := ?_) #[true, true, true, false, false, true, false, true, false, true, false, true, false, false, false, false, false] rfl rfl (Af O.out uC.out (by kernel_rfl)) (fun _ _ _ h => h) (Or.inl ⟨by rfl, ?_⟩) m ?_ ?_
 rotate_left
 ·rintro w' ⟨s0, s1, s2, s3, s4, s5, s6, s7, s8, s9, uD, vD, wD, xD⟩; go_simp; with_reducible rfl
 rotate_left
 ·simp only [ps]; rfl
 refine BR (i := 3) (N := some 9) (v := ?_) (a' := ?_) #[true, true, true, true, false, true, false, true, false, true, false, true, false, false, false, false, false] rfl rfl (Af O.out uC.out (by kernel_rfl)) (fun _ _ _ h => h) (Or.inl ⟨by rfl, ?_⟩) m ?_ ?_
 rotate_left
 ·rintro w' ⟨s0, s1, s2, s3, s4, s5, s6, s7, s8, s9, uD, vD, wD, xD⟩; go_simp; with_reducible rfl
 rotate_left
 ·simp only [ps]; rfl
 refine BR (i := 6) (N := some 12) (v := ?_) (a' := ?_) #[true, true, true, true, false, true, true, true, false, true, false, true, false, false, false, false, false] rfl rfl (Af O.out uC.out (by kernel_rfl)) (fun _ _ _ h => h) (Or.inl ⟨by rfl, ?_⟩) m ?_ ?_
 rotate_left
 ·rintro w' ⟨s0, s1, s2, s3, s4, s5, s6, s7, s8, s9, uD, vD, wD, xD⟩; go_simp; with_reducible rfl
 rotate_left
 ·simp only [ps]; rfl
 refine BR (i := 8) (N := some 14) (v := ?_) (a' := ?_) #[true, true, true, true, false, true, true, true, true, true, false, true, false, false, false, false, false] rfl rfl (Af O.out uC.out (by kernel_rfl)) (fun _ _ _ h => h) (Or.inl ⟨by rfl, ?_⟩) m ?_ ?_
 rotate_left
 ·rintro w' ⟨s0, s1, s2, s3, s4, s5, s6, s7, s8, s9, uD, vD, wD, xD⟩; go_simp; with_reducible rfl
 rotate_left
 ·simp only [ps]; rfl
 refine BR (i := 10) (N := some 16) (v := ?_) (a' := ?_) #[true, true, true, true, false, true, true, true, true, true, true, true, false, false, false, false, false] rfl rfl (Af O.out uC.out (by kernel_rfl)) (fun _ _ _ h => h) (Or.inl ⟨by rfl, ?_⟩) m ?_ ?_
 rotate_left
 ·rintro w' ⟨s0, s1, s2, s3, s4, s5, s6, s7, s8, s9, uD, vD, wD, xD⟩; go_simp; with_reducible rfl
 rotate_left
 ·simp only [ps]; rfl
 refine DZ (i := 4) (N := some 10) (tf 12 5) rfl rfl (Bp O.out (by kernel_rfl)) (by decide) (fun K hK => ?_)
 refine Cr Try.func26 (by kernel_rfl) rfl #[.agg #[.int .i64 wB, .int .i64 xB, .slice sB Y.length aC, .slice tB Z.length bC, .slice uB aB.length cC]] (by rfl) rfl rfl (by (try simp only [List.map_toArray, List.map_cons, List.map_nil]); first | done | rfl | (simp only [List.length_drop, List.length_take]; rfl)) ?_
 with_reducible refine (Cz.calls ?side1 ?side2 ?side3 ?side4 ?side5 ?side6 A3.out).mono ?_
 (case side1 => exact cu jE X)
 (case side2 => exact dE.out)
 (case side3 => exact cu kE X)
 (case side4 => exact eE.out)
 (case side5 => exact cu lE X)
 (case side6 => exact fE.out)
 rintro e w8 ⟨v420, v423, v426, rfl, eC, kC, gB, hb⟩
 refine ⟨_, rfl, ?_⟩
 replace x := mk0 (Kd.AV (Kd.GU (Kd.GU (Kd.GU (Kd.NI (CF x.out) hb) (Kd.BZ eC)) (by first | exact Kd.BZ kC | exact Kd.Cy kC)) (by first | exact Kd.BZ gB | exact Kd.Cy gB)) (fun _ h_ => h_.1)); have U := mk0 (Kd.CL (Kd.Ew (M := fun r => (w.heap.size ≤ r)) eC (AY (be2 X s u)) (fun r h_ => h_)) (AY (be2 X s u))); have fC := mk0 (Kd.EW (Kd.CO (ok' := fun r => (y r ∨ w.heap.size ≤ r) ∧ nw v420 r ∧ nw v426 r ∧ r ≠ l ∧ r ≠ b) (Kd.R_N (Kd.Dt (Kd.DI kC (Kd.DU gB) (by decide)))) (fun r B => ⟨(.inr (Nat.le_trans (AY (be2 X s u)) B.2.1)), B.1.1, B.1.2, (Kd.CZ (g := l) (o := .cells #[.int .i64 dB, .int .i64 eB, .string fB, .slice mB J.length yB, .slice qB L.length zB, .int .i64 wB, .int .i64 xB, .slice sB Y.length aC, .slice tB Z.length bC, .slice uB aB.length cC, .int .i64 I, .slice T z.length W, .slice bB D.length cB, .bool hB] 40 (0, 0)) (Ay c.out) r B.2.1), (Kd.CZ (g := b) (o := .cells #[.int .i64 0, .int .i64 0, .slice none 0 0, .slice none 0 0, .slice none 0 0] 33 (0, 0)) (Ay j.out) r B.2.1)⟩)) (AY (be2 X s u))); have gC := mk0 (Kd.EW (Kd.CO (ok' := fun r => (y r ∨ w.heap.size ≤ r) ∧ nw v420 r ∧ nw v423 r ∧ r ≠ l ∧ r ≠ b) (Kd.R_N (Kd.Dt gB)) (fun r B => ⟨(.inr (Nat.le_trans (AY (be2 X s u)) B.2.1)), B.1.1, B.1.2, (Kd.CZ (g := l) (o := .cells #[.int .i64 dB, .int .i64 eB, .string fB, .slice mB J.length yB, .slice qB L.length zB, .int .i64 wB, .int .i64 xB, .slice sB Y.length aC, .slice tB Z.length bC, .slice uB aB.length cC, .int .i64 I, .slice T z.length W, .slice bB D.length cB, .bool hB] 40 (0, 0)) (Ay c.out) r B.2.1), (Kd.CZ (g := b) (o := .cells #[.int .i64 0, .int .i64 0, .slice none 0 0, .slice none 0 0, .slice none 0 0] 33 (0, 0)) (Ay j.out) r B.2.1)⟩)) (AY (be2 X s u))); obtain ⟨c, j⟩ := tb2 hb c j; replace X := kh2 X s u hb
 try clear hb
 try clear hk
 try clear eC
 try clear kC
 try clear gB
 obtain ⟨nC, oC, jG⟩ := Kd.Be U.out
 subst jG
 obtain ⟨pC, vC, xE⟩ := Kd.Dl fC.out
 subst xE
 obtain ⟨qC, wC, yE⟩ := Kd.Dl gC.out
 subst yE
 refine hK.out _ _ ⟨bc c 0, bc c 1, bc c 2, bc c 3, bc c 4, bc c 5, bc c 6, bc c 7, bc c 8, bc c 9, bc c 10, bc c 11, bc c 12, bc c 13⟩ (fun m => ?_)
 clear hK K
 refine nz 10 ?_
 refine DZ (i := 12) (N := some 18) (tf 13 4) rfl rfl (Bp O.out (by kernel_rfl)) (by decide) (fun K hK => ?_)
 refine Cr Try.func38 (by kernel_rfl) rfl #[.agg #[.int .i64 dB, .int .i64 eB, .string fB, .slice mB J.length yB, .slice qB L.length zB], .agg #[.int .i64 jD, .int .i64 kD, .slice nC kB.length oC, .slice pC iC.length vC, .slice qC jC.length wC], .int .i64 I, .slice T z.length W, .slice bB D.length cB, .bool a1] (by rfl) rfl rfl (by (try simp only [List.map_toArray, List.map_cons, List.map_nil]); first | done | rfl | (simp only [List.length_drop, List.length_take]; rfl)) ?_
 with_reducible refine (AL.calls k dB eB fB _ _ J _ _ L jD kD _ _ kB (fun r => ((y r ∨ w.heap.size ≤ r) ∧ (nw (.slice nC kB.length oC) r ∧ (nw (.slice qC jC.length wC) r ∧ (r ≠ l ∧ r ≠ b))))) _ _ iC (fun r => ((y r ∨ w.heap.size ≤ r) ∧ (nw (.slice nC kB.length oC) r ∧ (nw (.slice pC iC.length vC) r ∧ (r ≠ l ∧ r ≠ b))))) _ _ jC I (fun r => ((((((y r ∨ w.heap.size ≤ r) ∧ r ≠ l) ∧ r ≠ b) ∧ nw (.slice nC kB.length oC) r) ∧ nw (.slice pC iC.length vC) r) ∧ nw (.slice qC jC.length wC) r)) _ _ z _ _ D a1 lD mD nD oD pD aE _ ?side12 ?side1 ?side2 ?side3 ?side4 ?side5 ?side6 ?side7 ?side8 ?side9 ?side10 ?side11 A4.out).mono ?_
 (case side1 => exact cu gE X)
 (case side2 => exact bE.out)
 (case side3 => exact cu hE X)
 (case side4 => exact cE.out)
 (case side5 => repeat (first | exact (Kd.Cw U.out).2.2 | (with_reducible refine Kd.Cm ?_ _) | (with_reducible refine Kd.Cn ?_ _) | (with_reducible refine Kd.DL ?_)))
 (case side6 => exact (Kd.Cw U.out).2.1)
 (case side7 => exact Kd.N_V (fC.out))
 (case side8 => exact Kd.N_V (gC.out))
 (case side9 => exact x.out)
 (case side10 => exact cu sD X)
 (case side11 => exact rD.out)
 (case side12 => exact Ah HG.out (be2 X s u))
 rintro e qD ⟨v431, v434, v437, rfl, eC, kC, gB, hb⟩
 refine ⟨_, rfl, ?_⟩
 replace x := mk0 (Kd.AV (Kd.GU (Kd.GU (Kd.NI (CF x.out) hb) (Kd.BZ eC)) (by first | exact Kd.BZ gB | exact Kd.Cy gB)) (fun _ h_ => h_.1)); replace fC := mk0 (Kd.CO (Kd.Gz (Kd.Gz (Kd.NE (G8 fC.out) hb) (Kd.BZ eC)) (by first | exact Kd.BZ gB | exact Kd.Cy gB)) (fun _ h_ => h_.1)); replace gC := mk0 (Kd.CO (Kd.Gz (Kd.Gz (Kd.NE (G8 gC.out) hb) (Kd.BZ eC)) (by first | exact Kd.BZ gB | exact Kd.Cy gB)) (fun _ h_ => h_.1)); have rC := mk0 (Kd.CL (Kd.EG (Kd.Ew (M := fun r => (w.heap.size ≤ r)) (Kd.Au (ok' := fun r => True) eC (fun _ B => trivial)) (AY (be2 X s u)) (fun r h_ => h_)) (Kd.Ec (Cc U.out))) (AY (be2 X s u))); have sC := mk0 (Kd.GI (Kd.AV (ok' := fun r => (y r ∨ w.heap.size ≤ r) ∧ nw v431 r ∧ nw v437 r ∧ nw (.slice nC kB.length oC) r ∧ r ≠ l ∧ r ≠ b) kC (fun r B => ⟨Or.elim B.1 (fun d => Or.elim d (fun d => d.1) (fun d => Or.elim d (fun d => d.1) (fun d => d.1.1.1.1.1))) (fun mE => (.inr (Nat.le_trans (AY (be2 X s u)) mE))), B.2.1, B.2.2, oR B.1 (fun d => Or.elim d (fun d => d.2.1) (fun d => Or.elim d (fun d => d.2.1) (fun d => d.1.1.2))) U, oB B.1 (fun d => Or.elim d (fun d => d.2.2.2.1) (fun d => Or.elim d (fun d => d.2.2.2.1) (fun d => d.1.1.1.1.2))) c, oB B.1 (fun d => Or.elim d (fun d => d.2.2.2.2) (fun d => Or.elim d (fun d => d.2.2.2.2) (fun d => d.1.1.1.2))) j⟩)) (AY (be2 X s u))); have tC := mk0 (Kd.EW (Kd.CO (ok' := fun r => (y r ∨ w.heap.size ≤ r) ∧ nw v431 r ∧ nw (.slice nC kB.length oC) r ∧ r ≠ l ∧ r ≠ b) gB (fun r B => ⟨Or.elim B.1 (fun d => Or.elim d (fun d => d.1) (fun d => Or.elim d (fun d => d.1) (fun d => d.1.1.1.1.1))) (fun mE => (.inr (Nat.le_trans (AY (be2 X s u)) mE))), B.2, oR B.1 (fun d => Or.elim d (fun d => d.2.1) (fun d => Or.elim d (fun d => d.2.1) (fun d => d.1.1.2))) U, oB B.1 (fun d => Or.elim d (fun d => d.2.2.2.1) (fun d => Or.elim d (fun d => d.2.2.2.1) (fun d => d.1.1.1.1.2))) c, oB B.1 (fun d => Or.elim d (fun d => d.2.2.2.2) (fun d => Or.elim d (fun d => d.2.2.2.2) (fun d => d.1.1.1.2))) j⟩)) (AY (be2 X s u))); replace U := mk0 (Kd.Em (Cc U.out) (Kd.BZ eC) hb); obtain ⟨c, j⟩ := tb2 hb c j; replace X := kh2 X s u hb
 try clear hb
 try clear hk
 try clear eC
 try clear kC
 try clear gB
 obtain ⟨qE, uE, zE⟩ := Kd.Be rC.out
 subst zE
 obtain ⟨rE, vE, aF⟩ := Kd.ED sC.out
 subst aF
 obtain ⟨sE, wE, cF⟩ := Kd.Dl tC.out
 subst cF
 refine hK.out _ _ ⟨bc c 0, bc c 1, bc c 2, bc c 3, bc c 4, bc c 5, bc c 6, bc c 7, bc c 8, bc c 9, bc c 10, bc c 11, bc c 12, bc c 13⟩ (fun m => ?_)
 clear hK K
 refine nz 18 ?_
 refine pv 13 19 (tf 14 3) O ?_
 refine pv 14 20 (tf 15 2) O ?_
 refine DZ (i := 15) (N := none) (tf 16 1) rfl rfl (Bp O.out (by kernel_rfl)) (by decide) (fun K hK => ?_)
 have qG : qD.cell? ⟨b, 0, none⟩ = some (.int .i64 0) := bc j 0
 have kG := AJ j.out 0
 have jF := a.out; have dF := G.out
 have rG : qD.cell? ⟨b, 1, none⟩ = some (.int .i64 0) := bc j 1
 have lG := AJ j.out 1
 have lF := a.out; have eF := G.out
 have sG : qD.cell? ⟨b, 2, none⟩ = some (.slice none 0 0) := bc j 2
 have mG := AJ j.out 2
 have mF := a.out; have fF := G.out
 have tG : qD.cell? ⟨b, 3, none⟩ = some (.slice none 0 0) := bc j 3
 have nG := AJ j.out 3
 have oF := a.out; have gF := G.out
 have uG : qD.cell? ⟨b, 4, none⟩ = some (.slice none 0 0) := bc j 4
 have oG := AJ j.out 4
 have pF := a.out; have hF := G.out
 refine Fw (w1 := ?_) (by rfl) rfl ?_ ?_
 rotate_left
 ·go_simp; rfl
 refine hK.out _ _ ⟨((cell_far (p := ⟨b, _, none⟩) a.out _).trans (((cell_far (p := ⟨b, _, none⟩) a.out _).trans (((cell_far (p := ⟨b, _, none⟩) a.out _).trans (((cell_far (p := ⟨b, _, none⟩) a.out _).trans (((cell_far (p := ⟨b, _, none⟩) a.out _).trans (m.1)))))))))), ((cell_far (p := ⟨b, _, none⟩) a.out _).trans (((cell_far (p := ⟨b, _, none⟩) a.out _).trans (((cell_far (p := ⟨b, _, none⟩) a.out _).trans (((cell_far (p := ⟨b, _, none⟩) a.out _).trans (((cell_far (p := ⟨b, _, none⟩) a.out _).trans (m.2.1)))))))))), ((cell_far (p := ⟨b, _, none⟩) a.out _).trans (((cell_far (p := ⟨b, _, none⟩) a.out _).trans (((cell_far (p := ⟨b, _, none⟩) a.out _).trans (((cell_far (p := ⟨b, _, none⟩) a.out _).trans (((cell_far (p := ⟨b, _, none⟩) a.out _).trans (m.2.2.1)))))))))), ((cell_far (p := ⟨b, _, none⟩) a.out _).trans (((cell_far (p := ⟨b, _, none⟩) a.out _).trans (((cell_far (p := ⟨b, _, none⟩) a.out _).trans (((cell_far (p := ⟨b, _, none⟩) a.out _).trans (((cell_far (p := ⟨b, _, none⟩) a.out _).trans (m.2.2.2.1)))))))))), ((cell_far (p := ⟨b, _, none⟩) a.out _).trans (((cell_far (p := ⟨b, _, none⟩) a.out _).trans (((cell_far (p := ⟨b, _, none⟩) a.out _).trans (((cell_far (p := ⟨b, _, none⟩) a.out _).trans (((cell_far (p := ⟨b, _, none⟩) a.out _).trans (m.2.2.2.2.1)))))))))), ((cell_far (p := ⟨b, _, none⟩) a.out _).trans (((cell_far (p := ⟨b, _, none⟩) a.out _).trans (((cell_far (p := ⟨b, _, none⟩) a.out _).trans (((cell_far (p := ⟨b, _, none⟩) a.out _).trans (((cell_far (p := ⟨b, _, none⟩) a.out _).trans (m.2.2.2.2.2.1)))))))))), ((cell_far (p := ⟨b, _, none⟩) a.out _).trans (((cell_far (p := ⟨b, _, none⟩) a.out _).trans (((cell_far (p := ⟨b, _, none⟩) a.out _).trans (((cell_far (p := ⟨b, _, none⟩) a.out _).trans (((cell_far (p := ⟨b, _, none⟩) a.out _).trans (m.2.2.2.2.2.2.1)))))))))), ((cell_far (p := ⟨b, _, none⟩) a.out _).trans (((cell_far (p := ⟨b, _, none⟩) a.out _).trans (((cell_far (p := ⟨b, _, none⟩) a.out _).trans (((cell_far (p := ⟨b, _, none⟩) a.out _).trans (((cell_far (p := ⟨b, _, none⟩) a.out _).trans (m.2.2.2.2.2.2.2.1)))))))))), ((cell_far (p := ⟨b, _, none⟩) a.out _).trans (((cell_far (p := ⟨b, _, none⟩) a.out _).trans (((cell_far (p := ⟨b, _, none⟩) a.out _).trans (((cell_far (p := ⟨b, _, none⟩) a.out _).trans (((cell_far (p := ⟨b, _, none⟩) a.out _).trans (m.2.2.2.2.2.2.2.2.1)))))))))), ((cell_far (p := ⟨b, _, none⟩) a.out _).trans (((cell_far (p := ⟨b, _, none⟩) a.out _).trans (((cell_far (p := ⟨b, _, none⟩) a.out _).trans (((cell_far (p := ⟨b, _, none⟩) a.out _).trans (((cell_far (p := ⟨b, _, none⟩) a.out _).trans (m.2.2.2.2.2.2.2.2.2.1)))))))))), ((cell_far (p := ⟨b, _, none⟩) a.out _).trans (((cell_far (p := ⟨b, _, none⟩) a.out _).trans (((cell_far (p := ⟨b, _, none⟩) a.out _).trans (((cell_far (p := ⟨b, _, none⟩) a.out _).trans (((cell_far (p := ⟨b, _, none⟩) a.out _).trans (m.2.2.2.2.2.2.2.2.2.2.1)))))))))), ((cell_far (p := ⟨b, _, none⟩) a.out _).trans (((cell_far (p := ⟨b, _, none⟩) a.out _).trans (((cell_far (p := ⟨b, _, none⟩) a.out _).trans (((cell_far (p := ⟨b, _, none⟩) a.out _).trans (((cell_far (p := ⟨b, _, none⟩) a.out _).trans (m.2.2.2.2.2.2.2.2.2.2.2.1)))))))))), ((cell_far (p := ⟨b, _, none⟩) a.out _).trans (((cell_far (p := ⟨b, _, none⟩) a.out _).trans (((cell_far (p := ⟨b, _, none⟩) a.out _).trans (((cell_far (p := ⟨b, _, none⟩) a.out _).trans (((cell_far (p := ⟨b, _, none⟩) a.out _).trans (m.2.2.2.2.2.2.2.2.2.2.2.2.1)))))))))), ((cell_far (p := ⟨b, _, none⟩) a.out _).trans (((cell_far (p := ⟨b, _, none⟩) a.out _).trans (((cell_far (p := ⟨b, _, none⟩) a.out _).trans (((cell_far (p := ⟨b, _, none⟩) a.out _).trans (((cell_far (p := ⟨b, _, none⟩) a.out _).trans (m.2.2.2.2.2.2.2.2.2.2.2.2.2))))))))))⟩ (fun m => ?_)
 clear hK K
 refine pv 16 5 (tf 17 0) O ?_
 refine Dp (Co O.out (by kernel_rfl)) ?_
 try go_wp2
 refine bodyPost_ret (DX rfl _ _ b 33 #[.int .i64 lD, .int .i64 mD, .slice qE nD.length uE, .slice rE oD.length vE, .slice sE pD.length wE] (0, 0) _ rfl (pB j) Try.underlying33 rfl (by kernel_rfl)) rfl ?_
 exact ⟨_, _, _, rfl, by exact Cs (Kd.Au (rI (q := b) (Kd.Av rC.out j.out (by decide)) (fun _ hk => hk.2)) (fun _ hk => hk.1.1.1)), by exact Bd (Kd.AV (vI (q := b) (Kd.AV sC.out (fun r hk => (⟨hk, hk.2.2.2.2.2⟩ : _ ∧ r ≠ b))) (fun _ hk => hk.2)) (fun _ hk => ⟨hk.1.1, hk.1.2.1, hk.1.2.2.1⟩)), by exact Ei (Kd.CO (nI (q := b) (Kd.CO tC.out (fun r hk => (⟨hk, hk.2.2.2.2⟩ : _ ∧ r ≠ b))) (fun _ hk => hk.2)) (fun _ hk => ⟨hk.1.1, hk.1.2.1⟩)), be2 X s u⟩
end Go.Proofs.Ytojankgmedccdaa.PGn
