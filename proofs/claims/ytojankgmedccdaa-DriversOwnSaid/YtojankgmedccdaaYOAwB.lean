/- Lemmas. -/
import Derived.Test.YtojankgmedccdaaYOAwT
namespace Go.Proofs.Ytojankgmedccdaa.Aw
open Go.RowKit Own PTy Hand PIs PAw Wo
set_option linter.unusedVariables false
set_option linter.unusedSimpArgs false
theorem Qu {P : Program} {c : Code} {Q : Exit → Act → World → Prop} {a : Act} {W : World} (h : ∀ b, b = W → Code.wp P c Q a b) : Code.wp P c Q a W := h W rfl
theorem Dj (w : World) (o : Obj) : w.heap.size < (w.alloc o).heap.size := Dx (En w o)
theorem SE {w : World} {g : Nat} {t : TypeId} {e i j k : Value} (h : w.heap[g]? = some (.cells #[e, i, j, k] t (0, 0))) (a b c d : Value) :
  ((((w.setCell ⟨g, 0, none⟩ a).setCell ⟨g, 1, none⟩ b).setCell ⟨g, 2, none⟩ c).setCell ⟨g, 3, none⟩ d).heap[g]? = some (.cells #[a, b, c, d] t (0, 0)) :=
 CP (CP (CP (CP h 0 a rfl) 1 b rfl) 2 c rfl) 3 d rfl
section
variable {w : World} {S : Nat → Prop} {g : Nat} {b : Int} {l : List S63}
theorem PD {v u : Value} {j : Nat} (h : VB w (fun k => k ≠ g) b v) : VB (w.setCell ⟨g, j, none⟩ u) (fun k => k ≠ g) b v := by
 obtain ⟨A, c, B, d, h1, h2, h3, h4⟩ := h; exact ⟨A, c, B, d, h1, h2, Kd.JR h3 (fun _ a => a) u, Kd.JR h4 (fun _ a => a) u⟩
theorem GL {z0 q r z3 z4 a c e i j : Value} (h : bk w g 33 #[z0, q, r, z3, z4]) (hp : PL w (fun k => k ≠ g) b l (.agg #[a, c, e, i, j])) :
  BP (((((w.setCell ⟨g, 0, none⟩ a).setCell ⟨g, 1, none⟩ c).setCell ⟨g, 2, none⟩ e).setCell ⟨g, 3, none⟩ i).setCell ⟨g, 4, none⟩ j) g b l :=
 ⟨a, c, e, i, j, Qt h _ _ _ _ _, PL.mono (OM (OM (OM (OM (OM hp))))) (fun k o _ => o)⟩
theorem OO {z0 l o z3 a c e i : Value} (h : bk w g 30 #[z0, l, o, z3]) (hp : VB w (fun k => k ≠ g) b (.agg #[a, c, e, i])) :
  BV ((((w.setCell ⟨g, 0, none⟩ a).setCell ⟨g, 1, none⟩ c).setCell ⟨g, 2, none⟩ e).setCell ⟨g, 3, none⟩ i) g b :=
 ⟨a, c, e, i, SE h _ _ _ _, VB.mono (PD (PD (PD (PD hp)))) (fun k j _ => j)⟩
theorem alloc_at {o : Obj} {a : World} (b : S w.heap.size) (c : ∀ k, S k → k < (w.alloc o).heap.size → a.heap[k]? = (w.alloc o).heap[k]?) : a.heap[w.heap.size]? = some o := (c _ b (Dj w o)).trans (En w o)
theorem alloc_old {o : Obj} {b : World} (c : ∀ k, S k → k < (w.alloc o).heap.size → b.heap[k]? = (w.alloc o).heap[k]?) : ∀ k, S k → k < w.heap.size → b.heap[k]? = w.heap[k]? := fun k e a =>
 (c k e (Nat.lt_trans a (Dj w o))).trans ((AV (Below.refl w.heap.size w) o).block k a)
theorem OP {A B : Option Addr} {c d : Nat} (o : 1 ≤ c) (h3 : Kd.F (Kd.int .u8) w S A 1 [b]) (h4 : Kd.F k30 w S B 0 []) (l : S w.heap.size) :
  Kd.F k30 (w.alloc (.cells #[.int .i64 1, .int .i64 0, .slice A 1 c, .slice B 0 d] 30 (0, 0))) S (some ⟨w.heap.size, 0, none⟩) 1 [bv b] := by
 intro e h
 have hn := alloc_at l h
 have ho := alloc_old h
 refine ⟨rfl, by decide, fun _ => ⟨_, rfl, ?_⟩⟩
 intro j p k
 cases j with
 | succ j => simp at k
 | zero =>
  obtain rfl := Option.some.inj k; refine ⟨[.int .i64 1, .int .i64 0, .slice A 1 c, .slice B 0 d], rfl, Gv e (bv b) o (h3 e ho) (Nat.zero_le _) (h4 e ho), ?_⟩; intro i u a; have := AO hn i; match i with
  | 0 => exact this.trans a
  | 1 => exact this.trans a
  | 2 => exact this.trans a
  | 3 => exact this.trans a
  | i + 4 => simp at a
theorem P7 {l : Int} {A B h k : Option Addr} {c d o d' : Nat} (G : 1 ≤ c) (h3 : Kd.F (Kd.int .u8) w S A 1 [b]) (h4 : Kd.F k30 w S B 0 []) (s : 1 ≤ o) (q : Kd.F (Kd.int .u8) w S h 1 [l]) (r : Kd.F k30 w S k 0 []) (D : S w.heap.size) :
  Kd.F k30 (w.alloc (.cells #[.int .i64 1, .int .i64 0, .slice A 1 c, .slice B 0 d, .int .i64 1, .int .i64 0, .slice h 1 o, .slice k 0 d'] 30 (0, 0))) S (some ⟨w.heap.size, 0, none⟩) 2 [bv b, bv l] := by
 intro e z
 have hn := alloc_at D z
 have ho := alloc_old z
 refine ⟨rfl, by decide, fun _ => ⟨_, rfl, ?_⟩⟩
 intro j p v
 match j with
 | 0 =>
  obtain rfl := Option.some.inj v
  refine ⟨[.int .i64 1, .int .i64 0, .slice A 1 c, .slice B 0 d], rfl, Gv e (bv b) G (h3 e ho) (Nat.zero_le _) (h4 e ho), ?_⟩
  intro i u a
  have := AO hn i
  match i with
  | 0 => exact this.trans a
  | 1 => exact this.trans a
  | 2 => exact this.trans a
  | 3 => exact this.trans a
  | i + 4 => simp at a
 | 1 =>
  obtain rfl := Option.some.inj v
  refine ⟨[.int .i64 1, .int .i64 0, .slice h 1 o, .slice k 0 d'], rfl, Gv e (bv l) s (q e ho) (Nat.zero_le _) (r e ho), ?_⟩
  intro i u a
  have := AO hn (4 + i)
  match i with
  | 0 => exact this.trans a
  | 1 => exact this.trans a
  | 2 => exact this.trans a
  | 3 => exact this.trans a
  | i + 4 => simp at a
 | j + 2 => simp at v
theorem BP.opens (h : BP w g b l) : ∃ A c B d E e, bk w g 33 #[.int .i64 1, .int .i64 0, .slice A 1 c, .slice B 0 d, .slice E l.length e] ∧ PL w (fun k => k < w.heap.size) b l (.agg #[.int .i64 1, .int .i64 0, .slice A 1 c, .slice B 0 d, .slice E l.length e]) ∧ Kd.C k63 w E l.length l ∧ VB w (fun _ => True) b (.agg #[.int .i64 1, .int .i64 0, .slice A 1 c, .slice B 0 d]) := by
 obtain ⟨q, r, s, u, v, o, A, c, B, d, E, e, j, h2, h3, h4, a, i⟩ := h; simp only [Value.agg.injEq, Array.mk.injEq, List.cons.injEq, and_true] at j; obtain ⟨rfl, rfl, rfl, rfl, rfl⟩ := j; exact ⟨A, c, B, d, E, e, o, ⟨A, c, B, d, E, e, rfl, h2, h3, h4, a, i⟩, Kd.El i, A, c, B, d, rfl, h2, Kd.Cn h4 (fun _ _ => trivial), Kd.Cn a (fun _ _ => trivial)⟩
theorem BV.opens (h : BV w g b) : ∃ A c B d, bk w g 30 #[.int .i64 1, .int .i64 0, .slice A 1 c, .slice B 0 d] ∧ VB w (fun _ => True) b (.agg #[.int .i64 1, .int .i64 0, .slice A 1 c, .slice B 0 d]) := by
 obtain ⟨i, j, k, l, e, A, c, B, d, a, h2, h3, h4⟩ := h; simp only [Value.agg.injEq, Array.mk.injEq, List.cons.injEq, and_true] at a; obtain ⟨rfl, rfl, rfl, rfl⟩ := a; exact ⟨A, c, B, d, e, A, c, B, d, rfl, h2, Kd.Cn h3 (fun _ _ => trivial), Kd.Cn h4 (fun _ _ => trivial)⟩
theorem P9 (w : World) (n : Int) : Kd.C (Kd.int .i64) (w.alloc (.cells #[.int .i64 n] 3 (0, 0))) (some ⟨w.heap.size, 0, none⟩) 1 [n] := by
 refine ⟨rfl, by decide, fun _ => ⟨_, rfl, ?_⟩⟩; intro j p a; cases j with
 | succ j => simp at a
 | zero =>
  obtain rfl := Option.some.inj a; refine ⟨[.int .i64 n], rfl, rfl, ?_⟩; intro i u b; cases i with
  | zero => exact (AO (En w _) 0).trans b
  | succ i => simp at b
end
def awL (n : Nat) : Array Bool := (List.replicate n true ++ List.replicate (89 - n) false).toArray
def Qv : Bool × List (List Nat × List Nat) := (true, [([], []), ([], []), ([], []), ([2], [2]), ([], []), ([0, 1, 3, 4, 2], [0, 1, 3, 4]), ([5], [5]), ([6], [6]), ([6], [6]), ([], []), ([9, 7, 5, 0, 1, 2, 3, 4, 5, 6, 7, 9], [7, 9]), ([8, 10, 0, 1, 2, 3, 4, 5, 6, 7, 8, 9, 10], [8])])
def SF : List Nat := [0, 0, 0, 4, 0, 31, 63, 127, 127, 0, 767, 2047]
theorem QA : Cm .any (opsOf Try.f16 3) = Qv := by kernel_rfl
theorem PE : CX Qv.2 SF = true := by kernel_rfl
def Qw : Bool × List (List Nat × List Nat) := (true, [([], []), ([], []), ([], []), ([2], [2]), ([], []), ([0, 1, 3, 4, 2], [0, 1, 3, 4]), ([5], [5]), ([6], [6]), ([6], [6]), ([], []), ([9, 7, 5, 0, 1, 2, 3, 4, 5, 6, 7, 9], [7, 9]), ([8, 10, 0, 1, 2, 3, 4, 5, 6, 7, 8, 9, 10], [8])])
def SG : List Nat := [0, 0, 0, 4, 0, 31, 63, 127, 127, 0, 767, 2047]
theorem QB : Cm .any (opsOf Try.f16 4) = Qw := by kernel_rfl
theorem PG : CX Qw.2 SG = true := by kernel_rfl
def Qx : Bool × List (List Nat × List Nat) := (true, [([], []), ([], []), ([], []), ([2], [2]), ([], []), ([0, 1, 3, 4, 2], [0, 1, 3, 4]), ([5], [5]), ([6], [6]), ([6], [6]), ([], []), ([9, 7, 5, 0, 1, 2, 3, 4, 5, 6, 7, 9], [7, 9]), ([8, 10, 0, 1, 2, 3, 4, 5, 6, 7, 8, 9, 10], [8])])
def SH : List Nat := [0, 0, 0, 4, 0, 31, 63, 127, 127, 0, 767, 2047]
theorem QC : Cm .any (opsOf Try.f16 5) = Qx := by kernel_rfl
theorem PH : CX Qx.2 SH = true := by kernel_rfl
def Qy : Bool × List (List Nat × List Nat) := (true, [([], []), ([], []), ([1], []), ([1, 2], [1, 2]), ([0, 3, 2], [0, 3]), ([4], [4]), ([5], [5]), ([5], [5]), ([], []), ([8, 6, 4, 0, 1, 2, 3, 4, 5, 6, 8], [6, 8]), ([7, 9, 0, 1, 2, 3, 4, 5, 6, 7, 8, 9], [7])])
def SI : List Nat := [0, 0, 2, 6, 15, 31, 63, 63, 0, 383, 1023]
theorem QD : Cm .any (opsOf Try.f16 8) = Qy := by kernel_rfl
theorem PI : CX Qy.2 SI = true := by kernel_rfl
def Pd : Bool × List (List Nat × List Nat) := (true, [([], []), ([0], [0]), ([1], [1]), ([2], [2]), ([3, 2], [2, 3]), ([2, 4], [2, 4]), ([5, 2], [5]), ([6], [6]), ([7, 6], [6, 7]), ([8, 6], [6, 8]), ([9, 6], [6, 9]), ([6, 10], [6, 10]), ([11, 6], [11]), ([12], [12]), ([13, 12], [12, 13]), ([14, 12], [12, 14]), ([15, 12], [12, 15]), ([16, 12], [12, 16]), ([17, 12], [12, 17]), ([12, 18], [12, 18]), ([19, 12], [19]), ([20], [20]), ([21, 20], [20, 21]), ([20, 22], [20, 22]), ([23, 20], [23]), ([24], [24]), ([25, 24], [24, 25]), ([26, 24], [24, 26]), ([27, 24], [24, 27]), ([24, 28], [24, 28]), ([29, 24], [29]), ([30], [30]), ([31, 30], [30, 31]), ([30, 32], [30, 32]), ([33, 30], [33]), ([34], [34]), ([35, 34], [34, 35]), ([34, 36], [34, 36]), ([37, 34], [37]), ([38], [38]), ([38, 39], [38, 39]), ([40, 38], [40]), ([41], [41]), ([42, 41], [41, 42]), ([41, 43], [41, 43]), ([44, 41], [44]), ([45], [45]), ([46, 45], [45, 46]), ([47, 45], [45, 47]), ([48, 45], [45, 48]), ([45, 49], [45, 49]), ([50, 45], [50]), ([51], [51]), ([52, 51], [51, 52]), ([51, 51], [51]), ([53, 54, 54, 51], [51, 53, 54]), ([51, 55], [51, 55]), ([56, 55], [56]), ([57], [57]), ([57, 57], [57]), ([58, 59, 59, 57], [57, 58, 59]), ([57, 60], [57, 60]), ([61, 60], [61]), ([62], [62]), ([63, 62], [62, 63]), ([62, 64], [62, 64]), ([65, 62], [65]), ([66], [66]), ([67, 66], [66, 67]), ([66, 68], [66, 68]), ([69, 66], [69]), ([70], [70]), ([71, 70], [70, 71]), ([72, 70], [70, 72]), ([70, 73], [70, 73]), ([74, 70], [74]), ([75], [75]), ([76, 75], [75, 76]), ([75, 77], [75, 77]), ([78, 75], [78]), ([79], [79]), ([80, 79, 79], [79, 80]), ([79, 81], [79, 81]), ([82, 81], [82]), ([83], [83]), ([83], [83]), ([84, 85, 83, 83], [83, 84, 85]), ([83, 86], [83, 86]), ([87, 86, 0, 1, 2, 3, 4, 5, 6, 7, 8, 9, 10, 11, 12, 13, 14, 15, 16, 17, 18, 19, 20, 21, 22, 23, 24, 25, 26, 27, 28, 29, 30, 31, 32, 33, 34, 35, 36, 37, 38, 39, 40, 41, 42, 43, 44, 45, 46, 47, 48, 49, 50, 51, 52, 53, 54, 55, 56, 57, 58, 59, 60, 61, 62, 63, 64, 65, 66, 67, 68, 69, 70, 71, 72, 73, 74, 75, 76, 77, 78, 79, 80, 81, 82, 83, 84, 85, 86, 87], [87])])
def Qz : List Nat := [0, 1, 3, 7, 15, 31, 63, 127, 255, 511, 1023, 2047, 4095, 8191, 16383, 32767, 65535, 131071, 262143, 524287, 1048575, 2097151, 4194303, 8388607, 16777215, 33554431, 67108863, 134217727, 268435455, 536870911, 1073741823, 2147483647, 4294967295, 8589934591, 17179869183, 34359738367, 68719476735, 137438953471, 274877906943, 549755813887, 1099511627775, 2199023255551, 4398046511103, 8796093022207, 17592186044415, 35184372088831, 70368744177663, 140737488355327, 281474976710655, 562949953421311, 1125899906842623, 2251799813685247, 4503599627370495, 9007199254740991, 4503599627370495, 36028797018963967, 72057594037927935, 144115188075855871, 288230376151711743, 288230376151711743, 1152921504606846975, 2305843009213693951, 4611686018427387903, 9223372036854775807, 18446744073709551615, 36893488147419103231, 73786976294838206463, 147573952589676412927, 295147905179352825855, 590295810358705651711, 1180591620717411303423, 2361183241434822606847, 4722366482869645213695, 9444732965739290427391, 18889465931478580854783, 37778931862957161709567, 75557863725914323419135, 151115727451828646838271, 302231454903657293676543, 604462909807314587353087, 1208925819614629174706175, 2417851639229258349412351, 4835703278458516698824703, 9671406556917033397649407, 19342813113834066795298815, 19342813113834066795298815, 77371252455336267181195263, 154742504910672534362390527, 309485009821345068724781055]
theorem PK : Cm .any (opsOf Try.f16 11) = Pd := by kernel_rfl
theorem OQ : CX Pd.2 Qz = true := by kernel_rfl
set_option maxHeartbeats 40000000 in
set_option maxRecDepth 100000 in
theorem walk (w : World) (hG : Dk w) : Calls Try.prog 16 #[] w fun e w' => e = .returned (.bool true) ∧ Below w.heap.size w w' := by
 have hJ := Try.underlying26; have iJ := Try.underlying30; have jJ := Try.underlying33; have HB := mk0 (Below.refl w.heap.size w); have HG := mk0 hG; clear hG; go_enter Try.func16, Try.ntmps16; go_wp2_with (first | ((with_reducible refine AU rfl (N := 1) rfl (cs := #[.int .i64 0, .int .i64 0, .string ⟨#[]⟩, .slice none 0 0, .slice none 0 0]) (t := 26) ?hr ?_); (case hr => first | (go_simp; done) | (go_simp; rfl)); intro gT hg w1 dD hb; have BT := mk0 dD; have GT := bs (be HB) hg; replace HB := kh HB hb; clear hb dD hg; have z1 := cells5 BT.out) | (go_at_call 40; refine (Ke (S := fun _ => True) 0 (fun _ _ => trivial)).mono ?_; rintro e w2 ⟨v, rfl, ⟨A2, c2, B2, d2, rfl, hv⟩, hb⟩; have HV := mk0 hv; have HT := mk0 (AL (Qt BT.out (.int .i64 1) (.int .i64 0) (.string ⟨#[]⟩) (.slice none 0 0) (.slice none 0 0)) hb); replace HB := kh1 HB GT hb; clear hv hb z1) | ((with_reducible refine AU rfl (N := 2) rfl (cs := #[.int .i64 0, .int .i64 0, .slice none 0 0, .slice none 0 0, .slice none 0 0]) (t := 33) ?hr ?_); (case hr => first | (go_simp; done) | (go_simp; rfl)); intro gP hg w3 dD hb; have BQ := mk0 dD; have B3 := mk0 hb; have L3 := mk0 (Nat.le_of_eq hg.symm); clear hb dD hg; have z2 := cells5 BQ.out)); clear z2; refine Qu ?_; intro W0 uE; have vE : Below w2.heap.size w2 W0 := by rw [uE]; exact be1 B3 L3
 have hx : BP W0 gP 0 [] := by rw [uE]; exact GL BQ.out (PL.mono (S := fun k => k < w2.heap.size) (PL.up ⟨A2, c2, B2, d2, none, 0, rfl, HV.out.1, Nat.le_refl _, Kd.Cn (Kd.DL HV.out.2.1) (fun k hk => hk.2), Kd.Cn (Kd.DL HV.out.2.2) (fun k hk => hk.2), Kd.Lx _ _ _⟩ B3.out) (fun k _ hk e => Nat.not_lt.mpr L3.out (e ▸ hk)))
 replace HT := mk0 (AL HT.out vE); replace HG := mk0 (Ad HG.out (AZ HB.out vE)); replace HB := mk0 (AZ HB.out vE); have HP := mk0 hx; clear hx vE B3 L3 BQ HV BT; clear uE; refine Cz (n := 12) (S := fun w' => True) (ds := []) (tf 0 12) (by kernel_rfl) rfl rfl trivial (fun tB => ?_); refine CB QA PE (fun eB tC => ?_); have hd : Below W0.heap.size W0 W0.drew := Af (Below.refl _ _); replace HP := mk0 (HP.out.up hd); replace HT := mk0 (AL HT.out hd); replace HG := mk0 (Ad HG.out hd); replace HB := mk0 (AZ HB.out hd); clear hd tB; generalize W0.drew = wA at HT HG HB HP ⊢; obtain ⟨x0, x1, x2, x3, x4, hx, nC⟩ := HP.out; refine Jr [0, 1, 2, 3, 4, 5, 6, 7, 8, 9, 10, 11] (fun tE b a w' => ∃ (v_ : Value) (D : Nat) (T : Nat) (p_ : Value) (gA : Nat) (O : Option Nat) (bB : Value) (cB : Value) (Z : Value) (X : Value) (fB : Value) (hB : Value), a = Ch tE b [(0, 24, tv), (1, 25, .agg #[x0, x1, x2, x3, x4]), (2, 26, v_), (3, 27, bB), (4, 28, cB), (5, 29, Z), (6, 23, X), (7, 30, fB), (8, 31, .int .i64 0), (9, 3, hB), (11, 4, .int .i64 0)] ∧ (Below wA.heap.size wA w') ∧ (b 10 = false → ∀ g, O = some g → wA.heap.size ≤ g ∧ g < w'.heap.size) ∧ (b 2 = true → b 10 = false → VB w' (fun k => some k ≠ O) 1 v_) ∧ (b 3 = true → b 10 = false → Kd.F k30 w' (fun k => some k ≠ O) (some ⟨D, 0, none⟩) 1 [bv 1]) ∧ (b 4 = true → b 10 = false → Kd.C (Kd.int .i64) w' (some ⟨T, 0, none⟩) 1 [5]) ∧ (b 5 = true → b 10 = false → PL w' (fun k => some k ≠ O) 0 [tr 5 1] p_) ∧ (b 9 = true → b 10 = false → O = some gA ∧ bk w' gA 33 #[.int .i64 0, .int .i64 0, .slice none 0 0, .slice none 0 0, .slice none 0 0] ∧ wA.heap.size ≤ gA) ∧ (b 10 = true → BP w' gA 0 [tr 5 1]) ∧ (b 3 = true → (bB : Value) = .slice (some ⟨D, 0, none⟩) 1 1) ∧ (b 4 = true → (cB : Value) = .slice (some ⟨T, 0, none⟩) 1 1) ∧ (b 5 = true → (Z : Value) = .tuple #[p_, .int .i64 0]) ∧ (b 6 = true → (X : Value) = .tuple #[p_, .int .i64 0]) ∧ (b 7 = true → (fB : Value) = p_) ∧ (b 9 = true → (hB : Value) = .pointer (some ⟨gA, 0, none⟩))) eB.out tC.out (by kernel_rfl) (by kernel_rfl) ?_ ?_ ?_
 ·exact ⟨.bool false, 0, 0, .bool false, 0, none, .bool false, .bool false, .bool false, .bool false, .bool false, .bool false, by simp only [Ch, Bool.false_eq_true, if_false], (Below.refl _ _), fun _ => (fun g e => by cases e), fun h_ => absurd h_ (by decide), fun h_ => absurd h_ (by decide), fun h_ => absurd h_ (by decide), fun h_ => absurd h_ (by decide), fun h_ => absurd h_ (by decide), fun h_ => absurd h_ (by decide), fun h_ => absurd h_ (by decide), fun h_ => absurd h_ (by decide), fun h_ => absurd h_ (by decide), fun h_ => absurd h_ (by decide), fun h_ => absurd h_ (by decide), fun h_ => absurd h_ (by decide)⟩
 ·skip
  refine BC ?_ ?_
  ·rintro b a w' ⟨v_, D, T, p_, gA, O, bB, cB, Z, X, fB, hB, W, s, z, J, L, Y, U, u, dB, r, q, B, G, aB, I⟩ hb_ l j; refine ⟨_, rfl, fun K hK => ?_⟩; have e1 : a.tmps[1]? = some (.pointer (some ⟨gT, 0, none⟩)) := by rw [W]; exact (DU rfl).trans rfl
   replace W := mk0 W; have FB := mk0 s; have FO := mk0 (z (j 10 (by kernel_rfl))); have z_ := cells5 (AL HT.out FB.out); refine CJ (w1 := w') (v := tv) (by rfl) rfl ?_ ?_
   ·go_simp; (try simp only [CG]); try rfl
   refine hK.out _ _ ⟨v_, D, T, p_, gA, O, bB, cB, Z, X, fB, hB, (by rw [W.out]; exact BO 0 hb_ rfl rfl rfl), s, z, J, L, Y, fun c _ => absurd ((j 5 (by kernel_rfl)).symm.trans c) (by decide), u, fun c => absurd ((j 10 (by kernel_rfl)).symm.trans c) (by decide), r, q, fun c => absurd ((j 5 (by kernel_rfl)).symm.trans c) (by decide), fun c => absurd ((j 6 (by kernel_rfl)).symm.trans c) (by decide), fun c => absurd ((j 7 (by kernel_rfl)).symm.trans c) (by decide), I⟩
  refine BC ?_ ?_
  ·rintro b a w' ⟨v_, D, T, p_, gA, O, bB, cB, Z, X, fB, hB, W, s, z, J, L, Y, U, u, dB, r, q, B, G, aB, I⟩ hb_ l j; refine ⟨_, rfl, fun K hK => ?_⟩; have e2 : a.tmps[2]? = some (.pointer (some ⟨gP, 0, none⟩)) := by rw [W]; exact (DU rfl).trans rfl
   replace W := mk0 W; have FB := mk0 s; have FO := mk0 (z (j 10 (by kernel_rfl))); have z_ := cells5 (AL hx FB.out); refine CJ (w1 := w') (v := .agg #[x0, x1, x2, x3, x4]) (by rfl) rfl ?_ ?_
   ·go_simp; (try simp only [CG]); try rfl
   refine hK.out _ _ ⟨v_, D, T, p_, gA, O, bB, cB, Z, X, fB, hB, (by rw [W.out]; exact BO 1 hb_ rfl rfl rfl), s, z, J, L, Y, fun c _ => absurd ((j 5 (by kernel_rfl)).symm.trans c) (by decide), u, fun c => absurd ((j 10 (by kernel_rfl)).symm.trans c) (by decide), r, q, fun c => absurd ((j 5 (by kernel_rfl)).symm.trans c) (by decide), fun c => absurd ((j 6 (by kernel_rfl)).symm.trans c) (by decide), fun c => absurd ((j 7 (by kernel_rfl)).symm.trans c) (by decide), I⟩
  refine BC ?_ ?_
  ·rintro b a w' ⟨v_, D, T, p_, gA, O, bB, cB, Z, X, fB, hB, W, s, z, J, L, Y, U, u, dB, r, q, B, G, aB, I⟩ hb_ l j; refine ⟨_, rfl, fun K hK => ?_⟩; replace W := mk0 W; have FB := mk0 s; have FO := mk0 (z (j 10 (by kernel_rfl))); refine Ct Try.func40 (by kernel_rfl) rfl #[.int .u8 1] (by rfl) rfl rfl (by first | (simp only [List.map_toArray, List.map_cons, List.map_nil, Act.eval, Array.getD_eq_getD_getElem?, Option.getD_some]; done) | (simp only [List.map_toArray, List.map_cons, List.map_nil, Act.eval, Array.getD_eq_getD_getElem?, Option.getD_some]; rfl)) ?_; refine (Ke (S := (fun k => some k ≠ O)) 1 (fun k hk e => absurd (FO.out k e.symm).2 (Nat.not_lt.mpr hk))).mono ?_; rintro e w2 ⟨v, rfl, hv, hb⟩; refine ⟨_, rfl, ?_⟩; refine hK.out _ _ ⟨v, D, T, p_, gA, O, bB, cB, Z, X, fB, hB, (by rw [W.out]; exact BO 2 hb_ rfl rfl rfl), (AZ FB.out hb), fun _ => (fun g e => ⟨(FO.out g e).1, Nat.lt_of_lt_of_le (FO.out g e).2 (Below.size hb)⟩), fun _ _ => hv, fun c _ => absurd ((j 3 (by kernel_rfl)).symm.trans c) (by decide), fun c o => Kd.Ak (Y c o) hb, fun c _ => absurd ((j 5 (by kernel_rfl)).symm.trans c) (by decide), fun c o => ⟨(u c o).1, AL (u c o).2.1 hb, (u c o).2.2⟩, fun c => absurd ((j 10 (by kernel_rfl)).symm.trans c) (by decide), fun c => absurd ((j 3 (by kernel_rfl)).symm.trans c) (by decide), q, fun c => absurd ((j 5 (by kernel_rfl)).symm.trans c) (by decide), fun c => absurd ((j 6 (by kernel_rfl)).symm.trans c) (by decide), fun c => absurd ((j 7 (by kernel_rfl)).symm.trans c) (by decide), I⟩
  refine BC ?_ ?_
  ·rintro b a w' ⟨v_, D, T, p_, gA, O, bB, cB, Z, X, fB, hB, W, s, z, J, L, Y, U, u, dB, r, q, B, G, aB, I⟩ hb_ l j; refine ⟨_, rfl, fun K hK => ?_⟩; have qJ : a.tmps[26]? = some (v_) := by rw [W]; exact BZ (e := (2, 26, v_)) 2 rfl rfl (l 2 (by kernel_rfl)) rfl
   replace W := mk0 W; have FB := mk0 s; have FO := mk0 (z (j 10 (by kernel_rfl))); have FV := mk0 (J (l 2 (by kernel_rfl)) (j 10 (by kernel_rfl))); obtain ⟨A2, c2, B2, d2, rfl, l2, h2, h3⟩ := FV.out; refine CJ (w1 := ?_) (v := ?_) (by rfl) rfl ?_ ?_; rotate_left 2
   ·go_simp; constructor
    ·rfl
    ·rfl
   refine hK.out _ _ ⟨.agg #[.int .i64 1, .int .i64 0, .slice A2 1 c2, .slice B2 0 d2], w'.heap.size, T, p_, gA, O, (.slice (some ⟨w'.heap.size, 0, none⟩) 1 1), cB, Z, X, fB, hB, (by rw [W.out]; exact BO 3 hb_ rfl rfl rfl), (AZ FB.out (AV (Below.refl _ _) _)), fun _ => (fun g e => ⟨(FO.out g e).1, Nat.lt_of_lt_of_le (FO.out g e).2 (Below.size (AV (Below.refl _ _) _))⟩), fun _ _ => (VB.up FV.out (AV (Below.refl _ _) _)), fun _ _ => OP l2 h2 h3 (fun e => absurd (FO.out _ e.symm).2 (Nat.lt_irrefl _)), fun c o => Kd.Ak (Y c o) (AV (Below.refl _ _) _), fun c _ => absurd ((j 5 (by kernel_rfl)).symm.trans c) (by decide), fun c o => ⟨(u c o).1, AL (u c o).2.1 (AV (Below.refl _ _) _), (u c o).2.2⟩, fun c => absurd ((j 10 (by kernel_rfl)).symm.trans c) (by decide), fun _ => rfl, q, fun c => absurd ((j 5 (by kernel_rfl)).symm.trans c) (by decide), fun c => absurd ((j 6 (by kernel_rfl)).symm.trans c) (by decide), fun c => absurd ((j 7 (by kernel_rfl)).symm.trans c) (by decide), I⟩
  refine BC ?_ ?_
  ·rintro b a w' ⟨v_, D, T, p_, gA, O, bB, cB, Z, X, fB, hB, W, s, z, J, L, Y, U, u, dB, r, q, B, G, aB, I⟩ hb_ l j; refine ⟨_, rfl, fun K hK => ?_⟩; replace W := mk0 W; have FB := mk0 s; have FO := mk0 (z (j 10 (by kernel_rfl))); refine CJ (w1 := ?_) (v := ?_) (by rfl) rfl ?_ ?_; rotate_left 2
   ·go_simp; constructor
    ·rfl
    ·rfl
   refine hK.out _ _ ⟨v_, D, w'.heap.size, p_, gA, O, bB, (.slice (some ⟨w'.heap.size, 0, none⟩) 1 1), Z, X, fB, hB, (by rw [W.out]; exact BO 4 hb_ rfl rfl rfl), (AZ FB.out (AV (Below.refl _ _) _)), fun _ => (fun g e => ⟨(FO.out g e).1, Nat.lt_of_lt_of_le (FO.out g e).2 (Below.size (AV (Below.refl _ _) _))⟩), fun c o => (J c o).up (AV (Below.refl _ _) _), fun c o => Kd.Cj (L c o) (AV (Below.refl _ _) _), fun _ _ => P9 _ _, fun c _ => absurd ((j 5 (by kernel_rfl)).symm.trans c) (by decide), fun c o => ⟨(u c o).1, AL (u c o).2.1 (AV (Below.refl _ _) _), (u c o).2.2⟩, fun c => absurd ((j 10 (by kernel_rfl)).symm.trans c) (by decide), r, fun _ => rfl, fun c => absurd ((j 5 (by kernel_rfl)).symm.trans c) (by decide), fun c => absurd ((j 6 (by kernel_rfl)).symm.trans c) (by decide), fun c => absurd ((j 7 (by kernel_rfl)).symm.trans c) (by decide), I⟩
  refine BC ?_ ?_
  ·rintro b a w' ⟨v_, D, T, p_, gA, O, bB, cB, Z, X, fB, hB, W, s, z, J, L, Y, U, u, dB, r, q, B, G, aB, I⟩ hb_ l j; refine ⟨_, rfl, fun K hK => ?_⟩; have lH : a.tmps[24]? = some (tv) := by rw [W]; exact BZ (e := (0, 24, tv)) 0 rfl rfl (l 0 (by kernel_rfl)) rfl
   have mH : a.tmps[25]? = some (.agg #[x0, x1, x2, x3, x4]) := by rw [W]; exact BZ (e := (1, 25, .agg #[x0, x1, x2, x3, x4])) 1 rfl rfl (l 1 (by kernel_rfl)) rfl
   have iG : a.tmps[27]? = some (bB) := by rw [W]; exact BZ (e := (3, 27, bB)) 3 rfl rfl (l 3 (by kernel_rfl)) rfl
   rw [r (l 3 (by kernel_rfl))] at iG; have jG : a.tmps[28]? = some (cB) := by rw [W]; exact BZ (e := (4, 28, cB)) 4 rfl rfl (l 4 (by kernel_rfl)) rfl
   rw [q (l 4 (by kernel_rfl))] at jG; replace W := mk0 W; have FB := mk0 s; have FO := mk0 (z (j 10 (by kernel_rfl))); have FV := mk0 (J (l 2 (by kernel_rfl)) (j 10 (by kernel_rfl))); have FS := mk0 (L (l 3 (by kernel_rfl)) (j 10 (by kernel_rfl))); have FN := mk0 (Y (l 4 (by kernel_rfl)) (j 10 (by kernel_rfl))); refine Ct Try.func38 (by kernel_rfl) rfl #[tv, .agg #[x0, x1, x2, x3, x4], .int .i64 0, .slice (some ⟨D, 0, none⟩) 1 1, .slice (some ⟨T, 0, none⟩) 1 1, .bool false] (by rfl) rfl rfl (by first | (simp only [List.map_toArray, List.map_cons, List.map_nil, Act.eval, Array.getD_eq_getD_getElem?, Option.getD_some, lH, mH, iG, jG]; done) | (simp only [List.map_toArray, List.map_cons, List.map_nil, Act.eval, Array.getD_eq_getD_getElem?, Option.getD_some, lH, mH, iG, jG]; rfl)) ?_; refine (J5 (S := (fun k => some k ≠ O)) (fun k hk e => absurd (FO.out k e.symm).2 (Nat.not_lt.mpr hk)) 0 1 0 5 [] [tr 5 1] _ false _ 1 _ 1 (Ad HG.out FB.out) ((nC.up FB.out).mono (fun k _ hk e => absurd (FO.out k e.symm).1 (Nat.not_le.mpr hk))) FS.out (Nat.le_refl _) FN.out (Nat.le_refl _) Mo).mono ?_; rintro e w2 ⟨p, rfl, hp, hb⟩; refine ⟨_, rfl, ?_⟩; refine hK.out _ _ ⟨v_, D, T, p, gA, O, bB, cB, (.tuple #[p, .int .i64 0]), X, fB, hB, (by rw [W.out]; exact BO 5 hb_ rfl rfl rfl), (AZ FB.out hb), fun _ => (fun g e => ⟨(FO.out g e).1, Nat.lt_of_lt_of_le (FO.out g e).2 (Below.size hb)⟩), fun _ _ => FV.out.up hb, fun _ _ => Kd.Cj FS.out hb, fun _ _ => Kd.Ak FN.out hb, fun _ _ => hp, fun c o => ⟨(u c o).1, AL (u c o).2.1 hb, (u c o).2.2⟩, fun c => absurd ((j 10 (by kernel_rfl)).symm.trans c) (by decide), r, q, fun _ => rfl, fun c => absurd ((j 6 (by kernel_rfl)).symm.trans c) (by decide), fun c => absurd ((j 7 (by kernel_rfl)).symm.trans c) (by decide), I⟩
  refine BC ?_ ?_
  ·rintro b a w' ⟨v_, D, T, p_, gA, O, bB, cB, Z, X, fB, hB, W, s, z, J, L, Y, U, u, dB, r, q, B, G, aB, I⟩ hb_ l j; refine ⟨_, rfl, fun K hK => ?_⟩; have jI : a.tmps[29]? = some (Z) := by rw [W]; exact BZ (e := (5, 29, Z)) 5 rfl rfl (l 5 (by kernel_rfl)) rfl
   rw [B (l 5 (by kernel_rfl))] at jI; replace W := mk0 W; have FB := mk0 s; have FO := mk0 (z (j 10 (by kernel_rfl))); have FV := mk0 (J (l 2 (by kernel_rfl)) (j 10 (by kernel_rfl))); have FS := mk0 (L (l 3 (by kernel_rfl)) (j 10 (by kernel_rfl))); have FN := mk0 (Y (l 4 (by kernel_rfl)) (j 10 (by kernel_rfl))); have FP := mk0 (U (l 5 (by kernel_rfl)) (j 10 (by kernel_rfl))); refine CJ (w1 := w') (v := .tuple #[p_, .int .i64 0]) (by rfl) rfl ?_ ?_
   ·go_simp; (try simp only [CG]); try rfl
   refine hK.out _ _ ⟨v_, D, T, p_, gA, O, bB, cB, Z, (.tuple #[p_, .int .i64 0]), fB, hB, (by rw [W.out]; exact BO 6 hb_ rfl rfl rfl), s, z, J, L, Y, U, u, fun c => absurd ((j 10 (by kernel_rfl)).symm.trans c) (by decide), r, q, B, fun _ => rfl, fun c => absurd ((j 7 (by kernel_rfl)).symm.trans c) (by decide), I⟩
  refine BC ?_ ?_
  ·rintro b a w' ⟨v_, D, T, p_, gA, O, bB, cB, Z, X, fB, hB, W, s, z, J, L, Y, U, u, dB, r, q, B, G, aB, I⟩ hb_ l j; refine ⟨_, rfl, fun K hK => ?_⟩; have gG : a.tmps[23]? = some (X) := by rw [W]; exact BZ (e := (6, 23, X)) 6 rfl rfl (l 6 (by kernel_rfl)) rfl
   rw [G (l 6 (by kernel_rfl))] at gG; replace W := mk0 W; have FB := mk0 s; have FO := mk0 (z (j 10 (by kernel_rfl))); have FV := mk0 (J (l 2 (by kernel_rfl)) (j 10 (by kernel_rfl))); have FS := mk0 (L (l 3 (by kernel_rfl)) (j 10 (by kernel_rfl))); have FN := mk0 (Y (l 4 (by kernel_rfl)) (j 10 (by kernel_rfl))); have FP := mk0 (U (l 5 (by kernel_rfl)) (j 10 (by kernel_rfl))); refine CJ (w1 := w') (v := p_) (by rfl) rfl ?_ ?_
   ·go_simp; (try simp only [CG]); try rfl
   refine hK.out _ _ ⟨v_, D, T, p_, gA, O, bB, cB, Z, X, (p_), hB, (by rw [W.out]; exact BO 7 hb_ rfl rfl rfl), s, z, J, L, Y, U, u, fun c => absurd ((j 10 (by kernel_rfl)).symm.trans c) (by decide), r, q, B, G, fun _ => rfl, I⟩
  refine BC ?_ ?_
  ·rintro b a w' ⟨v_, D, T, p_, gA, O, bB, cB, Z, X, fB, hB, W, s, z, J, L, Y, U, u, dB, r, q, B, G, aB, I⟩ hb_ l j; refine ⟨_, rfl, fun K hK => ?_⟩; have gG : a.tmps[23]? = some (X) := by rw [W]; exact BZ (e := (6, 23, X)) 6 rfl rfl (l 6 (by kernel_rfl)) rfl
   rw [G (l 6 (by kernel_rfl))] at gG; replace W := mk0 W; have FB := mk0 s; refine CJ (w1 := w') (v := .int .i64 0) (by rfl) rfl ?_ ?_
   ·go_simp; (try simp only [CG]); try rfl
   refine hK.out _ _ ⟨v_, D, T, p_, gA, O, bB, cB, Z, X, fB, hB, (by rw [W.out]; exact BO 8 hb_ rfl rfl rfl), s, z, J, L, Y, U, u, dB, r, q, B, G, aB, I⟩
  refine BC ?_ ?_
  ·rintro b a w' ⟨v_, D, T, p_, gA, O, bB, cB, Z, X, fB, hB, W, s, z, J, L, Y, U, u, dB, r, q, B, G, aB, I⟩ hb_ l j; refine ⟨_, rfl, fun K hK => ?_⟩; replace W := mk0 W; have FB := mk0 s; have FO := mk0 (z (j 10 (by kernel_rfl))); refine CJ (w1 := ?_) (v := ?_) (by rfl) rfl ?_ ?_; rotate_left 2
   ·go_simp; constructor
    ·rfl
    ·rfl
   refine hK.out _ _ ⟨v_, D, T, p_, w'.heap.size, (some w'.heap.size), bB, cB, Z, X, fB, (.pointer (some ⟨w'.heap.size, 0, none⟩)), (by rw [W.out]; exact BO 9 hb_ rfl rfl rfl), (AV FB.out _), fun _ => (fun g e => by cases e; exact ⟨FB.out.size, Dj _ _⟩), fun c o => ((J c o).mono (fun k hk _ e => Nat.ne_of_lt hk (Option.some.inj e))).up (AV (Below.refl _ _) _), fun c o => Kd.G8 (Kd.Cn (Kd.DL (L c o)) (fun k hk e => Nat.ne_of_lt hk.2 (Option.some.inj e))) _, fun c o => Kd.Ak (Y c o) (AV (Below.refl _ _) _), fun c o => ((U c o).mono (fun k hk _ e => Nat.ne_of_lt hk (Option.some.inj e))).up (AV (Below.refl _ _) _), fun _ _ => ⟨rfl, En _ _, FB.out.size⟩, fun c => absurd ((j 10 (by kernel_rfl)).symm.trans c) (by decide), r, q, B, G, aB, fun _ => rfl⟩
  refine BC ?_ ?_
  ·rintro b a w' ⟨v_, D, T, p_, gA, O, bB, cB, Z, X, fB, hB, W, s, z, J, L, Y, U, u, dB, r, q, B, G, aB, I⟩ hb_ l j; refine ⟨_, rfl, fun K hK => ?_⟩; have e3 : a.tmps[3]? = some (hB) := by rw [W]; exact BZ (e := (9, 3, hB)) 9 rfl rfl (l 9 (by kernel_rfl)) rfl
   rw [I (l 9 (by kernel_rfl))] at e3; have lI : a.tmps[30]? = some (fB) := by rw [W]; exact BZ (e := (7, 30, fB)) 7 rfl rfl (l 7 (by kernel_rfl)) rfl
   rw [aB (l 7 (by kernel_rfl))] at lI; replace W := mk0 W; have FB := mk0 s; have FO := mk0 (z hb_); have FV := mk0 (J (l 2 (by kernel_rfl)) hb_); have FS := mk0 (L (l 3 (by kernel_rfl)) hb_); have FN := mk0 (Y (l 4 (by kernel_rfl)) hb_); have FP := mk0 (U (l 5 (by kernel_rfl)) hb_); have FG := mk0 (u (l 9 (by kernel_rfl)) hb_); obtain ⟨A2, c2, B2, d2, E2, e2, rfl, q1, q2, q3, q4, q5⟩ := FP.out; have z_ := cells5 FG.out.2.1; refine ET (w1 := ?_) (by rfl) rfl ?_ ?_; rotate_left
   ·go_simp; rfl
   refine hK.out _ _ ⟨v_, D, T, .agg #[.int .i64 1, .int .i64 0, .slice A2 1 c2, .slice B2 0 d2, .slice E2 1 e2], gA, O, bB, cB, Z, X, fB, hB, (by rw [W.out]; exact FM (v := undef) rfl), (be1 FB ⟨FG.out.2.2⟩), fun c => absurd ((CY b 10).symm.trans c) (by decide), fun _ o => absurd ((CY b 10).symm.trans o) (by decide), fun _ o => absurd ((CY b 10).symm.trans o) (by decide), fun _ o => absurd ((CY b 10).symm.trans o) (by decide), fun _ o => absurd ((CY b 10).symm.trans o) (by decide), fun _ o => absurd ((CY b 10).symm.trans o) (by decide), fun _ => (GL FG.out.2.1 (PL.mono (S' := fun k => k ≠ gA) ⟨A2, c2, B2, d2, E2, e2, rfl, q1, q2, q3, q4, q5⟩ (fun k _ hk e => hk (by rw [FG.out.1, e])))), r, q, B, G, aB, I⟩
  refine BC ?_ ?_
  ·rintro b a w' ⟨v_, D, T, p_, gA, O, bB, cB, Z, X, fB, hB, W, s, z, J, L, Y, U, u, dB, r, q, B, G, aB, I⟩ hb_ l j; refine ⟨_, rfl, fun K hK => ?_⟩; have rJ : a.tmps[31]? = some (.int .i64 0) := by rw [W]; exact BZ (e := (8, 31, .int .i64 0)) 8 rfl rfl (l 8 (by kernel_rfl)) rfl
   replace W := mk0 W; have FB := mk0 s; have FD := mk0 (dB (l 10 (by kernel_rfl))); refine CJ (w1 := w') (v := .int .i64 0) (by rfl) rfl ?_ ?_
   ·go_simp; (try simp only [CG]); try rfl
   refine hK.out _ _ ⟨v_, D, T, p_, gA, O, bB, cB, Z, X, fB, hB, (by rw [W.out]; exact BO 10 hb_ rfl rfl rfl), s, fun c => absurd ((l 10 (by kernel_rfl)).symm.trans c) (by decide), fun _ o => absurd ((l 10 (by kernel_rfl)).symm.trans o) (by decide), fun _ o => absurd ((l 10 (by kernel_rfl)).symm.trans o) (by decide), fun _ o => absurd ((l 10 (by kernel_rfl)).symm.trans o) (by decide), fun _ o => absurd ((l 10 (by kernel_rfl)).symm.trans o) (by decide), fun _ o => absurd ((l 10 (by kernel_rfl)).symm.trans o) (by decide), dB, r, q, B, G, aB, I⟩
  exact Gc
 rintro b a w' jB ⟨v_, D, T, p_, gA, O, bB, cB, Z, X, fB, hB, W, s, z, J, L, Y, U, u, dB, r, q, B, G, aB, I⟩; have vC := jB 0 (by kernel_rfl); have yC := jB 1 (by kernel_rfl); have aD := jB 2 (by kernel_rfl); have dC := jB 3 (by kernel_rfl); have eC := jB 4 (by kernel_rfl); have fC := jB 5 (by kernel_rfl); have iC := jB 6 (by kernel_rfl); have lC := jB 7 (by kernel_rfl); have sC := jB 8 (by kernel_rfl); have jC := jB 9 (by kernel_rfl); have bC := jB 10 (by kernel_rfl); have xC := jB 11 (by kernel_rfl); subst W; obtain rfl := r dC; obtain rfl := q eC; obtain rfl := B fC; obtain rfl := G iC; obtain rfl := aB lC; obtain rfl := I jC; simp only [Ch, vC, yC, aD, dC, eC, fC, iC, lC, sC, jC, bC, xC, if_true, Act.put, List.setIfInBounds_toArray, List.set_cons_zero, List.set_cons_succ]; have FB := mk0 s; clear s; clear z; clear J; clear L; clear Y; clear U; clear u; have FD := mk0 (dB bC); clear dB; clear jB vC yC aD dC eC fC iC lC sC jC bC xC; skip
 have hd := FB.out; replace HP := mk0 (HP.out.up hd); replace HT := mk0 (AL HT.out hd); replace HG := mk0 (Ad HG.out hd); replace HB := mk0 (AZ HB.out hd); have HA := FD; clear FD FB hd hx nC; try go_wp2
 refine Cz (n := 12) (S := fun w' => True) (ds := []) (tf 0 12) (by kernel_rfl) rfl rfl trivial (fun tB => ?_); refine CB QB PG (fun eB tC => ?_); have hd : Below w'.heap.size w' w'.drew := Af (Below.refl _ _); replace HP := mk0 (HP.out.up hd); replace HA := mk0 (HA.out.up hd); replace HT := mk0 (AL HT.out hd); replace HG := mk0 (Ad HG.out hd); replace HB := mk0 (AZ HB.out hd); clear hd tB; generalize w'.drew = wB at HT HG HB HP HA ⊢; obtain ⟨x0, x1, x2, x3, x4, hx, nC⟩ := HA.out; refine Jr [0, 1, 2, 3, 4, 5, 6, 7, 8, 9, 10, 11] (fun tE b a w' => ∃ (v_ : Value) (D : Nat) (T : Nat) (p_ : Value) (gB : Nat) (O : Option Nat) (bB : Value) (cB : Value) (Z : Value) (X : Value) (fB : Value) (hB : Value), a = Ch tE b [(0, 33, tv), (1, 34, .agg #[x0, x1, x2, x3, x4]), (2, 35, v_), (3, 36, bB), (4, 37, cB), (5, 38, Z), (6, 32, X), (7, 39, fB), (8, 40, .int .i64 0), (9, 5, hB), (11, 6, .int .i64 0)] ∧ (Below wB.heap.size wB w') ∧ (b 10 = false → ∀ g, O = some g → wB.heap.size ≤ g ∧ g < w'.heap.size) ∧ (b 2 = true → b 10 = false → VB w' (fun k => some k ≠ O) 0 v_) ∧ (b 3 = true → b 10 = false → Kd.F k30 w' (fun k => some k ≠ O) (some ⟨D, 0, none⟩) 1 [bv 0]) ∧ (b 4 = true → b 10 = false → Kd.C (Kd.int .i64) w' (some ⟨T, 0, none⟩) 1 [5]) ∧ (b 5 = true → b 10 = false → PL w' (fun k => some k ≠ O) 0 [tr 7 0] p_) ∧ (b 9 = true → b 10 = false → O = some gB ∧ bk w' gB 33 #[.int .i64 0, .int .i64 0, .slice none 0 0, .slice none 0 0, .slice none 0 0] ∧ wB.heap.size ≤ gB) ∧ (b 10 = true → BP w' gB 0 [tr 7 0]) ∧ (b 3 = true → (bB : Value) = .slice (some ⟨D, 0, none⟩) 1 1) ∧ (b 4 = true → (cB : Value) = .slice (some ⟨T, 0, none⟩) 1 1) ∧ (b 5 = true → (Z : Value) = .tuple #[p_, .int .i64 0]) ∧ (b 6 = true → (X : Value) = .tuple #[p_, .int .i64 0]) ∧ (b 7 = true → (fB : Value) = p_) ∧ (b 9 = true → (hB : Value) = .pointer (some ⟨gB, 0, none⟩))) eB.out tC.out (by kernel_rfl) (by kernel_rfl) ?_ ?_ ?_
 ·exact ⟨.bool false, 0, 0, .bool false, 0, none, .bool false, .bool false, .bool false, .bool false, .bool false, .bool false, by simp only [Ch, Bool.false_eq_true, if_false], (Below.refl _ _), fun _ => (fun g e => by cases e), fun h_ => absurd h_ (by decide), fun h_ => absurd h_ (by decide), fun h_ => absurd h_ (by decide), fun h_ => absurd h_ (by decide), fun h_ => absurd h_ (by decide), fun h_ => absurd h_ (by decide), fun h_ => absurd h_ (by decide), fun h_ => absurd h_ (by decide), fun h_ => absurd h_ (by decide), fun h_ => absurd h_ (by decide), fun h_ => absurd h_ (by decide), fun h_ => absurd h_ (by decide)⟩
 ·skip
  refine BC ?_ ?_
  ·rintro b a w' ⟨v_, D, T, p_, gB, O, bB, cB, Z, X, fB, hB, W, s, z, J, L, Y, U, u, dB, r, q, B, G, aB, I⟩ hb_ l j; refine ⟨_, rfl, fun K hK => ?_⟩; have e1 : a.tmps[1]? = some (.pointer (some ⟨gT, 0, none⟩)) := by rw [W]; exact (DU rfl).trans rfl
   replace W := mk0 W; have FB := mk0 s; have FO := mk0 (z (j 10 (by kernel_rfl))); have z_ := cells5 (AL HT.out FB.out); refine CJ (w1 := w') (v := tv) (by rfl) rfl ?_ ?_
   ·go_simp; (try simp only [CG]); try rfl
   refine hK.out _ _ ⟨v_, D, T, p_, gB, O, bB, cB, Z, X, fB, hB, (by rw [W.out]; exact BO 0 hb_ rfl rfl rfl), s, z, J, L, Y, fun c _ => absurd ((j 5 (by kernel_rfl)).symm.trans c) (by decide), u, fun c => absurd ((j 10 (by kernel_rfl)).symm.trans c) (by decide), r, q, fun c => absurd ((j 5 (by kernel_rfl)).symm.trans c) (by decide), fun c => absurd ((j 6 (by kernel_rfl)).symm.trans c) (by decide), fun c => absurd ((j 7 (by kernel_rfl)).symm.trans c) (by decide), I⟩
  refine BC ?_ ?_
  ·rintro b a w' ⟨v_, D, T, p_, gB, O, bB, cB, Z, X, fB, hB, W, s, z, J, L, Y, U, u, dB, r, q, B, G, aB, I⟩ hb_ l j; refine ⟨_, rfl, fun K hK => ?_⟩; have e3 : a.tmps[3]? = some (.pointer (some ⟨gA, 0, none⟩)) := by rw [W]; exact (DU rfl).trans rfl
   replace W := mk0 W; have FB := mk0 s; have FO := mk0 (z (j 10 (by kernel_rfl))); have z_ := cells5 (AL hx FB.out); refine CJ (w1 := w') (v := .agg #[x0, x1, x2, x3, x4]) (by rfl) rfl ?_ ?_
   ·go_simp; (try simp only [CG]); try rfl
   refine hK.out _ _ ⟨v_, D, T, p_, gB, O, bB, cB, Z, X, fB, hB, (by rw [W.out]; exact BO 1 hb_ rfl rfl rfl), s, z, J, L, Y, fun c _ => absurd ((j 5 (by kernel_rfl)).symm.trans c) (by decide), u, fun c => absurd ((j 10 (by kernel_rfl)).symm.trans c) (by decide), r, q, fun c => absurd ((j 5 (by kernel_rfl)).symm.trans c) (by decide), fun c => absurd ((j 6 (by kernel_rfl)).symm.trans c) (by decide), fun c => absurd ((j 7 (by kernel_rfl)).symm.trans c) (by decide), I⟩
  refine BC ?_ ?_
  ·rintro b a w' ⟨v_, D, T, p_, gB, O, bB, cB, Z, X, fB, hB, W, s, z, J, L, Y, U, u, dB, r, q, B, G, aB, I⟩ hb_ l j; refine ⟨_, rfl, fun K hK => ?_⟩; replace W := mk0 W; have FB := mk0 s; have FO := mk0 (z (j 10 (by kernel_rfl))); refine Ct Try.func40 (by kernel_rfl) rfl #[.int .u8 0] (by rfl) rfl rfl (by first | (simp only [List.map_toArray, List.map_cons, List.map_nil, Act.eval, Array.getD_eq_getD_getElem?, Option.getD_some]; done) | (simp only [List.map_toArray, List.map_cons, List.map_nil, Act.eval, Array.getD_eq_getD_getElem?, Option.getD_some]; rfl)) ?_; refine (Ke (S := (fun k => some k ≠ O)) 0 (fun k hk e => absurd (FO.out k e.symm).2 (Nat.not_lt.mpr hk))).mono ?_; rintro e w2 ⟨v, rfl, hv, hb⟩; refine ⟨_, rfl, ?_⟩; refine hK.out _ _ ⟨v, D, T, p_, gB, O, bB, cB, Z, X, fB, hB, (by rw [W.out]; exact BO 2 hb_ rfl rfl rfl), (AZ FB.out hb), fun _ => (fun g e => ⟨(FO.out g e).1, Nat.lt_of_lt_of_le (FO.out g e).2 (Below.size hb)⟩), fun _ _ => hv, fun c _ => absurd ((j 3 (by kernel_rfl)).symm.trans c) (by decide), fun c o => Kd.Ak (Y c o) hb, fun c _ => absurd ((j 5 (by kernel_rfl)).symm.trans c) (by decide), fun c o => ⟨(u c o).1, AL (u c o).2.1 hb, (u c o).2.2⟩, fun c => absurd ((j 10 (by kernel_rfl)).symm.trans c) (by decide), fun c => absurd ((j 3 (by kernel_rfl)).symm.trans c) (by decide), q, fun c => absurd ((j 5 (by kernel_rfl)).symm.trans c) (by decide), fun c => absurd ((j 6 (by kernel_rfl)).symm.trans c) (by decide), fun c => absurd ((j 7 (by kernel_rfl)).symm.trans c) (by decide), I⟩
  refine BC ?_ ?_
  ·rintro b a w' ⟨v_, D, T, p_, gB, O, bB, cB, Z, X, fB, hB, W, s, z, J, L, Y, U, u, dB, r, q, B, G, aB, I⟩ hb_ l j; refine ⟨_, rfl, fun K hK => ?_⟩; have sJ : a.tmps[35]? = some (v_) := by rw [W]; exact BZ (e := (2, 35, v_)) 2 rfl rfl (l 2 (by kernel_rfl)) rfl
   replace W := mk0 W; have FB := mk0 s; have FO := mk0 (z (j 10 (by kernel_rfl))); have FV := mk0 (J (l 2 (by kernel_rfl)) (j 10 (by kernel_rfl))); obtain ⟨A2, c2, B2, d2, rfl, l2, h2, h3⟩ := FV.out; refine CJ (w1 := ?_) (v := ?_) (by rfl) rfl ?_ ?_; rotate_left 2
   ·go_simp; constructor
    ·rfl
    ·rfl
   refine hK.out _ _ ⟨.agg #[.int .i64 1, .int .i64 0, .slice A2 1 c2, .slice B2 0 d2], w'.heap.size, T, p_, gB, O, (.slice (some ⟨w'.heap.size, 0, none⟩) 1 1), cB, Z, X, fB, hB, (by rw [W.out]; exact BO 3 hb_ rfl rfl rfl), (AZ FB.out (AV (Below.refl _ _) _)), fun _ => (fun g e => ⟨(FO.out g e).1, Nat.lt_of_lt_of_le (FO.out g e).2 (Below.size (AV (Below.refl _ _) _))⟩), fun _ _ => (VB.up FV.out (AV (Below.refl _ _) _)), fun _ _ => OP l2 h2 h3 (fun e => absurd (FO.out _ e.symm).2 (Nat.lt_irrefl _)), fun c o => Kd.Ak (Y c o) (AV (Below.refl _ _) _), fun c _ => absurd ((j 5 (by kernel_rfl)).symm.trans c) (by decide), fun c o => ⟨(u c o).1, AL (u c o).2.1 (AV (Below.refl _ _) _), (u c o).2.2⟩, fun c => absurd ((j 10 (by kernel_rfl)).symm.trans c) (by decide), fun _ => rfl, q, fun c => absurd ((j 5 (by kernel_rfl)).symm.trans c) (by decide), fun c => absurd ((j 6 (by kernel_rfl)).symm.trans c) (by decide), fun c => absurd ((j 7 (by kernel_rfl)).symm.trans c) (by decide), I⟩
  refine BC ?_ ?_
  ·rintro b a w' ⟨v_, D, T, p_, gB, O, bB, cB, Z, X, fB, hB, W, s, z, J, L, Y, U, u, dB, r, q, B, G, aB, I⟩ hb_ l j; refine ⟨_, rfl, fun K hK => ?_⟩; replace W := mk0 W; have FB := mk0 s; have FO := mk0 (z (j 10 (by kernel_rfl))); refine CJ (w1 := ?_) (v := ?_) (by rfl) rfl ?_ ?_; rotate_left 2
   ·go_simp; constructor
    ·rfl
    ·rfl
   refine hK.out _ _ ⟨v_, D, w'.heap.size, p_, gB, O, bB, (.slice (some ⟨w'.heap.size, 0, none⟩) 1 1), Z, X, fB, hB, (by rw [W.out]; exact BO 4 hb_ rfl rfl rfl), (AZ FB.out (AV (Below.refl _ _) _)), fun _ => (fun g e => ⟨(FO.out g e).1, Nat.lt_of_lt_of_le (FO.out g e).2 (Below.size (AV (Below.refl _ _) _))⟩), fun c o => (J c o).up (AV (Below.refl _ _) _), fun c o => Kd.Cj (L c o) (AV (Below.refl _ _) _), fun _ _ => P9 _ _, fun c _ => absurd ((j 5 (by kernel_rfl)).symm.trans c) (by decide), fun c o => ⟨(u c o).1, AL (u c o).2.1 (AV (Below.refl _ _) _), (u c o).2.2⟩, fun c => absurd ((j 10 (by kernel_rfl)).symm.trans c) (by decide), r, fun _ => rfl, fun c => absurd ((j 5 (by kernel_rfl)).symm.trans c) (by decide), fun c => absurd ((j 6 (by kernel_rfl)).symm.trans c) (by decide), fun c => absurd ((j 7 (by kernel_rfl)).symm.trans c) (by decide), I⟩
  refine BC ?_ ?_
  ·rintro b a w' ⟨v_, D, T, p_, gB, O, bB, cB, Z, X, fB, hB, W, s, z, J, L, Y, U, u, dB, r, q, B, G, aB, I⟩ hb_ l j; refine ⟨_, rfl, fun K hK => ?_⟩; have nH : a.tmps[33]? = some (tv) := by rw [W]; exact BZ (e := (0, 33, tv)) 0 rfl rfl (l 0 (by kernel_rfl)) rfl
   have oH : a.tmps[34]? = some (.agg #[x0, x1, x2, x3, x4]) := by rw [W]; exact BZ (e := (1, 34, .agg #[x0, x1, x2, x3, x4])) 1 rfl rfl (l 1 (by kernel_rfl)) rfl
   have lG : a.tmps[36]? = some (bB) := by rw [W]; exact BZ (e := (3, 36, bB)) 3 rfl rfl (l 3 (by kernel_rfl)) rfl
   rw [r (l 3 (by kernel_rfl))] at lG; have mG : a.tmps[37]? = some (cB) := by rw [W]; exact BZ (e := (4, 37, cB)) 4 rfl rfl (l 4 (by kernel_rfl)) rfl
   rw [q (l 4 (by kernel_rfl))] at mG; replace W := mk0 W; have FB := mk0 s; have FO := mk0 (z (j 10 (by kernel_rfl))); have FV := mk0 (J (l 2 (by kernel_rfl)) (j 10 (by kernel_rfl))); have FS := mk0 (L (l 3 (by kernel_rfl)) (j 10 (by kernel_rfl))); have FN := mk0 (Y (l 4 (by kernel_rfl)) (j 10 (by kernel_rfl))); refine Ct Try.func38 (by kernel_rfl) rfl #[tv, .agg #[x0, x1, x2, x3, x4], .int .i64 2, .slice (some ⟨D, 0, none⟩) 1 1, .slice (some ⟨T, 0, none⟩) 1 1, .bool false] (by rfl) rfl rfl (by first | (simp only [List.map_toArray, List.map_cons, List.map_nil, Act.eval, Array.getD_eq_getD_getElem?, Option.getD_some, nH, oH, lG, mG]; done) | (simp only [List.map_toArray, List.map_cons, List.map_nil, Act.eval, Array.getD_eq_getD_getElem?, Option.getD_some, nH, oH, lG, mG]; rfl)) ?_; refine (J5 (S := (fun k => some k ≠ O)) (fun k hk e => absurd (FO.out k e.symm).2 (Nat.not_lt.mpr hk)) 0 0 2 5 [tr 5 1] [tr 7 0] _ false _ 1 _ 1 (Ad HG.out FB.out) ((nC.up FB.out).mono (fun k _ hk e => absurd (FO.out k e.symm).1 (Nat.not_le.mpr hk))) FS.out (Nat.le_refl _) FN.out (Nat.le_refl _) Mq).mono ?_; rintro e w2 ⟨p, rfl, hp, hb⟩; refine ⟨_, rfl, ?_⟩; refine hK.out _ _ ⟨v_, D, T, p, gB, O, bB, cB, (.tuple #[p, .int .i64 0]), X, fB, hB, (by rw [W.out]; exact BO 5 hb_ rfl rfl rfl), (AZ FB.out hb), fun _ => (fun g e => ⟨(FO.out g e).1, Nat.lt_of_lt_of_le (FO.out g e).2 (Below.size hb)⟩), fun _ _ => FV.out.up hb, fun _ _ => Kd.Cj FS.out hb, fun _ _ => Kd.Ak FN.out hb, fun _ _ => hp, fun c o => ⟨(u c o).1, AL (u c o).2.1 hb, (u c o).2.2⟩, fun c => absurd ((j 10 (by kernel_rfl)).symm.trans c) (by decide), r, q, fun _ => rfl, fun c => absurd ((j 6 (by kernel_rfl)).symm.trans c) (by decide), fun c => absurd ((j 7 (by kernel_rfl)).symm.trans c) (by decide), I⟩
  refine BC ?_ ?_
  ·rintro b a w' ⟨v_, D, T, p_, gB, O, bB, cB, Z, X, fB, hB, W, s, z, J, L, Y, U, u, dB, r, q, B, G, aB, I⟩ hb_ l j; refine ⟨_, rfl, fun K hK => ?_⟩; have mI : a.tmps[38]? = some (Z) := by rw [W]; exact BZ (e := (5, 38, Z)) 5 rfl rfl (l 5 (by kernel_rfl)) rfl
   rw [B (l 5 (by kernel_rfl))] at mI; replace W := mk0 W; have FB := mk0 s; have FO := mk0 (z (j 10 (by kernel_rfl))); have FV := mk0 (J (l 2 (by kernel_rfl)) (j 10 (by kernel_rfl))); have FS := mk0 (L (l 3 (by kernel_rfl)) (j 10 (by kernel_rfl))); have FN := mk0 (Y (l 4 (by kernel_rfl)) (j 10 (by kernel_rfl))); have FP := mk0 (U (l 5 (by kernel_rfl)) (j 10 (by kernel_rfl))); refine CJ (w1 := w') (v := .tuple #[p_, .int .i64 0]) (by rfl) rfl ?_ ?_
   ·go_simp; (try simp only [CG]); try rfl
   refine hK.out _ _ ⟨v_, D, T, p_, gB, O, bB, cB, Z, (.tuple #[p_, .int .i64 0]), fB, hB, (by rw [W.out]; exact BO 6 hb_ rfl rfl rfl), s, z, J, L, Y, U, u, fun c => absurd ((j 10 (by kernel_rfl)).symm.trans c) (by decide), r, q, B, fun _ => rfl, fun c => absurd ((j 7 (by kernel_rfl)).symm.trans c) (by decide), I⟩
  refine BC ?_ ?_
  ·rintro b a w' ⟨v_, D, T, p_, gB, O, bB, cB, Z, X, fB, hB, W, s, z, J, L, Y, U, u, dB, r, q, B, G, aB, I⟩ hb_ l j; refine ⟨_, rfl, fun K hK => ?_⟩; have kG : a.tmps[32]? = some (X) := by rw [W]; exact BZ (e := (6, 32, X)) 6 rfl rfl (l 6 (by kernel_rfl)) rfl
   rw [G (l 6 (by kernel_rfl))] at kG; replace W := mk0 W; have FB := mk0 s; have FO := mk0 (z (j 10 (by kernel_rfl))); have FV := mk0 (J (l 2 (by kernel_rfl)) (j 10 (by kernel_rfl))); have FS := mk0 (L (l 3 (by kernel_rfl)) (j 10 (by kernel_rfl))); have FN := mk0 (Y (l 4 (by kernel_rfl)) (j 10 (by kernel_rfl))); have FP := mk0 (U (l 5 (by kernel_rfl)) (j 10 (by kernel_rfl))); refine CJ (w1 := w') (v := p_) (by rfl) rfl ?_ ?_
   ·go_simp; (try simp only [CG]); try rfl
   refine hK.out _ _ ⟨v_, D, T, p_, gB, O, bB, cB, Z, X, (p_), hB, (by rw [W.out]; exact BO 7 hb_ rfl rfl rfl), s, z, J, L, Y, U, u, fun c => absurd ((j 10 (by kernel_rfl)).symm.trans c) (by decide), r, q, B, G, fun _ => rfl, I⟩
  refine BC ?_ ?_
  ·rintro b a w' ⟨v_, D, T, p_, gB, O, bB, cB, Z, X, fB, hB, W, s, z, J, L, Y, U, u, dB, r, q, B, G, aB, I⟩ hb_ l j; refine ⟨_, rfl, fun K hK => ?_⟩; have kG : a.tmps[32]? = some (X) := by rw [W]; exact BZ (e := (6, 32, X)) 6 rfl rfl (l 6 (by kernel_rfl)) rfl
   rw [G (l 6 (by kernel_rfl))] at kG; replace W := mk0 W; have FB := mk0 s; refine CJ (w1 := w') (v := .int .i64 0) (by rfl) rfl ?_ ?_
   ·go_simp; (try simp only [CG]); try rfl
   refine hK.out _ _ ⟨v_, D, T, p_, gB, O, bB, cB, Z, X, fB, hB, (by rw [W.out]; exact BO 8 hb_ rfl rfl rfl), s, z, J, L, Y, U, u, dB, r, q, B, G, aB, I⟩
  refine BC ?_ ?_
  ·rintro b a w' ⟨v_, D, T, p_, gB, O, bB, cB, Z, X, fB, hB, W, s, z, J, L, Y, U, u, dB, r, q, B, G, aB, I⟩ hb_ l j; refine ⟨_, rfl, fun K hK => ?_⟩; replace W := mk0 W; have FB := mk0 s; have FO := mk0 (z (j 10 (by kernel_rfl))); refine CJ (w1 := ?_) (v := ?_) (by rfl) rfl ?_ ?_; rotate_left 2
   ·go_simp; constructor
    ·rfl
    ·rfl
   refine hK.out _ _ ⟨v_, D, T, p_, w'.heap.size, (some w'.heap.size), bB, cB, Z, X, fB, (.pointer (some ⟨w'.heap.size, 0, none⟩)), (by rw [W.out]; exact BO 9 hb_ rfl rfl rfl), (AV FB.out _), fun _ => (fun g e => by cases e; exact ⟨FB.out.size, Dj _ _⟩), fun c o => ((J c o).mono (fun k hk _ e => Nat.ne_of_lt hk (Option.some.inj e))).up (AV (Below.refl _ _) _), fun c o => Kd.G8 (Kd.Cn (Kd.DL (L c o)) (fun k hk e => Nat.ne_of_lt hk.2 (Option.some.inj e))) _, fun c o => Kd.Ak (Y c o) (AV (Below.refl _ _) _), fun c o => ((U c o).mono (fun k hk _ e => Nat.ne_of_lt hk (Option.some.inj e))).up (AV (Below.refl _ _) _), fun _ _ => ⟨rfl, En _ _, FB.out.size⟩, fun c => absurd ((j 10 (by kernel_rfl)).symm.trans c) (by decide), r, q, B, G, aB, fun _ => rfl⟩
  refine BC ?_ ?_
  ·rintro b a w' ⟨v_, D, T, p_, gB, O, bB, cB, Z, X, fB, hB, W, s, z, J, L, Y, U, u, dB, r, q, B, G, aB, I⟩ hb_ l j; refine ⟨_, rfl, fun K hK => ?_⟩; have e5 : a.tmps[5]? = some (hB) := by rw [W]; exact BZ (e := (9, 5, hB)) 9 rfl rfl (l 9 (by kernel_rfl)) rfl
   rw [I (l 9 (by kernel_rfl))] at e5; have oI : a.tmps[39]? = some (fB) := by rw [W]; exact BZ (e := (7, 39, fB)) 7 rfl rfl (l 7 (by kernel_rfl)) rfl
   rw [aB (l 7 (by kernel_rfl))] at oI; replace W := mk0 W; have FB := mk0 s; have FO := mk0 (z hb_); have FV := mk0 (J (l 2 (by kernel_rfl)) hb_); have FS := mk0 (L (l 3 (by kernel_rfl)) hb_); have FN := mk0 (Y (l 4 (by kernel_rfl)) hb_); have FP := mk0 (U (l 5 (by kernel_rfl)) hb_); have FG := mk0 (u (l 9 (by kernel_rfl)) hb_); obtain ⟨A2, c2, B2, d2, E2, e2, rfl, q1, q2, q3, q4, q5⟩ := FP.out; have z_ := cells5 FG.out.2.1; refine ET (w1 := ?_) (by rfl) rfl ?_ ?_; rotate_left
   ·go_simp; rfl
   refine hK.out _ _ ⟨v_, D, T, .agg #[.int .i64 1, .int .i64 0, .slice A2 1 c2, .slice B2 0 d2, .slice E2 1 e2], gB, O, bB, cB, Z, X, fB, hB, (by rw [W.out]; exact FM (v := undef) rfl), (be1 FB ⟨FG.out.2.2⟩), fun c => absurd ((CY b 10).symm.trans c) (by decide), fun _ o => absurd ((CY b 10).symm.trans o) (by decide), fun _ o => absurd ((CY b 10).symm.trans o) (by decide), fun _ o => absurd ((CY b 10).symm.trans o) (by decide), fun _ o => absurd ((CY b 10).symm.trans o) (by decide), fun _ o => absurd ((CY b 10).symm.trans o) (by decide), fun _ => (GL FG.out.2.1 (PL.mono (S' := fun k => k ≠ gB) ⟨A2, c2, B2, d2, E2, e2, rfl, q1, q2, q3, q4, q5⟩ (fun k _ hk e => hk (by rw [FG.out.1, e])))), r, q, B, G, aB, I⟩
  refine BC ?_ ?_
  ·rintro b a w' ⟨v_, D, T, p_, gB, O, bB, cB, Z, X, fB, hB, W, s, z, J, L, Y, U, u, dB, r, q, B, G, aB, I⟩ hb_ l j; refine ⟨_, rfl, fun K hK => ?_⟩; have tJ : a.tmps[40]? = some (.int .i64 0) := by rw [W]; exact BZ (e := (8, 40, .int .i64 0)) 8 rfl rfl (l 8 (by kernel_rfl)) rfl
   replace W := mk0 W; have FB := mk0 s; have FD := mk0 (dB (l 10 (by kernel_rfl))); refine CJ (w1 := w') (v := .int .i64 0) (by rfl) rfl ?_ ?_
   ·go_simp; (try simp only [CG]); try rfl
   refine hK.out _ _ ⟨v_, D, T, p_, gB, O, bB, cB, Z, X, fB, hB, (by rw [W.out]; exact BO 10 hb_ rfl rfl rfl), s, fun c => absurd ((l 10 (by kernel_rfl)).symm.trans c) (by decide), fun _ o => absurd ((l 10 (by kernel_rfl)).symm.trans o) (by decide), fun _ o => absurd ((l 10 (by kernel_rfl)).symm.trans o) (by decide), fun _ o => absurd ((l 10 (by kernel_rfl)).symm.trans o) (by decide), fun _ o => absurd ((l 10 (by kernel_rfl)).symm.trans o) (by decide), fun _ o => absurd ((l 10 (by kernel_rfl)).symm.trans o) (by decide), dB, r, q, B, G, aB, I⟩
  exact Gc
 rintro b a w' jB ⟨v_, D, T, p_, gB, O, bB, cB, Z, X, fB, hB, W, s, z, J, L, Y, U, u, dB, r, q, B, G, aB, I⟩; have vC := jB 0 (by kernel_rfl); have yC := jB 1 (by kernel_rfl); have aD := jB 2 (by kernel_rfl); have dC := jB 3 (by kernel_rfl); have eC := jB 4 (by kernel_rfl); have fC := jB 5 (by kernel_rfl); have iC := jB 6 (by kernel_rfl); have lC := jB 7 (by kernel_rfl); have sC := jB 8 (by kernel_rfl); have jC := jB 9 (by kernel_rfl); have bC := jB 10 (by kernel_rfl); have xC := jB 11 (by kernel_rfl); subst W; obtain rfl := r dC; obtain rfl := q eC; obtain rfl := B fC; obtain rfl := G iC; obtain rfl := aB lC; obtain rfl := I jC; simp only [Ch, vC, yC, aD, dC, eC, fC, iC, lC, sC, jC, bC, xC, if_true, Act.put, List.setIfInBounds_toArray, List.set_cons_zero, List.set_cons_succ]; have FB := mk0 s; clear s; clear z; clear J; clear L; clear Y; clear U; clear u; have FD := mk0 (dB bC); clear dB; clear jB vC yC aD dC eC fC iC lC sC jC bC xC; have hd := FB.out; replace HP := mk0 (HP.out.up hd); replace HA := mk0 (HA.out.up hd); replace HT := mk0 (AL HT.out hd); replace HG := mk0 (Ad HG.out hd); replace HB := mk0 (AZ HB.out hd); have HZ := FD; clear FD FB hd hx nC; try go_wp2
 refine Cz (n := 12) (S := fun w' => True) (ds := []) (tf 0 12) (by kernel_rfl) rfl rfl trivial (fun tB => ?_); refine CB QC PH (fun eB tC => ?_); have hd : Below w'.heap.size w' w'.drew := Af (Below.refl _ _); replace HP := mk0 (HP.out.up hd); replace HA := mk0 (HA.out.up hd); replace HZ := mk0 (HZ.out.up hd); replace HT := mk0 (AL HT.out hd); replace HG := mk0 (Ad HG.out hd); replace HB := mk0 (AZ HB.out hd); clear hd tB; generalize w'.drew = wC at HT HG HB HP HA HZ ⊢; obtain ⟨x0, x1, x2, x3, x4, hx, nC⟩ := HA.out; refine Jr [0, 1, 2, 3, 4, 5, 6, 7, 8, 9, 10, 11] (fun tE b a w' => ∃ (v_ : Value) (D : Nat) (T : Nat) (p_ : Value) (gC : Nat) (O : Option Nat) (bB : Value) (cB : Value) (Z : Value) (X : Value) (fB : Value) (hB : Value), a = Ch tE b [(0, 42, tv), (1, 43, .agg #[x0, x1, x2, x3, x4]), (2, 44, v_), (3, 45, bB), (4, 46, cB), (5, 47, Z), (6, 41, X), (7, 48, fB), (8, 49, .int .i64 0), (9, 7, hB), (11, 8, .int .i64 0)] ∧ (Below wC.heap.size wC w') ∧ (b 10 = false → ∀ g, O = some g → wC.heap.size ≤ g ∧ g < w'.heap.size) ∧ (b 2 = true → b 10 = false → VB w' (fun k => some k ≠ O) 0 v_) ∧ (b 3 = true → b 10 = false → Kd.F k30 w' (fun k => some k ≠ O) (some ⟨D, 0, none⟩) 1 [bv 0]) ∧ (b 4 = true → b 10 = false → Kd.C (Kd.int .i64) w' (some ⟨T, 0, none⟩) 1 [5]) ∧ (b 5 = true → b 10 = false → PL w' (fun k => some k ≠ O) 0 [tr 5 1, tr 7 0] p_) ∧ (b 9 = true → b 10 = false → O = some gC ∧ bk w' gC 33 #[.int .i64 0, .int .i64 0, .slice none 0 0, .slice none 0 0, .slice none 0 0] ∧ wC.heap.size ≤ gC) ∧ (b 10 = true → BP w' gC 0 [tr 5 1, tr 7 0]) ∧ (b 3 = true → (bB : Value) = .slice (some ⟨D, 0, none⟩) 1 1) ∧ (b 4 = true → (cB : Value) = .slice (some ⟨T, 0, none⟩) 1 1) ∧ (b 5 = true → (Z : Value) = .tuple #[p_, .int .i64 0]) ∧ (b 6 = true → (X : Value) = .tuple #[p_, .int .i64 0]) ∧ (b 7 = true → (fB : Value) = p_) ∧ (b 9 = true → (hB : Value) = .pointer (some ⟨gC, 0, none⟩))) eB.out tC.out (by kernel_rfl) (by kernel_rfl) ?_ ?_ ?_
 ·exact ⟨.bool false, 0, 0, .bool false, 0, none, .bool false, .bool false, .bool false, .bool false, .bool false, .bool false, by simp only [Ch, Bool.false_eq_true, if_false], (Below.refl _ _), fun _ => (fun g e => by cases e), fun h_ => absurd h_ (by decide), fun h_ => absurd h_ (by decide), fun h_ => absurd h_ (by decide), fun h_ => absurd h_ (by decide), fun h_ => absurd h_ (by decide), fun h_ => absurd h_ (by decide), fun h_ => absurd h_ (by decide), fun h_ => absurd h_ (by decide), fun h_ => absurd h_ (by decide), fun h_ => absurd h_ (by decide), fun h_ => absurd h_ (by decide), fun h_ => absurd h_ (by decide)⟩
 ·skip
  refine BC ?_ ?_
  ·rintro b a w' ⟨v_, D, T, p_, gC, O, bB, cB, Z, X, fB, hB, W, s, z, J, L, Y, U, u, dB, r, q, B, G, aB, I⟩ hb_ l j; refine ⟨_, rfl, fun K hK => ?_⟩; have e1 : a.tmps[1]? = some (.pointer (some ⟨gT, 0, none⟩)) := by rw [W]; exact (DU rfl).trans rfl
   replace W := mk0 W; have FB := mk0 s; have FO := mk0 (z (j 10 (by kernel_rfl))); have z_ := cells5 (AL HT.out FB.out); refine CJ (w1 := w') (v := tv) (by rfl) rfl ?_ ?_
   ·go_simp; (try simp only [CG]); try rfl
   refine hK.out _ _ ⟨v_, D, T, p_, gC, O, bB, cB, Z, X, fB, hB, (by rw [W.out]; exact BO 0 hb_ rfl rfl rfl), s, z, J, L, Y, fun c _ => absurd ((j 5 (by kernel_rfl)).symm.trans c) (by decide), u, fun c => absurd ((j 10 (by kernel_rfl)).symm.trans c) (by decide), r, q, fun c => absurd ((j 5 (by kernel_rfl)).symm.trans c) (by decide), fun c => absurd ((j 6 (by kernel_rfl)).symm.trans c) (by decide), fun c => absurd ((j 7 (by kernel_rfl)).symm.trans c) (by decide), I⟩
  refine BC ?_ ?_
  ·rintro b a w' ⟨v_, D, T, p_, gC, O, bB, cB, Z, X, fB, hB, W, s, z, J, L, Y, U, u, dB, r, q, B, G, aB, I⟩ hb_ l j; refine ⟨_, rfl, fun K hK => ?_⟩; have e3 : a.tmps[3]? = some (.pointer (some ⟨gA, 0, none⟩)) := by rw [W]; exact (DU rfl).trans rfl
   replace W := mk0 W; have FB := mk0 s; have FO := mk0 (z (j 10 (by kernel_rfl))); have z_ := cells5 (AL hx FB.out); refine CJ (w1 := w') (v := .agg #[x0, x1, x2, x3, x4]) (by rfl) rfl ?_ ?_
   ·go_simp; (try simp only [CG]); try rfl
   refine hK.out _ _ ⟨v_, D, T, p_, gC, O, bB, cB, Z, X, fB, hB, (by rw [W.out]; exact BO 1 hb_ rfl rfl rfl), s, z, J, L, Y, fun c _ => absurd ((j 5 (by kernel_rfl)).symm.trans c) (by decide), u, fun c => absurd ((j 10 (by kernel_rfl)).symm.trans c) (by decide), r, q, fun c => absurd ((j 5 (by kernel_rfl)).symm.trans c) (by decide), fun c => absurd ((j 6 (by kernel_rfl)).symm.trans c) (by decide), fun c => absurd ((j 7 (by kernel_rfl)).symm.trans c) (by decide), I⟩
  refine BC ?_ ?_
  ·rintro b a w' ⟨v_, D, T, p_, gC, O, bB, cB, Z, X, fB, hB, W, s, z, J, L, Y, U, u, dB, r, q, B, G, aB, I⟩ hb_ l j; refine ⟨_, rfl, fun K hK => ?_⟩; replace W := mk0 W; have FB := mk0 s; have FO := mk0 (z (j 10 (by kernel_rfl))); refine Ct Try.func40 (by kernel_rfl) rfl #[.int .u8 0] (by rfl) rfl rfl (by first | (simp only [List.map_toArray, List.map_cons, List.map_nil, Act.eval, Array.getD_eq_getD_getElem?, Option.getD_some]; done) | (simp only [List.map_toArray, List.map_cons, List.map_nil, Act.eval, Array.getD_eq_getD_getElem?, Option.getD_some]; rfl)) ?_; refine (Ke (S := (fun k => some k ≠ O)) 0 (fun k hk e => absurd (FO.out k e.symm).2 (Nat.not_lt.mpr hk))).mono ?_; rintro e w2 ⟨v, rfl, hv, hb⟩; refine ⟨_, rfl, ?_⟩; refine hK.out _ _ ⟨v, D, T, p_, gC, O, bB, cB, Z, X, fB, hB, (by rw [W.out]; exact BO 2 hb_ rfl rfl rfl), (AZ FB.out hb), fun _ => (fun g e => ⟨(FO.out g e).1, Nat.lt_of_lt_of_le (FO.out g e).2 (Below.size hb)⟩), fun _ _ => hv, fun c _ => absurd ((j 3 (by kernel_rfl)).symm.trans c) (by decide), fun c o => Kd.Ak (Y c o) hb, fun c _ => absurd ((j 5 (by kernel_rfl)).symm.trans c) (by decide), fun c o => ⟨(u c o).1, AL (u c o).2.1 hb, (u c o).2.2⟩, fun c => absurd ((j 10 (by kernel_rfl)).symm.trans c) (by decide), fun c => absurd ((j 3 (by kernel_rfl)).symm.trans c) (by decide), q, fun c => absurd ((j 5 (by kernel_rfl)).symm.trans c) (by decide), fun c => absurd ((j 6 (by kernel_rfl)).symm.trans c) (by decide), fun c => absurd ((j 7 (by kernel_rfl)).symm.trans c) (by decide), I⟩
  refine BC ?_ ?_
  ·rintro b a w' ⟨v_, D, T, p_, gC, O, bB, cB, Z, X, fB, hB, W, s, z, J, L, Y, U, u, dB, r, q, B, G, aB, I⟩ hb_ l j; refine ⟨_, rfl, fun K hK => ?_⟩; have uJ : a.tmps[44]? = some (v_) := by rw [W]; exact BZ (e := (2, 44, v_)) 2 rfl rfl (l 2 (by kernel_rfl)) rfl
   replace W := mk0 W; have FB := mk0 s; have FO := mk0 (z (j 10 (by kernel_rfl))); have FV := mk0 (J (l 2 (by kernel_rfl)) (j 10 (by kernel_rfl))); obtain ⟨A2, c2, B2, d2, rfl, l2, h2, h3⟩ := FV.out; refine CJ (w1 := ?_) (v := ?_) (by rfl) rfl ?_ ?_; rotate_left 2
   ·go_simp; constructor
    ·rfl
    ·rfl
   refine hK.out _ _ ⟨.agg #[.int .i64 1, .int .i64 0, .slice A2 1 c2, .slice B2 0 d2], w'.heap.size, T, p_, gC, O, (.slice (some ⟨w'.heap.size, 0, none⟩) 1 1), cB, Z, X, fB, hB, (by rw [W.out]; exact BO 3 hb_ rfl rfl rfl), (AZ FB.out (AV (Below.refl _ _) _)), fun _ => (fun g e => ⟨(FO.out g e).1, Nat.lt_of_lt_of_le (FO.out g e).2 (Below.size (AV (Below.refl _ _) _))⟩), fun _ _ => (VB.up FV.out (AV (Below.refl _ _) _)), fun _ _ => OP l2 h2 h3 (fun e => absurd (FO.out _ e.symm).2 (Nat.lt_irrefl _)), fun c o => Kd.Ak (Y c o) (AV (Below.refl _ _) _), fun c _ => absurd ((j 5 (by kernel_rfl)).symm.trans c) (by decide), fun c o => ⟨(u c o).1, AL (u c o).2.1 (AV (Below.refl _ _) _), (u c o).2.2⟩, fun c => absurd ((j 10 (by kernel_rfl)).symm.trans c) (by decide), fun _ => rfl, q, fun c => absurd ((j 5 (by kernel_rfl)).symm.trans c) (by decide), fun c => absurd ((j 6 (by kernel_rfl)).symm.trans c) (by decide), fun c => absurd ((j 7 (by kernel_rfl)).symm.trans c) (by decide), I⟩
  refine BC ?_ ?_
  ·rintro b a w' ⟨v_, D, T, p_, gC, O, bB, cB, Z, X, fB, hB, W, s, z, J, L, Y, U, u, dB, r, q, B, G, aB, I⟩ hb_ l j; refine ⟨_, rfl, fun K hK => ?_⟩; replace W := mk0 W; have FB := mk0 s; have FO := mk0 (z (j 10 (by kernel_rfl))); refine CJ (w1 := ?_) (v := ?_) (by rfl) rfl ?_ ?_; rotate_left 2
   ·go_simp; constructor
    ·rfl
    ·rfl
   refine hK.out _ _ ⟨v_, D, w'.heap.size, p_, gC, O, bB, (.slice (some ⟨w'.heap.size, 0, none⟩) 1 1), Z, X, fB, hB, (by rw [W.out]; exact BO 4 hb_ rfl rfl rfl), (AZ FB.out (AV (Below.refl _ _) _)), fun _ => (fun g e => ⟨(FO.out g e).1, Nat.lt_of_lt_of_le (FO.out g e).2 (Below.size (AV (Below.refl _ _) _))⟩), fun c o => (J c o).up (AV (Below.refl _ _) _), fun c o => Kd.Cj (L c o) (AV (Below.refl _ _) _), fun _ _ => P9 _ _, fun c _ => absurd ((j 5 (by kernel_rfl)).symm.trans c) (by decide), fun c o => ⟨(u c o).1, AL (u c o).2.1 (AV (Below.refl _ _) _), (u c o).2.2⟩, fun c => absurd ((j 10 (by kernel_rfl)).symm.trans c) (by decide), r, fun _ => rfl, fun c => absurd ((j 5 (by kernel_rfl)).symm.trans c) (by decide), fun c => absurd ((j 6 (by kernel_rfl)).symm.trans c) (by decide), fun c => absurd ((j 7 (by kernel_rfl)).symm.trans c) (by decide), I⟩
  refine BC ?_ ?_
  ·rintro b a w' ⟨v_, D, T, p_, gC, O, bB, cB, Z, X, fB, hB, W, s, z, J, L, Y, U, u, dB, r, q, B, G, aB, I⟩ hb_ l j; refine ⟨_, rfl, fun K hK => ?_⟩; have pH : a.tmps[42]? = some (tv) := by rw [W]; exact BZ (e := (0, 42, tv)) 0 rfl rfl (l 0 (by kernel_rfl)) rfl
   have qH : a.tmps[43]? = some (.agg #[x0, x1, x2, x3, x4]) := by rw [W]; exact BZ (e := (1, 43, .agg #[x0, x1, x2, x3, x4])) 1 rfl rfl (l 1 (by kernel_rfl)) rfl
   have oG : a.tmps[45]? = some (bB) := by rw [W]; exact BZ (e := (3, 45, bB)) 3 rfl rfl (l 3 (by kernel_rfl)) rfl
   rw [r (l 3 (by kernel_rfl))] at oG; have pG : a.tmps[46]? = some (cB) := by rw [W]; exact BZ (e := (4, 46, cB)) 4 rfl rfl (l 4 (by kernel_rfl)) rfl
   rw [q (l 4 (by kernel_rfl))] at pG; replace W := mk0 W; have FB := mk0 s; have FO := mk0 (z (j 10 (by kernel_rfl))); have FV := mk0 (J (l 2 (by kernel_rfl)) (j 10 (by kernel_rfl))); have FS := mk0 (L (l 3 (by kernel_rfl)) (j 10 (by kernel_rfl))); have FN := mk0 (Y (l 4 (by kernel_rfl)) (j 10 (by kernel_rfl))); refine Ct Try.func38 (by kernel_rfl) rfl #[tv, .agg #[x0, x1, x2, x3, x4], .int .i64 2, .slice (some ⟨D, 0, none⟩) 1 1, .slice (some ⟨T, 0, none⟩) 1 1, .bool true] (by rfl) rfl rfl (by first | (simp only [List.map_toArray, List.map_cons, List.map_nil, Act.eval, Array.getD_eq_getD_getElem?, Option.getD_some, pH, qH, oG, pG]; done) | (simp only [List.map_toArray, List.map_cons, List.map_nil, Act.eval, Array.getD_eq_getD_getElem?, Option.getD_some, pH, qH, oG, pG]; rfl)) ?_; refine (J5 (S := (fun k => some k ≠ O)) (fun k hk e => absurd (FO.out k e.symm).2 (Nat.not_lt.mpr hk)) 0 0 2 5 [tr 5 1] [tr 5 1, tr 7 0] _ true _ 1 _ 1 (Ad HG.out FB.out) ((nC.up FB.out).mono (fun k _ hk e => absurd (FO.out k e.symm).1 (Nat.not_le.mpr hk))) FS.out (Nat.le_refl _) FN.out (Nat.le_refl _) Mr).mono ?_; rintro e w2 ⟨p, rfl, hp, hb⟩; refine ⟨_, rfl, ?_⟩; refine hK.out _ _ ⟨v_, D, T, p, gC, O, bB, cB, (.tuple #[p, .int .i64 0]), X, fB, hB, (by rw [W.out]; exact BO 5 hb_ rfl rfl rfl), (AZ FB.out hb), fun _ => (fun g e => ⟨(FO.out g e).1, Nat.lt_of_lt_of_le (FO.out g e).2 (Below.size hb)⟩), fun _ _ => FV.out.up hb, fun _ _ => Kd.Cj FS.out hb, fun _ _ => Kd.Ak FN.out hb, fun _ _ => hp, fun c o => ⟨(u c o).1, AL (u c o).2.1 hb, (u c o).2.2⟩, fun c => absurd ((j 10 (by kernel_rfl)).symm.trans c) (by decide), r, q, fun _ => rfl, fun c => absurd ((j 6 (by kernel_rfl)).symm.trans c) (by decide), fun c => absurd ((j 7 (by kernel_rfl)).symm.trans c) (by decide), I⟩
  refine BC ?_ ?_
  ·rintro b a w' ⟨v_, D, T, p_, gC, O, bB, cB, Z, X, fB, hB, W, s, z, J, L, Y, U, u, dB, r, q, B, G, aB, I⟩ hb_ l j; refine ⟨_, rfl, fun K hK => ?_⟩; have pI : a.tmps[47]? = some (Z) := by rw [W]; exact BZ (e := (5, 47, Z)) 5 rfl rfl (l 5 (by kernel_rfl)) rfl
   rw [B (l 5 (by kernel_rfl))] at pI; replace W := mk0 W; have FB := mk0 s; have FO := mk0 (z (j 10 (by kernel_rfl))); have FV := mk0 (J (l 2 (by kernel_rfl)) (j 10 (by kernel_rfl))); have FS := mk0 (L (l 3 (by kernel_rfl)) (j 10 (by kernel_rfl))); have FN := mk0 (Y (l 4 (by kernel_rfl)) (j 10 (by kernel_rfl))); have FP := mk0 (U (l 5 (by kernel_rfl)) (j 10 (by kernel_rfl))); refine CJ (w1 := w') (v := .tuple #[p_, .int .i64 0]) (by rfl) rfl ?_ ?_
   ·go_simp; (try simp only [CG]); try rfl
   refine hK.out _ _ ⟨v_, D, T, p_, gC, O, bB, cB, Z, (.tuple #[p_, .int .i64 0]), fB, hB, (by rw [W.out]; exact BO 6 hb_ rfl rfl rfl), s, z, J, L, Y, U, u, fun c => absurd ((j 10 (by kernel_rfl)).symm.trans c) (by decide), r, q, B, fun _ => rfl, fun c => absurd ((j 7 (by kernel_rfl)).symm.trans c) (by decide), I⟩
  refine BC ?_ ?_
  ·rintro b a w' ⟨v_, D, T, p_, gC, O, bB, cB, Z, X, fB, hB, W, s, z, J, L, Y, U, u, dB, r, q, B, G, aB, I⟩ hb_ l j; refine ⟨_, rfl, fun K hK => ?_⟩; have nG : a.tmps[41]? = some (X) := by rw [W]; exact BZ (e := (6, 41, X)) 6 rfl rfl (l 6 (by kernel_rfl)) rfl
   rw [G (l 6 (by kernel_rfl))] at nG; replace W := mk0 W; have FB := mk0 s; have FO := mk0 (z (j 10 (by kernel_rfl))); have FV := mk0 (J (l 2 (by kernel_rfl)) (j 10 (by kernel_rfl))); have FS := mk0 (L (l 3 (by kernel_rfl)) (j 10 (by kernel_rfl))); have FN := mk0 (Y (l 4 (by kernel_rfl)) (j 10 (by kernel_rfl))); have FP := mk0 (U (l 5 (by kernel_rfl)) (j 10 (by kernel_rfl))); refine CJ (w1 := w') (v := p_) (by rfl) rfl ?_ ?_
   ·go_simp; (try simp only [CG]); try rfl
   refine hK.out _ _ ⟨v_, D, T, p_, gC, O, bB, cB, Z, X, (p_), hB, (by rw [W.out]; exact BO 7 hb_ rfl rfl rfl), s, z, J, L, Y, U, u, fun c => absurd ((j 10 (by kernel_rfl)).symm.trans c) (by decide), r, q, B, G, fun _ => rfl, I⟩
  refine BC ?_ ?_
  ·rintro b a w' ⟨v_, D, T, p_, gC, O, bB, cB, Z, X, fB, hB, W, s, z, J, L, Y, U, u, dB, r, q, B, G, aB, I⟩ hb_ l j; refine ⟨_, rfl, fun K hK => ?_⟩; have nG : a.tmps[41]? = some (X) := by rw [W]; exact BZ (e := (6, 41, X)) 6 rfl rfl (l 6 (by kernel_rfl)) rfl
   rw [G (l 6 (by kernel_rfl))] at nG; replace W := mk0 W; have FB := mk0 s; refine CJ (w1 := w') (v := .int .i64 0) (by rfl) rfl ?_ ?_
   ·go_simp; (try simp only [CG]); try rfl
   refine hK.out _ _ ⟨v_, D, T, p_, gC, O, bB, cB, Z, X, fB, hB, (by rw [W.out]; exact BO 8 hb_ rfl rfl rfl), s, z, J, L, Y, U, u, dB, r, q, B, G, aB, I⟩
  refine BC ?_ ?_
  ·rintro b a w' ⟨v_, D, T, p_, gC, O, bB, cB, Z, X, fB, hB, W, s, z, J, L, Y, U, u, dB, r, q, B, G, aB, I⟩ hb_ l j; refine ⟨_, rfl, fun K hK => ?_⟩; replace W := mk0 W; have FB := mk0 s; have FO := mk0 (z (j 10 (by kernel_rfl))); refine CJ (w1 := ?_) (v := ?_) (by rfl) rfl ?_ ?_; rotate_left 2
   ·go_simp; constructor
    ·rfl
    ·rfl
   refine hK.out _ _ ⟨v_, D, T, p_, w'.heap.size, (some w'.heap.size), bB, cB, Z, X, fB, (.pointer (some ⟨w'.heap.size, 0, none⟩)), (by rw [W.out]; exact BO 9 hb_ rfl rfl rfl), (AV FB.out _), fun _ => (fun g e => by cases e; exact ⟨FB.out.size, Dj _ _⟩), fun c o => ((J c o).mono (fun k hk _ e => Nat.ne_of_lt hk (Option.some.inj e))).up (AV (Below.refl _ _) _), fun c o => Kd.G8 (Kd.Cn (Kd.DL (L c o)) (fun k hk e => Nat.ne_of_lt hk.2 (Option.some.inj e))) _, fun c o => Kd.Ak (Y c o) (AV (Below.refl _ _) _), fun c o => ((U c o).mono (fun k hk _ e => Nat.ne_of_lt hk (Option.some.inj e))).up (AV (Below.refl _ _) _), fun _ _ => ⟨rfl, En _ _, FB.out.size⟩, fun c => absurd ((j 10 (by kernel_rfl)).symm.trans c) (by decide), r, q, B, G, aB, fun _ => rfl⟩
  refine BC ?_ ?_
  ·rintro b a w' ⟨v_, D, T, p_, gC, O, bB, cB, Z, X, fB, hB, W, s, z, J, L, Y, U, u, dB, r, q, B, G, aB, I⟩ hb_ l j; refine ⟨_, rfl, fun K hK => ?_⟩; have e7 : a.tmps[7]? = some (hB) := by rw [W]; exact BZ (e := (9, 7, hB)) 9 rfl rfl (l 9 (by kernel_rfl)) rfl
   rw [I (l 9 (by kernel_rfl))] at e7; have qI : a.tmps[48]? = some (fB) := by rw [W]; exact BZ (e := (7, 48, fB)) 7 rfl rfl (l 7 (by kernel_rfl)) rfl
   rw [aB (l 7 (by kernel_rfl))] at qI; replace W := mk0 W; have FB := mk0 s; have FO := mk0 (z hb_); have FV := mk0 (J (l 2 (by kernel_rfl)) hb_); have FS := mk0 (L (l 3 (by kernel_rfl)) hb_); have FN := mk0 (Y (l 4 (by kernel_rfl)) hb_); have FP := mk0 (U (l 5 (by kernel_rfl)) hb_); have FG := mk0 (u (l 9 (by kernel_rfl)) hb_); obtain ⟨A2, c2, B2, d2, E2, e2, rfl, q1, q2, q3, q4, q5⟩ := FP.out; have z_ := cells5 FG.out.2.1; refine ET (w1 := ?_) (by rfl) rfl ?_ ?_; rotate_left
   ·go_simp; rfl
   refine hK.out _ _ ⟨v_, D, T, .agg #[.int .i64 1, .int .i64 0, .slice A2 1 c2, .slice B2 0 d2, .slice E2 2 e2], gC, O, bB, cB, Z, X, fB, hB, (by rw [W.out]; exact FM (v := undef) rfl), (be1 FB ⟨FG.out.2.2⟩), fun c => absurd ((CY b 10).symm.trans c) (by decide), fun _ o => absurd ((CY b 10).symm.trans o) (by decide), fun _ o => absurd ((CY b 10).symm.trans o) (by decide), fun _ o => absurd ((CY b 10).symm.trans o) (by decide), fun _ o => absurd ((CY b 10).symm.trans o) (by decide), fun _ o => absurd ((CY b 10).symm.trans o) (by decide), fun _ => (GL FG.out.2.1 (PL.mono (S' := fun k => k ≠ gC) ⟨A2, c2, B2, d2, E2, e2, rfl, q1, q2, q3, q4, q5⟩ (fun k _ hk e => hk (by rw [FG.out.1, e])))), r, q, B, G, aB, I⟩
  refine BC ?_ ?_
  ·rintro b a w' ⟨v_, D, T, p_, gC, O, bB, cB, Z, X, fB, hB, W, s, z, J, L, Y, U, u, dB, r, q, B, G, aB, I⟩ hb_ l j; refine ⟨_, rfl, fun K hK => ?_⟩; have vJ : a.tmps[49]? = some (.int .i64 0) := by rw [W]; exact BZ (e := (8, 49, .int .i64 0)) 8 rfl rfl (l 8 (by kernel_rfl)) rfl
   replace W := mk0 W; have FB := mk0 s; have FD := mk0 (dB (l 10 (by kernel_rfl))); refine CJ (w1 := w') (v := .int .i64 0) (by rfl) rfl ?_ ?_
   ·go_simp; (try simp only [CG]); try rfl
   refine hK.out _ _ ⟨v_, D, T, p_, gC, O, bB, cB, Z, X, fB, hB, (by rw [W.out]; exact BO 10 hb_ rfl rfl rfl), s, fun c => absurd ((l 10 (by kernel_rfl)).symm.trans c) (by decide), fun _ o => absurd ((l 10 (by kernel_rfl)).symm.trans o) (by decide), fun _ o => absurd ((l 10 (by kernel_rfl)).symm.trans o) (by decide), fun _ o => absurd ((l 10 (by kernel_rfl)).symm.trans o) (by decide), fun _ o => absurd ((l 10 (by kernel_rfl)).symm.trans o) (by decide), fun _ o => absurd ((l 10 (by kernel_rfl)).symm.trans o) (by decide), dB, r, q, B, G, aB, I⟩
  exact Gc
 rintro b a w' jB ⟨v_, D, T, p_, gC, O, bB, cB, Z, X, fB, hB, W, s, z, J, L, Y, U, u, dB, r, q, B, G, aB, I⟩; have vC := jB 0 (by kernel_rfl); have yC := jB 1 (by kernel_rfl); have aD := jB 2 (by kernel_rfl); have dC := jB 3 (by kernel_rfl); have eC := jB 4 (by kernel_rfl); have fC := jB 5 (by kernel_rfl); have iC := jB 6 (by kernel_rfl); have lC := jB 7 (by kernel_rfl); have sC := jB 8 (by kernel_rfl); have jC := jB 9 (by kernel_rfl); have bC := jB 10 (by kernel_rfl); have xC := jB 11 (by kernel_rfl); subst W; obtain rfl := r dC; obtain rfl := q eC; obtain rfl := B fC; obtain rfl := G iC; obtain rfl := aB lC; obtain rfl := I jC; simp only [Ch, vC, yC, aD, dC, eC, fC, iC, lC, sC, jC, bC, xC, if_true, Act.put, List.setIfInBounds_toArray, List.set_cons_zero, List.set_cons_succ]; have FB := mk0 s; clear s; clear z; clear J; clear L; clear Y; clear U; clear u; have FD := mk0 (dB bC); clear dB; clear jB vC yC aD dC eC fC iC lC sC jC bC xC; have hd := FB.out; replace HP := mk0 (HP.out.up hd); replace HA := mk0 (HA.out.up hd); replace HZ := mk0 (HZ.out.up hd); replace HT := mk0 (AL HT.out hd); replace HG := mk0 (Ad HG.out hd); replace HB := mk0 (AZ HB.out hd); have HC := FD; clear FD FB hd hx nC; clear HP HA; obtain ⟨A6, c6, B6, d6, E6, e6, hx, nC, xE, _⟩ := HC.out.opens; have zT := cells5 HT.out; have zC := cells5 hx; go_wp2_with (first | (go_at_call 25; refine (Qr 0 5 [tr 5 1, tr 7 0] _ HG.out nC P5).mono ?_; rintro e w6 ⟨rfl, hb⟩; clear zT zC hx nC xE; replace HT := mk0 (AL HT.out hb); replace HG := mk0 (Ad HG.out hb); replace HB := mk0 (AZ HB.out hb); replace HZ := mk0 (HZ.out.up hb); replace HC := mk0 (HC.out.up hb); obtain ⟨A6, c6, B6, d6, E6, e6, hx, nC, xE, _⟩ := HC.out.opens; have zT := cells5 HT.out; have zC := cells5 hx; clear hb) | (go_at_call 28; refine (takeC _ HG.out _ (nC.mono (fun _ _ _ => trivial))).mono ?_; rintro e w7 ⟨p, rfl, ⟨A7, c7, B7, d7, E7, e7, rfl, hp⟩, hb⟩; clear zT zC hx nC xE; replace HT := mk0 (AL HT.out hb); replace HG := mk0 (Ad HG.out hb); replace HB := mk0 (AZ HB.out hb); replace HZ := mk0 (HZ.out.up hb); replace HC := mk0 (HC.out.up hb); have H7 := mk0 hp; clear hp hb) | ((with_reducible refine AU rfl (N := 11) rfl (cs := #[.int .i64 0, .int .i64 0, .slice none 0 0, .slice none 0 0, .slice none 0 0]) (t := 33) ?hr ?_); (case hr => first | (go_simp; done) | (go_simp; rfl)); intro gD hg w8 dD hb; have BQ := mk0 dD; have B3 := mk0 hb; have L3 := mk0 (Nat.le_of_eq hg.symm); clear hb dD hg; have z2 := cells5 BQ.out)); clear z2; refine Qu ?_; intro W0 uE; have vE : Below w7.heap.size w7 W0 := by rw [uE]; exact be1 B3 L3
 have hx : BP W0 gD 1 [tr 7 0] := by rw [uE]; exact GL BQ.out (PL.mono (S := fun k => k < w7.heap.size) (PL.up ⟨A7, c7, B7, d7, E7, e7, rfl, H7.out.1, H7.out.2.1, Kd.Cn (Kd.DL H7.out.2.2.1) (fun k hk => hk.2), Kd.Cn (Kd.DL H7.out.2.2.2.1) (fun k hk => hk.2), Kd.Cn (Kd.DL H7.out.2.2.2.2) (fun k hk => hk.2)⟩ B3.out) (fun k _ hk e => Nat.not_lt.mpr L3.out (e ▸ hk)))
 have hb := vE; replace HT := mk0 (AL HT.out hb); replace HG := mk0 (Ad HG.out hb); replace HB := mk0 (AZ HB.out hb); replace HZ := mk0 (HZ.out.up hb); replace HC := mk0 (HC.out.up hb); have HD := mk0 hx; clear hx hb vE B3 L3 BQ H7 uE; refine Cz (n := 11) (S := fun w' => True) (ds := []) (tf 0 11) (by kernel_rfl) rfl rfl trivial (fun tB => ?_); refine CB QD PI (fun eB tC => ?_); have hd : Below W0.heap.size W0 W0.drew := Af (Below.refl _ _); replace HZ := mk0 (HZ.out.up hd); replace HC := mk0 (HC.out.up hd); replace HD := mk0 (HD.out.up hd); replace HT := mk0 (AL HT.out hd); replace HG := mk0 (Ad HG.out hd); replace HB := mk0 (AZ HB.out hd); clear hd tB; generalize W0.drew = wD at HT HG HB HZ HC HD ⊢; refine Jr [0, 1, 2, 3, 4, 5, 6, 7, 8, 9, 10] (fun tE b a w' => ∃ (v_ : Value) (u_ : Value) (D : Nat) (p_ : Value) (gV : Nat) (O : Option Nat) (bB : Value) (cB : Value) (Z : Value) (X : Value) (cC : Value), a = Ch tE b [(0, 64, tv), (1, 65, v_), (2, 66, u_), (3, 67, bB), (4, 68, cB), (5, 63, Z), (6, 69, X), (7, 70, .int .i64 0), (8, 14, cC), (10, 15, .int .i64 0)] ∧ (Below wD.heap.size wD w') ∧ (b 9 = false → ∀ g, O = some g → wD.heap.size ≤ g ∧ g < w'.heap.size) ∧ (b 1 = true → b 9 = false → VB w' (fun k => some k ≠ O) 3 v_) ∧ (b 2 = true → b 9 = false → VB w' (fun k => some k ≠ O) 1 u_) ∧ (b 3 = true → b 9 = false → Kd.F k30 w' (fun k => some k ≠ O) (some ⟨D, 0, none⟩) 2 [bv 3, bv 1]) ∧ (b 4 = true → b 9 = false → VB w' (fun k => some k ≠ O) 1 p_) ∧ (b 8 = true → b 9 = false → O = some gV ∧ bk w' gV 30 #[.int .i64 0, .int .i64 0, .slice none 0 0, .slice none 0 0] ∧ wD.heap.size ≤ gV) ∧ (b 9 = true → BV w' gV 1) ∧ (b 3 = true → (bB : Value) = .slice (some ⟨D, 0, none⟩) 2 2) ∧ (b 4 = true → (cB : Value) = .tuple #[p_, .int .i64 0]) ∧ (b 5 = true → (Z : Value) = .tuple #[p_, .int .i64 0]) ∧ (b 6 = true → (X : Value) = p_) ∧ (b 8 = true → (cC : Value) = .pointer (some ⟨gV, 0, none⟩))) eB.out tC.out (by kernel_rfl) (by kernel_rfl) ?_ ?_ ?_
 ·exact ⟨.bool false, .bool false, 0, .bool false, 0, none, .bool false, .bool false, .bool false, .bool false, .bool false, by simp only [Ch, Bool.false_eq_true, if_false], (Below.refl _ _), fun _ => (fun g e => by cases e), fun h_ => absurd h_ (by decide), fun h_ => absurd h_ (by decide), fun h_ => absurd h_ (by decide), fun h_ => absurd h_ (by decide), fun h_ => absurd h_ (by decide), fun h_ => absurd h_ (by decide), fun h_ => absurd h_ (by decide), fun h_ => absurd h_ (by decide), fun h_ => absurd h_ (by decide), fun h_ => absurd h_ (by decide), fun h_ => absurd h_ (by decide)⟩
 ·skip
  refine BC ?_ ?_
  ·rintro b a w' ⟨v_, u_, D, p_, gV, O, bB, cB, Z, X, cC, W, s, z, J, aC, L, U, u, dB, r, q, B, G, uB⟩ hb_ l j; refine ⟨_, rfl, fun K hK => ?_⟩; have e1 : a.tmps[1]? = some (.pointer (some ⟨gT, 0, none⟩)) := by rw [W]; exact (DU rfl).trans rfl
   replace W := mk0 W; have FB := mk0 s; have FO := mk0 (z (j 9 (by kernel_rfl))); have z_ := cells5 (AL HT.out FB.out); refine CJ (w1 := w') (v := tv) (by rfl) rfl ?_ ?_
   ·go_simp; (try simp only [CG]); try rfl
   refine hK.out _ _ ⟨v_, u_, D, p_, gV, O, bB, cB, Z, X, cC, (by rw [W.out]; exact BO 0 hb_ rfl rfl rfl), s, z, J, aC, L, fun c _ => absurd ((j 4 (by kernel_rfl)).symm.trans c) (by decide), u, fun c => absurd ((j 9 (by kernel_rfl)).symm.trans c) (by decide), r, fun c => absurd ((j 4 (by kernel_rfl)).symm.trans c) (by decide), fun c => absurd ((j 5 (by kernel_rfl)).symm.trans c) (by decide), fun c => absurd ((j 6 (by kernel_rfl)).symm.trans c) (by decide), uB⟩
  refine BC ?_ ?_
  ·rintro b a w' ⟨v_, u_, D, p_, gV, O, bB, cB, Z, X, cC, W, s, z, J, aC, L, U, u, dB, r, q, B, G, uB⟩ hb_ l j; refine ⟨_, rfl, fun K hK => ?_⟩; replace W := mk0 W; have FB := mk0 s; have FO := mk0 (z (j 9 (by kernel_rfl))); refine Ct Try.func40 (by kernel_rfl) rfl #[.int .u8 3] (by rfl) rfl rfl (by first | (simp only [List.map_toArray, List.map_cons, List.map_nil, Act.eval, Array.getD_eq_getD_getElem?, Option.getD_some]; done) | (simp only [List.map_toArray, List.map_cons, List.map_nil, Act.eval, Array.getD_eq_getD_getElem?, Option.getD_some]; rfl)) ?_; refine (Ke (S := (fun k => some k ≠ O)) 3 (fun k hk e => absurd (FO.out k e.symm).2 (Nat.not_lt.mpr hk))).mono ?_; rintro e w2 ⟨v, rfl, hv, hb⟩; refine ⟨_, rfl, ?_⟩; refine hK.out _ _ ⟨v, u_, D, p_, gV, O, bB, cB, Z, X, cC, (by rw [W.out]; exact BO 1 hb_ rfl rfl rfl), (AZ FB.out hb), fun _ => (fun g e => ⟨(FO.out g e).1, Nat.lt_of_lt_of_le (FO.out g e).2 (Below.size hb)⟩), fun _ _ => hv, fun c _ => absurd ((j 2 (by kernel_rfl)).symm.trans c) (by decide), fun c _ => absurd ((j 3 (by kernel_rfl)).symm.trans c) (by decide), fun c _ => absurd ((j 4 (by kernel_rfl)).symm.trans c) (by decide), fun c o => ⟨(u c o).1, AL (u c o).2.1 hb, (u c o).2.2⟩, fun c => absurd ((j 9 (by kernel_rfl)).symm.trans c) (by decide), fun c => absurd ((j 3 (by kernel_rfl)).symm.trans c) (by decide), fun c => absurd ((j 4 (by kernel_rfl)).symm.trans c) (by decide), fun c => absurd ((j 5 (by kernel_rfl)).symm.trans c) (by decide), fun c => absurd ((j 6 (by kernel_rfl)).symm.trans c) (by decide), uB⟩
  refine BC ?_ ?_
  ·rintro b a w' ⟨v_, u_, D, p_, gV, O, bB, cB, Z, X, cC, W, s, z, J, aC, L, U, u, dB, r, q, B, G, uB⟩ hb_ l j; refine ⟨_, rfl, fun K hK => ?_⟩; replace W := mk0 W; have FB := mk0 s; have FO := mk0 (z (j 9 (by kernel_rfl))); have FV := mk0 (J (l 1 (by kernel_rfl)) (j 9 (by kernel_rfl))); refine Ct Try.func40 (by kernel_rfl) rfl #[.int .u8 1] (by rfl) rfl rfl (by first | (simp only [List.map_toArray, List.map_cons, List.map_nil, Act.eval, Array.getD_eq_getD_getElem?, Option.getD_some]; done) | (simp only [List.map_toArray, List.map_cons, List.map_nil, Act.eval, Array.getD_eq_getD_getElem?, Option.getD_some]; rfl)) ?_; refine (Ke (S := (fun k => some k ≠ O)) 1 (fun k hk e => absurd (FO.out k e.symm).2 (Nat.not_lt.mpr hk))).mono ?_; rintro e w2 ⟨v, rfl, hv, hb⟩; refine ⟨_, rfl, ?_⟩; refine hK.out _ _ ⟨v_, v, D, p_, gV, O, bB, cB, Z, X, cC, (by rw [W.out]; exact BO 2 hb_ rfl rfl rfl), (AZ FB.out hb), fun _ => (fun g e => ⟨(FO.out g e).1, Nat.lt_of_lt_of_le (FO.out g e).2 (Below.size hb)⟩), fun _ _ => FV.out.up hb, fun _ _ => hv, fun c _ => absurd ((j 3 (by kernel_rfl)).symm.trans c) (by decide), fun c _ => absurd ((j 4 (by kernel_rfl)).symm.trans c) (by decide), fun c o => ⟨(u c o).1, AL (u c o).2.1 hb, (u c o).2.2⟩, fun c => absurd ((j 9 (by kernel_rfl)).symm.trans c) (by decide), fun c => absurd ((j 3 (by kernel_rfl)).symm.trans c) (by decide), fun c => absurd ((j 4 (by kernel_rfl)).symm.trans c) (by decide), fun c => absurd ((j 5 (by kernel_rfl)).symm.trans c) (by decide), fun c => absurd ((j 6 (by kernel_rfl)).symm.trans c) (by decide), uB⟩
  refine BC ?_ ?_
  ·rintro b a w' ⟨v_, u_, D, p_, gV, O, bB, cB, Z, X, cC, W, s, z, J, aC, L, U, u, dB, r, q, B, G, uB⟩ hb_ l j; refine ⟨_, rfl, fun K hK => ?_⟩; have xJ : a.tmps[65]? = some (v_) := by rw [W]; exact BZ (e := (1, 65, v_)) 1 rfl rfl (l 1 (by kernel_rfl)) rfl
   have yJ : a.tmps[66]? = some (u_) := by rw [W]; exact BZ (e := (2, 66, u_)) 2 rfl rfl (l 2 (by kernel_rfl)) rfl
   replace W := mk0 W; have FB := mk0 s; have FO := mk0 (z (j 9 (by kernel_rfl))); have FV := mk0 (J (l 1 (by kernel_rfl)) (j 9 (by kernel_rfl))); have FU := mk0 (aC (l 2 (by kernel_rfl)) (j 9 (by kernel_rfl))); obtain ⟨A2, c2, B2, d2, rfl, l2, h2, h3⟩ := FV.out; obtain ⟨A3, c3, B3, d3, rfl, m2, k2, k3⟩ := FU.out; refine CJ (w1 := ?_) (v := ?_) (by rfl) rfl ?_ ?_; rotate_left 2
   ·go_simp; constructor
    ·rfl
    ·rfl
   refine hK.out _ _ ⟨.agg #[.int .i64 1, .int .i64 0, .slice A2 1 c2, .slice B2 0 d2], .agg #[.int .i64 1, .int .i64 0, .slice A3 1 c3, .slice B3 0 d3], w'.heap.size, p_, gV, O, (.slice (some ⟨w'.heap.size, 0, none⟩) 2 2), cB, Z, X, cC, (by rw [W.out]; exact BO 3 hb_ rfl rfl rfl), (AZ FB.out (AV (Below.refl _ _) _)), fun _ => (fun g e => ⟨(FO.out g e).1, Nat.lt_of_lt_of_le (FO.out g e).2 (Below.size (AV (Below.refl _ _) _))⟩), fun _ _ => (VB.up FV.out (AV (Below.refl _ _) _)), fun _ _ => (VB.up FU.out (AV (Below.refl _ _) _)), fun _ _ => P7 l2 h2 h3 m2 k2 k3 (fun e => absurd (FO.out _ e.symm).2 (Nat.lt_irrefl _)), fun c _ => absurd ((j 4 (by kernel_rfl)).symm.trans c) (by decide), fun c o => ⟨(u c o).1, AL (u c o).2.1 (AV (Below.refl _ _) _), (u c o).2.2⟩, fun c => absurd ((j 9 (by kernel_rfl)).symm.trans c) (by decide), fun _ => rfl, fun c => absurd ((j 4 (by kernel_rfl)).symm.trans c) (by decide), fun c => absurd ((j 5 (by kernel_rfl)).symm.trans c) (by decide), fun c => absurd ((j 6 (by kernel_rfl)).symm.trans c) (by decide), uB⟩
  refine BC ?_ ?_
  ·rintro b a w' ⟨v_, u_, D, p_, gV, O, bB, cB, Z, X, cC, W, s, z, J, aC, L, U, u, dB, r, q, B, G, uB⟩ hb_ l j; refine ⟨_, rfl, fun K hK => ?_⟩; have rH : a.tmps[64]? = some (tv) := by rw [W]; exact BZ (e := (0, 64, tv)) 0 rfl rfl (l 0 (by kernel_rfl)) rfl
   have sG : a.tmps[67]? = some (bB) := by rw [W]; exact BZ (e := (3, 67, bB)) 3 rfl rfl (l 3 (by kernel_rfl)) rfl
   rw [r (l 3 (by kernel_rfl))] at sG; replace W := mk0 W; have FB := mk0 s; have FO := mk0 (z (j 9 (by kernel_rfl))); have FV := mk0 (J (l 1 (by kernel_rfl)) (j 9 (by kernel_rfl))); have FU := mk0 (aC (l 2 (by kernel_rfl)) (j 9 (by kernel_rfl))); have FS := mk0 (L (l 3 (by kernel_rfl)) (j 9 (by kernel_rfl))); refine Ct Try.func30 (by kernel_rfl) rfl #[tv, .slice (some ⟨D, 0, none⟩) 2 2] (by rfl) rfl rfl (by first | (simp only [List.map_toArray, List.map_cons, List.map_nil, Act.eval, Array.getD_eq_getD_getElem?, Option.getD_some, rH, sG]; done) | (simp only [List.map_toArray, List.map_cons, List.map_nil, Act.eval, Array.getD_eq_getD_getElem?, Option.getD_some, rH, sG]; rfl)) ?_; refine (OG (S := (fun k => some k ≠ O)) (fun k hk e => absurd (FO.out k e.symm).2 (Nat.not_lt.mpr hk)) 1 [bv 3, bv 1] _ 2 (Ad HG.out FB.out) (Nat.le_refl _) FS.out Mm).mono ?_; rintro e w2 ⟨p, rfl, hp, hb⟩; refine ⟨_, rfl, ?_⟩; refine hK.out _ _ ⟨v_, u_, D, p, gV, O, bB, (.tuple #[p, .int .i64 0]), Z, X, cC, (by rw [W.out]; exact BO 4 hb_ rfl rfl rfl), (AZ FB.out hb), fun _ => (fun g e => ⟨(FO.out g e).1, Nat.lt_of_lt_of_le (FO.out g e).2 (Below.size hb)⟩), fun _ _ => FV.out.up hb, fun _ _ => FU.out.up hb, fun _ _ => Kd.Cj FS.out hb, fun _ _ => hp, fun c o => ⟨(u c o).1, AL (u c o).2.1 hb, (u c o).2.2⟩, fun c => absurd ((j 9 (by kernel_rfl)).symm.trans c) (by decide), r, fun _ => rfl, fun c => absurd ((j 5 (by kernel_rfl)).symm.trans c) (by decide), fun c => absurd ((j 6 (by kernel_rfl)).symm.trans c) (by decide), uB⟩
  refine BC ?_ ?_
  ·rintro b a w' ⟨v_, u_, D, p_, gV, O, bB, cB, Z, X, cC, W, s, z, J, aC, L, U, u, dB, r, q, B, G, uB⟩ hb_ l j; refine ⟨_, rfl, fun K hK => ?_⟩; have tI : a.tmps[68]? = some (cB) := by rw [W]; exact BZ (e := (4, 68, cB)) 4 rfl rfl (l 4 (by kernel_rfl)) rfl
   rw [q (l 4 (by kernel_rfl))] at tI; replace W := mk0 W; have FB := mk0 s; have FO := mk0 (z (j 9 (by kernel_rfl))); have FV := mk0 (J (l 1 (by kernel_rfl)) (j 9 (by kernel_rfl))); have FU := mk0 (aC (l 2 (by kernel_rfl)) (j 9 (by kernel_rfl))); have FS := mk0 (L (l 3 (by kernel_rfl)) (j 9 (by kernel_rfl))); have FP := mk0 (U (l 4 (by kernel_rfl)) (j 9 (by kernel_rfl))); refine CJ (w1 := w') (v := .tuple #[p_, .int .i64 0]) (by rfl) rfl ?_ ?_
   ·go_simp; (try simp only [CG]); try rfl
   refine hK.out _ _ ⟨v_, u_, D, p_, gV, O, bB, cB, (.tuple #[p_, .int .i64 0]), X, cC, (by rw [W.out]; exact BO 5 hb_ rfl rfl rfl), s, z, J, aC, L, U, u, fun c => absurd ((j 9 (by kernel_rfl)).symm.trans c) (by decide), r, q, fun _ => rfl, fun c => absurd ((j 6 (by kernel_rfl)).symm.trans c) (by decide), uB⟩
  refine BC ?_ ?_
  ·rintro b a w' ⟨v_, u_, D, p_, gV, O, bB, cB, Z, X, cC, W, s, z, J, aC, L, U, u, dB, r, q, B, G, uB⟩ hb_ l j; refine ⟨_, rfl, fun K hK => ?_⟩; have rG : a.tmps[63]? = some (Z) := by rw [W]; exact BZ (e := (5, 63, Z)) 5 rfl rfl (l 5 (by kernel_rfl)) rfl
   rw [B (l 5 (by kernel_rfl))] at rG; replace W := mk0 W; have FB := mk0 s; have FO := mk0 (z (j 9 (by kernel_rfl))); have FV := mk0 (J (l 1 (by kernel_rfl)) (j 9 (by kernel_rfl))); have FU := mk0 (aC (l 2 (by kernel_rfl)) (j 9 (by kernel_rfl))); have FS := mk0 (L (l 3 (by kernel_rfl)) (j 9 (by kernel_rfl))); have FP := mk0 (U (l 4 (by kernel_rfl)) (j 9 (by kernel_rfl))); refine CJ (w1 := w') (v := p_) (by rfl) rfl ?_ ?_
   ·go_simp; (try simp only [CG]); try rfl
   refine hK.out _ _ ⟨v_, u_, D, p_, gV, O, bB, cB, Z, (p_), cC, (by rw [W.out]; exact BO 6 hb_ rfl rfl rfl), s, z, J, aC, L, U, u, fun c => absurd ((j 9 (by kernel_rfl)).symm.trans c) (by decide), r, q, B, fun _ => rfl, uB⟩
  refine BC ?_ ?_
  ·rintro b a w' ⟨v_, u_, D, p_, gV, O, bB, cB, Z, X, cC, W, s, z, J, aC, L, U, u, dB, r, q, B, G, uB⟩ hb_ l j; refine ⟨_, rfl, fun K hK => ?_⟩; have rG : a.tmps[63]? = some (Z) := by rw [W]; exact BZ (e := (5, 63, Z)) 5 rfl rfl (l 5 (by kernel_rfl)) rfl
   rw [B (l 5 (by kernel_rfl))] at rG; replace W := mk0 W; have FB := mk0 s; refine CJ (w1 := w') (v := .int .i64 0) (by rfl) rfl ?_ ?_
   ·go_simp; (try simp only [CG]); try rfl
   refine hK.out _ _ ⟨v_, u_, D, p_, gV, O, bB, cB, Z, X, cC, (by rw [W.out]; exact BO 7 hb_ rfl rfl rfl), s, z, J, aC, L, U, u, dB, r, q, B, G, uB⟩
  refine BC ?_ ?_
  ·rintro b a w' ⟨v_, u_, D, p_, gV, O, bB, cB, Z, X, cC, W, s, z, J, aC, L, U, u, dB, r, q, B, G, uB⟩ hb_ l j; refine ⟨_, rfl, fun K hK => ?_⟩; replace W := mk0 W; have FB := mk0 s; have FO := mk0 (z (j 9 (by kernel_rfl))); refine CJ (w1 := ?_) (v := ?_) (by rfl) rfl ?_ ?_; rotate_left 2
   ·go_simp; constructor
    ·rfl
    ·rfl
   refine hK.out _ _ ⟨v_, u_, D, p_, w'.heap.size, (some w'.heap.size), bB, cB, Z, X, (.pointer (some ⟨w'.heap.size, 0, none⟩)), (by rw [W.out]; exact BO 8 hb_ rfl rfl rfl), (AV FB.out _), fun _ => (fun g e => by cases e; exact ⟨FB.out.size, Dj _ _⟩), fun c o => ((J c o).mono (fun k hk _ e => Nat.ne_of_lt hk (Option.some.inj e))).up (AV (Below.refl _ _) _), fun c o => ((aC c o).mono (fun k hk _ e => Nat.ne_of_lt hk (Option.some.inj e))).up (AV (Below.refl _ _) _), fun c o => Kd.G8 (Kd.Cn (Kd.DL (L c o)) (fun k hk e => Nat.ne_of_lt hk.2 (Option.some.inj e))) _, fun c o => ((U c o).mono (fun k hk _ e => Nat.ne_of_lt hk (Option.some.inj e))).up (AV (Below.refl _ _) _), fun _ _ => ⟨rfl, En _ _, FB.out.size⟩, fun c => absurd ((j 9 (by kernel_rfl)).symm.trans c) (by decide), r, q, B, G, fun _ => rfl⟩
  refine BC ?_ ?_
  ·rintro b a w' ⟨v_, u_, D, p_, gV, O, bB, cB, Z, X, cC, W, s, z, J, aC, L, U, u, dB, r, q, B, G, uB⟩ hb_ l j; refine ⟨_, rfl, fun K hK => ?_⟩; have iI : a.tmps[14]? = some (cC) := by rw [W]; exact BZ (e := (8, 14, cC)) 8 rfl rfl (l 8 (by kernel_rfl)) rfl
   rw [uB (l 8 (by kernel_rfl))] at iI; have uI : a.tmps[69]? = some (X) := by rw [W]; exact BZ (e := (6, 69, X)) 6 rfl rfl (l 6 (by kernel_rfl)) rfl
   rw [G (l 6 (by kernel_rfl))] at uI; replace W := mk0 W; have FB := mk0 s; have FO := mk0 (z hb_); have FV := mk0 (J (l 1 (by kernel_rfl)) hb_); have FU := mk0 (aC (l 2 (by kernel_rfl)) hb_); have FS := mk0 (L (l 3 (by kernel_rfl)) hb_); have FP := mk0 (U (l 4 (by kernel_rfl)) hb_); have FG := mk0 (u (l 8 (by kernel_rfl)) hb_); obtain ⟨A2, c2, B2, d2, rfl, q1, q2, q3⟩ := FP.out; have z_ := Ar FG.out.2.1; refine ET (w1 := ?_) (by rfl) rfl ?_ ?_; rotate_left
   ·go_simp; rfl
   refine hK.out _ _ ⟨v_, u_, D, .agg #[.int .i64 1, .int .i64 0, .slice A2 1 c2, .slice B2 0 d2], gV, O, bB, cB, Z, X, cC, (by rw [W.out]; exact FM (v := undef) rfl), (be1 FB ⟨FG.out.2.2⟩), fun c => absurd ((CY b 9).symm.trans c) (by decide), fun _ o => absurd ((CY b 9).symm.trans o) (by decide), fun _ o => absurd ((CY b 9).symm.trans o) (by decide), fun _ o => absurd ((CY b 9).symm.trans o) (by decide), fun _ o => absurd ((CY b 9).symm.trans o) (by decide), fun _ o => absurd ((CY b 9).symm.trans o) (by decide), fun _ => (OO FG.out.2.1 (VB.mono (S' := fun k => k ≠ gV) ⟨A2, c2, B2, d2, rfl, q1, q2, q3⟩ (fun k _ hk e => hk (by rw [FG.out.1, e])))), r, q, B, G, uB⟩
  refine BC ?_ ?_
  ·rintro b a w' ⟨v_, u_, D, p_, gV, O, bB, cB, Z, X, cC, W, s, z, J, aC, L, U, u, dB, r, q, B, G, uB⟩ hb_ l j; refine ⟨_, rfl, fun K hK => ?_⟩; have zJ : a.tmps[70]? = some (.int .i64 0) := by rw [W]; exact BZ (e := (7, 70, .int .i64 0)) 7 rfl rfl (l 7 (by kernel_rfl)) rfl
   replace W := mk0 W; have FB := mk0 s; have FD := mk0 (dB (l 9 (by kernel_rfl))); refine CJ (w1 := w') (v := .int .i64 0) (by rfl) rfl ?_ ?_
   ·go_simp; (try simp only [CG]); try rfl
   refine hK.out _ _ ⟨v_, u_, D, p_, gV, O, bB, cB, Z, X, cC, (by rw [W.out]; exact BO 9 hb_ rfl rfl rfl), s, fun c => absurd ((l 9 (by kernel_rfl)).symm.trans c) (by decide), fun _ o => absurd ((l 9 (by kernel_rfl)).symm.trans o) (by decide), fun _ o => absurd ((l 9 (by kernel_rfl)).symm.trans o) (by decide), fun _ o => absurd ((l 9 (by kernel_rfl)).symm.trans o) (by decide), fun _ o => absurd ((l 9 (by kernel_rfl)).symm.trans o) (by decide), fun _ o => absurd ((l 9 (by kernel_rfl)).symm.trans o) (by decide), dB, r, q, B, G, uB⟩
  exact Gc
 rintro b a w' jB ⟨v_, u_, D, p_, gV, O, bB, cB, Z, X, cC, W, s, z, J, aC, L, U, u, dB, r, q, B, G, uB⟩; have vC := jB 0 (by kernel_rfl); have yC := jB 1 (by kernel_rfl); have aD := jB 2 (by kernel_rfl); have dC := jB 3 (by kernel_rfl); have eC := jB 4 (by kernel_rfl); have fC := jB 5 (by kernel_rfl); have iC := jB 6 (by kernel_rfl); have lC := jB 7 (by kernel_rfl); have sC := jB 8 (by kernel_rfl); have jC := jB 9 (by kernel_rfl); have bC := jB 10 (by kernel_rfl); subst W; obtain rfl := r dC; obtain rfl := q eC; obtain rfl := B fC; obtain rfl := G iC; obtain rfl := uB sC; simp only [Ch, vC, yC, aD, dC, eC, fC, iC, lC, sC, jC, bC, if_true, Act.put, List.setIfInBounds_toArray, List.set_cons_zero, List.set_cons_succ]; have FB := mk0 s; clear s; clear z; clear J; clear aC; clear L; clear U; clear u; have FD := mk0 (dB jC); clear dB; clear jB vC yC aD dC eC fC iC lC sC jC bC; have hd := FB.out; have hb := hd; replace HT := mk0 (AL HT.out hb); replace HG := mk0 (Ad HG.out hb); replace HB := mk0 (AZ HB.out hb); replace HZ := mk0 (HZ.out.up hb); replace HC := mk0 (HC.out.up hb); replace HD := mk0 (HD.out.up hb); have HV := FD; clear FD FB hd hb; obtain ⟨A6, c6, B6, d6, E6, e6, hx, nC, xE, _⟩ := HC.out.opens; have zT := cells5 HT.out; have zC := cells5 hx; go_upto_region 10 with (go_at_call 33; refine (OH 0 6 9 5 [tr 5 1, tr 7 0] [] _ HG.out nC OJ).mono ?_; rintro e w9 ⟨A9, c9, rfl, hb⟩; clear zT zC hx nC xE; replace HT := mk0 (AL HT.out hb); replace HG := mk0 (Ad HG.out hb); replace HB := mk0 (AZ HB.out hb); replace HZ := mk0 (HZ.out.up hb); replace HC := mk0 (HC.out.up hb); replace HD := mk0 (HD.out.up hb); replace HV := mk0 (HV.out.up hb); obtain ⟨A6, c6, B6, d6, E6, e6, hx, nC, xE, _⟩ := HC.out.opens; have zT := cells5 HT.out; have zC := cells5 hx; clear hb); go_wp2_with (go_at_call 33; refine (OH 0 0 6 0 [tr 5 1, tr 7 0] [tr 5 1] _ HG.out nC OL).mono ?_; rintro e wE ⟨kJ, nJ, rfl, hb⟩; clear zT zC hx nC xE; replace HT := mk0 (AL HT.out hb); replace HG := mk0 (Ad HG.out hb); replace HB := mk0 (AZ HB.out hb); replace HZ := mk0 (HZ.out.up hb); replace HC := mk0 (HC.out.up hb); replace HD := mk0 (HD.out.up hb); replace HV := mk0 (HV.out.up hb); clear hb); obtain ⟨A6, c6, B6, d6, E6, e6, hC, pC, _, _⟩ := HC.out.opens; obtain ⟨A8, c8, B8, d8, E8, e8, hZ, _, xI, _⟩ := HZ.out.opens; obtain ⟨A7, c7, B7, d7, E7, e7, hD, _, _, vD⟩ := HD.out.opens; obtain ⟨A5, c5, B5, d5, hV, vV⟩ := HV.out.opens; obtain ⟨ad, _, _, _, _, rfl, tG, _⟩ := Cq xI 0 (by decide) (by decide); replace tG : wE.cell? ad = some (.int .i64 7) := by rwa [show ((0 : Int)).toNat * 5 = 0 from rfl, Addr.add_zero'] at tG
 have hS : ∀ w', Below wE.heap.size wE w' → (w'.cell? ⟨gT, 0, none⟩ = some (.int .i64 1) ∧ w'.cell? ⟨gT, 1, none⟩ = some (.int .i64 0) ∧ w'.cell? ⟨gT, 2, none⟩ = some (.string ⟨#[]⟩) ∧ w'.cell? ⟨gT, 3, none⟩ = some (.slice none 0 0) ∧ w'.cell? ⟨gT, 4, none⟩ = some (.slice none 0 0) ∧ w'.cell? ⟨gB, 0, none⟩ = some (.int .i64 1) ∧ w'.cell? ⟨gB, 1, none⟩ = some (.int .i64 0) ∧ w'.cell? ⟨gB, 2, none⟩ = some (.slice A8 1 c8) ∧ w'.cell? ⟨gB, 3, none⟩ = some (.slice B8 0 d8) ∧ w'.cell? ⟨gB, 4, none⟩ = some (.slice (some ad) 1 e8) ∧ w'.cell? ⟨gC, 0, none⟩ = some (.int .i64 1) ∧ w'.cell? ⟨gC, 1, none⟩ = some (.int .i64 0) ∧ w'.cell? ⟨gC, 2, none⟩ = some (.slice A6 1 c6) ∧ w'.cell? ⟨gC, 3, none⟩ = some (.slice B6 0 d6) ∧ w'.cell? ⟨gC, 4, none⟩ = some (.slice E6 2 e6) ∧ w'.cell? ⟨gD, 0, none⟩ = some (.int .i64 1) ∧ w'.cell? ⟨gD, 1, none⟩ = some (.int .i64 0) ∧ w'.cell? ⟨gD, 2, none⟩ = some (.slice A7 1 c7) ∧ w'.cell? ⟨gD, 3, none⟩ = some (.slice B7 0 d7) ∧ w'.cell? ⟨gD, 4, none⟩ = some (.slice E7 1 e7) ∧ w'.cell? ⟨gV, 0, none⟩ = some (.int .i64 1) ∧ w'.cell? ⟨gV, 1, none⟩ = some (.int .i64 0) ∧ w'.cell? ⟨gV, 2, none⟩ = some (.slice A5 1 c5) ∧ w'.cell? ⟨gV, 3, none⟩ = some (.slice B5 0 d5) ∧ w'.cell? ad = some (.int .i64 7)) := fun w' hb => ⟨(AO (AL HT.out hb) 0).trans rfl, (AO (AL HT.out hb) 1).trans rfl, (AO (AL HT.out hb) 2).trans rfl, (AO (AL HT.out hb) 3).trans rfl, (AO (AL HT.out hb) 4).trans rfl, (AO (AL hZ hb) 0).trans rfl, (AO (AL hZ hb) 1).trans rfl, (AO (AL hZ hb) 2).trans rfl, (AO (AL hZ hb) 3).trans rfl, (AO (AL hZ hb) 4).trans rfl, (AO (AL hC hb) 0).trans rfl, (AO (AL hC hb) 1).trans rfl, (AO (AL hC hb) 2).trans rfl, (AO (AL hC hb) 3).trans rfl, (AO (AL hC hb) 4).trans rfl, (AO (AL hD hb) 0).trans rfl, (AO (AL hD hb) 1).trans rfl, (AO (AL hD hb) 2).trans rfl, (AO (AL hD hb) 3).trans rfl, (AO (AL hD hb) 4).trans rfl, (AO (AL hV hb) 0).trans rfl, (AO (AL hV hb) 1).trans rfl, (AO (AL hV hb) 2).trans rfl, (AO (AL hV hb) 3).trans rfl, AY hb tG⟩; refine Cz (n := 89) (S := fun w' => w'.cell? ⟨gT, 0, none⟩ = some (.int .i64 1) ∧ w'.cell? ⟨gT, 1, none⟩ = some (.int .i64 0) ∧ w'.cell? ⟨gT, 2, none⟩ = some (.string ⟨#[]⟩) ∧ w'.cell? ⟨gT, 3, none⟩ = some (.slice none 0 0) ∧ w'.cell? ⟨gT, 4, none⟩ = some (.slice none 0 0) ∧ w'.cell? ⟨gB, 0, none⟩ = some (.int .i64 1) ∧ w'.cell? ⟨gB, 1, none⟩ = some (.int .i64 0) ∧ w'.cell? ⟨gB, 2, none⟩ = some (.slice A8 1 c8) ∧ w'.cell? ⟨gB, 3, none⟩ = some (.slice B8 0 d8) ∧ w'.cell? ⟨gB, 4, none⟩ = some (.slice (some ad) 1 e8) ∧ w'.cell? ⟨gC, 0, none⟩ = some (.int .i64 1) ∧ w'.cell? ⟨gC, 1, none⟩ = some (.int .i64 0) ∧ w'.cell? ⟨gC, 2, none⟩ = some (.slice A6 1 c6) ∧ w'.cell? ⟨gC, 3, none⟩ = some (.slice B6 0 d6) ∧ w'.cell? ⟨gC, 4, none⟩ = some (.slice E6 2 e6) ∧ w'.cell? ⟨gD, 0, none⟩ = some (.int .i64 1) ∧ w'.cell? ⟨gD, 1, none⟩ = some (.int .i64 0) ∧ w'.cell? ⟨gD, 2, none⟩ = some (.slice A7 1 c7) ∧ w'.cell? ⟨gD, 3, none⟩ = some (.slice B7 0 d7) ∧ w'.cell? ⟨gD, 4, none⟩ = some (.slice E7 1 e7) ∧ w'.cell? ⟨gV, 0, none⟩ = some (.int .i64 1) ∧ w'.cell? ⟨gV, 1, none⟩ = some (.int .i64 0) ∧ w'.cell? ⟨gV, 2, none⟩ = some (.slice A5 1 c5) ∧ w'.cell? ⟨gV, 3, none⟩ = some (.slice B5 0 d5) ∧ w'.cell? ad = some (.int .i64 7)) (ds := []) (awL 0) (by kernel_rfl) rfl (by kernel_rfl) (hS _ (Af (Below.refl _ _))) (fun tB => ?_); refine CB PK OQ (fun eB tC => ?_); have HR := mk0 (Af (Below.refl wE.heap.size wE)); have HS := mk0 hS; clear hS; generalize wE.drew = wF at HR tB ⊢; refine pu_ (v := ?_) (a' := ?_) 0 83 (awL 1) eB ?_ ?_ ?_; rotate_left
 ·intro w'; go_simp; with_reducible rfl
 rotate_left
 ·simp only [ps]; rfl
 refine pu_ (v := ?_) (a' := ?_) 1 84 (awL 2) eB ?_ ?_ ?_; rotate_left
 ·intro w'; go_simp; with_reducible rfl
 rotate_left
 ·simp only [ps]; rfl
 refine pu_ (v := ?_) (a' := ?_) 2 85 (awL 3) eB ?_ ?_ ?_; rotate_left
 ·intro w'; go_simp; with_reducible rfl
 rotate_left
 ·simp only [ps]; rfl
 refine pu_ (v := ?_) (a' := ?_) 3 86 (awL 4) eB ?_ ?_ ?_; rotate_left
 ·intro w'; go_simp; with_reducible rfl
 rotate_left
 ·simp only [ps]; rfl
 refine pu_ (v := ?_) (a' := ?_) 4 87 (awL 5) eB ?_ ?_ ?_; rotate_left
 ·intro w'; go_simp; with_reducible rfl
 rotate_left
 ·simp only [ps]; rfl
 refine pu_ (v := ?_) (a' := ?_) 5 88 (awL 6) eB ?_ ?_ ?_; rotate_left
 ·intro w'; go_simp; with_reducible rfl
 rotate_left
 ·simp only [ps]; rfl
 refine pu_ (v := ?_) (a' := ?_) 6 89 (awL 7) eB ?_ ?_ ?_; rotate_left
 ·intro w'; go_simp; with_reducible rfl
 rotate_left
 ·simp only [ps]; rfl
 refine pu_ (v := ?_) (a' := ?_) 7 90 (awL 8) eB ?_ ?_ ?_; rotate_left
 ·intro w'; go_simp; with_reducible rfl
 rotate_left
 ·simp only [ps]; rfl
 refine Bn (i := 8) (N := some 91) (v := ?_) (a' := ?_) (awL 9) rfl rfl (Am eB.out tC.out (by kernel_rfl)) (fun _ _ _ h => h) (Or.inl ⟨by rfl, ?_⟩) tB ?_ ?_; rotate_left
 ·rintro w' ⟨s0, s1, s2, s3, s4, s5, s6, s7, s8, s9, sD, tD, uD, xD, yD, zD, aE, bE, cE, dE, eE, fE, gE, hE, jE⟩; go_simp; with_reducible rfl
 rotate_left
 ·simp only [ps]; rfl
 refine pu_ (v := ?_) (a' := ?_) 9 92 (awL 10) eB ?_ ?_ ?_; rotate_left
 ·intro w'; go_simp; with_reducible rfl
 rotate_left
 ·simp only [ps]; rfl
 refine pu_ (v := ?_) (a' := ?_) 10 93 (awL 11) eB ?_ ?_ ?_; rotate_left
 ·intro w'; go_simp; with_reducible rfl
 rotate_left
 ·simp only [ps]; rfl
 refine pu_ (v := ?_) (a' := ?_) 11 94 (awL 12) eB ?_ ?_ ?_; rotate_left
 ·intro w'; go_simp; with_reducible rfl
 rotate_left
 ·simp only [ps]; rfl
 refine pu_ (v := ?_) (a' := ?_) 12 95 (awL 13) eB ?_ ?_ ?_; rotate_left
 ·intro w'; go_simp; with_reducible rfl
 rotate_left
 ·simp only [ps]; rfl
 refine pu_ (v := ?_) (a' := ?_) 13 96 (awL 14) eB ?_ ?_ ?_; rotate_left
 ·intro w'; go_simp; with_reducible rfl
 rotate_left
 ·simp only [ps]; rfl
 refine Bn (i := 14) (N := some 97) (v := ?_) (a' := ?_) (awL 15) rfl rfl (Am eB.out tC.out (by kernel_rfl)) (fun _ _ _ h => h) (Or.inl ⟨by rfl, ?_⟩) tB ?_ ?_; rotate_left
 ·rintro w' ⟨s0, s1, s2, s3, s4, s5, s6, s7, s8, s9, sD, tD, uD, xD, yD, zD, aE, bE, cE, dE, eE, fE, gE, hE, jE⟩; go_simp; with_reducible rfl
 rotate_left
 ·simp only [ps]; rfl
 refine pu_ (v := ?_) (a' := ?_) 15 98 (awL 16) eB ?_ ?_ ?_; rotate_left
 ·intro w'; go_simp; with_reducible rfl
 rotate_left
 ·simp only [ps]; rfl
 refine pu_ (v := ?_) (a' := ?_) 16 99 (awL 17) eB ?_ ?_ ?_; rotate_left
 ·intro w'; go_simp; with_reducible rfl
 rotate_left
 ·simp only [ps]; rfl
 refine Bn (i := 17) (N := some 100) (v := ?_) (a' := ?_) (awL 18) rfl rfl (Am eB.out tC.out (by kernel_rfl)) (fun _ _ _ h => h) (Or.inl ⟨by rfl, ?_⟩) tB ?_ ?_; rotate_left
 ·rintro w' ⟨s0, s1, s2, s3, s4, s5, s6, s7, s8, s9, sD, tD, uD, xD, yD, zD, aE, bE, cE, dE, eE, fE, gE, hE, jE⟩; go_simp; with_reducible rfl
 rotate_left
 ·simp only [ps]; rfl
 refine pu_ (v := ?_) (a' := ?_) 18 101 (awL 19) eB ?_ ?_ ?_; rotate_left
 ·intro w'; go_simp; with_reducible rfl
 rotate_left
 ·simp only [ps]; rfl
 refine pu_ (v := ?_) (a' := ?_) 19 102 (awL 20) eB ?_ ?_ ?_; rotate_left
 ·intro w'; go_simp; with_reducible rfl
 rotate_left
 ·simp only [ps]; rfl
 refine pu_ (v := ?_) (a' := ?_) 20 103 (awL 21) eB ?_ ?_ ?_; rotate_left
 ·intro w'; go_simp; with_reducible rfl
 rotate_left
 ·simp only [ps]; rfl
 refine pu_ (v := ?_) (a' := ?_) 21 104 (awL 22) eB ?_ ?_ ?_; rotate_left
 ·intro w'; go_simp; with_reducible rfl
 rotate_left
 ·simp only [ps]; rfl
 refine pu_ (v := ?_) (a' := ?_) 22 105 (awL 23) eB ?_ ?_ ?_; rotate_left
 ·intro w'; go_simp; with_reducible rfl
 rotate_left
 ·simp only [ps]; rfl
 refine pu_ (v := ?_) (a' := ?_) 23 106 (awL 24) eB ?_ ?_ ?_; rotate_left
 ·intro w'; go_simp; with_reducible rfl
 rotate_left
 ·simp only [ps]; rfl
 refine pu_ (v := ?_) (a' := ?_) 24 107 (awL 25) eB ?_ ?_ ?_; rotate_left
 ·intro w'; go_simp; with_reducible rfl
 rotate_left
 ·simp only [ps]; rfl
 refine pu_ (v := ?_) (a' := ?_) 25 108 (awL 26) eB ?_ ?_ ?_; rotate_left
 ·intro w'; go_simp; with_reducible rfl
 rotate_left
 ·simp only [ps]; rfl
 refine Bn (i := 26) (N := some 109) (v := ?_) (a' := ?_) (awL 27) rfl rfl (Am eB.out tC.out (by kernel_rfl)) (fun _ _ _ h => h) (Or.inl ⟨by rfl, ?_⟩) tB ?_ ?_; rotate_left
 ·rintro w' ⟨s0, s1, s2, s3, s4, s5, s6, s7, s8, s9, sD, tD, uD, xD, yD, zD, aE, bE, cE, dE, eE, fE, gE, hE, jE⟩; go_simp; with_reducible rfl
 rotate_left
 ·simp only [ps]; rfl
 refine pu_ (v := ?_) (a' := ?_) 27 110 (awL 28) eB ?_ ?_ ?_; rotate_left
 ·intro w'; go_simp; with_reducible rfl
 rotate_left
 ·simp only [ps]; rfl
 refine pu_ (v := ?_) (a' := ?_) 28 111 (awL 29) eB ?_ ?_ ?_; rotate_left
 ·intro w'; go_simp; with_reducible rfl
 rotate_left
 ·simp only [ps]; rfl
 refine pu_ (v := ?_) (a' := ?_) 29 112 (awL 30) eB ?_ ?_ ?_; rotate_left
 ·intro w'; go_simp; with_reducible rfl
 rotate_left
 ·simp only [ps]; rfl
 refine pu_ (v := ?_) (a' := ?_) 30 113 (awL 31) eB ?_ ?_ ?_; rotate_left
 ·intro w'; go_simp; with_reducible rfl
 rotate_left
 ·simp only [ps]; rfl
 refine pu_ (v := ?_) (a' := ?_) 31 114 (awL 32) eB ?_ ?_ ?_; rotate_left
 ·intro w'; go_simp; with_reducible rfl
 rotate_left
 ·simp only [ps]; rfl
 refine pu_ (v := ?_) (a' := ?_) 32 115 (awL 33) eB ?_ ?_ ?_; rotate_left
 ·intro w'; go_simp; with_reducible rfl
 rotate_left
 ·simp only [ps]; rfl
 refine pu_ (v := ?_) (a' := ?_) 33 116 (awL 34) eB ?_ ?_ ?_; rotate_left
 ·intro w'; go_simp; with_reducible rfl
 rotate_left
 ·simp only [ps]; rfl
 refine pu_ (v := ?_) (a' := ?_) 34 117 (awL 35) eB ?_ ?_ ?_; rotate_left
 ·intro w'; go_simp; with_reducible rfl
 rotate_left
 ·simp only [ps]; rfl
 refine pu_ (v := ?_) (a' := ?_) 35 118 (awL 36) eB ?_ ?_ ?_; rotate_left
 ·intro w'; go_simp; with_reducible rfl
 rotate_left
 ·simp only [ps]; rfl
 refine pu_ (v := ?_) (a' := ?_) 36 119 (awL 37) eB ?_ ?_ ?_; rotate_left
 ·intro w'; go_simp; with_reducible rfl
 rotate_left
 ·simp only [ps]; rfl
 refine pu_ (v := ?_) (a' := ?_) 37 120 (awL 38) eB ?_ ?_ ?_; rotate_left
 ·intro w'; go_simp; with_reducible rfl
 rotate_left
 ·simp only [ps]; rfl
 refine pu_ (v := ?_) (a' := ?_) 38 121 (awL 39) eB ?_ ?_ ?_; rotate_left
 ·intro w'; go_simp; with_reducible rfl
 rotate_left
 ·simp only [ps]; rfl
 refine pu_ (v := ?_) (a' := ?_) 39 122 (awL 40) eB ?_ ?_ ?_; rotate_left
 ·intro w'; go_simp; with_reducible rfl
 rotate_left
 ·simp only [ps]; rfl
 refine pu_ (v := ?_) (a' := ?_) 40 123 (awL 41) eB ?_ ?_ ?_; rotate_left
 ·intro w'; go_simp; with_reducible rfl
 rotate_left
 ·simp only [ps]; rfl
 refine pu_ (v := ?_) (a' := ?_) 41 124 (awL 42) eB ?_ ?_ ?_; rotate_left
 ·intro w'; go_simp; with_reducible rfl
 rotate_left
 ·simp only [ps]; rfl
 refine pu_ (v := ?_) (a' := ?_) 42 125 (awL 43) eB ?_ ?_ ?_; rotate_left
 ·intro w'; go_simp; with_reducible rfl
 rotate_left
 ·simp only [ps]; rfl
 refine pu_ (v := ?_) (a' := ?_) 43 126 (awL 44) eB ?_ ?_ ?_; rotate_left
 ·intro w'; go_simp; with_reducible rfl
 rotate_left
 ·simp only [ps]; rfl
 refine pu_ (v := ?_) (a' := ?_) 44 127 (awL 45) eB ?_ ?_ ?_; rotate_left
 ·intro w'; go_simp; with_reducible rfl
 rotate_left
 ·simp only [ps]; rfl
 refine pu_ (v := ?_) (a' := ?_) 45 128 (awL 46) eB ?_ ?_ ?_; rotate_left
 ·intro w'; go_simp; with_reducible rfl
 rotate_left
 ·simp only [ps]; rfl
 refine pu_ (v := ?_) (a' := ?_) 46 129 (awL 47) eB ?_ ?_ ?_; rotate_left
 ·intro w'; go_simp; with_reducible rfl
 rotate_left
 ·simp only [ps]; rfl
 refine Bn (i := 47) (N := some 130) (v := ?_) (a' := ?_) (awL 48) rfl rfl (Am eB.out tC.out (by kernel_rfl)) (fun _ _ _ h => h) (Or.inl ⟨by rfl, ?_⟩) tB ?_ ?_; rotate_left
 ·rintro w' ⟨s0, s1, s2, s3, s4, s5, s6, s7, s8, s9, sD, tD, uD, xD, yD, zD, aE, bE, cE, dE, eE, fE, gE, hE, jE⟩; go_simp; with_reducible rfl
 rotate_left
 ·simp only [ps]; rfl
 refine pu_ (v := ?_) (a' := ?_) 48 131 (awL 49) eB ?_ ?_ ?_; rotate_left
 ·intro w'; go_simp; with_reducible rfl
 rotate_left
 ·simp only [ps]; rfl
 refine pu_ (v := ?_) (a' := ?_) 49 132 (awL 50) eB ?_ ?_ ?_; rotate_left
 ·intro w'; go_simp; with_reducible rfl
 rotate_left
 ·simp only [ps]; rfl
 refine pu_ (v := ?_) (a' := ?_) 50 133 (awL 51) eB ?_ ?_ ?_; rotate_left
 ·intro w'; go_simp; with_reducible rfl
 rotate_left
 ·simp only [ps]; rfl
 refine pu_ (v := ?_) (a' := ?_) 51 134 (awL 52) eB ?_ ?_ ?_; rotate_left
 ·intro w'; go_simp; with_reducible rfl
 rotate_left
 ·simp only [ps]; rfl
 refine pu_ (v := ?_) (a' := ?_) 52 135 (awL 53) eB ?_ ?_ ?_; rotate_left
 ·intro w'; go_simp; with_reducible rfl
 rotate_left
 ·simp only [ps]; rfl
 refine Bn (i := 53) (N := some 136) (v := ?_) (a' := ?_) (awL 54) rfl rfl (Am eB.out tC.out (by kernel_rfl)) (fun _ _ _ h => h) (Or.inl ⟨by rfl, ?_⟩) tB ?_ ?_; rotate_left
 ·rintro w' ⟨s0, s1, s2, s3, s4, s5, s6, s7, s8, s9, sD, tD, uD, xD, yD, zD, aE, bE, cE, dE, eE, fE, gE, hE, jE⟩; go_simp; with_reducible rfl
 rotate_left
 ·simp only [ps]; rfl
 refine Cx (i := 54) (N := some 137) (awL 55) rfl rfl (Br eB.out (by kernel_rfl)) (by decide) (fun K hK => ?_); refine Ct Try.func40 (by kernel_rfl) rfl #[.int .u8 1] (by rfl) rfl rfl (by (try simp only [List.map_toArray, List.map_cons, List.map_nil]); first | done | rfl | (simp only [List.length_drop, List.length_take]; rfl)) ?_; refine (Ke (S := fun _ => True) 1 (fun _ _ => trivial)).mono ?_; rintro e v1 ⟨_, rfl, ⟨Ab, eF, Bb, db, rfl, gF⟩, hb⟩; refine ⟨_, rfl, ?_⟩; replace HR := mk0 (AZ HR.out hb); clear hb; have HW := mk0 gF; clear gF; refine hK.out _ _ (HS.out _ HR.out) (fun tB => ?_); clear hK K; refine nz 137 ?_; refine Cx (i := 55) (N := some 138) (awL 56) rfl rfl (Br eB.out (by kernel_rfl)) (by decide) (fun K hK => ?_); refine Ct Try.func32 (by kernel_rfl) rfl #[.agg #[.int .i64 1, .int .i64 0, .slice A7 1 c7, .slice B7 0 d7], .agg #[.int .i64 1, .int .i64 0, .slice Ab 1 eF, .slice Bb 0 db]] (by rfl) rfl rfl (by (try simp only [List.map_toArray, List.map_cons, List.map_nil]); first | done | rfl | (simp only [List.length_drop, List.length_take]; rfl)) ?_; refine (OE (S := fun _ => True) 1 _ _ (VB.up vD HR.out) ⟨Ab, eF, Bb, db, rfl, HW.out⟩ MH).mono ?_; rintro e v2 ⟨rfl, hb⟩; refine ⟨_, rfl, ?_⟩; replace HR := mk0 (AZ HR.out hb); clear hb; clear HW; refine hK.out _ _ (HS.out _ HR.out) (fun tB => ?_); clear hK K; refine nz 138 ?_; refine pu_ (v := ?_) (a' := ?_) 56 139 (awL 57) eB ?_ ?_ ?_; rotate_left
 ·intro w'; go_simp; with_reducible rfl
 rotate_left
 ·simp only [ps]; rfl
 refine pu_ (v := ?_) (a' := ?_) 57 140 (awL 58) eB ?_ ?_ ?_; rotate_left
 ·intro w'; go_simp; with_reducible rfl
 rotate_left
 ·simp only [ps]; rfl
 refine Bn (i := 58) (N := some 141) (v := ?_) (a' := ?_) (awL 59) rfl rfl (Am eB.out tC.out (by kernel_rfl)) (fun _ _ _ h => h) (Or.inl ⟨by rfl, ?_⟩) tB ?_ ?_; rotate_left
 ·rintro w' ⟨s0, s1, s2, s3, s4, s5, s6, s7, s8, s9, sD, tD, uD, xD, yD, zD, aE, bE, cE, dE, eE, fE, gE, hE, jE⟩; go_simp; with_reducible rfl
 rotate_left
 ·simp only [ps]; rfl
 refine Cx (i := 59) (N := some 142) (awL 60) rfl rfl (Br eB.out (by kernel_rfl)) (by decide) (fun K hK => ?_); refine Ct Try.func40 (by kernel_rfl) rfl #[.int .u8 1] (by rfl) rfl rfl (by (try simp only [List.map_toArray, List.map_cons, List.map_nil]); first | done | rfl | (simp only [List.length_drop, List.length_take]; rfl)) ?_; refine (Ke (S := fun _ => True) 1 (fun _ _ => trivial)).mono ?_; rintro e v3 ⟨_, rfl, ⟨Ab, eF, Bb, db, rfl, gF⟩, hb⟩; refine ⟨_, rfl, ?_⟩; replace HR := mk0 (AZ HR.out hb); clear hb; have HW := mk0 gF; clear gF; refine hK.out _ _ (HS.out _ HR.out) (fun tB => ?_); clear hK K; refine nz 142 ?_; refine Cx (i := 60) (N := some 143) (awL 61) rfl rfl (Br eB.out (by kernel_rfl)) (by decide) (fun K hK => ?_); refine Ct Try.func32 (by kernel_rfl) rfl #[.agg #[.int .i64 1, .int .i64 0, .slice A5 1 c5, .slice B5 0 d5], .agg #[.int .i64 1, .int .i64 0, .slice Ab 1 eF, .slice Bb 0 db]] (by rfl) rfl rfl (by (try simp only [List.map_toArray, List.map_cons, List.map_nil]); first | done | rfl | (simp only [List.length_drop, List.length_take]; rfl)) ?_; refine (OE (S := fun _ => True) 1 _ _ (VB.up vV HR.out) ⟨Ab, eF, Bb, db, rfl, HW.out⟩ MH).mono ?_; rintro e v4 ⟨rfl, hb⟩; refine ⟨_, rfl, ?_⟩; replace HR := mk0 (AZ HR.out hb); clear hb; clear HW; refine hK.out _ _ (HS.out _ HR.out) (fun tB => ?_); clear hK K; refine nz 143 ?_; refine pu_ (v := ?_) (a' := ?_) 61 144 (awL 62) eB ?_ ?_ ?_; rotate_left
 ·intro w'; go_simp; with_reducible rfl
 rotate_left
 ·simp only [ps]; rfl
 refine pu_ (v := ?_) (a' := ?_) 62 145 (awL 63) eB ?_ ?_ ?_; rotate_left
 ·intro w'; go_simp; with_reducible rfl
 rotate_left
 ·simp only [ps]; rfl
 refine pu_ (v := ?_) (a' := ?_) 63 146 (awL 64) eB ?_ ?_ ?_; rotate_left
 ·intro w'; go_simp; with_reducible rfl
 rotate_left
 ·simp only [ps]; rfl
 refine pu_ (v := ?_) (a' := ?_) 64 147 (awL 65) eB ?_ ?_ ?_; rotate_left
 ·intro w'; go_simp; with_reducible rfl
 rotate_left
 ·simp only [ps]; rfl
 refine pu_ (v := ?_) (a' := ?_) 65 148 (awL 66) eB ?_ ?_ ?_; rotate_left
 ·intro w'; go_simp; with_reducible rfl
 rotate_left
 ·simp only [ps]; rfl
 refine pu_ (v := ?_) (a' := ?_) 66 149 (awL 67) eB ?_ ?_ ?_; rotate_left
 ·intro w'; go_simp; with_reducible rfl
 rotate_left
 ·simp only [ps]; rfl
 refine pu_ (v := ?_) (a' := ?_) 67 150 (awL 68) eB ?_ ?_ ?_; rotate_left
 ·intro w'; go_simp; with_reducible rfl
 rotate_left
 ·simp only [ps]; rfl
 refine pu_ (v := ?_) (a' := ?_) 68 151 (awL 69) eB ?_ ?_ ?_; rotate_left
 ·intro w'; go_simp; with_reducible rfl
 rotate_left
 ·simp only [ps]; rfl
 refine pu_ (v := ?_) (a' := ?_) 69 152 (awL 70) eB ?_ ?_ ?_; rotate_left
 ·intro w'; go_simp; with_reducible rfl
 rotate_left
 ·simp only [ps]; rfl
 refine pu_ (v := ?_) (a' := ?_) 70 153 (awL 71) eB ?_ ?_ ?_; rotate_left
 ·intro w'; go_simp; with_reducible rfl
 rotate_left
 ·simp only [ps]; rfl
 refine pu_ (v := ?_) (a' := ?_) 71 154 (awL 72) eB ?_ ?_ ?_; rotate_left
 ·intro w'; go_simp; with_reducible rfl
 rotate_left
 ·simp only [ps]; rfl
 refine pu_ (v := ?_) (a' := ?_) 72 155 (awL 73) eB ?_ ?_ ?_; rotate_left
 ·intro w'; go_simp; with_reducible rfl
 rotate_left
 ·simp only [ps]; rfl
 refine pu_ (v := ?_) (a' := ?_) 73 156 (awL 74) eB ?_ ?_ ?_; rotate_left
 ·intro w'; go_simp; with_reducible rfl
 rotate_left
 ·simp only [ps]; rfl
 refine pu_ (v := ?_) (a' := ?_) 74 157 (awL 75) eB ?_ ?_ ?_; rotate_left
 ·intro w'; go_simp; with_reducible rfl
 rotate_left
 ·simp only [ps]; rfl
 refine pu_ (v := ?_) (a' := ?_) 75 158 (awL 76) eB ?_ ?_ ?_; rotate_left
 ·intro w'; go_simp; with_reducible rfl
 rotate_left
 ·simp only [ps]; rfl
 refine pu_ (v := ?_) (a' := ?_) 76 159 (awL 77) eB ?_ ?_ ?_; rotate_left
 ·intro w'; go_simp; with_reducible rfl
 rotate_left
 ·simp only [ps]; rfl
 refine pu_ (v := ?_) (a' := ?_) 77 160 (awL 78) eB ?_ ?_ ?_; rotate_left
 ·intro w'; go_simp; with_reducible rfl
 rotate_left
 ·simp only [ps]; rfl
 refine pu_ (v := ?_) (a' := ?_) 78 161 (awL 79) eB ?_ ?_ ?_; rotate_left
 ·intro w'; go_simp; with_reducible rfl
 rotate_left
 ·simp only [ps]; rfl
 refine pu_ (v := ?_) (a' := ?_) 79 162 (awL 80) eB ?_ ?_ ?_; rotate_left
 ·intro w'; go_simp; with_reducible rfl
 rotate_left
 ·simp only [ps]; rfl
 refine Bn (i := 80) (N := some 163) (v := ?_) (a' := ?_) (awL 81) rfl rfl (Am eB.out tC.out (by kernel_rfl)) (fun _ _ _ h => h) (Or.inl ⟨by rfl, ?_⟩) tB ?_ ?_; rotate_left
 ·rintro w' ⟨s0, s1, s2, s3, s4, s5, s6, s7, s8, s9, sD, tD, uD, xD, yD, zD, aE, bE, cE, dE, eE, fE, gE, hE, jE⟩; go_simp; with_reducible rfl
 rotate_left
 ·simp only [ps]; rfl
 refine Cx (i := 81) (N := some 164) (awL 82) rfl rfl (Br eB.out (by kernel_rfl)) (by decide) (fun K hK => ?_); refine Ct Try.func17 (by kernel_rfl) rfl #[tv] (by rfl) rfl rfl (by (try simp only [List.map_toArray, List.map_cons, List.map_nil]); first | done | rfl | (simp only [List.length_drop, List.length_take]; rfl)) ?_; refine (O9 (Ad HG.out HR.out) OI).mono ?_; rintro e v5 ⟨rfl, hb⟩; refine ⟨_, rfl, ?_⟩; replace HR := mk0 (AZ HR.out hb); clear hb; refine hK.out _ _ (HS.out _ HR.out) (fun tB => ?_); clear hK K; refine nz 164 ?_; refine pu_ (v := ?_) (a' := ?_) 82 165 (awL 83) eB ?_ ?_ ?_; rotate_left
 ·intro w'; go_simp; with_reducible rfl
 rotate_left
 ·simp only [ps]; rfl
 refine pu_ (v := ?_) (a' := ?_) 83 166 (awL 84) eB ?_ ?_ ?_; rotate_left
 ·intro w'; go_simp; with_reducible rfl
 rotate_left
 ·simp only [ps]; rfl
 refine Bn (i := 84) (N := some 167) (v := ?_) (a' := ?_) (awL 85) rfl rfl (Am eB.out tC.out (by kernel_rfl)) (fun _ _ _ h => h) (Or.inl ⟨by rfl, ?_⟩) tB ?_ ?_; rotate_left
 ·rintro w' ⟨s0, s1, s2, s3, s4, s5, s6, s7, s8, s9, sD, tD, uD, xD, yD, zD, aE, bE, cE, dE, eE, fE, gE, hE, jE⟩; go_simp; with_reducible rfl
 rotate_left
 ·simp only [ps]; rfl
 refine Bn (i := 85) (N := some 168) (v := ?_) (a' := ?_) (awL 86) rfl rfl (Am eB.out tC.out (by kernel_rfl)) (fun _ _ _ h => h) (Or.inl ⟨by rfl, ?_⟩) tB ?_ ?_; rotate_left
 ·rintro w' ⟨s0, s1, s2, s3, s4, s5, s6, s7, s8, s9, sD, tD, uD, xD, yD, zD, aE, bE, cE, dE, eE, fE, gE, hE, jE⟩; go_simp; with_reducible rfl
 rotate_left
 ·simp only [ps]; rfl
 refine Cx (i := 86) (N := some 169) (awL 87) rfl rfl (Br eB.out (by kernel_rfl)) (by decide) (fun K hK => ?_); refine Ct Try.func19 (by kernel_rfl) rfl #[tv, .agg #[.int .i64 1, .int .i64 0, .slice A6 1 c6, .slice B6 0 d6, .slice E6 2 e6]] (by rfl) rfl rfl (by (try simp only [List.map_toArray, List.map_cons, List.map_nil]); first | done | rfl | (simp only [List.length_drop, List.length_take]; rfl)) ?_; refine (isC 0 [tr 5 1, tr 7 0] _ (Ad HG.out HR.out) (pC.up HR.out) SA).mono ?_; rintro e v6 ⟨rfl, hb⟩; refine ⟨_, rfl, ?_⟩; replace HR := mk0 (AZ HR.out hb); clear hb; refine hK.out _ _ (HS.out _ HR.out) (fun tB => ?_); clear hK K; refine nz 169 ?_; refine pu_ (v := ?_) (a' := ?_) 87 170 (awL 88) eB ?_ ?_ ?_; rotate_left
 ·intro w'; go_simp; with_reducible rfl
 rotate_left
 ·simp only [ps]; rfl
 refine pu_ (v := ?_) (a' := ?_) 88 0 (awL 89) eB ?_ ?_ ?_; rotate_left
 ·intro w'; go_simp; with_reducible rfl
 rotate_left
 ·simp only [ps]; rfl
 refine EB (Cv eB.out (by kernel_rfl)) ?_; try go_wp2
 go_ret; exact ⟨rfl, AZ HB.out HR.out⟩
end Go.Proofs.Ytojankgmedccdaa.Aw
namespace Go.Proofs.Ytojankgmedccdaa.Hand
open Go.RowKit Own Wo
def E5.f (_ : Nat) : Option Bool := some true
theorem E5.calls (k : Nat) (r : Bool) (w : World) (a : Dk w) (h : E5.f k = some r) : Calls Try.prog 16 #[] w fun e w' => e = .returned (.bool r) ∧ Below w.heap.size w w' := by
 obtain rfl := Option.some.inj h; exact Aw.walk w a
end Go.Proofs.Ytojankgmedccdaa.Hand
