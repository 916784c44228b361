/- Lemmas. -/
import Derived.Test.YtojankgmedccdaaYNAwT
namespace Go.Proofs.Ytojankgmedccdaa.Aw
open Go.RowKit Own PTy Hand PIs PAw Wo
set_option linter.unusedVariables false
set_option linter.unusedSimpArgs false
theorem QP {P : Program} {c : Code} {Q : Exit → Act → World → Prop} {a : Act} {W : World} (h : ∀ b, b = W → Code.wp P c Q a b) : Code.wp P c Q a W := h W rfl
theorem Dy (w : World) (o : Obj) : w.heap.size < (w.alloc o).heap.size := Eb (Et w o)
theorem RP {w : World} {g : Nat} {t : TypeId} {e i j k : Value} (h : w.heap[g]? = some (.cells #[e, i, j, k] t (0, 0))) (a b c d : Value) :
  ((((w.setCell ⟨g, 0, none⟩ a).setCell ⟨g, 1, none⟩ b).setCell ⟨g, 2, none⟩ c).setCell ⟨g, 3, none⟩ d).heap[g]? = some (.cells #[a, b, c, d] t (0, 0)) :=
 CU (CU (CU (CU h 0 a rfl) 1 b rfl) 2 c rfl) 3 d rfl
section
variable {w : World} {S : Nat → Prop} {g : Nat} {b : Int} {l : List S63}
theorem Ox {v u : Value} {j : Nat} (h : VB w (fun k => k ≠ g) b v) : VB (w.setCell ⟨g, j, none⟩ u) (fun k => k ≠ g) b v := by
 obtain ⟨A, c, B, d, h1, e, i, l⟩ := h; exact ⟨A, c, B, d, h1, e, Kd.Jj i (fun _ a => a) u, Kd.Jj l (fun _ a => a) u⟩
theorem Gr {z0 m n z3 z4 a c d e i : Value} (h : bk w g 33 #[z0, m, n, z3, z4]) (hp : PL w (fun k => k ≠ g) b l (.agg #[a, c, d, e, i])) :
  BP (((((w.setCell ⟨g, 0, none⟩ a).setCell ⟨g, 1, none⟩ c).setCell ⟨g, 2, none⟩ d).setCell ⟨g, 3, none⟩ e).setCell ⟨g, 4, none⟩ i) g b l :=
 ⟨a, c, d, e, i, Ow h _ _ _ _ _, PL.mono (N9 (N9 (N9 (N9 (N9 hp))))) (fun k j _ => j)⟩
theorem OA {z0 j l z3 a c d e : Value} (h : bk w g 30 #[z0, j, l, z3]) (hp : VB w (fun k => k ≠ g) b (.agg #[a, c, d, e])) :
  BV ((((w.setCell ⟨g, 0, none⟩ a).setCell ⟨g, 1, none⟩ c).setCell ⟨g, 2, none⟩ d).setCell ⟨g, 3, none⟩ e) g b :=
 ⟨a, c, d, e, RP h _ _ _ _, VB.mono (Ox (Ox (Ox (Ox hp)))) (fun k i _ => i)⟩
theorem alloc_at {o : Obj} {a : World} (b : S w.heap.size) (c : ∀ k, S k → k < (w.alloc o).heap.size → a.heap[k]? = (w.alloc o).heap[k]?) : a.heap[w.heap.size]? = some o := (c _ b (Dy w o)).trans (Et w o)
theorem alloc_old {o : Obj} {b : World} (c : ∀ k, S k → k < (w.alloc o).heap.size → b.heap[k]? = (w.alloc o).heap[k]?) : ∀ k, S k → k < w.heap.size → b.heap[k]? = w.heap[k]? := fun k d a =>
 (c k d (Nat.lt_trans a (Dy w o))).trans ((AR (Below.refl w.heap.size w) o).block k a)
theorem Km {A B : Option Addr} {c d : Nat} (n : 1 ≤ c) (k : Kd.F (Kd.int .u8) w S A 1 [b]) (l : Kd.F k30 w S B 0 []) (m : S w.heap.size) :
  Kd.F k30 (w.alloc (.cells #[.int .i64 1, .int .i64 0, .slice A 1 c, .slice B 0 d] 30 (0, 0))) S (some ⟨w.heap.size, 0, none⟩) 1 [bv b] := by
 intro e g
 have hn := alloc_at m g
 have ho := alloc_old g
 refine ⟨rfl, by decide, fun _ => ⟨_, rfl, ?_⟩⟩
 intro j p h
 cases j with
 | succ j => simp at h
 | zero =>
  obtain rfl := Option.some.inj h; refine ⟨[.int .i64 1, .int .i64 0, .slice A 1 c, .slice B 0 d], rfl, Gj e (bv b) n (k e ho) (Nat.zero_le _) (l e ho), ?_⟩; intro i u a; have := Af hn i; match i with
  | 0 => exact this.trans a
  | 1 => exact this.trans a
  | 2 => exact this.trans a
  | 3 => exact this.trans a
  | i + 4 => simp at a
theorem Ph {k : Int} {A B g h : Option Addr} {c d l d' : Nat} (y : 1 ≤ c) (s : Kd.F (Kd.int .u8) w S A 1 [b]) (v : Kd.F k30 w S B 0 []) (o : 1 ≤ l) (m : Kd.F (Kd.int .u8) w S g 1 [k]) (n : Kd.F k30 w S h 0 []) (x : S w.heap.size) :
  Kd.F k30 (w.alloc (.cells #[.int .i64 1, .int .i64 0, .slice A 1 c, .slice B 0 d, .int .i64 1, .int .i64 0, .slice g 1 l, .slice h 0 d'] 30 (0, 0))) S (some ⟨w.heap.size, 0, none⟩) 2 [bv b, bv k] := by
 intro e r
 have hn := alloc_at x r
 have ho := alloc_old r
 refine ⟨rfl, by decide, fun _ => ⟨_, rfl, ?_⟩⟩
 intro j p q
 match j with
 | 0 =>
  obtain rfl := Option.some.inj q
  refine ⟨[.int .i64 1, .int .i64 0, .slice A 1 c, .slice B 0 d], rfl, Gj e (bv b) y (s e ho) (Nat.zero_le _) (v e ho), ?_⟩
  intro i u a
  have := Af hn i
  match i with
  | 0 => exact this.trans a
  | 1 => exact this.trans a
  | 2 => exact this.trans a
  | 3 => exact this.trans a
  | i + 4 => simp at a
 | 1 =>
  obtain rfl := Option.some.inj q
  refine ⟨[.int .i64 1, .int .i64 0, .slice g 1 l, .slice h 0 d'], rfl, Gj e (bv k) o (m e ho) (Nat.zero_le _) (n e ho), ?_⟩
  intro i u a
  have := Af hn (4 + i)
  match i with
  | 0 => exact this.trans a
  | 1 => exact this.trans a
  | 2 => exact this.trans a
  | 3 => exact this.trans a
  | i + 4 => simp at a
 | j + 2 => simp at q
theorem BP.opens (h : BP w g b l) : ∃ A c B d E e, bk w g 33 #[.int .i64 1, .int .i64 0, .slice A 1 c, .slice B 0 d, .slice E l.length e] ∧ PL w (fun k => k < w.heap.size) b l (.agg #[.int .i64 1, .int .i64 0, .slice A 1 c, .slice B 0 d, .slice E l.length e]) ∧ Kd.C k63 w E l.length l ∧ VB w (fun _ => True) b (.agg #[.int .i64 1, .int .i64 0, .slice A 1 c, .slice B 0 d]) := by
 obtain ⟨q, r, s, u, v, p, A, c, B, d, E, e, n, a, o, i, j, m⟩ := h; simp only [Value.agg.injEq, Array.mk.injEq, List.cons.injEq, and_true] at n; obtain ⟨rfl, rfl, rfl, rfl, rfl⟩ := n; exact ⟨A, c, B, d, E, e, p, ⟨A, c, B, d, E, e, rfl, a, o, i, j, m⟩, Kd.Ew m, A, c, B, d, rfl, a, Kd.Cw i (fun _ _ => trivial), Kd.Cw j (fun _ _ => trivial)⟩
theorem BV.opens (h : BV w g b) : ∃ A c B d, bk w g 30 #[.int .i64 1, .int .i64 0, .slice A 1 c, .slice B 0 d] ∧ VB w (fun _ => True) b (.agg #[.int .i64 1, .int .i64 0, .slice A 1 c, .slice B 0 d]) := by
 obtain ⟨l, m, n, o, k, A, c, B, d, a, e, i, j⟩ := h; simp only [Value.agg.injEq, Array.mk.injEq, List.cons.injEq, and_true] at a; obtain ⟨rfl, rfl, rfl, rfl⟩ := a; exact ⟨A, c, B, d, k, A, c, B, d, rfl, e, Kd.Cw i (fun _ _ => trivial), Kd.Cw j (fun _ _ => trivial)⟩
theorem Oy (w : World) (n : Int) : Kd.C (Kd.int .i64) (w.alloc (.cells #[.int .i64 n] 3 (0, 0))) (some ⟨w.heap.size, 0, none⟩) 1 [n] := by
 refine ⟨rfl, by decide, fun _ => ⟨_, rfl, ?_⟩⟩; intro j p a; cases j with
 | succ j => simp at a
 | zero =>
  obtain rfl := Option.some.inj a; refine ⟨[.int .i64 n], rfl, rfl, ?_⟩; intro i u b; cases i with
  | zero => exact (Af (Et w _) 0).trans b
  | succ i => simp at b
end
def awL (n : Nat) : Array Bool := (List.replicate n true ++ List.replicate (89 - n) false).toArray
def QQ : Bool × List (List Nat × List Nat) := (true, [([], []), ([], []), ([], []), ([2], [2]), ([], []), ([0, 1, 3, 4, 2], [0, 1, 3, 4]), ([5], [5]), ([6], [6]), ([6], [6]), ([], []), ([9, 7, 5, 0, 1, 2, 3, 4, 5, 6, 7, 9], [7, 9]), ([8, 10, 0, 1, 2, 3, 4, 5, 6, 7, 8, 9, 10], [8])])
def RQ : List Nat := [0, 0, 0, 4, 0, 31, 63, 127, 127, 0, 767, 2047]
theorem Pi : DT .any (opsOf Try.f16 3) = QQ := by kernel_rfl
theorem Oz : Cn QQ.2 RQ = true := by kernel_rfl
def QR : Bool × List (List Nat × List Nat) := (true, [([], []), ([], []), ([], []), ([2], [2]), ([], []), ([0, 1, 3, 4, 2], [0, 1, 3, 4]), ([5], [5]), ([6], [6]), ([6], [6]), ([], []), ([9, 7, 5, 0, 1, 2, 3, 4, 5, 6, 7, 9], [7, 9]), ([8, 10, 0, 1, 2, 3, 4, 5, 6, 7, 8, 9, 10], [8])])
def RS : List Nat := [0, 0, 0, 4, 0, 31, 63, 127, 127, 0, 767, 2047]
theorem Pj : DT .any (opsOf Try.f16 4) = QR := by kernel_rfl
theorem O0 : Cn QR.2 RS = true := by kernel_rfl
def QS : Bool × List (List Nat × List Nat) := (true, [([], []), ([], []), ([], []), ([2], [2]), ([], []), ([0, 1, 3, 4, 2], [0, 1, 3, 4]), ([5], [5]), ([6], [6]), ([6], [6]), ([], []), ([9, 7, 5, 0, 1, 2, 3, 4, 5, 6, 7, 9], [7, 9]), ([8, 10, 0, 1, 2, 3, 4, 5, 6, 7, 8, 9, 10], [8])])
def RU : List Nat := [0, 0, 0, 4, 0, 31, 63, 127, 127, 0, 767, 2047]
theorem Pk : DT .any (opsOf Try.f16 5) = QS := by kernel_rfl
theorem O1 : Cn QS.2 RU = true := by kernel_rfl
def QT : Bool × List (List Nat × List Nat) := (true, [([], []), ([], []), ([1], []), ([1, 2], [1, 2]), ([0, 3, 2], [0, 3]), ([4], [4]), ([5], [5]), ([5], [5]), ([], []), ([8, 6, 4, 0, 1, 2, 3, 4, 5, 6, 8], [6, 8]), ([7, 9, 0, 1, 2, 3, 4, 5, 6, 7, 8, 9], [7])])
def RX : List Nat := [0, 0, 2, 6, 15, 31, 63, 63, 0, 383, 1023]
theorem Pm : DT .any (opsOf Try.f16 8) = QT := by kernel_rfl
theorem O3 : Cn QT.2 RX = true := by kernel_rfl
def PK : Bool × List (List Nat × List Nat) := (true, [([], []), ([0], [0]), ([1], [1]), ([2], [2]), ([3, 2], [2, 3]), ([2, 4], [2, 4]), ([5, 2], [5]), ([6], [6]), ([7, 6], [6, 7]), ([8, 6], [6, 8]), ([9, 6], [6, 9]), ([6, 10], [6, 10]), ([11, 6], [11]), ([12], [12]), ([13, 12], [12, 13]), ([14, 12], [12, 14]), ([15, 12], [12, 15]), ([16, 12], [12, 16]), ([17, 12], [12, 17]), ([12, 18], [12, 18]), ([19, 12], [19]), ([20], [20]), ([21, 20], [20, 21]), ([20, 22], [20, 22]), ([23, 20], [23]), ([24], [24]), ([25, 24], [24, 25]), ([26, 24], [24, 26]), ([27, 24], [24, 27]), ([24, 28], [24, 28]), ([29, 24], [29]), ([30], [30]), ([31, 30], [30, 31]), ([30, 32], [30, 32]), ([33, 30], [33]), ([34], [34]), ([35, 34], [34, 35]), ([34, 36], [34, 36]), ([37, 34], [37]), ([38], [38]), ([38, 39], [38, 39]), ([40, 38], [40]), ([41], [41]), ([42, 41], [41, 42]), ([41, 43], [41, 43]), ([44, 41], [44]), ([45], [45]), ([46, 45], [45, 46]), ([47, 45], [45, 47]), ([48, 45], [45, 48]), ([45, 49], [45, 49]), ([50, 45], [50]), ([51], [51]), ([52, 51], [51, 52]), ([51, 51], [51]), ([53, 54, 54, 51], [51, 53, 54]), ([51, 55], [51, 55]), ([56, 55], [56]), ([57], [57]), ([57, 57], [57]), ([58, 59, 59, 57], [57, 58, 59]), ([57, 60], [57, 60]), ([61, 60], [61]), ([62], [62]), ([63, 62], [62, 63]), ([62, 64], [62, 64]), ([65, 62], [65]), ([66], [66]), ([67, 66], [66, 67]), ([66, 68], [66, 68]), ([69, 66], [69]), ([70], [70]), ([71, 70], [70, 71]), ([72, 70], [70, 72]), ([70, 73], [70, 73]), ([74, 70], [74]), ([75], [75]), ([76, 75], [75, 76]), ([75, 77], [75, 77]), ([78, 75], [78]), ([79], [79]), ([80, 79, 79], [79, 80]), ([79, 81], [79, 81]), ([82, 81], [82]), ([83], [83]), ([83], [83]), ([84, 85, 83, 83], [83, 84, 85]), ([83, 86], [83, 86]), ([87, 86, 0, 1, 2, 3, 4, 5, 6, 7, 8, 9, 10, 11, 12, 13, 14, 15, 16, 17, 18, 19, 20, 21, 22, 23, 24, 25, 26, 27, 28, 29, 30, 31, 32, 33, 34, 35, 36, 37, 38, 39, 40, 41, 42, 43, 44, 45, 46, 47, 48, 49, 50, 51, 52, 53, 54, 55, 56, 57, 58, 59, 60, 61, 62, 63, 64, 65, 66, 67, 68, 69, 70, 71, 72, 73, 74, 75, 76, 77, 78, 79, 80, 81, 82, 83, 84, 85, 86, 87], [87])])
def QU : List Nat := [0, 1, 3, 7, 15, 31, 63, 127, 255, 511, 1023, 2047, 4095, 8191, 16383, 32767, 65535, 131071, 262143, 524287, 1048575, 2097151, 4194303, 8388607, 16777215, 33554431, 67108863, 134217727, 268435455, 536870911, 1073741823, 2147483647, 4294967295, 8589934591, 17179869183, 34359738367, 68719476735, 137438953471, 274877906943, 549755813887, 1099511627775, 2199023255551, 4398046511103, 8796093022207, 17592186044415, 35184372088831, 70368744177663, 140737488355327, 281474976710655, 562949953421311, 1125899906842623, 2251799813685247, 4503599627370495, 9007199254740991, 4503599627370495, 36028797018963967, 72057594037927935, 144115188075855871, 288230376151711743, 288230376151711743, 1152921504606846975, 2305843009213693951, 4611686018427387903, 9223372036854775807, 18446744073709551615, 36893488147419103231, 73786976294838206463, 147573952589676412927, 295147905179352825855, 590295810358705651711, 1180591620717411303423, 2361183241434822606847, 4722366482869645213695, 9444732965739290427391, 18889465931478580854783, 37778931862957161709567, 75557863725914323419135, 151115727451828646838271, 302231454903657293676543, 604462909807314587353087, 1208925819614629174706175, 2417851639229258349412351, 4835703278458516698824703, 9671406556917033397649407, 19342813113834066795298815, 19342813113834066795298815, 77371252455336267181195263, 154742504910672534362390527, 309485009821345068724781055]
theorem O4 : DT .any (opsOf Try.f16 11) = PK := by kernel_rfl
theorem OB : Cn PK.2 QU = true := by kernel_rfl
set_option maxHeartbeats 40000000 in
set_option maxRecDepth 100000 in
theorem walk (w : World) (hG : EP w) : Calls Try.prog 16 #[] w fun e w' => e = .returned (.bool true) ∧ Below w.heap.size w w' := by
 have iJ := Try.underlying26; have jJ := Try.underlying30; have kJ := Try.underlying33; have HB := mk0 (Below.refl w.heap.size w); have HG := mk0 hG; clear hG; go_enter Try.func16, Try.ntmps16; go_wp2_with (first | ((with_reducible refine AQ rfl (N := 1) rfl (cs := #[.int .i64 0, .int .i64 0, .string ⟨#[]⟩, .slice none 0 0, .slice none 0 0]) (t := 26) ?hr ?_); (case hr => first | (go_simp; done) | (go_simp; rfl)); intro gT hg w1 yC hb; have BT := mk0 yC; have GT := bs (be HB) hg; replace HB := kh HB hb; clear hb yC hg; have z1 := cells5 BT.out) | (go_at_call 40; refine (Kl (S := fun _ => True) 0 (fun _ _ => trivial)).mono ?_; rintro e w2 ⟨v, rfl, ⟨A2, c2, B2, d2, rfl, hv⟩, hb⟩; have HV := mk0 hv; have HT := mk0 (AX (Ow BT.out (.int .i64 1) (.int .i64 0) (.string ⟨#[]⟩) (.slice none 0 0) (.slice none 0 0)) hb); replace HB := kh1 HB GT hb; clear hv hb z1) | ((with_reducible refine AQ rfl (N := 2) rfl (cs := #[.int .i64 0, .int .i64 0, .slice none 0 0, .slice none 0 0, .slice none 0 0]) (t := 33) ?hr ?_); (case hr => first | (go_simp; done) | (go_simp; rfl)); intro gP hg w3 yC hb; have BQ := mk0 yC; have B3 := mk0 hb; have L3 := mk0 (Nat.le_of_eq hg.symm); clear hb yC hg; have z2 := cells5 BQ.out)); clear z2; refine QP ?_; intro W0 qE; have rE : Below w2.heap.size w2 W0 := by rw [qE]; exact be1 B3 L3
 have hx : BP W0 gP 0 [] := by rw [qE]; exact Gr BQ.out (PL.mono (S := fun k => k < w2.heap.size) (PL.up ⟨A2, c2, B2, d2, none, 0, rfl, HV.out.1, Nat.le_refl _, Kd.Cw (Kd.DX HV.out.2.1) (fun k hk => hk.2), Kd.Cw (Kd.DX HV.out.2.2) (fun k hk => hk.2), Kd.Lh _ _ _⟩ B3.out) (fun k _ hk e => Nat.not_lt.mpr L3.out (e ▸ hk)))
 replace HT := mk0 (AX HT.out rE); replace HG := mk0 (Aa HG.out (Aj HB.out rE)); replace HB := mk0 (Aj HB.out rE); have HP := mk0 hx; clear hx rE B3 L3 BQ HV BT; clear qE; refine DV (n := 12) (S := fun w' => True) (ds := []) (tf 0 12) (by kernel_rfl) rfl rfl trivial (fun lB => ?_); refine CY Pi Oz (fun aB oC => ?_); have hd : Below W0.heap.size W0 W0.drew := Ad (Below.refl _ _); replace HP := mk0 (HP.out.up hd); replace HT := mk0 (AX HT.out hd); replace HG := mk0 (Aa HG.out hd); replace HB := mk0 (Aj HB.out hd); clear hd lB; generalize W0.drew = wA at HT HG HB HP ⊢; obtain ⟨x0, x1, x2, x3, x4, hx, jC⟩ := HP.out; refine JJ [0, 1, 2, 3, 4, 5, 6, 7, 8, 9, 10, 11] (fun pE b a w' => ∃ (v_ : Value) (x : Nat) (I : Nat) (p_ : Value) (gA : Nat) (G : Option Nat) (X : Value) (Y : Value) (U : Value) (O : Value) (bB : Value) (cB : Value), a = Ck pE b [(0, 24, tv), (1, 25, .agg #[x0, x1, x2, x3, x4]), (2, 26, v_), (3, 27, X), (4, 28, Y), (5, 29, U), (6, 23, O), (7, 30, bB), (8, 31, .int .i64 0), (9, 3, cB), (11, 4, .int .i64 0)] ∧ (Below wA.heap.size wA w') ∧ (b 10 = false → ∀ g, G = some g → wA.heap.size ≤ g ∧ g < w'.heap.size) ∧ (b 2 = true → b 10 = false → VB w' (fun k => some k ≠ G) 1 v_) ∧ (b 3 = true → b 10 = false → Kd.F k30 w' (fun k => some k ≠ G) (some ⟨x, 0, none⟩) 1 [bv 1]) ∧ (b 4 = true → b 10 = false → Kd.C (Kd.int .i64) w' (some ⟨I, 0, none⟩) 1 [5]) ∧ (b 5 = true → b 10 = false → PL w' (fun k => some k ≠ G) 0 [tr 5 1] p_) ∧ (b 9 = true → b 10 = false → G = some gA ∧ bk w' gA 33 #[.int .i64 0, .int .i64 0, .slice none 0 0, .slice none 0 0, .slice none 0 0] ∧ wA.heap.size ≤ gA) ∧ (b 10 = true → BP w' gA 0 [tr 5 1]) ∧ (b 3 = true → (X : Value) = .slice (some ⟨x, 0, none⟩) 1 1) ∧ (b 4 = true → (Y : Value) = .slice (some ⟨I, 0, none⟩) 1 1) ∧ (b 5 = true → (U : Value) = .tuple #[p_, .int .i64 0]) ∧ (b 6 = true → (O : Value) = .tuple #[p_, .int .i64 0]) ∧ (b 7 = true → (bB : Value) = p_) ∧ (b 9 = true → (cB : Value) = .pointer (some ⟨gA, 0, none⟩))) aB.out oC.out (by kernel_rfl) (by kernel_rfl) ?_ ?_ ?_
 ·exact ⟨.bool false, 0, 0, .bool false, 0, none, .bool false, .bool false, .bool false, .bool false, .bool false, .bool false, by simp only [Ck, Bool.false_eq_true, if_false], (Below.refl _ _), fun _ => (fun g e => by cases e), fun h_ => absurd h_ (by decide), fun h_ => absurd h_ (by decide), fun h_ => absurd h_ (by decide), fun h_ => absurd h_ (by decide), fun h_ => absurd h_ (by decide), fun h_ => absurd h_ (by decide), fun h_ => absurd h_ (by decide), fun h_ => absurd h_ (by decide), fun h_ => absurd h_ (by decide), fun h_ => absurd h_ (by decide), fun h_ => absurd h_ (by decide), fun h_ => absurd h_ (by decide)⟩
 ·skip
  refine Ak ?_ ?_
  ·rintro b a w' ⟨v_, x, I, p_, gA, G, X, Y, U, O, bB, cB, L, q, s, B, D, T, J, r, Z, o, m, u, y, W, z⟩ hb_ j d; refine ⟨_, rfl, fun K hK => ?_⟩; have e1 : a.tmps[1]? = some (.pointer (some ⟨gT, 0, none⟩)) := by rw [L]; exact (C8 rfl).trans rfl
   replace L := mk0 L; have FB := mk0 q; have FO := mk0 (s (d 10 (by kernel_rfl))); have z_ := cells5 (AX HT.out FB.out); refine CG (w1 := w') (v := tv) (by rfl) rfl ?_ ?_
   ·go_simp; (try simp only [Bw]); try rfl
   refine hK.out _ _ ⟨v_, x, I, p_, gA, G, X, Y, U, O, bB, cB, (by rw [L.out]; exact Av 0 hb_ rfl rfl rfl), q, s, B, D, T, fun c _ => absurd ((d 5 (by kernel_rfl)).symm.trans c) (by decide), r, fun c => absurd ((d 10 (by kernel_rfl)).symm.trans c) (by decide), o, m, fun c => absurd ((d 5 (by kernel_rfl)).symm.trans c) (by decide), fun c => absurd ((d 6 (by kernel_rfl)).symm.trans c) (by decide), fun c => absurd ((d 7 (by kernel_rfl)).symm.trans c) (by decide), z⟩
  refine Ak ?_ ?_
  ·rintro b a w' ⟨v_, x, I, p_, gA, G, X, Y, U, O, bB, cB, L, q, s, B, D, T, J, r, Z, o, m, u, y, W, z⟩ hb_ j d; refine ⟨_, rfl, fun K hK => ?_⟩; have e2 : a.tmps[2]? = some (.pointer (some ⟨gP, 0, none⟩)) := by rw [L]; exact (C8 rfl).trans rfl
   replace L := mk0 L; have FB := mk0 q; have FO := mk0 (s (d 10 (by kernel_rfl))); have z_ := cells5 (AX hx FB.out); refine CG (w1 := w') (v := .agg #[x0, x1, x2, x3, x4]) (by rfl) rfl ?_ ?_
   ·go_simp; (try simp only [Bw]); try rfl
   refine hK.out _ _ ⟨v_, x, I, p_, gA, G, X, Y, U, O, bB, cB, (by rw [L.out]; exact Av 1 hb_ rfl rfl rfl), q, s, B, D, T, fun c _ => absurd ((d 5 (by kernel_rfl)).symm.trans c) (by decide), r, fun c => absurd ((d 10 (by kernel_rfl)).symm.trans c) (by decide), o, m, fun c => absurd ((d 5 (by kernel_rfl)).symm.trans c) (by decide), fun c => absurd ((d 6 (by kernel_rfl)).symm.trans c) (by decide), fun c => absurd ((d 7 (by kernel_rfl)).symm.trans c) (by decide), z⟩
  refine Ak ?_ ?_
  ·rintro b a w' ⟨v_, x, I, p_, gA, G, X, Y, U, O, bB, cB, L, q, s, B, D, T, J, r, Z, o, m, u, y, W, z⟩ hb_ j d; refine ⟨_, rfl, fun K hK => ?_⟩; replace L := mk0 L; have FB := mk0 q; have FO := mk0 (s (d 10 (by kernel_rfl))); refine DF Try.func40 (by kernel_rfl) rfl #[.int .u8 1] (by rfl) rfl rfl (by first | (simp only [List.map_toArray, List.map_cons, List.map_nil, Act.eval, Array.getD_eq_getD_getElem?, Option.getD_some]; done) | (simp only [List.map_toArray, List.map_cons, List.map_nil, Act.eval, Array.getD_eq_getD_getElem?, Option.getD_some]; rfl)) ?_; refine (Kl (S := (fun k => some k ≠ G)) 1 (fun k hk e => absurd (FO.out k e.symm).2 (Nat.not_lt.mpr hk))).mono ?_; rintro e w2 ⟨v, rfl, hv, hb⟩; refine ⟨_, rfl, ?_⟩; refine hK.out _ _ ⟨v, x, I, p_, gA, G, X, Y, U, O, bB, cB, (by rw [L.out]; exact Av 2 hb_ rfl rfl rfl), (Aj FB.out hb), fun _ => (fun g e => ⟨(FO.out g e).1, Nat.lt_of_lt_of_le (FO.out g e).2 (Below.size hb)⟩), fun _ _ => hv, fun c _ => absurd ((d 3 (by kernel_rfl)).symm.trans c) (by decide), fun c l => Kd.Ap (T c l) hb, fun c _ => absurd ((d 5 (by kernel_rfl)).symm.trans c) (by decide), fun c l => ⟨(r c l).1, AX (r c l).2.1 hb, (r c l).2.2⟩, fun c => absurd ((d 10 (by kernel_rfl)).symm.trans c) (by decide), fun c => absurd ((d 3 (by kernel_rfl)).symm.trans c) (by decide), m, fun c => absurd ((d 5 (by kernel_rfl)).symm.trans c) (by decide), fun c => absurd ((d 6 (by kernel_rfl)).symm.trans c) (by decide), fun c => absurd ((d 7 (by kernel_rfl)).symm.trans c) (by decide), z⟩
  refine Ak ?_ ?_
  ·rintro b a w' ⟨v_, x, I, p_, gA, G, X, Y, U, O, bB, cB, L, q, s, B, D, T, J, r, Z, o, m, u, y, W, z⟩ hb_ j d; refine ⟨_, rfl, fun K hK => ?_⟩; have rJ : a.tmps[26]? = some (v_) := by rw [L]; exact BB (e := (2, 26, v_)) 2 rfl rfl (j 2 (by kernel_rfl)) rfl
   replace L := mk0 L; have FB := mk0 q; have FO := mk0 (s (d 10 (by kernel_rfl))); have FV := mk0 (B (j 2 (by kernel_rfl)) (d 10 (by kernel_rfl))); obtain ⟨A2, c2, B2, d2, rfl, l2, h2, h3⟩ := FV.out; refine CG (w1 := ?_) (v := ?_) (by rfl) rfl ?_ ?_; rotate_left 2
   ·go_simp; constructor
    ·rfl
    ·rfl
   refine hK.out _ _ ⟨.agg #[.int .i64 1, .int .i64 0, .slice A2 1 c2, .slice B2 0 d2], w'.heap.size, I, p_, gA, G, (.slice (some ⟨w'.heap.size, 0, none⟩) 1 1), Y, U, O, bB, cB, (by rw [L.out]; exact Av 3 hb_ rfl rfl rfl), (Aj FB.out (AR (Below.refl _ _) _)), fun _ => (fun g e => ⟨(FO.out g e).1, Nat.lt_of_lt_of_le (FO.out g e).2 (Below.size (AR (Below.refl _ _) _))⟩), fun _ _ => (VB.up FV.out (AR (Below.refl _ _) _)), fun _ _ => Km l2 h2 h3 (fun e => absurd (FO.out _ e.symm).2 (Nat.lt_irrefl _)), fun c l => Kd.Ap (T c l) (AR (Below.refl _ _) _), fun c _ => absurd ((d 5 (by kernel_rfl)).symm.trans c) (by decide), fun c l => ⟨(r c l).1, AX (r c l).2.1 (AR (Below.refl _ _) _), (r c l).2.2⟩, fun c => absurd ((d 10 (by kernel_rfl)).symm.trans c) (by decide), fun _ => rfl, m, fun c => absurd ((d 5 (by kernel_rfl)).symm.trans c) (by decide), fun c => absurd ((d 6 (by kernel_rfl)).symm.trans c) (by decide), fun c => absurd ((d 7 (by kernel_rfl)).symm.trans c) (by decide), z⟩
  refine Ak ?_ ?_
  ·rintro b a w' ⟨v_, x, I, p_, gA, G, X, Y, U, O, bB, cB, L, q, s, B, D, T, J, r, Z, o, m, u, y, W, z⟩ hb_ j d; refine ⟨_, rfl, fun K hK => ?_⟩; replace L := mk0 L; have FB := mk0 q; have FO := mk0 (s (d 10 (by kernel_rfl))); refine CG (w1 := ?_) (v := ?_) (by rfl) rfl ?_ ?_; rotate_left 2
   ·go_simp; constructor
    ·rfl
    ·rfl
   refine hK.out _ _ ⟨v_, x, w'.heap.size, p_, gA, G, X, (.slice (some ⟨w'.heap.size, 0, none⟩) 1 1), U, O, bB, cB, (by rw [L.out]; exact Av 4 hb_ rfl rfl rfl), (Aj FB.out (AR (Below.refl _ _) _)), fun _ => (fun g e => ⟨(FO.out g e).1, Nat.lt_of_lt_of_le (FO.out g e).2 (Below.size (AR (Below.refl _ _) _))⟩), fun c l => (B c l).up (AR (Below.refl _ _) _), fun c l => Kd.Cs (D c l) (AR (Below.refl _ _) _), fun _ _ => Oy _ _, fun c _ => absurd ((d 5 (by kernel_rfl)).symm.trans c) (by decide), fun c l => ⟨(r c l).1, AX (r c l).2.1 (AR (Below.refl _ _) _), (r c l).2.2⟩, fun c => absurd ((d 10 (by kernel_rfl)).symm.trans c) (by decide), o, fun _ => rfl, fun c => absurd ((d 5 (by kernel_rfl)).symm.trans c) (by decide), fun c => absurd ((d 6 (by kernel_rfl)).symm.trans c) (by decide), fun c => absurd ((d 7 (by kernel_rfl)).symm.trans c) (by decide), z⟩
  refine Ak ?_ ?_
  ·rintro b a w' ⟨v_, x, I, p_, gA, G, X, Y, U, O, bB, cB, L, q, s, B, D, T, J, r, Z, o, m, u, y, W, z⟩ hb_ j d; refine ⟨_, rfl, fun K hK => ?_⟩; have mH : a.tmps[24]? = some (tv) := by rw [L]; exact BB (e := (0, 24, tv)) 0 rfl rfl (j 0 (by kernel_rfl)) rfl
   have nH : a.tmps[25]? = some (.agg #[x0, x1, x2, x3, x4]) := by rw [L]; exact BB (e := (1, 25, .agg #[x0, x1, x2, x3, x4])) 1 rfl rfl (j 1 (by kernel_rfl)) rfl
   have gG : a.tmps[27]? = some (X) := by rw [L]; exact BB (e := (3, 27, X)) 3 rfl rfl (j 3 (by kernel_rfl)) rfl
   rw [o (j 3 (by kernel_rfl))] at gG; have iG : a.tmps[28]? = some (Y) := by rw [L]; exact BB (e := (4, 28, Y)) 4 rfl rfl (j 4 (by kernel_rfl)) rfl
   rw [m (j 4 (by kernel_rfl))] at iG; replace L := mk0 L; have FB := mk0 q; have FO := mk0 (s (d 10 (by kernel_rfl))); have FV := mk0 (B (j 2 (by kernel_rfl)) (d 10 (by kernel_rfl))); have FS := mk0 (D (j 3 (by kernel_rfl)) (d 10 (by kernel_rfl))); have FN := mk0 (T (j 4 (by kernel_rfl)) (d 10 (by kernel_rfl))); refine DF Try.func38 (by kernel_rfl) rfl #[tv, .agg #[x0, x1, x2, x3, x4], .int .i64 0, .slice (some ⟨x, 0, none⟩) 1 1, .slice (some ⟨I, 0, none⟩) 1 1, .bool false] (by rfl) rfl rfl (by first | (simp only [List.map_toArray, List.map_cons, List.map_nil, Act.eval, Array.getD_eq_getD_getElem?, Option.getD_some, mH, nH, gG, iG]; done) | (simp only [List.map_toArray, List.map_cons, List.map_nil, Act.eval, Array.getD_eq_getD_getElem?, Option.getD_some, mH, nH, gG, iG]; rfl)) ?_; refine (IG (S := (fun k => some k ≠ G)) (fun k hk e => absurd (FO.out k e.symm).2 (Nat.not_lt.mpr hk)) 0 1 0 5 [] [tr 5 1] _ false _ 1 _ 1 (Aa HG.out FB.out) ((jC.up FB.out).mono (fun k _ hk e => absurd (FO.out k e.symm).1 (Nat.not_le.mpr hk))) FS.out (Nat.le_refl _) FN.out (Nat.le_refl _) MX).mono ?_; rintro e w2 ⟨p, rfl, hp, hb⟩; refine ⟨_, rfl, ?_⟩; refine hK.out _ _ ⟨v_, x, I, p, gA, G, X, Y, (.tuple #[p, .int .i64 0]), O, bB, cB, (by rw [L.out]; exact Av 5 hb_ rfl rfl rfl), (Aj FB.out hb), fun _ => (fun g e => ⟨(FO.out g e).1, Nat.lt_of_lt_of_le (FO.out g e).2 (Below.size hb)⟩), fun _ _ => FV.out.up hb, fun _ _ => Kd.Cs FS.out hb, fun _ _ => Kd.Ap FN.out hb, fun _ _ => hp, fun c l => ⟨(r c l).1, AX (r c l).2.1 hb, (r c l).2.2⟩, fun c => absurd ((d 10 (by kernel_rfl)).symm.trans c) (by decide), o, m, fun _ => rfl, fun c => absurd ((d 6 (by kernel_rfl)).symm.trans c) (by decide), fun c => absurd ((d 7 (by kernel_rfl)).symm.trans c) (by decide), z⟩
  refine Ak ?_ ?_
  ·rintro b a w' ⟨v_, x, I, p_, gA, G, X, Y, U, O, bB, cB, L, q, s, B, D, T, J, r, Z, o, m, u, y, W, z⟩ hb_ j d; refine ⟨_, rfl, fun K hK => ?_⟩; have kI : a.tmps[29]? = some (U) := by rw [L]; exact BB (e := (5, 29, U)) 5 rfl rfl (j 5 (by kernel_rfl)) rfl
   rw [u (j 5 (by kernel_rfl))] at kI; replace L := mk0 L; have FB := mk0 q; have FO := mk0 (s (d 10 (by kernel_rfl))); have FV := mk0 (B (j 2 (by kernel_rfl)) (d 10 (by kernel_rfl))); have FS := mk0 (D (j 3 (by kernel_rfl)) (d 10 (by kernel_rfl))); have FN := mk0 (T (j 4 (by kernel_rfl)) (d 10 (by kernel_rfl))); have FP := mk0 (J (j 5 (by kernel_rfl)) (d 10 (by kernel_rfl))); refine CG (w1 := w') (v := .tuple #[p_, .int .i64 0]) (by rfl) rfl ?_ ?_
   ·go_simp; (try simp only [Bw]); try rfl
   refine hK.out _ _ ⟨v_, x, I, p_, gA, G, X, Y, U, (.tuple #[p_, .int .i64 0]), bB, cB, (by rw [L.out]; exact Av 6 hb_ rfl rfl rfl), q, s, B, D, T, J, r, fun c => absurd ((d 10 (by kernel_rfl)).symm.trans c) (by decide), o, m, u, fun _ => rfl, fun c => absurd ((d 7 (by kernel_rfl)).symm.trans c) (by decide), z⟩
  refine Ak ?_ ?_
  ·rintro b a w' ⟨v_, x, I, p_, gA, G, X, Y, U, O, bB, cB, L, q, s, B, D, T, J, r, Z, o, m, u, y, W, z⟩ hb_ j d; refine ⟨_, rfl, fun K hK => ?_⟩; have fG : a.tmps[23]? = some (O) := by rw [L]; exact BB (e := (6, 23, O)) 6 rfl rfl (j 6 (by kernel_rfl)) rfl
   rw [y (j 6 (by kernel_rfl))] at fG; replace L := mk0 L; have FB := mk0 q; have FO := mk0 (s (d 10 (by kernel_rfl))); have FV := mk0 (B (j 2 (by kernel_rfl)) (d 10 (by kernel_rfl))); have FS := mk0 (D (j 3 (by kernel_rfl)) (d 10 (by kernel_rfl))); have FN := mk0 (T (j 4 (by kernel_rfl)) (d 10 (by kernel_rfl))); have FP := mk0 (J (j 5 (by kernel_rfl)) (d 10 (by kernel_rfl))); refine CG (w1 := w') (v := p_) (by rfl) rfl ?_ ?_
   ·go_simp; (try simp only [Bw]); try rfl
   refine hK.out _ _ ⟨v_, x, I, p_, gA, G, X, Y, U, O, (p_), cB, (by rw [L.out]; exact Av 7 hb_ rfl rfl rfl), q, s, B, D, T, J, r, fun c => absurd ((d 10 (by kernel_rfl)).symm.trans c) (by decide), o, m, u, y, fun _ => rfl, z⟩
  refine Ak ?_ ?_
  ·rintro b a w' ⟨v_, x, I, p_, gA, G, X, Y, U, O, bB, cB, L, q, s, B, D, T, J, r, Z, o, m, u, y, W, z⟩ hb_ j d; refine ⟨_, rfl, fun K hK => ?_⟩; have fG : a.tmps[23]? = some (O) := by rw [L]; exact BB (e := (6, 23, O)) 6 rfl rfl (j 6 (by kernel_rfl)) rfl
   rw [y (j 6 (by kernel_rfl))] at fG; replace L := mk0 L; have FB := mk0 q; refine CG (w1 := w') (v := .int .i64 0) (by rfl) rfl ?_ ?_
   ·go_simp; (try simp only [Bw]); try rfl
   refine hK.out _ _ ⟨v_, x, I, p_, gA, G, X, Y, U, O, bB, cB, (by rw [L.out]; exact Av 8 hb_ rfl rfl rfl), q, s, B, D, T, J, r, Z, o, m, u, y, W, z⟩
  refine Ak ?_ ?_
  ·rintro b a w' ⟨v_, x, I, p_, gA, G, X, Y, U, O, bB, cB, L, q, s, B, D, T, J, r, Z, o, m, u, y, W, z⟩ hb_ j d; refine ⟨_, rfl, fun K hK => ?_⟩; replace L := mk0 L; have FB := mk0 q; have FO := mk0 (s (d 10 (by kernel_rfl))); refine CG (w1 := ?_) (v := ?_) (by rfl) rfl ?_ ?_; rotate_left 2
   ·go_simp; constructor
    ·rfl
    ·rfl
   refine hK.out _ _ ⟨v_, x, I, p_, w'.heap.size, (some w'.heap.size), X, Y, U, O, bB, (.pointer (some ⟨w'.heap.size, 0, none⟩)), (by rw [L.out]; exact Av 9 hb_ rfl rfl rfl), (AR FB.out _), fun _ => (fun g e => by cases e; exact ⟨FB.out.size, Dy _ _⟩), fun c l => ((B c l).mono (fun k hk _ e => Nat.ne_of_lt hk (Option.some.inj e))).up (AR (Below.refl _ _) _), fun c l => Kd.Gv (Kd.Cw (Kd.DX (D c l)) (fun k hk e => Nat.ne_of_lt hk.2 (Option.some.inj e))) _, fun c l => Kd.Ap (T c l) (AR (Below.refl _ _) _), fun c l => ((J c l).mono (fun k hk _ e => Nat.ne_of_lt hk (Option.some.inj e))).up (AR (Below.refl _ _) _), fun _ _ => ⟨rfl, Et _ _, FB.out.size⟩, fun c => absurd ((d 10 (by kernel_rfl)).symm.trans c) (by decide), o, m, u, y, W, fun _ => rfl⟩
  refine Ak ?_ ?_
  ·rintro b a w' ⟨v_, x, I, p_, gA, G, X, Y, U, O, bB, cB, L, q, s, B, D, T, J, r, Z, o, m, u, y, W, z⟩ hb_ j d; refine ⟨_, rfl, fun K hK => ?_⟩; have e3 : a.tmps[3]? = some (cB) := by rw [L]; exact BB (e := (9, 3, cB)) 9 rfl rfl (j 9 (by kernel_rfl)) rfl
   rw [z (j 9 (by kernel_rfl))] at e3; have mI : a.tmps[30]? = some (bB) := by rw [L]; exact BB (e := (7, 30, bB)) 7 rfl rfl (j 7 (by kernel_rfl)) rfl
   rw [W (j 7 (by kernel_rfl))] at mI; replace L := mk0 L; have FB := mk0 q; have FO := mk0 (s hb_); have FV := mk0 (B (j 2 (by kernel_rfl)) hb_); have FS := mk0 (D (j 3 (by kernel_rfl)) hb_); have FN := mk0 (T (j 4 (by kernel_rfl)) hb_); have FP := mk0 (J (j 5 (by kernel_rfl)) hb_); have FG := mk0 (r (j 9 (by kernel_rfl)) hb_); obtain ⟨A2, c2, B2, d2, E2, e2, rfl, q1, q2, q3, q4, q5⟩ := FP.out; have z_ := cells5 FG.out.2.1; refine F7 (w1 := ?_) (by rfl) rfl ?_ ?_; rotate_left
   ·go_simp; rfl
   refine hK.out _ _ ⟨v_, x, I, .agg #[.int .i64 1, .int .i64 0, .slice A2 1 c2, .slice B2 0 d2, .slice E2 1 e2], gA, G, X, Y, U, O, bB, cB, (by rw [L.out]; exact Ey (v := undef) rfl), (be1 FB ⟨FG.out.2.2⟩), fun c => absurd ((CV b 10).symm.trans c) (by decide), fun _ l => absurd ((CV b 10).symm.trans l) (by decide), fun _ l => absurd ((CV b 10).symm.trans l) (by decide), fun _ l => absurd ((CV b 10).symm.trans l) (by decide), fun _ l => absurd ((CV b 10).symm.trans l) (by decide), fun _ l => absurd ((CV b 10).symm.trans l) (by decide), fun _ => (Gr FG.out.2.1 (PL.mono (S' := fun k => k ≠ gA) ⟨A2, c2, B2, d2, E2, e2, rfl, q1, q2, q3, q4, q5⟩ (fun k _ hk e => hk (by rw [FG.out.1, e])))), o, m, u, y, W, z⟩
  refine Ak ?_ ?_
  ·rintro b a w' ⟨v_, x, I, p_, gA, G, X, Y, U, O, bB, cB, L, q, s, B, D, T, J, r, Z, o, m, u, y, W, z⟩ hb_ j d; refine ⟨_, rfl, fun K hK => ?_⟩; have sJ : a.tmps[31]? = some (.int .i64 0) := by rw [L]; exact BB (e := (8, 31, .int .i64 0)) 8 rfl rfl (j 8 (by kernel_rfl)) rfl
   replace L := mk0 L; have FB := mk0 q; have FD := mk0 (Z (j 10 (by kernel_rfl))); refine CG (w1 := w') (v := .int .i64 0) (by rfl) rfl ?_ ?_
   ·go_simp; (try simp only [Bw]); try rfl
   refine hK.out _ _ ⟨v_, x, I, p_, gA, G, X, Y, U, O, bB, cB, (by rw [L.out]; exact Av 10 hb_ rfl rfl rfl), q, fun c => absurd ((j 10 (by kernel_rfl)).symm.trans c) (by decide), fun _ l => absurd ((j 10 (by kernel_rfl)).symm.trans l) (by decide), fun _ l => absurd ((j 10 (by kernel_rfl)).symm.trans l) (by decide), fun _ l => absurd ((j 10 (by kernel_rfl)).symm.trans l) (by decide), fun _ l => absurd ((j 10 (by kernel_rfl)).symm.trans l) (by decide), fun _ l => absurd ((j 10 (by kernel_rfl)).symm.trans l) (by decide), Z, o, m, u, y, W, z⟩
  exact GA
 rintro b a w' dB ⟨v_, x, I, p_, gA, G, X, Y, U, O, bB, cB, L, q, s, B, D, T, J, r, Z, o, m, u, y, W, z⟩; have rC := dB 0 (by kernel_rfl); have tC := dB 1 (by kernel_rfl); have uC := dB 2 (by kernel_rfl); have zB := dB 3 (by kernel_rfl); have aC := dB 4 (by kernel_rfl); have bC := dB 5 (by kernel_rfl); have cC := dB 6 (by kernel_rfl); have fC := dB 7 (by kernel_rfl); have nC := dB 8 (by kernel_rfl); have dC := dB 9 (by kernel_rfl); have xB := dB 10 (by kernel_rfl); have sC := dB 11 (by kernel_rfl); subst L; obtain rfl := o zB; obtain rfl := m aC; obtain rfl := u bC; obtain rfl := y cC; obtain rfl := W fC; obtain rfl := z dC; simp only [Ck, rC, tC, uC, zB, aC, bC, cC, fC, nC, dC, xB, sC, if_true, Act.put, List.setIfInBounds_toArray, List.set_cons_zero, List.set_cons_succ]; have FB := mk0 q; clear q; clear s; clear B; clear D; clear T; clear J; clear r; have FD := mk0 (Z xB); clear Z; clear dB rC tC uC zB aC bC cC fC nC dC xB sC; skip
 have hd := FB.out; replace HP := mk0 (HP.out.up hd); replace HT := mk0 (AX HT.out hd); replace HG := mk0 (Aa HG.out hd); replace HB := mk0 (Aj HB.out hd); have HA := FD; clear FD FB hd hx jC; try go_wp2
 refine DV (n := 12) (S := fun w' => True) (ds := []) (tf 0 12) (by kernel_rfl) rfl rfl trivial (fun lB => ?_); refine CY Pj O0 (fun aB oC => ?_); have hd : Below w'.heap.size w' w'.drew := Ad (Below.refl _ _); replace HP := mk0 (HP.out.up hd); replace HA := mk0 (HA.out.up hd); replace HT := mk0 (AX HT.out hd); replace HG := mk0 (Aa HG.out hd); replace HB := mk0 (Aj HB.out hd); clear hd lB; generalize w'.drew = wB at HT HG HB HP HA ⊢; obtain ⟨x0, x1, x2, x3, x4, hx, jC⟩ := HA.out; refine JJ [0, 1, 2, 3, 4, 5, 6, 7, 8, 9, 10, 11] (fun pE b a w' => ∃ (v_ : Value) (x : Nat) (I : Nat) (p_ : Value) (gB : Nat) (G : Option Nat) (X : Value) (Y : Value) (U : Value) (O : Value) (bB : Value) (cB : Value), a = Ck pE b [(0, 33, tv), (1, 34, .agg #[x0, x1, x2, x3, x4]), (2, 35, v_), (3, 36, X), (4, 37, Y), (5, 38, U), (6, 32, O), (7, 39, bB), (8, 40, .int .i64 0), (9, 5, cB), (11, 6, .int .i64 0)] ∧ (Below wB.heap.size wB w') ∧ (b 10 = false → ∀ g, G = some g → wB.heap.size ≤ g ∧ g < w'.heap.size) ∧ (b 2 = true → b 10 = false → VB w' (fun k => some k ≠ G) 0 v_) ∧ (b 3 = true → b 10 = false → Kd.F k30 w' (fun k => some k ≠ G) (some ⟨x, 0, none⟩) 1 [bv 0]) ∧ (b 4 = true → b 10 = false → Kd.C (Kd.int .i64) w' (some ⟨I, 0, none⟩) 1 [5]) ∧ (b 5 = true → b 10 = false → PL w' (fun k => some k ≠ G) 0 [tr 7 0] p_) ∧ (b 9 = true → b 10 = false → G = some gB ∧ bk w' gB 33 #[.int .i64 0, .int .i64 0, .slice none 0 0, .slice none 0 0, .slice none 0 0] ∧ wB.heap.size ≤ gB) ∧ (b 10 = true → BP w' gB 0 [tr 7 0]) ∧ (b 3 = true → (X : Value) = .slice (some ⟨x, 0, none⟩) 1 1) ∧ (b 4 = true → (Y : Value) = .slice (some ⟨I, 0, none⟩) 1 1) ∧ (b 5 = true → (U : Value) = .tuple #[p_, .int .i64 0]) ∧ (b 6 = true → (O : Value) = .tuple #[p_, .int .i64 0]) ∧ (b 7 = true → (bB : Value) = p_) ∧ (b 9 = true → (cB : Value) = .pointer (some ⟨gB, 0, none⟩))) aB.out oC.out (by kernel_rfl) (by kernel_rfl) ?_ ?_ ?_
 ·exact ⟨.bool false, 0, 0, .bool false, 0, none, .bool false, .bool false, .bool false, .bool false, .bool false, .bool false, by simp only [Ck, Bool.false_eq_true, if_false], (Below.refl _ _), fun _ => (fun g e => by cases e), fun h_ => absurd h_ (by decide), fun h_ => absurd h_ (by decide), fun h_ => absurd h_ (by decide), fun h_ => absurd h_ (by decide), fun h_ => absurd h_ (by decide), fun h_ => absurd h_ (by decide), fun h_ => absurd h_ (by decide), fun h_ => absurd h_ (by decide), fun h_ => absurd h_ (by decide), fun h_ => absurd h_ (by decide), fun h_ => absurd h_ (by decide), fun h_ => absurd h_ (by decide)⟩
 ·skip
  refine Ak ?_ ?_
  ·rintro b a w' ⟨v_, x, I, p_, gB, G, X, Y, U, O, bB, cB, L, q, s, B, D, T, J, r, Z, o, m, u, y, W, z⟩ hb_ j d; refine ⟨_, rfl, fun K hK => ?_⟩; have e1 : a.tmps[1]? = some (.pointer (some ⟨gT, 0, none⟩)) := by rw [L]; exact (C8 rfl).trans rfl
   replace L := mk0 L; have FB := mk0 q; have FO := mk0 (s (d 10 (by kernel_rfl))); have z_ := cells5 (AX HT.out FB.out); refine CG (w1 := w') (v := tv) (by rfl) rfl ?_ ?_
   ·go_simp; (try simp only [Bw]); try rfl
   refine hK.out _ _ ⟨v_, x, I, p_, gB, G, X, Y, U, O, bB, cB, (by rw [L.out]; exact Av 0 hb_ rfl rfl rfl), q, s, B, D, T, fun c _ => absurd ((d 5 (by kernel_rfl)).symm.trans c) (by decide), r, fun c => absurd ((d 10 (by kernel_rfl)).symm.trans c) (by decide), o, m, fun c => absurd ((d 5 (by kernel_rfl)).symm.trans c) (by decide), fun c => absurd ((d 6 (by kernel_rfl)).symm.trans c) (by decide), fun c => absurd ((d 7 (by kernel_rfl)).symm.trans c) (by decide), z⟩
  refine Ak ?_ ?_
  ·rintro b a w' ⟨v_, x, I, p_, gB, G, X, Y, U, O, bB, cB, L, q, s, B, D, T, J, r, Z, o, m, u, y, W, z⟩ hb_ j d; refine ⟨_, rfl, fun K hK => ?_⟩; have e3 : a.tmps[3]? = some (.pointer (some ⟨gA, 0, none⟩)) := by rw [L]; exact (C8 rfl).trans rfl
   replace L := mk0 L; have FB := mk0 q; have FO := mk0 (s (d 10 (by kernel_rfl))); have z_ := cells5 (AX hx FB.out); refine CG (w1 := w') (v := .agg #[x0, x1, x2, x3, x4]) (by rfl) rfl ?_ ?_
   ·go_simp; (try simp only [Bw]); try rfl
   refine hK.out _ _ ⟨v_, x, I, p_, gB, G, X, Y, U, O, bB, cB, (by rw [L.out]; exact Av 1 hb_ rfl rfl rfl), q, s, B, D, T, fun c _ => absurd ((d 5 (by kernel_rfl)).symm.trans c) (by decide), r, fun c => absurd ((d 10 (by kernel_rfl)).symm.trans c) (by decide), o, m, fun c => absurd ((d 5 (by kernel_rfl)).symm.trans c) (by decide), fun c => absurd ((d 6 (by kernel_rfl)).symm.trans c) (by decide), fun c => absurd ((d 7 (by kernel_rfl)).symm.trans c) (by decide), z⟩
  refine Ak ?_ ?_
  ·rintro b a w' ⟨v_, x, I, p_, gB, G, X, Y, U, O, bB, cB, L, q, s, B, D, T, J, r, Z, o, m, u, y, W, z⟩ hb_ j d; refine ⟨_, rfl, fun K hK => ?_⟩; replace L := mk0 L; have FB := mk0 q; have FO := mk0 (s (d 10 (by kernel_rfl))); refine DF Try.func40 (by kernel_rfl) rfl #[.int .u8 0] (by rfl) rfl rfl (by first | (simp only [List.map_toArray, List.map_cons, List.map_nil, Act.eval, Array.getD_eq_getD_getElem?, Option.getD_some]; done) | (simp only [List.map_toArray, List.map_cons, List.map_nil, Act.eval, Array.getD_eq_getD_getElem?, Option.getD_some]; rfl)) ?_; refine (Kl (S := (fun k => some k ≠ G)) 0 (fun k hk e => absurd (FO.out k e.symm).2 (Nat.not_lt.mpr hk))).mono ?_; rintro e w2 ⟨v, rfl, hv, hb⟩; refine ⟨_, rfl, ?_⟩; refine hK.out _ _ ⟨v, x, I, p_, gB, G, X, Y, U, O, bB, cB, (by rw [L.out]; exact Av 2 hb_ rfl rfl rfl), (Aj FB.out hb), fun _ => (fun g e => ⟨(FO.out g e).1, Nat.lt_of_lt_of_le (FO.out g e).2 (Below.size hb)⟩), fun _ _ => hv, fun c _ => absurd ((d 3 (by kernel_rfl)).symm.trans c) (by decide), fun c l => Kd.Ap (T c l) hb, fun c _ => absurd ((d 5 (by kernel_rfl)).symm.trans c) (by decide), fun c l => ⟨(r c l).1, AX (r c l).2.1 hb, (r c l).2.2⟩, fun c => absurd ((d 10 (by kernel_rfl)).symm.trans c) (by decide), fun c => absurd ((d 3 (by kernel_rfl)).symm.trans c) (by decide), m, fun c => absurd ((d 5 (by kernel_rfl)).symm.trans c) (by decide), fun c => absurd ((d 6 (by kernel_rfl)).symm.trans c) (by decide), fun c => absurd ((d 7 (by kernel_rfl)).symm.trans c) (by decide), z⟩
  refine Ak ?_ ?_
  ·rintro b a w' ⟨v_, x, I, p_, gB, G, X, Y, U, O, bB, cB, L, q, s, B, D, T, J, r, Z, o, m, u, y, W, z⟩ hb_ j d; refine ⟨_, rfl, fun K hK => ?_⟩; have tJ : a.tmps[35]? = some (v_) := by rw [L]; exact BB (e := (2, 35, v_)) 2 rfl rfl (j 2 (by kernel_rfl)) rfl
   replace L := mk0 L; have FB := mk0 q; have FO := mk0 (s (d 10 (by kernel_rfl))); have FV := mk0 (B (j 2 (by kernel_rfl)) (d 10 (by kernel_rfl))); obtain ⟨A2, c2, B2, d2, rfl, l2, h2, h3⟩ := FV.out; refine CG (w1 := ?_) (v := ?_) (by rfl) rfl ?_ ?_; rotate_left 2
   ·go_simp; constructor
    ·rfl
    ·rfl
   refine hK.out _ _ ⟨.agg #[.int .i64 1, .int .i64 0, .slice A2 1 c2, .slice B2 0 d2], w'.heap.size, I, p_, gB, G, (.slice (some ⟨w'.heap.size, 0, none⟩) 1 1), Y, U, O, bB, cB, (by rw [L.out]; exact Av 3 hb_ rfl rfl rfl), (Aj FB.out (AR (Below.refl _ _) _)), fun _ => (fun g e => ⟨(FO.out g e).1, Nat.lt_of_lt_of_le (FO.out g e).2 (Below.size (AR (Below.refl _ _) _))⟩), fun _ _ => (VB.up FV.out (AR (Below.refl _ _) _)), fun _ _ => Km l2 h2 h3 (fun e => absurd (FO.out _ e.symm).2 (Nat.lt_irrefl _)), fun c l => Kd.Ap (T c l) (AR (Below.refl _ _) _), fun c _ => absurd ((d 5 (by kernel_rfl)).symm.trans c) (by decide), fun c l => ⟨(r c l).1, AX (r c l).2.1 (AR (Below.refl _ _) _), (r c l).2.2⟩, fun c => absurd ((d 10 (by kernel_rfl)).symm.trans c) (by decide), fun _ => rfl, m, fun c => absurd ((d 5 (by kernel_rfl)).symm.trans c) (by decide), fun c => absurd ((d 6 (by kernel_rfl)).symm.trans c) (by decide), fun c => absurd ((d 7 (by kernel_rfl)).symm.trans c) (by decide), z⟩
  refine Ak ?_ ?_
  ·rintro b a w' ⟨v_, x, I, p_, gB, G, X, Y, U, O, bB, cB, L, q, s, B, D, T, J, r, Z, o, m, u, y, W, z⟩ hb_ j d; refine ⟨_, rfl, fun K hK => ?_⟩; replace L := mk0 L; have FB := mk0 q; have FO := mk0 (s (d 10 (by kernel_rfl))); refine CG (w1 := ?_) (v := ?_) (by rfl) rfl ?_ ?_; rotate_left 2
   ·go_simp; constructor
    ·rfl
    ·rfl
   refine hK.out _ _ ⟨v_, x, w'.heap.size, p_, gB, G, X, (.slice (some ⟨w'.heap.size, 0, none⟩) 1 1), U, O, bB, cB, (by rw [L.out]; exact Av 4 hb_ rfl rfl rfl), (Aj FB.out (AR (Below.refl _ _) _)), fun _ => (fun g e => ⟨(FO.out g e).1, Nat.lt_of_lt_of_le (FO.out g e).2 (Below.size (AR (Below.refl _ _) _))⟩), fun c l => (B c l).up (AR (Below.refl _ _) _), fun c l => Kd.Cs (D c l) (AR (Below.refl _ _) _), fun _ _ => Oy _ _, fun c _ => absurd ((d 5 (by kernel_rfl)).symm.trans c) (by decide), fun c l => ⟨(r c l).1, AX (r c l).2.1 (AR (Below.refl _ _) _), (r c l).2.2⟩, fun c => absurd ((d 10 (by kernel_rfl)).symm.trans c) (by decide), o, fun _ => rfl, fun c => absurd ((d 5 (by kernel_rfl)).symm.trans c) (by decide), fun c => absurd ((d 6 (by kernel_rfl)).symm.trans c) (by decide), fun c => absurd ((d 7 (by kernel_rfl)).symm.trans c) (by decide), z⟩
  refine Ak ?_ ?_
  ·rintro b a w' ⟨v_, x, I, p_, gB, G, X, Y, U, O, bB, cB, L, q, s, B, D, T, J, r, Z, o, m, u, y, W, z⟩ hb_ j d; refine ⟨_, rfl, fun K hK => ?_⟩; have oH : a.tmps[33]? = some (tv) := by rw [L]; exact BB (e := (0, 33, tv)) 0 rfl rfl (j 0 (by kernel_rfl)) rfl
   have pH : a.tmps[34]? = some (.agg #[x0, x1, x2, x3, x4]) := by rw [L]; exact BB (e := (1, 34, .agg #[x0, x1, x2, x3, x4])) 1 rfl rfl (j 1 (by kernel_rfl)) rfl
   have kG : a.tmps[36]? = some (X) := by rw [L]; exact BB (e := (3, 36, X)) 3 rfl rfl (j 3 (by kernel_rfl)) rfl
   rw [o (j 3 (by kernel_rfl))] at kG; have lG : a.tmps[37]? = some (Y) := by rw [L]; exact BB (e := (4, 37, Y)) 4 rfl rfl (j 4 (by kernel_rfl)) rfl
   rw [m (j 4 (by kernel_rfl))] at lG; replace L := mk0 L; have FB := mk0 q; have FO := mk0 (s (d 10 (by kernel_rfl))); have FV := mk0 (B (j 2 (by kernel_rfl)) (d 10 (by kernel_rfl))); have FS := mk0 (D (j 3 (by kernel_rfl)) (d 10 (by kernel_rfl))); have FN := mk0 (T (j 4 (by kernel_rfl)) (d 10 (by kernel_rfl))); refine DF Try.func38 (by kernel_rfl) rfl #[tv, .agg #[x0, x1, x2, x3, x4], .int .i64 2, .slice (some ⟨x, 0, none⟩) 1 1, .slice (some ⟨I, 0, none⟩) 1 1, .bool false] (by rfl) rfl rfl (by first | (simp only [List.map_toArray, List.map_cons, List.map_nil, Act.eval, Array.getD_eq_getD_getElem?, Option.getD_some, oH, pH, kG, lG]; done) | (simp only [List.map_toArray, List.map_cons, List.map_nil, Act.eval, Array.getD_eq_getD_getElem?, Option.getD_some, oH, pH, kG, lG]; rfl)) ?_; refine (IG (S := (fun k => some k ≠ G)) (fun k hk e => absurd (FO.out k e.symm).2 (Nat.not_lt.mpr hk)) 0 0 2 5 [tr 5 1] [tr 7 0] _ false _ 1 _ 1 (Aa HG.out FB.out) ((jC.up FB.out).mono (fun k _ hk e => absurd (FO.out k e.symm).1 (Nat.not_le.mpr hk))) FS.out (Nat.le_refl _) FN.out (Nat.le_refl _) MZ).mono ?_; rintro e w2 ⟨p, rfl, hp, hb⟩; refine ⟨_, rfl, ?_⟩; refine hK.out _ _ ⟨v_, x, I, p, gB, G, X, Y, (.tuple #[p, .int .i64 0]), O, bB, cB, (by rw [L.out]; exact Av 5 hb_ rfl rfl rfl), (Aj FB.out hb), fun _ => (fun g e => ⟨(FO.out g e).1, Nat.lt_of_lt_of_le (FO.out g e).2 (Below.size hb)⟩), fun _ _ => FV.out.up hb, fun _ _ => Kd.Cs FS.out hb, fun _ _ => Kd.Ap FN.out hb, fun _ _ => hp, fun c l => ⟨(r c l).1, AX (r c l).2.1 hb, (r c l).2.2⟩, fun c => absurd ((d 10 (by kernel_rfl)).symm.trans c) (by decide), o, m, fun _ => rfl, fun c => absurd ((d 6 (by kernel_rfl)).symm.trans c) (by decide), fun c => absurd ((d 7 (by kernel_rfl)).symm.trans c) (by decide), z⟩
  refine Ak ?_ ?_
  ·rintro b a w' ⟨v_, x, I, p_, gB, G, X, Y, U, O, bB, cB, L, q, s, B, D, T, J, r, Z, o, m, u, y, W, z⟩ hb_ j d; refine ⟨_, rfl, fun K hK => ?_⟩; have oI : a.tmps[38]? = some (U) := by rw [L]; exact BB (e := (5, 38, U)) 5 rfl rfl (j 5 (by kernel_rfl)) rfl
   rw [u (j 5 (by kernel_rfl))] at oI; replace L := mk0 L; have FB := mk0 q; have FO := mk0 (s (d 10 (by kernel_rfl))); have FV := mk0 (B (j 2 (by kernel_rfl)) (d 10 (by kernel_rfl))); have FS := mk0 (D (j 3 (by kernel_rfl)) (d 10 (by kernel_rfl))); have FN := mk0 (T (j 4 (by kernel_rfl)) (d 10 (by kernel_rfl))); have FP := mk0 (J (j 5 (by kernel_rfl)) (d 10 (by kernel_rfl))); refine CG (w1 := w') (v := .tuple #[p_, .int .i64 0]) (by rfl) rfl ?_ ?_
   ·go_simp; (try simp only [Bw]); try rfl
   refine hK.out _ _ ⟨v_, x, I, p_, gB, G, X, Y, U, (.tuple #[p_, .int .i64 0]), bB, cB, (by rw [L.out]; exact Av 6 hb_ rfl rfl rfl), q, s, B, D, T, J, r, fun c => absurd ((d 10 (by kernel_rfl)).symm.trans c) (by decide), o, m, u, fun _ => rfl, fun c => absurd ((d 7 (by kernel_rfl)).symm.trans c) (by decide), z⟩
  refine Ak ?_ ?_
  ·rintro b a w' ⟨v_, x, I, p_, gB, G, X, Y, U, O, bB, cB, L, q, s, B, D, T, J, r, Z, o, m, u, y, W, z⟩ hb_ j d; refine ⟨_, rfl, fun K hK => ?_⟩; have jG : a.tmps[32]? = some (O) := by rw [L]; exact BB (e := (6, 32, O)) 6 rfl rfl (j 6 (by kernel_rfl)) rfl
   rw [y (j 6 (by kernel_rfl))] at jG; replace L := mk0 L; have FB := mk0 q; have FO := mk0 (s (d 10 (by kernel_rfl))); have FV := mk0 (B (j 2 (by kernel_rfl)) (d 10 (by kernel_rfl))); have FS := mk0 (D (j 3 (by kernel_rfl)) (d 10 (by kernel_rfl))); have FN := mk0 (T (j 4 (by kernel_rfl)) (d 10 (by kernel_rfl))); have FP := mk0 (J (j 5 (by kernel_rfl)) (d 10 (by kernel_rfl))); refine CG (w1 := w') (v := p_) (by rfl) rfl ?_ ?_
   ·go_simp; (try simp only [Bw]); try rfl
   refine hK.out _ _ ⟨v_, x, I, p_, gB, G, X, Y, U, O, (p_), cB, (by rw [L.out]; exact Av 7 hb_ rfl rfl rfl), q, s, B, D, T, J, r, fun c => absurd ((d 10 (by kernel_rfl)).symm.trans c) (by decide), o, m, u, y, fun _ => rfl, z⟩
  refine Ak ?_ ?_
  ·rintro b a w' ⟨v_, x, I, p_, gB, G, X, Y, U, O, bB, cB, L, q, s, B, D, T, J, r, Z, o, m, u, y, W, z⟩ hb_ j d; refine ⟨_, rfl, fun K hK => ?_⟩; have jG : a.tmps[32]? = some (O) := by rw [L]; exact BB (e := (6, 32, O)) 6 rfl rfl (j 6 (by kernel_rfl)) rfl
   rw [y (j 6 (by kernel_rfl))] at jG; replace L := mk0 L; have FB := mk0 q; refine CG (w1 := w') (v := .int .i64 0) (by rfl) rfl ?_ ?_
   ·go_simp; (try simp only [Bw]); try rfl
   refine hK.out _ _ ⟨v_, x, I, p_, gB, G, X, Y, U, O, bB, cB, (by rw [L.out]; exact Av 8 hb_ rfl rfl rfl), q, s, B, D, T, J, r, Z, o, m, u, y, W, z⟩
  refine Ak ?_ ?_
  ·rintro b a w' ⟨v_, x, I, p_, gB, G, X, Y, U, O, bB, cB, L, q, s, B, D, T, J, r, Z, o, m, u, y, W, z⟩ hb_ j d; refine ⟨_, rfl, fun K hK => ?_⟩; replace L := mk0 L; have FB := mk0 q; have FO := mk0 (s (d 10 (by kernel_rfl))); refine CG (w1 := ?_) (v := ?_) (by rfl) rfl ?_ ?_; rotate_left 2
   ·go_simp; constructor
    ·rfl
    ·rfl
   refine hK.out _ _ ⟨v_, x, I, p_, w'.heap.size, (some w'.heap.size), X, Y, U, O, bB, (.pointer (some ⟨w'.heap.size, 0, none⟩)), (by rw [L.out]; exact Av 9 hb_ rfl rfl rfl), (AR FB.out _), fun _ => (fun g e => by cases e; exact ⟨FB.out.size, Dy _ _⟩), fun c l => ((B c l).mono (fun k hk _ e => Nat.ne_of_lt hk (Option.some.inj e))).up (AR (Below.refl _ _) _), fun c l => Kd.Gv (Kd.Cw (Kd.DX (D c l)) (fun k hk e => Nat.ne_of_lt hk.2 (Option.some.inj e))) _, fun c l => Kd.Ap (T c l) (AR (Below.refl _ _) _), fun c l => ((J c l).mono (fun k hk _ e => Nat.ne_of_lt hk (Option.some.inj e))).up (AR (Below.refl _ _) _), fun _ _ => ⟨rfl, Et _ _, FB.out.size⟩, fun c => absurd ((d 10 (by kernel_rfl)).symm.trans c) (by decide), o, m, u, y, W, fun _ => rfl⟩
  refine Ak ?_ ?_
  ·rintro b a w' ⟨v_, x, I, p_, gB, G, X, Y, U, O, bB, cB, L, q, s, B, D, T, J, r, Z, o, m, u, y, W, z⟩ hb_ j d; refine ⟨_, rfl, fun K hK => ?_⟩; have e5 : a.tmps[5]? = some (cB) := by rw [L]; exact BB (e := (9, 5, cB)) 9 rfl rfl (j 9 (by kernel_rfl)) rfl
   rw [z (j 9 (by kernel_rfl))] at e5; have pI : a.tmps[39]? = some (bB) := by rw [L]; exact BB (e := (7, 39, bB)) 7 rfl rfl (j 7 (by kernel_rfl)) rfl
   rw [W (j 7 (by kernel_rfl))] at pI; replace L := mk0 L; have FB := mk0 q; have FO := mk0 (s hb_); have FV := mk0 (B (j 2 (by kernel_rfl)) hb_); have FS := mk0 (D (j 3 (by kernel_rfl)) hb_); have FN := mk0 (T (j 4 (by kernel_rfl)) hb_); have FP := mk0 (J (j 5 (by kernel_rfl)) hb_); have FG := mk0 (r (j 9 (by kernel_rfl)) hb_); obtain ⟨A2, c2, B2, d2, E2, e2, rfl, q1, q2, q3, q4, q5⟩ := FP.out; have z_ := cells5 FG.out.2.1; refine F7 (w1 := ?_) (by rfl) rfl ?_ ?_; rotate_left
   ·go_simp; rfl
   refine hK.out _ _ ⟨v_, x, I, .agg #[.int .i64 1, .int .i64 0, .slice A2 1 c2, .slice B2 0 d2, .slice E2 1 e2], gB, G, X, Y, U, O, bB, cB, (by rw [L.out]; exact Ey (v := undef) rfl), (be1 FB ⟨FG.out.2.2⟩), fun c => absurd ((CV b 10).symm.trans c) (by decide), fun _ l => absurd ((CV b 10).symm.trans l) (by decide), fun _ l => absurd ((CV b 10).symm.trans l) (by decide), fun _ l => absurd ((CV b 10).symm.trans l) (by decide), fun _ l => absurd ((CV b 10).symm.trans l) (by decide), fun _ l => absurd ((CV b 10).symm.trans l) (by decide), fun _ => (Gr FG.out.2.1 (PL.mono (S' := fun k => k ≠ gB) ⟨A2, c2, B2, d2, E2, e2, rfl, q1, q2, q3, q4, q5⟩ (fun k _ hk e => hk (by rw [FG.out.1, e])))), o, m, u, y, W, z⟩
  refine Ak ?_ ?_
  ·rintro b a w' ⟨v_, x, I, p_, gB, G, X, Y, U, O, bB, cB, L, q, s, B, D, T, J, r, Z, o, m, u, y, W, z⟩ hb_ j d; refine ⟨_, rfl, fun K hK => ?_⟩; have uJ : a.tmps[40]? = some (.int .i64 0) := by rw [L]; exact BB (e := (8, 40, .int .i64 0)) 8 rfl rfl (j 8 (by kernel_rfl)) rfl
   replace L := mk0 L; have FB := mk0 q; have FD := mk0 (Z (j 10 (by kernel_rfl))); refine CG (w1 := w') (v := .int .i64 0) (by rfl) rfl ?_ ?_
   ·go_simp; (try simp only [Bw]); try rfl
   refine hK.out _ _ ⟨v_, x, I, p_, gB, G, X, Y, U, O, bB, cB, (by rw [L.out]; exact Av 10 hb_ rfl rfl rfl), q, fun c => absurd ((j 10 (by kernel_rfl)).symm.trans c) (by decide), fun _ l => absurd ((j 10 (by kernel_rfl)).symm.trans l) (by decide), fun _ l => absurd ((j 10 (by kernel_rfl)).symm.trans l) (by decide), fun _ l => absurd ((j 10 (by kernel_rfl)).symm.trans l) (by decide), fun _ l => absurd ((j 10 (by kernel_rfl)).symm.trans l) (by decide), fun _ l => absurd ((j 10 (by kernel_rfl)).symm.trans l) (by decide), Z, o, m, u, y, W, z⟩
  exact GA
 rintro b a w' dB ⟨v_, x, I, p_, gB, G, X, Y, U, O, bB, cB, L, q, s, B, D, T, J, r, Z, o, m, u, y, W, z⟩; have rC := dB 0 (by kernel_rfl); have tC := dB 1 (by kernel_rfl); have uC := dB 2 (by kernel_rfl); have zB := dB 3 (by kernel_rfl); have aC := dB 4 (by kernel_rfl); have bC := dB 5 (by kernel_rfl); have cC := dB 6 (by kernel_rfl); have fC := dB 7 (by kernel_rfl); have nC := dB 8 (by kernel_rfl); have dC := dB 9 (by kernel_rfl); have xB := dB 10 (by kernel_rfl); have sC := dB 11 (by kernel_rfl); subst L; obtain rfl := o zB; obtain rfl := m aC; obtain rfl := u bC; obtain rfl := y cC; obtain rfl := W fC; obtain rfl := z dC; simp only [Ck, rC, tC, uC, zB, aC, bC, cC, fC, nC, dC, xB, sC, if_true, Act.put, List.setIfInBounds_toArray, List.set_cons_zero, List.set_cons_succ]; have FB := mk0 q; clear q; clear s; clear B; clear D; clear T; clear J; clear r; have FD := mk0 (Z xB); clear Z; clear dB rC tC uC zB aC bC cC fC nC dC xB sC; have hd := FB.out; replace HP := mk0 (HP.out.up hd); replace HA := mk0 (HA.out.up hd); replace HT := mk0 (AX HT.out hd); replace HG := mk0 (Aa HG.out hd); replace HB := mk0 (Aj HB.out hd); have HZ := FD; clear FD FB hd hx jC; try go_wp2
 refine DV (n := 12) (S := fun w' => True) (ds := []) (tf 0 12) (by kernel_rfl) rfl rfl trivial (fun lB => ?_); refine CY Pk O1 (fun aB oC => ?_); have hd : Below w'.heap.size w' w'.drew := Ad (Below.refl _ _); replace HP := mk0 (HP.out.up hd); replace HA := mk0 (HA.out.up hd); replace HZ := mk0 (HZ.out.up hd); replace HT := mk0 (AX HT.out hd); replace HG := mk0 (Aa HG.out hd); replace HB := mk0 (Aj HB.out hd); clear hd lB; generalize w'.drew = wC at HT HG HB HP HA HZ ⊢; obtain ⟨x0, x1, x2, x3, x4, hx, jC⟩ := HA.out; refine JJ [0, 1, 2, 3, 4, 5, 6, 7, 8, 9, 10, 11] (fun pE b a w' => ∃ (v_ : Value) (x : Nat) (I : Nat) (p_ : Value) (gC : Nat) (G : Option Nat) (X : Value) (Y : Value) (U : Value) (O : Value) (bB : Value) (cB : Value), a = Ck pE b [(0, 42, tv), (1, 43, .agg #[x0, x1, x2, x3, x4]), (2, 44, v_), (3, 45, X), (4, 46, Y), (5, 47, U), (6, 41, O), (7, 48, bB), (8, 49, .int .i64 0), (9, 7, cB), (11, 8, .int .i64 0)] ∧ (Below wC.heap.size wC w') ∧ (b 10 = false → ∀ g, G = some g → wC.heap.size ≤ g ∧ g < w'.heap.size) ∧ (b 2 = true → b 10 = false → VB w' (fun k => some k ≠ G) 0 v_) ∧ (b 3 = true → b 10 = false → Kd.F k30 w' (fun k => some k ≠ G) (some ⟨x, 0, none⟩) 1 [bv 0]) ∧ (b 4 = true → b 10 = false → Kd.C (Kd.int .i64) w' (some ⟨I, 0, none⟩) 1 [5]) ∧ (b 5 = true → b 10 = false → PL w' (fun k => some k ≠ G) 0 [tr 5 1, tr 7 0] p_) ∧ (b 9 = true → b 10 = false → G = some gC ∧ bk w' gC 33 #[.int .i64 0, .int .i64 0, .slice none 0 0, .slice none 0 0, .slice none 0 0] ∧ wC.heap.size ≤ gC) ∧ (b 10 = true → BP w' gC 0 [tr 5 1, tr 7 0]) ∧ (b 3 = true → (X : Value) = .slice (some ⟨x, 0, none⟩) 1 1) ∧ (b 4 = true → (Y : Value) = .slice (some ⟨I, 0, none⟩) 1 1) ∧ (b 5 = true → (U : Value) = .tuple #[p_, .int .i64 0]) ∧ (b 6 = true → (O : Value) = .tuple #[p_, .int .i64 0]) ∧ (b 7 = true → (bB : Value) = p_) ∧ (b 9 = true → (cB : Value) = .pointer (some ⟨gC, 0, none⟩))) aB.out oC.out (by kernel_rfl) (by kernel_rfl) ?_ ?_ ?_
 ·exact ⟨.bool false, 0, 0, .bool false, 0, none, .bool false, .bool false, .bool false, .bool false, .bool false, .bool false, by simp only [Ck, Bool.false_eq_true, if_false], (Below.refl _ _), fun _ => (fun g e => by cases e), fun h_ => absurd h_ (by decide), fun h_ => absurd h_ (by decide), fun h_ => absurd h_ (by decide), fun h_ => absurd h_ (by decide), fun h_ => absurd h_ (by decide), fun h_ => absurd h_ (by decide), fun h_ => absurd h_ (by decide), fun h_ => absurd h_ (by decide), fun h_ => absurd h_ (by decide), fun h_ => absurd h_ (by decide), fun h_ => absurd h_ (by decide), fun h_ => absurd h_ (by decide)⟩
 ·skip
  refine Ak ?_ ?_
  ·rintro b a w' ⟨v_, x, I, p_, gC, G, X, Y, U, O, bB, cB, L, q, s, B, D, T, J, r, Z, o, m, u, y, W, z⟩ hb_ j d; refine ⟨_, rfl, fun K hK => ?_⟩; have e1 : a.tmps[1]? = some (.pointer (some ⟨gT, 0, none⟩)) := by rw [L]; exact (C8 rfl).trans rfl
   replace L := mk0 L; have FB := mk0 q; have FO := mk0 (s (d 10 (by kernel_rfl))); have z_ := cells5 (AX HT.out FB.out); refine CG (w1 := w') (v := tv) (by rfl) rfl ?_ ?_
   ·go_simp; (try simp only [Bw]); try rfl
   refine hK.out _ _ ⟨v_, x, I, p_, gC, G, X, Y, U, O, bB, cB, (by rw [L.out]; exact Av 0 hb_ rfl rfl rfl), q, s, B, D, T, fun c _ => absurd ((d 5 (by kernel_rfl)).symm.trans c) (by decide), r, fun c => absurd ((d 10 (by kernel_rfl)).symm.trans c) (by decide), o, m, fun c => absurd ((d 5 (by kernel_rfl)).symm.trans c) (by decide), fun c => absurd ((d 6 (by kernel_rfl)).symm.trans c) (by decide), fun c => absurd ((d 7 (by kernel_rfl)).symm.trans c) (by decide), z⟩
  refine Ak ?_ ?_
  ·rintro b a w' ⟨v_, x, I, p_, gC, G, X, Y, U, O, bB, cB, L, q, s, B, D, T, J, r, Z, o, m, u, y, W, z⟩ hb_ j d; refine ⟨_, rfl, fun K hK => ?_⟩; have e3 : a.tmps[3]? = some (.pointer (some ⟨gA, 0, none⟩)) := by rw [L]; exact (C8 rfl).trans rfl
   replace L := mk0 L; have FB := mk0 q; have FO := mk0 (s (d 10 (by kernel_rfl))); have z_ := cells5 (AX hx FB.out); refine CG (w1 := w') (v := .agg #[x0, x1, x2, x3, x4]) (by rfl) rfl ?_ ?_
   ·go_simp; (try simp only [Bw]); try rfl
   refine hK.out _ _ ⟨v_, x, I, p_, gC, G, X, Y, U, O, bB, cB, (by rw [L.out]; exact Av 1 hb_ rfl rfl rfl), q, s, B, D, T, fun c _ => absurd ((d 5 (by kernel_rfl)).symm.trans c) (by decide), r, fun c => absurd ((d 10 (by kernel_rfl)).symm.trans c) (by decide), o, m, fun c => absurd ((d 5 (by kernel_rfl)).symm.trans c) (by decide), fun c => absurd ((d 6 (by kernel_rfl)).symm.trans c) (by decide), fun c => absurd ((d 7 (by kernel_rfl)).symm.trans c) (by decide), z⟩
  refine Ak ?_ ?_
  ·rintro b a w' ⟨v_, x, I, p_, gC, G, X, Y, U, O, bB, cB, L, q, s, B, D, T, J, r, Z, o, m, u, y, W, z⟩ hb_ j d; refine ⟨_, rfl, fun K hK => ?_⟩; replace L := mk0 L; have FB := mk0 q; have FO := mk0 (s (d 10 (by kernel_rfl))); refine DF Try.func40 (by kernel_rfl) rfl #[.int .u8 0] (by rfl) rfl rfl (by first | (simp only [List.map_toArray, List.map_cons, List.map_nil, Act.eval, Array.getD_eq_getD_getElem?, Option.getD_some]; done) | (simp only [List.map_toArray, List.map_cons, List.map_nil, Act.eval, Array.getD_eq_getD_getElem?, Option.getD_some]; rfl)) ?_; refine (Kl (S := (fun k => some k ≠ G)) 0 (fun k hk e => absurd (FO.out k e.symm).2 (Nat.not_lt.mpr hk))).mono ?_; rintro e w2 ⟨v, rfl, hv, hb⟩; refine ⟨_, rfl, ?_⟩; refine hK.out _ _ ⟨v, x, I, p_, gC, G, X, Y, U, O, bB, cB, (by rw [L.out]; exact Av 2 hb_ rfl rfl rfl), (Aj FB.out hb), fun _ => (fun g e => ⟨(FO.out g e).1, Nat.lt_of_lt_of_le (FO.out g e).2 (Below.size hb)⟩), fun _ _ => hv, fun c _ => absurd ((d 3 (by kernel_rfl)).symm.trans c) (by decide), fun c l => Kd.Ap (T c l) hb, fun c _ => absurd ((d 5 (by kernel_rfl)).symm.trans c) (by decide), fun c l => ⟨(r c l).1, AX (r c l).2.1 hb, (r c l).2.2⟩, fun c => absurd ((d 10 (by kernel_rfl)).symm.trans c) (by decide), fun c => absurd ((d 3 (by kernel_rfl)).symm.trans c) (by decide), m, fun c => absurd ((d 5 (by kernel_rfl)).symm.trans c) (by decide), fun c => absurd ((d 6 (by kernel_rfl)).symm.trans c) (by decide), fun c => absurd ((d 7 (by kernel_rfl)).symm.trans c) (by decide), z⟩
  refine Ak ?_ ?_
  ·rintro b a w' ⟨v_, x, I, p_, gC, G, X, Y, U, O, bB, cB, L, q, s, B, D, T, J, r, Z, o, m, u, y, W, z⟩ hb_ j d; refine ⟨_, rfl, fun K hK => ?_⟩; have vJ : a.tmps[44]? = some (v_) := by rw [L]; exact BB (e := (2, 44, v_)) 2 rfl rfl (j 2 (by kernel_rfl)) rfl
   replace L := mk0 L; have FB := mk0 q; have FO := mk0 (s (d 10 (by kernel_rfl))); have FV := mk0 (B (j 2 (by kernel_rfl)) (d 10 (by kernel_rfl))); obtain ⟨A2, c2, B2, d2, rfl, l2, h2, h3⟩ := FV.out; refine CG (w1 := ?_) (v := ?_) (by rfl) rfl ?_ ?_; rotate_left 2
   ·go_simp; constructor
    ·rfl
    ·rfl
   refine hK.out _ _ ⟨.agg #[.int .i64 1, .int .i64 0, .slice A2 1 c2, .slice B2 0 d2], w'.heap.size, I, p_, gC, G, (.slice (some ⟨w'.heap.size, 0, none⟩) 1 1), Y, U, O, bB, cB, (by rw [L.out]; exact Av 3 hb_ rfl rfl rfl), (Aj FB.out (AR (Below.refl _ _) _)), fun _ => (fun g e => ⟨(FO.out g e).1, Nat.lt_of_lt_of_le (FO.out g e).2 (Below.size (AR (Below.refl _ _) _))⟩), fun _ _ => (VB.up FV.out (AR (Below.refl _ _) _)), fun _ _ => Km l2 h2 h3 (fun e => absurd (FO.out _ e.symm).2 (Nat.lt_irrefl _)), fun c l => Kd.Ap (T c l) (AR (Below.refl _ _) _), fun c _ => absurd ((d 5 (by kernel_rfl)).symm.trans c) (by decide), fun c l => ⟨(r c l).1, AX (r c l).2.1 (AR (Below.refl _ _) _), (r c l).2.2⟩, fun c => absurd ((d 10 (by kernel_rfl)).symm.trans c) (by decide), fun _ => rfl, m, fun c => absurd ((d 5 (by kernel_rfl)).symm.trans c) (by decide), fun c => absurd ((d 6 (by kernel_rfl)).symm.trans c) (by decide), fun c => absurd ((d 7 (by kernel_rfl)).symm.trans c) (by decide), z⟩
  refine Ak ?_ ?_
  ·rintro b a w' ⟨v_, x, I, p_, gC, G, X, Y, U, O, bB, cB, L, q, s, B, D, T, J, r, Z, o, m, u, y, W, z⟩ hb_ j d; refine ⟨_, rfl, fun K hK => ?_⟩; replace L := mk0 L; have FB := mk0 q; have FO := mk0 (s (d 10 (by kernel_rfl))); refine CG (w1 := ?_) (v := ?_) (by rfl) rfl ?_ ?_; rotate_left 2
   ·go_simp; constructor
    ·rfl
    ·rfl
   refine hK.out _ _ ⟨v_, x, w'.heap.size, p_, gC, G, X, (.slice (some ⟨w'.heap.size, 0, none⟩) 1 1), U, O, bB, cB, (by rw [L.out]; exact Av 4 hb_ rfl rfl rfl), (Aj FB.out (AR (Below.refl _ _) _)), fun _ => (fun g e => ⟨(FO.out g e).1, Nat.lt_of_lt_of_le (FO.out g e).2 (Below.size (AR (Below.refl _ _) _))⟩), fun c l => (B c l).up (AR (Below.refl _ _) _), fun c l => Kd.Cs (D c l) (AR (Below.refl _ _) _), fun _ _ => Oy _ _, fun c _ => absurd ((d 5 (by kernel_rfl)).symm.trans c) (by decide), fun c l => ⟨(r c l).1, AX (r c l).2.1 (AR (Below.refl _ _) _), (r c l).2.2⟩, fun c => absurd ((d 10 (by kernel_rfl)).symm.trans c) (by decide), o, fun _ => rfl, fun c => absurd ((d 5 (by kernel_rfl)).symm.trans c) (by decide), fun c => absurd ((d 6 (by kernel_rfl)).symm.trans c) (by decide), fun c => absurd ((d 7 (by kernel_rfl)).symm.trans c) (by decide), z⟩
  refine Ak ?_ ?_
  ·rintro b a w' ⟨v_, x, I, p_, gC, G, X, Y, U, O, bB, cB, L, q, s, B, D, T, J, r, Z, o, m, u, y, W, z⟩ hb_ j d; refine ⟨_, rfl, fun K hK => ?_⟩; have qH : a.tmps[42]? = some (tv) := by rw [L]; exact BB (e := (0, 42, tv)) 0 rfl rfl (j 0 (by kernel_rfl)) rfl
   have rH : a.tmps[43]? = some (.agg #[x0, x1, x2, x3, x4]) := by rw [L]; exact BB (e := (1, 43, .agg #[x0, x1, x2, x3, x4])) 1 rfl rfl (j 1 (by kernel_rfl)) rfl
   have nG : a.tmps[45]? = some (X) := by rw [L]; exact BB (e := (3, 45, X)) 3 rfl rfl (j 3 (by kernel_rfl)) rfl
   rw [o (j 3 (by kernel_rfl))] at nG; have oG : a.tmps[46]? = some (Y) := by rw [L]; exact BB (e := (4, 46, Y)) 4 rfl rfl (j 4 (by kernel_rfl)) rfl
   rw [m (j 4 (by kernel_rfl))] at oG; replace L := mk0 L; have FB := mk0 q; have FO := mk0 (s (d 10 (by kernel_rfl))); have FV := mk0 (B (j 2 (by kernel_rfl)) (d 10 (by kernel_rfl))); have FS := mk0 (D (j 3 (by kernel_rfl)) (d 10 (by kernel_rfl))); have FN := mk0 (T (j 4 (by kernel_rfl)) (d 10 (by kernel_rfl))); refine DF Try.func38 (by kernel_rfl) rfl #[tv, .agg #[x0, x1, x2, x3, x4], .int .i64 2, .slice (some ⟨x, 0, none⟩) 1 1, .slice (some ⟨I, 0, none⟩) 1 1, .bool true] (by rfl) rfl rfl (by first | (simp only [List.map_toArray, List.map_cons, List.map_nil, Act.eval, Array.getD_eq_getD_getElem?, Option.getD_some, qH, rH, nG, oG]; done) | (simp only [List.map_toArray, List.map_cons, List.map_nil, Act.eval, Array.getD_eq_getD_getElem?, Option.getD_some, qH, rH, nG, oG]; rfl)) ?_; refine (IG (S := (fun k => some k ≠ G)) (fun k hk e => absurd (FO.out k e.symm).2 (Nat.not_lt.mpr hk)) 0 0 2 5 [tr 5 1] [tr 5 1, tr 7 0] _ true _ 1 _ 1 (Aa HG.out FB.out) ((jC.up FB.out).mono (fun k _ hk e => absurd (FO.out k e.symm).1 (Nat.not_le.mpr hk))) FS.out (Nat.le_refl _) FN.out (Nat.le_refl _) Ma).mono ?_; rintro e w2 ⟨p, rfl, hp, hb⟩; refine ⟨_, rfl, ?_⟩; refine hK.out _ _ ⟨v_, x, I, p, gC, G, X, Y, (.tuple #[p, .int .i64 0]), O, bB, cB, (by rw [L.out]; exact Av 5 hb_ rfl rfl rfl), (Aj FB.out hb), fun _ => (fun g e => ⟨(FO.out g e).1, Nat.lt_of_lt_of_le (FO.out g e).2 (Below.size hb)⟩), fun _ _ => FV.out.up hb, fun _ _ => Kd.Cs FS.out hb, fun _ _ => Kd.Ap FN.out hb, fun _ _ => hp, fun c l => ⟨(r c l).1, AX (r c l).2.1 hb, (r c l).2.2⟩, fun c => absurd ((d 10 (by kernel_rfl)).symm.trans c) (by decide), o, m, fun _ => rfl, fun c => absurd ((d 6 (by kernel_rfl)).symm.trans c) (by decide), fun c => absurd ((d 7 (by kernel_rfl)).symm.trans c) (by decide), z⟩
  refine Ak ?_ ?_
  ·rintro b a w' ⟨v_, x, I, p_, gC, G, X, Y, U, O, bB, cB, L, q, s, B, D, T, J, r, Z, o, m, u, y, W, z⟩ hb_ j d; refine ⟨_, rfl, fun K hK => ?_⟩; have qI : a.tmps[47]? = some (U) := by rw [L]; exact BB (e := (5, 47, U)) 5 rfl rfl (j 5 (by kernel_rfl)) rfl
   rw [u (j 5 (by kernel_rfl))] at qI; replace L := mk0 L; have FB := mk0 q; have FO := mk0 (s (d 10 (by kernel_rfl))); have FV := mk0 (B (j 2 (by kernel_rfl)) (d 10 (by kernel_rfl))); have FS := mk0 (D (j 3 (by kernel_rfl)) (d 10 (by kernel_rfl))); have FN := mk0 (T (j 4 (by kernel_rfl)) (d 10 (by kernel_rfl))); have FP := mk0 (J (j 5 (by kernel_rfl)) (d 10 (by kernel_rfl))); refine CG (w1 := w') (v := .tuple #[p_, .int .i64 0]) (by rfl) rfl ?_ ?_
   ·go_simp; (try simp only [Bw]); try rfl
   refine hK.out _ _ ⟨v_, x, I, p_, gC, G, X, Y, U, (.tuple #[p_, .int .i64 0]), bB, cB, (by rw [L.out]; exact Av 6 hb_ rfl rfl rfl), q, s, B, D, T, J, r, fun c => absurd ((d 10 (by kernel_rfl)).symm.trans c) (by decide), o, m, u, fun _ => rfl, fun c => absurd ((d 7 (by kernel_rfl)).symm.trans c) (by decide), z⟩
  refine Ak ?_ ?_
  ·rintro b a w' ⟨v_, x, I, p_, gC, G, X, Y, U, O, bB, cB, L, q, s, B, D, T, J, r, Z, o, m, u, y, W, z⟩ hb_ j d; refine ⟨_, rfl, fun K hK => ?_⟩; have mG : a.tmps[41]? = some (O) := by rw [L]; exact BB (e := (6, 41, O)) 6 rfl rfl (j 6 (by kernel_rfl)) rfl
   rw [y (j 6 (by kernel_rfl))] at mG; replace L := mk0 L; have FB := mk0 q; have FO := mk0 (s (d 10 (by kernel_rfl))); have FV := mk0 (B (j 2 (by kernel_rfl)) (d 10 (by kernel_rfl))); have FS := mk0 (D (j 3 (by kernel_rfl)) (d 10 (by kernel_rfl))); have FN := mk0 (T (j 4 (by kernel_rfl)) (d 10 (by kernel_rfl))); have FP := mk0 (J (j 5 (by kernel_rfl)) (d 10 (by kernel_rfl))); refine CG (w1 := w') (v := p_) (by rfl) rfl ?_ ?_
   ·go_simp; (try simp only [Bw]); try rfl
   refine hK.out _ _ ⟨v_, x, I, p_, gC, G, X, Y, U, O, (p_), cB, (by rw [L.out]; exact Av 7 hb_ rfl rfl rfl), q, s, B, D, T, J, r, fun c => absurd ((d 10 (by kernel_rfl)).symm.trans c) (by decide), o, m, u, y, fun _ => rfl, z⟩
  refine Ak ?_ ?_
  ·rintro b a w' ⟨v_, x, I, p_, gC, G, X, Y, U, O, bB, cB, L, q, s, B, D, T, J, r, Z, o, m, u, y, W, z⟩ hb_ j d; refine ⟨_, rfl, fun K hK => ?_⟩; have mG : a.tmps[41]? = some (O) := by rw [L]; exact BB (e := (6, 41, O)) 6 rfl rfl (j 6 (by kernel_rfl)) rfl
   rw [y (j 6 (by kernel_rfl))] at mG; replace L := mk0 L; have FB := mk0 q; refine CG (w1 := w') (v := .int .i64 0) (by rfl) rfl ?_ ?_
   ·go_simp; (try simp only [Bw]); try rfl
   refine hK.out _ _ ⟨v_, x, I, p_, gC, G, X, Y, U, O, bB, cB, (by rw [L.out]; exact Av 8 hb_ rfl rfl rfl), q, s, B, D, T, J, r, Z, o, m, u, y, W, z⟩
  refine Ak ?_ ?_
  ·rintro b a w' ⟨v_, x, I, p_, gC, G, X, Y, U, O, bB, cB, L, q, s, B, D, T, J, r, Z, o, m, u, y, W, z⟩ hb_ j d; refine ⟨_, rfl, fun K hK => ?_⟩; replace L := mk0 L; have FB := mk0 q; have FO := mk0 (s (d 10 (by kernel_rfl))); refine CG (w1 := ?_) (v := ?_) (by rfl) rfl ?_ ?_; rotate_left 2
   ·go_simp; constructor
    ·rfl
    ·rfl
   refine hK.out _ _ ⟨v_, x, I, p_, w'.heap.size, (some w'.heap.size), X, Y, U, O, bB, (.pointer (some ⟨w'.heap.size, 0, none⟩)), (by rw [L.out]; exact Av 9 hb_ rfl rfl rfl), (AR FB.out _), fun _ => (fun g e => by cases e; exact ⟨FB.out.size, Dy _ _⟩), fun c l => ((B c l).mono (fun k hk _ e => Nat.ne_of_lt hk (Option.some.inj e))).up (AR (Below.refl _ _) _), fun c l => Kd.Gv (Kd.Cw (Kd.DX (D c l)) (fun k hk e => Nat.ne_of_lt hk.2 (Option.some.inj e))) _, fun c l => Kd.Ap (T c l) (AR (Below.refl _ _) _), fun c l => ((J c l).mono (fun k hk _ e => Nat.ne_of_lt hk (Option.some.inj e))).up (AR (Below.refl _ _) _), fun _ _ => ⟨rfl, Et _ _, FB.out.size⟩, fun c => absurd ((d 10 (by kernel_rfl)).symm.trans c) (by decide), o, m, u, y, W, fun _ => rfl⟩
  refine Ak ?_ ?_
  ·rintro b a w' ⟨v_, x, I, p_, gC, G, X, Y, U, O, bB, cB, L, q, s, B, D, T, J, r, Z, o, m, u, y, W, z⟩ hb_ j d; refine ⟨_, rfl, fun K hK => ?_⟩; have e7 : a.tmps[7]? = some (cB) := by rw [L]; exact BB (e := (9, 7, cB)) 9 rfl rfl (j 9 (by kernel_rfl)) rfl
   rw [z (j 9 (by kernel_rfl))] at e7; have tI : a.tmps[48]? = some (bB) := by rw [L]; exact BB (e := (7, 48, bB)) 7 rfl rfl (j 7 (by kernel_rfl)) rfl
   rw [W (j 7 (by kernel_rfl))] at tI; replace L := mk0 L; have FB := mk0 q; have FO := mk0 (s hb_); have FV := mk0 (B (j 2 (by kernel_rfl)) hb_); have FS := mk0 (D (j 3 (by kernel_rfl)) hb_); have FN := mk0 (T (j 4 (by kernel_rfl)) hb_); have FP := mk0 (J (j 5 (by kernel_rfl)) hb_); have FG := mk0 (r (j 9 (by kernel_rfl)) hb_); obtain ⟨A2, c2, B2, d2, E2, e2, rfl, q1, q2, q3, q4, q5⟩ := FP.out; have z_ := cells5 FG.out.2.1; refine F7 (w1 := ?_) (by rfl) rfl ?_ ?_; rotate_left
   ·go_simp; rfl
   refine hK.out _ _ ⟨v_, x, I, .agg #[.int .i64 1, .int .i64 0, .slice A2 1 c2, .slice B2 0 d2, .slice E2 2 e2], gC, G, X, Y, U, O, bB, cB, (by rw [L.out]; exact Ey (v := undef) rfl), (be1 FB ⟨FG.out.2.2⟩), fun c => absurd ((CV b 10).symm.trans c) (by decide), fun _ l => absurd ((CV b 10).symm.trans l) (by decide), fun _ l => absurd ((CV b 10).symm.trans l) (by decide), fun _ l => absurd ((CV b 10).symm.trans l) (by decide), fun _ l => absurd ((CV b 10).symm.trans l) (by decide), fun _ l => absurd ((CV b 10).symm.trans l) (by decide), fun _ => (Gr FG.out.2.1 (PL.mono (S' := fun k => k ≠ gC) ⟨A2, c2, B2, d2, E2, e2, rfl, q1, q2, q3, q4, q5⟩ (fun k _ hk e => hk (by rw [FG.out.1, e])))), o, m, u, y, W, z⟩
  refine Ak ?_ ?_
  ·rintro b a w' ⟨v_, x, I, p_, gC, G, X, Y, U, O, bB, cB, L, q, s, B, D, T, J, r, Z, o, m, u, y, W, z⟩ hb_ j d; refine ⟨_, rfl, fun K hK => ?_⟩; have wJ : a.tmps[49]? = some (.int .i64 0) := by rw [L]; exact BB (e := (8, 49, .int .i64 0)) 8 rfl rfl (j 8 (by kernel_rfl)) rfl
   replace L := mk0 L; have FB := mk0 q; have FD := mk0 (Z (j 10 (by kernel_rfl))); refine CG (w1 := w') (v := .int .i64 0) (by rfl) rfl ?_ ?_
   ·go_simp; (try simp only [Bw]); try rfl
   refine hK.out _ _ ⟨v_, x, I, p_, gC, G, X, Y, U, O, bB, cB, (by rw [L.out]; exact Av 10 hb_ rfl rfl rfl), q, fun c => absurd ((j 10 (by kernel_rfl)).symm.trans c) (by decide), fun _ l => absurd ((j 10 (by kernel_rfl)).symm.trans l) (by decide), fun _ l => absurd ((j 10 (by kernel_rfl)).symm.trans l) (by decide), fun _ l => absurd ((j 10 (by kernel_rfl)).symm.trans l) (by decide), fun _ l => absurd ((j 10 (by kernel_rfl)).symm.trans l) (by decide), fun _ l => absurd ((j 10 (by kernel_rfl)).symm.trans l) (by decide), Z, o, m, u, y, W, z⟩
  exact GA
 rintro b a w' dB ⟨v_, x, I, p_, gC, G, X, Y, U, O, bB, cB, L, q, s, B, D, T, J, r, Z, o, m, u, y, W, z⟩; have rC := dB 0 (by kernel_rfl); have tC := dB 1 (by kernel_rfl); have uC := dB 2 (by kernel_rfl); have zB := dB 3 (by kernel_rfl); have aC := dB 4 (by kernel_rfl); have bC := dB 5 (by kernel_rfl); have cC := dB 6 (by kernel_rfl); have fC := dB 7 (by kernel_rfl); have nC := dB 8 (by kernel_rfl); have dC := dB 9 (by kernel_rfl); have xB := dB 10 (by kernel_rfl); have sC := dB 11 (by kernel_rfl); subst L; obtain rfl := o zB; obtain rfl := m aC; obtain rfl := u bC; obtain rfl := y cC; obtain rfl := W fC; obtain rfl := z dC; simp only [Ck, rC, tC, uC, zB, aC, bC, cC, fC, nC, dC, xB, sC, if_true, Act.put, List.setIfInBounds_toArray, List.set_cons_zero, List.set_cons_succ]; have FB := mk0 q; clear q; clear s; clear B; clear D; clear T; clear J; clear r; have FD := mk0 (Z xB); clear Z; clear dB rC tC uC zB aC bC cC fC nC dC xB sC; have hd := FB.out; replace HP := mk0 (HP.out.up hd); replace HA := mk0 (HA.out.up hd); replace HZ := mk0 (HZ.out.up hd); replace HT := mk0 (AX HT.out hd); replace HG := mk0 (Aa HG.out hd); replace HB := mk0 (Aj HB.out hd); have HC := FD; clear FD FB hd hx jC; clear HP HA; obtain ⟨A6, c6, B6, d6, E6, e6, hx, jC, sE, _⟩ := HC.out.opens; have zT := cells5 HT.out; have zC := cells5 hx; go_wp2_with (first | (go_at_call 25; refine (QN 0 5 [tr 5 1, tr 7 0] _ HG.out jC Pf).mono ?_; rintro e w6 ⟨rfl, hb⟩; clear zT zC hx jC sE; replace HT := mk0 (AX HT.out hb); replace HG := mk0 (Aa HG.out hb); replace HB := mk0 (Aj HB.out hb); replace HZ := mk0 (HZ.out.up hb); replace HC := mk0 (HC.out.up hb); obtain ⟨A6, c6, B6, d6, E6, e6, hx, jC, sE, _⟩ := HC.out.opens; have zT := cells5 HT.out; have zC := cells5 hx; clear hb) | (go_at_call 28; refine (takeC _ HG.out _ (jC.mono (fun _ _ _ => trivial))).mono ?_; rintro e w7 ⟨p, rfl, ⟨A7, c7, B7, d7, E7, e7, rfl, hp⟩, hb⟩; clear zT zC hx jC sE; replace HT := mk0 (AX HT.out hb); replace HG := mk0 (Aa HG.out hb); replace HB := mk0 (Aj HB.out hb); replace HZ := mk0 (HZ.out.up hb); replace HC := mk0 (HC.out.up hb); have H7 := mk0 hp; clear hp hb) | ((with_reducible refine AQ rfl (N := 11) rfl (cs := #[.int .i64 0, .int .i64 0, .slice none 0 0, .slice none 0 0, .slice none 0 0]) (t := 33) ?hr ?_); (case hr => first | (go_simp; done) | (go_simp; rfl)); intro gD hg w8 yC hb; have BQ := mk0 yC; have B3 := mk0 hb; have L3 := mk0 (Nat.le_of_eq hg.symm); clear hb yC hg; have z2 := cells5 BQ.out)); clear z2; refine QP ?_; intro W0 qE; have rE : Below w7.heap.size w7 W0 := by rw [qE]; exact be1 B3 L3
 have hx : BP W0 gD 1 [tr 7 0] := by rw [qE]; exact Gr BQ.out (PL.mono (S := fun k => k < w7.heap.size) (PL.up ⟨A7, c7, B7, d7, E7, e7, rfl, H7.out.1, H7.out.2.1, Kd.Cw (Kd.DX H7.out.2.2.1) (fun k hk => hk.2), Kd.Cw (Kd.DX H7.out.2.2.2.1) (fun k hk => hk.2), Kd.Cw (Kd.DX H7.out.2.2.2.2) (fun k hk => hk.2)⟩ B3.out) (fun k _ hk e => Nat.not_lt.mpr L3.out (e ▸ hk)))
 have hb := rE; replace HT := mk0 (AX HT.out hb); replace HG := mk0 (Aa HG.out hb); replace HB := mk0 (Aj HB.out hb); replace HZ := mk0 (HZ.out.up hb); replace HC := mk0 (HC.out.up hb); have HD := mk0 hx; clear hx hb rE B3 L3 BQ H7 qE; refine DV (n := 11) (S := fun w' => True) (ds := []) (tf 0 11) (by kernel_rfl) rfl rfl trivial (fun lB => ?_); refine CY Pm O3 (fun aB oC => ?_); have hd : Below W0.heap.size W0 W0.drew := Ad (Below.refl _ _); replace HZ := mk0 (HZ.out.up hd); replace HC := mk0 (HC.out.up hd); replace HD := mk0 (HD.out.up hd); replace HT := mk0 (AX HT.out hd); replace HG := mk0 (Aa HG.out hd); replace HB := mk0 (Aj HB.out hd); clear hd lB; generalize W0.drew = wD at HT HG HB HZ HC HD ⊢; refine JJ [0, 1, 2, 3, 4, 5, 6, 7, 8, 9, 10] (fun pE b a w' => ∃ (v_ : Value) (u_ : Value) (x : Nat) (p_ : Value) (gV : Nat) (G : Option Nat) (X : Value) (Y : Value) (U : Value) (O : Value) (yB : Value), a = Ck pE b [(0, 64, tv), (1, 65, v_), (2, 66, u_), (3, 67, X), (4, 68, Y), (5, 63, U), (6, 69, O), (7, 70, .int .i64 0), (8, 14, yB), (10, 15, .int .i64 0)] ∧ (Below wD.heap.size wD w') ∧ (b 9 = false → ∀ g, G = some g → wD.heap.size ≤ g ∧ g < w'.heap.size) ∧ (b 1 = true → b 9 = false → VB w' (fun k => some k ≠ G) 3 v_) ∧ (b 2 = true → b 9 = false → VB w' (fun k => some k ≠ G) 1 u_) ∧ (b 3 = true → b 9 = false → Kd.F k30 w' (fun k => some k ≠ G) (some ⟨x, 0, none⟩) 2 [bv 3, bv 1]) ∧ (b 4 = true → b 9 = false → VB w' (fun k => some k ≠ G) 1 p_) ∧ (b 8 = true → b 9 = false → G = some gV ∧ bk w' gV 30 #[.int .i64 0, .int .i64 0, .slice none 0 0, .slice none 0 0] ∧ wD.heap.size ≤ gV) ∧ (b 9 = true → BV w' gV 1) ∧ (b 3 = true → (X : Value) = .slice (some ⟨x, 0, none⟩) 2 2) ∧ (b 4 = true → (Y : Value) = .tuple #[p_, .int .i64 0]) ∧ (b 5 = true → (U : Value) = .tuple #[p_, .int .i64 0]) ∧ (b 6 = true → (O : Value) = p_) ∧ (b 8 = true → (yB : Value) = .pointer (some ⟨gV, 0, none⟩))) aB.out oC.out (by kernel_rfl) (by kernel_rfl) ?_ ?_ ?_
 ·exact ⟨.bool false, .bool false, 0, .bool false, 0, none, .bool false, .bool false, .bool false, .bool false, .bool false, by simp only [Ck, Bool.false_eq_true, if_false], (Below.refl _ _), fun _ => (fun g e => by cases e), fun h_ => absurd h_ (by decide), fun h_ => absurd h_ (by decide), fun h_ => absurd h_ (by decide), fun h_ => absurd h_ (by decide), fun h_ => absurd h_ (by decide), fun h_ => absurd h_ (by decide), fun h_ => absurd h_ (by decide), fun h_ => absurd h_ (by decide), fun h_ => absurd h_ (by decide), fun h_ => absurd h_ (by decide), fun h_ => absurd h_ (by decide)⟩
 ·skip
  refine Ak ?_ ?_
  ·rintro b a w' ⟨v_, u_, x, p_, gV, G, X, Y, U, O, yB, L, q, s, B, uB, D, J, r, Z, o, m, u, y, mB⟩ hb_ j d; refine ⟨_, rfl, fun K hK => ?_⟩; have e1 : a.tmps[1]? = some (.pointer (some ⟨gT, 0, none⟩)) := by rw [L]; exact (C8 rfl).trans rfl
   replace L := mk0 L; have FB := mk0 q; have FO := mk0 (s (d 9 (by kernel_rfl))); have z_ := cells5 (AX HT.out FB.out); refine CG (w1 := w') (v := tv) (by rfl) rfl ?_ ?_
   ·go_simp; (try simp only [Bw]); try rfl
   refine hK.out _ _ ⟨v_, u_, x, p_, gV, G, X, Y, U, O, yB, (by rw [L.out]; exact Av 0 hb_ rfl rfl rfl), q, s, B, uB, D, fun c _ => absurd ((d 4 (by kernel_rfl)).symm.trans c) (by decide), r, fun c => absurd ((d 9 (by kernel_rfl)).symm.trans c) (by decide), o, fun c => absurd ((d 4 (by kernel_rfl)).symm.trans c) (by decide), fun c => absurd ((d 5 (by kernel_rfl)).symm.trans c) (by decide), fun c => absurd ((d 6 (by kernel_rfl)).symm.trans c) (by decide), mB⟩
  refine Ak ?_ ?_
  ·rintro b a w' ⟨v_, u_, x, p_, gV, G, X, Y, U, O, yB, L, q, s, B, uB, D, J, r, Z, o, m, u, y, mB⟩ hb_ j d; refine ⟨_, rfl, fun K hK => ?_⟩; replace L := mk0 L; have FB := mk0 q; have FO := mk0 (s (d 9 (by kernel_rfl))); refine DF Try.func40 (by kernel_rfl) rfl #[.int .u8 3] (by rfl) rfl rfl (by first | (simp only [List.map_toArray, List.map_cons, List.map_nil, Act.eval, Array.getD_eq_getD_getElem?, Option.getD_some]; done) | (simp only [List.map_toArray, List.map_cons, List.map_nil, Act.eval, Array.getD_eq_getD_getElem?, Option.getD_some]; rfl)) ?_; refine (Kl (S := (fun k => some k ≠ G)) 3 (fun k hk e => absurd (FO.out k e.symm).2 (Nat.not_lt.mpr hk))).mono ?_; rintro e w2 ⟨v, rfl, hv, hb⟩; refine ⟨_, rfl, ?_⟩; refine hK.out _ _ ⟨v, u_, x, p_, gV, G, X, Y, U, O, yB, (by rw [L.out]; exact Av 1 hb_ rfl rfl rfl), (Aj FB.out hb), fun _ => (fun g e => ⟨(FO.out g e).1, Nat.lt_of_lt_of_le (FO.out g e).2 (Below.size hb)⟩), fun _ _ => hv, fun c _ => absurd ((d 2 (by kernel_rfl)).symm.trans c) (by decide), fun c _ => absurd ((d 3 (by kernel_rfl)).symm.trans c) (by decide), fun c _ => absurd ((d 4 (by kernel_rfl)).symm.trans c) (by decide), fun c l => ⟨(r c l).1, AX (r c l).2.1 hb, (r c l).2.2⟩, fun c => absurd ((d 9 (by kernel_rfl)).symm.trans c) (by decide), fun c => absurd ((d 3 (by kernel_rfl)).symm.trans c) (by decide), fun c => absurd ((d 4 (by kernel_rfl)).symm.trans c) (by decide), fun c => absurd ((d 5 (by kernel_rfl)).symm.trans c) (by decide), fun c => absurd ((d 6 (by kernel_rfl)).symm.trans c) (by decide), mB⟩
  refine Ak ?_ ?_
  ·rintro b a w' ⟨v_, u_, x, p_, gV, G, X, Y, U, O, yB, L, q, s, B, uB, D, J, r, Z, o, m, u, y, mB⟩ hb_ j d; refine ⟨_, rfl, fun K hK => ?_⟩; replace L := mk0 L; have FB := mk0 q; have FO := mk0 (s (d 9 (by kernel_rfl))); have FV := mk0 (B (j 1 (by kernel_rfl)) (d 9 (by kernel_rfl))); refine DF Try.func40 (by kernel_rfl) rfl #[.int .u8 1] (by rfl) rfl rfl (by first | (simp only [List.map_toArray, List.map_cons, List.map_nil, Act.eval, Array.getD_eq_getD_getElem?, Option.getD_some]; done) | (simp only [List.map_toArray, List.map_cons, List.map_nil, Act.eval, Array.getD_eq_getD_getElem?, Option.getD_some]; rfl)) ?_; refine (Kl (S := (fun k => some k ≠ G)) 1 (fun k hk e => absurd (FO.out k e.symm).2 (Nat.not_lt.mpr hk))).mono ?_; rintro e w2 ⟨v, rfl, hv, hb⟩; refine ⟨_, rfl, ?_⟩; refine hK.out _ _ ⟨v_, v, x, p_, gV, G, X, Y, U, O, yB, (by rw [L.out]; exact Av 2 hb_ rfl rfl rfl), (Aj FB.out hb), fun _ => (fun g e => ⟨(FO.out g e).1, Nat.lt_of_lt_of_le (FO.out g e).2 (Below.size hb)⟩), fun _ _ => FV.out.up hb, fun _ _ => hv, fun c _ => absurd ((d 3 (by kernel_rfl)).symm.trans c) (by decide), fun c _ => absurd ((d 4 (by kernel_rfl)).symm.trans c) (by decide), fun c l => ⟨(r c l).1, AX (r c l).2.1 hb, (r c l).2.2⟩, fun c => absurd ((d 9 (by kernel_rfl)).symm.trans c) (by decide), fun c => absurd ((d 3 (by kernel_rfl)).symm.trans c) (by decide), fun c => absurd ((d 4 (by kernel_rfl)).symm.trans c) (by decide), fun c => absurd ((d 5 (by kernel_rfl)).symm.trans c) (by decide), fun c => absurd ((d 6 (by kernel_rfl)).symm.trans c) (by decide), mB⟩
  refine Ak ?_ ?_
  ·rintro b a w' ⟨v_, u_, x, p_, gV, G, X, Y, U, O, yB, L, q, s, B, uB, D, J, r, Z, o, m, u, y, mB⟩ hb_ j d; refine ⟨_, rfl, fun K hK => ?_⟩; have yJ : a.tmps[65]? = some (v_) := by rw [L]; exact BB (e := (1, 65, v_)) 1 rfl rfl (j 1 (by kernel_rfl)) rfl
   have zJ : a.tmps[66]? = some (u_) := by rw [L]; exact BB (e := (2, 66, u_)) 2 rfl rfl (j 2 (by kernel_rfl)) rfl
   replace L := mk0 L; have FB := mk0 q; have FO := mk0 (s (d 9 (by kernel_rfl))); have FV := mk0 (B (j 1 (by kernel_rfl)) (d 9 (by kernel_rfl))); have FU := mk0 (uB (j 2 (by kernel_rfl)) (d 9 (by kernel_rfl))); obtain ⟨A2, c2, B2, d2, rfl, l2, h2, h3⟩ := FV.out; obtain ⟨A3, c3, B3, d3, rfl, m2, k2, k3⟩ := FU.out; refine CG (w1 := ?_) (v := ?_) (by rfl) rfl ?_ ?_; rotate_left 2
   ·go_simp; constructor
    ·rfl
    ·rfl
   refine hK.out _ _ ⟨.agg #[.int .i64 1, .int .i64 0, .slice A2 1 c2, .slice B2 0 d2], .agg #[.int .i64 1, .int .i64 0, .slice A3 1 c3, .slice B3 0 d3], w'.heap.size, p_, gV, G, (.slice (some ⟨w'.heap.size, 0, none⟩) 2 2), Y, U, O, yB, (by rw [L.out]; exact Av 3 hb_ rfl rfl rfl), (Aj FB.out (AR (Below.refl _ _) _)), fun _ => (fun g e => ⟨(FO.out g e).1, Nat.lt_of_lt_of_le (FO.out g e).2 (Below.size (AR (Below.refl _ _) _))⟩), fun _ _ => (VB.up FV.out (AR (Below.refl _ _) _)), fun _ _ => (VB.up FU.out (AR (Below.refl _ _) _)), fun _ _ => Ph l2 h2 h3 m2 k2 k3 (fun e => absurd (FO.out _ e.symm).2 (Nat.lt_irrefl _)), fun c _ => absurd ((d 4 (by kernel_rfl)).symm.trans c) (by decide), fun c l => ⟨(r c l).1, AX (r c l).2.1 (AR (Below.refl _ _) _), (r c l).2.2⟩, fun c => absurd ((d 9 (by kernel_rfl)).symm.trans c) (by decide), fun _ => rfl, fun c => absurd ((d 4 (by kernel_rfl)).symm.trans c) (by decide), fun c => absurd ((d 5 (by kernel_rfl)).symm.trans c) (by decide), fun c => absurd ((d 6 (by kernel_rfl)).symm.trans c) (by decide), mB⟩
  refine Ak ?_ ?_
  ·rintro b a w' ⟨v_, u_, x, p_, gV, G, X, Y, U, O, yB, L, q, s, B, uB, D, J, r, Z, o, m, u, y, mB⟩ hb_ j d; refine ⟨_, rfl, fun K hK => ?_⟩; have sH : a.tmps[64]? = some (tv) := by rw [L]; exact BB (e := (0, 64, tv)) 0 rfl rfl (j 0 (by kernel_rfl)) rfl
   have rG : a.tmps[67]? = some (X) := by rw [L]; exact BB (e := (3, 67, X)) 3 rfl rfl (j 3 (by kernel_rfl)) rfl
   rw [o (j 3 (by kernel_rfl))] at rG; replace L := mk0 L; have FB := mk0 q; have FO := mk0 (s (d 9 (by kernel_rfl))); have FV := mk0 (B (j 1 (by kernel_rfl)) (d 9 (by kernel_rfl))); have FU := mk0 (uB (j 2 (by kernel_rfl)) (d 9 (by kernel_rfl))); have FS := mk0 (D (j 3 (by kernel_rfl)) (d 9 (by kernel_rfl))); refine DF Try.func30 (by kernel_rfl) rfl #[tv, .slice (some ⟨x, 0, none⟩) 2 2] (by rfl) rfl rfl (by first | (simp only [List.map_toArray, List.map_cons, List.map_nil, Act.eval, Array.getD_eq_getD_getElem?, Option.getD_some, sH, rG]; done) | (simp only [List.map_toArray, List.map_cons, List.map_nil, Act.eval, Array.getD_eq_getD_getElem?, Option.getD_some, sH, rG]; rfl)) ?_; refine (Nw (S := (fun k => some k ≠ G)) (fun k hk e => absurd (FO.out k e.symm).2 (Nat.not_lt.mpr hk)) 1 [bv 3, bv 1] _ 2 (Aa HG.out FB.out) (Nat.le_refl _) FS.out MW).mono ?_; rintro e w2 ⟨p, rfl, hp, hb⟩; refine ⟨_, rfl, ?_⟩; refine hK.out _ _ ⟨v_, u_, x, p, gV, G, X, (.tuple #[p, .int .i64 0]), U, O, yB, (by rw [L.out]; exact Av 4 hb_ rfl rfl rfl), (Aj FB.out hb), fun _ => (fun g e => ⟨(FO.out g e).1, Nat.lt_of_lt_of_le (FO.out g e).2 (Below.size hb)⟩), fun _ _ => FV.out.up hb, fun _ _ => FU.out.up hb, fun _ _ => Kd.Cs FS.out hb, fun _ _ => hp, fun c l => ⟨(r c l).1, AX (r c l).2.1 hb, (r c l).2.2⟩, fun c => absurd ((d 9 (by kernel_rfl)).symm.trans c) (by decide), o, fun _ => rfl, fun c => absurd ((d 5 (by kernel_rfl)).symm.trans c) (by decide), fun c => absurd ((d 6 (by kernel_rfl)).symm.trans c) (by decide), mB⟩
  refine Ak ?_ ?_
  ·rintro b a w' ⟨v_, u_, x, p_, gV, G, X, Y, U, O, yB, L, q, s, B, uB, D, J, r, Z, o, m, u, y, mB⟩ hb_ j d; refine ⟨_, rfl, fun K hK => ?_⟩; have uI : a.tmps[68]? = some (Y) := by rw [L]; exact BB (e := (4, 68, Y)) 4 rfl rfl (j 4 (by kernel_rfl)) rfl
   rw [m (j 4 (by kernel_rfl))] at uI; replace L := mk0 L; have FB := mk0 q; have FO := mk0 (s (d 9 (by kernel_rfl))); have FV := mk0 (B (j 1 (by kernel_rfl)) (d 9 (by kernel_rfl))); have FU := mk0 (uB (j 2 (by kernel_rfl)) (d 9 (by kernel_rfl))); have FS := mk0 (D (j 3 (by kernel_rfl)) (d 9 (by kernel_rfl))); have FP := mk0 (J (j 4 (by kernel_rfl)) (d 9 (by kernel_rfl))); refine CG (w1 := w') (v := .tuple #[p_, .int .i64 0]) (by rfl) rfl ?_ ?_
   ·go_simp; (try simp only [Bw]); try rfl
   refine hK.out _ _ ⟨v_, u_, x, p_, gV, G, X, Y, (.tuple #[p_, .int .i64 0]), O, yB, (by rw [L.out]; exact Av 5 hb_ rfl rfl rfl), q, s, B, uB, D, J, r, fun c => absurd ((d 9 (by kernel_rfl)).symm.trans c) (by decide), o, m, fun _ => rfl, fun c => absurd ((d 6 (by kernel_rfl)).symm.trans c) (by decide), mB⟩
  refine Ak ?_ ?_
  ·rintro b a w' ⟨v_, u_, x, p_, gV, G, X, Y, U, O, yB, L, q, s, B, uB, D, J, r, Z, o, m, u, y, mB⟩ hb_ j d; refine ⟨_, rfl, fun K hK => ?_⟩; have qG : a.tmps[63]? = some (U) := by rw [L]; exact BB (e := (5, 63, U)) 5 rfl rfl (j 5 (by kernel_rfl)) rfl
   rw [u (j 5 (by kernel_rfl))] at qG; replace L := mk0 L; have FB := mk0 q; have FO := mk0 (s (d 9 (by kernel_rfl))); have FV := mk0 (B (j 1 (by kernel_rfl)) (d 9 (by kernel_rfl))); have FU := mk0 (uB (j 2 (by kernel_rfl)) (d 9 (by kernel_rfl))); have FS := mk0 (D (j 3 (by kernel_rfl)) (d 9 (by kernel_rfl))); have FP := mk0 (J (j 4 (by kernel_rfl)) (d 9 (by kernel_rfl))); refine CG (w1 := w') (v := p_) (by rfl) rfl ?_ ?_
   ·go_simp; (try simp only [Bw]); try rfl
   refine hK.out _ _ ⟨v_, u_, x, p_, gV, G, X, Y, U, (p_), yB, (by rw [L.out]; exact Av 6 hb_ rfl rfl rfl), q, s, B, uB, D, J, r, fun c => absurd ((d 9 (by kernel_rfl)).symm.trans c) (by decide), o, m, u, fun _ => rfl, mB⟩
  refine Ak ?_ ?_
  ·rintro b a w' ⟨v_, u_, x, p_, gV, G, X, Y, U, O, yB, L, q, s, B, uB, D, J, r, Z, o, m, u, y, mB⟩ hb_ j d; refine ⟨_, rfl, fun K hK => ?_⟩; have qG : a.tmps[63]? = some (U) := by rw [L]; exact BB (e := (5, 63, U)) 5 rfl rfl (j 5 (by kernel_rfl)) rfl
   rw [u (j 5 (by kernel_rfl))] at qG; replace L := mk0 L; have FB := mk0 q; refine CG (w1 := w') (v := .int .i64 0) (by rfl) rfl ?_ ?_
   ·go_simp; (try simp only [Bw]); try rfl
   refine hK.out _ _ ⟨v_, u_, x, p_, gV, G, X, Y, U, O, yB, (by rw [L.out]; exact Av 7 hb_ rfl rfl rfl), q, s, B, uB, D, J, r, Z, o, m, u, y, mB⟩
  refine Ak ?_ ?_
  ·rintro b a w' ⟨v_, u_, x, p_, gV, G, X, Y, U, O, yB, L, q, s, B, uB, D, J, r, Z, o, m, u, y, mB⟩ hb_ j d; refine ⟨_, rfl, fun K hK => ?_⟩; replace L := mk0 L; have FB := mk0 q; have FO := mk0 (s (d 9 (by kernel_rfl))); refine CG (w1 := ?_) (v := ?_) (by rfl) rfl ?_ ?_; rotate_left 2
   ·go_simp; constructor
    ·rfl
    ·rfl
   refine hK.out _ _ ⟨v_, u_, x, p_, w'.heap.size, (some w'.heap.size), X, Y, U, O, (.pointer (some ⟨w'.heap.size, 0, none⟩)), (by rw [L.out]; exact Av 8 hb_ rfl rfl rfl), (AR FB.out _), fun _ => (fun g e => by cases e; exact ⟨FB.out.size, Dy _ _⟩), fun c l => ((B c l).mono (fun k hk _ e => Nat.ne_of_lt hk (Option.some.inj e))).up (AR (Below.refl _ _) _), fun c l => ((uB c l).mono (fun k hk _ e => Nat.ne_of_lt hk (Option.some.inj e))).up (AR (Below.refl _ _) _), fun c l => Kd.Gv (Kd.Cw (Kd.DX (D c l)) (fun k hk e => Nat.ne_of_lt hk.2 (Option.some.inj e))) _, fun c l => ((J c l).mono (fun k hk _ e => Nat.ne_of_lt hk (Option.some.inj e))).up (AR (Below.refl _ _) _), fun _ _ => ⟨rfl, Et _ _, FB.out.size⟩, fun c => absurd ((d 9 (by kernel_rfl)).symm.trans c) (by decide), o, m, u, y, fun _ => rfl⟩
  refine Ak ?_ ?_
  ·rintro b a w' ⟨v_, u_, x, p_, gV, G, X, Y, U, O, yB, L, q, s, B, uB, D, J, r, Z, o, m, u, y, mB⟩ hb_ j d; refine ⟨_, rfl, fun K hK => ?_⟩; have jI : a.tmps[14]? = some (yB) := by rw [L]; exact BB (e := (8, 14, yB)) 8 rfl rfl (j 8 (by kernel_rfl)) rfl
   rw [mB (j 8 (by kernel_rfl))] at jI; have wI : a.tmps[69]? = some (O) := by rw [L]; exact BB (e := (6, 69, O)) 6 rfl rfl (j 6 (by kernel_rfl)) rfl
   rw [y (j 6 (by kernel_rfl))] at wI; replace L := mk0 L; have FB := mk0 q; have FO := mk0 (s hb_); have FV := mk0 (B (j 1 (by kernel_rfl)) hb_); have FU := mk0 (uB (j 2 (by kernel_rfl)) hb_); have FS := mk0 (D (j 3 (by kernel_rfl)) hb_); have FP := mk0 (J (j 4 (by kernel_rfl)) hb_); have FG := mk0 (r (j 8 (by kernel_rfl)) hb_); obtain ⟨A2, c2, B2, d2, rfl, q1, q2, q3⟩ := FP.out; have z_ := Ay FG.out.2.1; refine F7 (w1 := ?_) (by rfl) rfl ?_ ?_; rotate_left
   ·go_simp; rfl
   refine hK.out _ _ ⟨v_, u_, x, .agg #[.int .i64 1, .int .i64 0, .slice A2 1 c2, .slice B2 0 d2], gV, G, X, Y, U, O, yB, (by rw [L.out]; exact Ey (v := undef) rfl), (be1 FB ⟨FG.out.2.2⟩), fun c => absurd ((CV b 9).symm.trans c) (by decide), fun _ l => absurd ((CV b 9).symm.trans l) (by decide), fun _ l => absurd ((CV b 9).symm.trans l) (by decide), fun _ l => absurd ((CV b 9).symm.trans l) (by decide), fun _ l => absurd ((CV b 9).symm.trans l) (by decide), fun _ l => absurd ((CV b 9).symm.trans l) (by decide), fun _ => (OA FG.out.2.1 (VB.mono (S' := fun k => k ≠ gV) ⟨A2, c2, B2, d2, rfl, q1, q2, q3⟩ (fun k _ hk e => hk (by rw [FG.out.1, e])))), o, m, u, y, mB⟩
  refine Ak ?_ ?_
  ·rintro b a w' ⟨v_, u_, x, p_, gV, G, X, Y, U, O, yB, L, q, s, B, uB, D, J, r, Z, o, m, u, y, mB⟩ hb_ j d; refine ⟨_, rfl, fun K hK => ?_⟩; have aK : a.tmps[70]? = some (.int .i64 0) := by rw [L]; exact BB (e := (7, 70, .int .i64 0)) 7 rfl rfl (j 7 (by kernel_rfl)) rfl
   replace L := mk0 L; have FB := mk0 q; have FD := mk0 (Z (j 9 (by kernel_rfl))); refine CG (w1 := w') (v := .int .i64 0) (by rfl) rfl ?_ ?_
   ·go_simp; (try simp only [Bw]); try rfl
   refine hK.out _ _ ⟨v_, u_, x, p_, gV, G, X, Y, U, O, yB, (by rw [L.out]; exact Av 9 hb_ rfl rfl rfl), q, fun c => absurd ((j 9 (by kernel_rfl)).symm.trans c) (by decide), fun _ l => absurd ((j 9 (by kernel_rfl)).symm.trans l) (by decide), fun _ l => absurd ((j 9 (by kernel_rfl)).symm.trans l) (by decide), fun _ l => absurd ((j 9 (by kernel_rfl)).symm.trans l) (by decide), fun _ l => absurd ((j 9 (by kernel_rfl)).symm.trans l) (by decide), fun _ l => absurd ((j 9 (by kernel_rfl)).symm.trans l) (by decide), Z, o, m, u, y, mB⟩
  exact GA
 rintro b a w' dB ⟨v_, u_, x, p_, gV, G, X, Y, U, O, yB, L, q, s, B, uB, D, J, r, Z, o, m, u, y, mB⟩; have rC := dB 0 (by kernel_rfl); have tC := dB 1 (by kernel_rfl); have uC := dB 2 (by kernel_rfl); have zB := dB 3 (by kernel_rfl); have aC := dB 4 (by kernel_rfl); have bC := dB 5 (by kernel_rfl); have cC := dB 6 (by kernel_rfl); have fC := dB 7 (by kernel_rfl); have nC := dB 8 (by kernel_rfl); have dC := dB 9 (by kernel_rfl); have xB := dB 10 (by kernel_rfl); subst L; obtain rfl := o zB; obtain rfl := m aC; obtain rfl := u bC; obtain rfl := y cC; obtain rfl := mB nC; simp only [Ck, rC, tC, uC, zB, aC, bC, cC, fC, nC, dC, xB, if_true, Act.put, List.setIfInBounds_toArray, List.set_cons_zero, List.set_cons_succ]; have FB := mk0 q; clear q; clear s; clear B; clear uB; clear D; clear J; clear r; have FD := mk0 (Z dC); clear Z; clear dB rC tC uC zB aC bC cC fC nC dC xB; have hd := FB.out; have hb := hd; replace HT := mk0 (AX HT.out hb); replace HG := mk0 (Aa HG.out hb); replace HB := mk0 (Aj HB.out hb); replace HZ := mk0 (HZ.out.up hb); replace HC := mk0 (HC.out.up hb); replace HD := mk0 (HD.out.up hb); have HV := FD; clear FD FB hd hb; obtain ⟨A6, c6, B6, d6, E6, e6, hx, jC, sE, _⟩ := HC.out.opens; have zT := cells5 HT.out; have zC := cells5 hx; go_upto_region 10 with (go_at_call 33; refine (Ny 0 6 9 5 [tr 5 1, tr 7 0] [] _ HG.out jC N7).mono ?_; rintro e w9 ⟨A9, c9, rfl, hb⟩; clear zT zC hx jC sE; replace HT := mk0 (AX HT.out hb); replace HG := mk0 (Aa HG.out hb); replace HB := mk0 (Aj HB.out hb); replace HZ := mk0 (HZ.out.up hb); replace HC := mk0 (HC.out.up hb); replace HD := mk0 (HD.out.up hb); replace HV := mk0 (HV.out.up hb); obtain ⟨A6, c6, B6, d6, E6, e6, hx, jC, sE, _⟩ := HC.out.opens; have zT := cells5 HT.out; have zC := cells5 hx; clear hb); go_wp2_with (go_at_call 33; refine (Ny 0 0 6 0 [tr 5 1, tr 7 0] [tr 5 1] _ HG.out jC N8).mono ?_; rintro e wE ⟨lJ, oJ, rfl, hb⟩; clear zT zC hx jC sE; replace HT := mk0 (AX HT.out hb); replace HG := mk0 (Aa HG.out hb); replace HB := mk0 (Aj HB.out hb); replace HZ := mk0 (HZ.out.up hb); replace HC := mk0 (HC.out.up hb); replace HD := mk0 (HD.out.up hb); replace HV := mk0 (HV.out.up hb); clear hb); obtain ⟨A6, c6, B6, d6, E6, e6, hC, pC, _, _⟩ := HC.out.opens; obtain ⟨A8, c8, B8, d8, E8, e8, hZ, _, yI, _⟩ := HZ.out.opens; obtain ⟨A7, c7, B7, d7, E7, e7, hD, _, _, vD⟩ := HD.out.opens; obtain ⟨A5, c5, B5, d5, hV, vV⟩ := HV.out.opens; obtain ⟨ad, _, _, _, _, rfl, uG, _⟩ := Cy yI 0 (by decide) (by decide); replace uG : wE.cell? ad = some (.int .i64 7) := by rwa [show ((0 : Int)).toNat * 5 = 0 from rfl, Addr.add_zero'] at uG
 have hS : ∀ w', Below wE.heap.size wE w' → (w'.cell? ⟨gT, 0, none⟩ = some (.int .i64 1) ∧ w'.cell? ⟨gT, 1, none⟩ = some (.int .i64 0) ∧ w'.cell? ⟨gT, 2, none⟩ = some (.string ⟨#[]⟩) ∧ w'.cell? ⟨gT, 3, none⟩ = some (.slice none 0 0) ∧ w'.cell? ⟨gT, 4, none⟩ = some (.slice none 0 0) ∧ w'.cell? ⟨gB, 0, none⟩ = some (.int .i64 1) ∧ w'.cell? ⟨gB, 1, none⟩ = some (.int .i64 0) ∧ w'.cell? ⟨gB, 2, none⟩ = some (.slice A8 1 c8) ∧ w'.cell? ⟨gB, 3, none⟩ = some (.slice B8 0 d8) ∧ w'.cell? ⟨gB, 4, none⟩ = some (.slice (some ad) 1 e8) ∧ w'.cell? ⟨gC, 0, none⟩ = some (.int .i64 1) ∧ w'.cell? ⟨gC, 1, none⟩ = some (.int .i64 0) ∧ w'.cell? ⟨gC, 2, none⟩ = some (.slice A6 1 c6) ∧ w'.cell? ⟨gC, 3, none⟩ = some (.slice B6 0 d6) ∧ w'.cell? ⟨gC, 4, none⟩ = some (.slice E6 2 e6) ∧ w'.cell? ⟨gD, 0, none⟩ = some (.int .i64 1) ∧ w'.cell? ⟨gD, 1, none⟩ = some (.int .i64 0) ∧ w'.cell? ⟨gD, 2, none⟩ = some (.slice A7 1 c7) ∧ w'.cell? ⟨gD, 3, none⟩ = some (.slice B7 0 d7) ∧ w'.cell? ⟨gD, 4, none⟩ = some (.slice E7 1 e7) ∧ w'.cell? ⟨gV, 0, none⟩ = some (.int .i64 1) ∧ w'.cell? ⟨gV, 1, none⟩ = some (.int .i64 0) ∧ w'.cell? ⟨gV, 2, none⟩ = some (.slice A5 1 c5) ∧ w'.cell? ⟨gV, 3, none⟩ = some (.slice B5 0 d5) ∧ w'.cell? ad = some (.int .i64 7)) := fun w' hb => ⟨(Af (AX HT.out hb) 0).trans rfl, (Af (AX HT.out hb) 1).trans rfl, (Af (AX HT.out hb) 2).trans rfl, (Af (AX HT.out hb) 3).trans rfl, (Af (AX HT.out hb) 4).trans rfl, (Af (AX hZ hb) 0).trans rfl, (Af (AX hZ hb) 1).trans rfl, (Af (AX hZ hb) 2).trans rfl, (Af (AX hZ hb) 3).trans rfl, (Af (AX hZ hb) 4).trans rfl, (Af (AX hC hb) 0).trans rfl, (Af (AX hC hb) 1).trans rfl, (Af (AX hC hb) 2).trans rfl, (Af (AX hC hb) 3).trans rfl, (Af (AX hC hb) 4).trans rfl, (Af (AX hD hb) 0).trans rfl, (Af (AX hD hb) 1).trans rfl, (Af (AX hD hb) 2).trans rfl, (Af (AX hD hb) 3).trans rfl, (Af (AX hD hb) 4).trans rfl, (Af (AX hV hb) 0).trans rfl, (Af (AX hV hb) 1).trans rfl, (Af (AX hV hb) 2).trans rfl, (Af (AX hV hb) 3).trans rfl, AP hb uG⟩; refine DV (n := 89) (S := fun w' => w'.cell? ⟨gT, 0, none⟩ = some (.int .i64 1) ∧ w'.cell? ⟨gT, 1, none⟩ = some (.int .i64 0) ∧ w'.cell? ⟨gT, 2, none⟩ = some (.string ⟨#[]⟩) ∧ w'.cell? ⟨gT, 3, none⟩ = some (.slice none 0 0) ∧ w'.cell? ⟨gT, 4, none⟩ = some (.slice none 0 0) ∧ w'.cell? ⟨gB, 0, none⟩ = some (.int .i64 1) ∧ w'.cell? ⟨gB, 1, none⟩ = some (.int .i64 0) ∧ w'.cell? ⟨gB, 2, none⟩ = some (.slice A8 1 c8) ∧ w'.cell? ⟨gB, 3, none⟩ = some (.slice B8 0 d8) ∧ w'.cell? ⟨gB, 4, none⟩ = some (.slice (some ad) 1 e8) ∧ w'.cell? ⟨gC, 0, none⟩ = some (.int .i64 1) ∧ w'.cell? ⟨gC, 1, none⟩ = some (.int .i64 0) ∧ w'.cell? ⟨gC, 2, none⟩ = some (.slice A6 1 c6) ∧ w'.cell? ⟨gC, 3, none⟩ = some (.slice B6 0 d6) ∧ w'.cell? ⟨gC, 4, none⟩ = some (.slice E6 2 e6) ∧ w'.cell? ⟨gD, 0, none⟩ = some (.int .i64 1) ∧ w'.cell? ⟨gD, 1, none⟩ = some (.int .i64 0) ∧ w'.cell? ⟨gD, 2, none⟩ = some (.slice A7 1 c7) ∧ w'.cell? ⟨gD, 3, none⟩ = some (.slice B7 0 d7) ∧ w'.cell? ⟨gD, 4, none⟩ = some (.slice E7 1 e7) ∧ w'.cell? ⟨gV, 0, none⟩ = some (.int .i64 1) ∧ w'.cell? ⟨gV, 1, none⟩ = some (.int .i64 0) ∧ w'.cell? ⟨gV, 2, none⟩ = some (.slice A5 1 c5) ∧ w'.cell? ⟨gV, 3, none⟩ = some (.slice B5 0 d5) ∧ w'.cell? ad = some (.int .i64 7)) (ds := []) (awL 0) (by kernel_rfl) rfl (by kernel_rfl) (hS _ (Ad (Below.refl _ _))) (fun lB => ?_); refine CY O4 OB (fun aB oC => ?_); have HR := mk0 (Ad (Below.refl wE.heap.size wE)); have HS := mk0 hS; clear hS; generalize wE.drew = wF at HR lB ⊢; refine pu_ (v := ?_) (a' := ?_) 0 83 (awL 1) aB ?_ ?_ ?_; rotate_left
 ·intro w'; go_simp; with_reducible rfl
 rotate_left
 ·simp only [ps]; rfl
 refine pu_ (v := ?_) (a' := ?_) 1 84 (awL 2) aB ?_ ?_ ?_; rotate_left
 ·intro w'; go_simp; with_reducible rfl
 rotate_left
 ·simp only [ps]; rfl
 refine pu_ (v := ?_) (a' := ?_) 2 85 (awL 3) aB ?_ ?_ ?_; rotate_left
 ·intro w'; go_simp; with_reducible rfl
 rotate_left
 ·simp only [ps]; rfl
 refine pu_ (v := ?_) (a' := ?_) 3 86 (awL 4) aB ?_ ?_ ?_; rotate_left
 ·intro w'; go_simp; with_reducible rfl
 rotate_left
 ·simp only [ps]; rfl
 refine pu_ (v := ?_) (a' := ?_) 4 87 (awL 5) aB ?_ ?_ ?_; rotate_left
 ·intro w'; go_simp; with_reducible rfl
 rotate_left
 ·simp only [ps]; rfl
 refine pu_ (v := ?_) (a' := ?_) 5 88 (awL 6) aB ?_ ?_ ?_; rotate_left
 ·intro w'; go_simp; with_reducible rfl
 rotate_left
 ·simp only [ps]; rfl
 refine pu_ (v := ?_) (a' := ?_) 6 89 (awL 7) aB ?_ ?_ ?_; rotate_left
 ·intro w'; go_simp; with_reducible rfl
 rotate_left
 ·simp only [ps]; rfl
 refine pu_ (v := ?_) (a' := ?_) 7 90 (awL 8) aB ?_ ?_ ?_; rotate_left
 ·intro w'; go_simp; with_reducible rfl
 rotate_left
 ·simp only [ps]; rfl
 refine Br (i := 8) (N := some 91) (v := ?_) (a' := ?_) (awL 9) rfl rfl (BA aB.out oC.out (by kernel_rfl)) (fun _ _ _ h => h) (Or.inl ⟨by rfl, ?_⟩) lB ?_ ?_; rotate_left
 ·rintro w' ⟨s0, s1, s2, s3, s4, s5, s6, s7, s8, s9, oD, pD, qD, rD, sD, tD, uD, xD, yD, zD, aE, bE, cE, dE, eE⟩; go_simp; with_reducible rfl
 rotate_left
 ·simp only [ps]; rfl
 refine pu_ (v := ?_) (a' := ?_) 9 92 (awL 10) aB ?_ ?_ ?_; rotate_left
 ·intro w'; go_simp; with_reducible rfl
 rotate_left
 ·simp only [ps]; rfl
 refine pu_ (v := ?_) (a' := ?_) 10 93 (awL 11) aB ?_ ?_ ?_; rotate_left
 ·intro w'; go_simp; with_reducible rfl
 rotate_left
 ·simp only [ps]; rfl
 refine pu_ (v := ?_) (a' := ?_) 11 94 (awL 12) aB ?_ ?_ ?_; rotate_left
 ·intro w'; go_simp; with_reducible rfl
 rotate_left
 ·simp only [ps]; rfl
 refine pu_ (v := ?_) (a' := ?_) 12 95 (awL 13) aB ?_ ?_ ?_; rotate_left
 ·intro w'; go_simp; with_reducible rfl
 rotate_left
 ·simp only [ps]; rfl
 refine pu_ (v := ?_) (a' := ?_) 13 96 (awL 14) aB ?_ ?_ ?_; rotate_left
 ·intro w'; go_simp; with_reducible rfl
 rotate_left
 ·simp only [ps]; rfl
 refine Br (i := 14) (N := some 97) (v := ?_) (a' := ?_) (awL 15) rfl rfl (BA aB.out oC.out (by kernel_rfl)) (fun _ _ _ h => h) (Or.inl ⟨by rfl, ?_⟩) lB ?_ ?_; rotate_left
 ·rintro w' ⟨s0, s1, s2, s3, s4, s5, s6, s7, s8, s9, oD, pD, qD, rD, sD, tD, uD, xD, yD, zD, aE, bE, cE, dE, eE⟩; go_simp; with_reducible rfl
 rotate_left
 ·simp only [ps]; rfl
 refine pu_ (v := ?_) (a' := ?_) 15 98 (awL 16) aB ?_ ?_ ?_; rotate_left
 ·intro w'; go_simp; with_reducible rfl
 rotate_left
 ·simp only [ps]; rfl
 refine pu_ (v := ?_) (a' := ?_) 16 99 (awL 17) aB ?_ ?_ ?_; rotate_left
 ·intro w'; go_simp; with_reducible rfl
 rotate_left
 ·simp only [ps]; rfl
 refine Br (i := 17) (N := some 100) (v := ?_) (a' := ?_) (awL 18) rfl rfl (BA aB.out oC.out (by kernel_rfl)) (fun _ _ _ h => h) (Or.inl ⟨by rfl, ?_⟩) lB ?_ ?_; rotate_left
 ·rintro w' ⟨s0, s1, s2, s3, s4, s5, s6, s7, s8, s9, oD, pD, qD, rD, sD, tD, uD, xD, yD, zD, aE, bE, cE, dE, eE⟩; go_simp; with_reducible rfl
 rotate_left
 ·simp only [ps]; rfl
 refine pu_ (v := ?_) (a' := ?_) 18 101 (awL 19) aB ?_ ?_ ?_; rotate_left
 ·intro w'; go_simp; with_reducible rfl
 rotate_left
 ·simp only [ps]; rfl
 refine pu_ (v := ?_) (a' := ?_) 19 102 (awL 20) aB ?_ ?_ ?_; rotate_left
 ·intro w'; go_simp; with_reducible rfl
 rotate_left
 ·simp only [ps]; rfl
 refine pu_ (v := ?_) (a' := ?_) 20 103 (awL 21) aB ?_ ?_ ?_; rotate_left
 ·intro w'; go_simp; with_reducible rfl
 rotate_left
 ·simp only [ps]; rfl
 refine pu_ (v := ?_) (a' := ?_) 21 104 (awL 22) aB ?_ ?_ ?_; rotate_left
 ·intro w'; go_simp; with_reducible rfl
 rotate_left
 ·simp only [ps]; rfl
 refine pu_ (v := ?_) (a' := ?_) 22 105 (awL 23) aB ?_ ?_ ?_; rotate_left
 ·intro w'; go_simp; with_reducible rfl
 rotate_left
 ·simp only [ps]; rfl
 refine pu_ (v := ?_) (a' := ?_) 23 106 (awL 24) aB ?_ ?_ ?_; rotate_left
 ·intro w'; go_simp; with_reducible rfl
 rotate_left
 ·simp only [ps]; rfl
 refine pu_ (v := ?_) (a' := ?_) 24 107 (awL 25) aB ?_ ?_ ?_; rotate_left
 ·intro w'; go_simp; with_reducible rfl
 rotate_left
 ·simp only [ps]; rfl
 refine pu_ (v := ?_) (a' := ?_) 25 108 (awL 26) aB ?_ ?_ ?_; rotate_left
 ·intro w'; go_simp; with_reducible rfl
 rotate_left
 ·simp only [ps]; rfl
 refine Br (i := 26) (N := some 109) (v := ?_) (a' := ?_) (awL 27) rfl rfl (BA aB.out oC.out (by kernel_rfl)) (fun _ _ _ h => h) (Or.inl ⟨by rfl, ?_⟩) lB ?_ ?_; rotate_left
 ·rintro w' ⟨s0, s1, s2, s3, s4, s5, s6, s7, s8, s9, oD, pD, qD, rD, sD, tD, uD, xD, yD, zD, aE, bE, cE, dE, eE⟩; go_simp; with_reducible rfl
 rotate_left
 ·simp only [ps]; rfl
 refine pu_ (v := ?_) (a' := ?_) 27 110 (awL 28) aB ?_ ?_ ?_; rotate_left
 ·intro w'; go_simp; with_reducible rfl
 rotate_left
 ·simp only [ps]; rfl
 refine pu_ (v := ?_) (a' := ?_) 28 111 (awL 29) aB ?_ ?_ ?_; rotate_left
 ·intro w'; go_simp; with_reducible rfl
 rotate_left
 ·simp only [ps]; rfl
 refine pu_ (v := ?_) (a' := ?_) 29 112 (awL 30) aB ?_ ?_ ?_; rotate_left
 ·intro w'; go_simp; with_reducible rfl
 rotate_left
 ·simp only [ps]; rfl
 refine pu_ (v := ?_) (a' := ?_) 30 113 (awL 31) aB ?_ ?_ ?_; rotate_left
 ·intro w'; go_simp; with_reducible rfl
 rotate_left
 ·simp only [ps]; rfl
 refine pu_ (v := ?_) (a' := ?_) 31 114 (awL 32) aB ?_ ?_ ?_; rotate_left
 ·intro w'; go_simp; with_reducible rfl
 rotate_left
 ·simp only [ps]; rfl
 refine pu_ (v := ?_) (a' := ?_) 32 115 (awL 33) aB ?_ ?_ ?_; rotate_left
 ·intro w'; go_simp; with_reducible rfl
 rotate_left
 ·simp only [ps]; rfl
 refine pu_ (v := ?_) (a' := ?_) 33 116 (awL 34) aB ?_ ?_ ?_; rotate_left
 ·intro w'; go_simp; with_reducible rfl
 rotate_left
 ·simp only [ps]; rfl
 refine pu_ (v := ?_) (a' := ?_) 34 117 (awL 35) aB ?_ ?_ ?_; rotate_left
 ·intro w'; go_simp; with_reducible rfl
 rotate_left
 ·simp only [ps]; rfl
 refine pu_ (v := ?_) (a' := ?_) 35 118 (awL 36) aB ?_ ?_ ?_; rotate_left
 ·intro w'; go_simp; with_reducible rfl
 rotate_left
 ·simp only [ps]; rfl
 refine pu_ (v := ?_) (a' := ?_) 36 119 (awL 37) aB ?_ ?_ ?_; rotate_left
 ·intro w'; go_simp; with_reducible rfl
 rotate_left
 ·simp only [ps]; rfl
 refine pu_ (v := ?_) (a' := ?_) 37 120 (awL 38) aB ?_ ?_ ?_; rotate_left
 ·intro w'; go_simp; with_reducible rfl
 rotate_left
 ·simp only [ps]; rfl
 refine pu_ (v := ?_) (a' := ?_) 38 121 (awL 39) aB ?_ ?_ ?_; rotate_left
 ·intro w'; go_simp; with_reducible rfl
 rotate_left
 ·simp only [ps]; rfl
 refine pu_ (v := ?_) (a' := ?_) 39 122 (awL 40) aB ?_ ?_ ?_; rotate_left
 ·intro w'; go_simp; with_reducible rfl
 rotate_left
 ·simp only [ps]; rfl
 refine pu_ (v := ?_) (a' := ?_) 40 123 (awL 41) aB ?_ ?_ ?_; rotate_left
 ·intro w'; go_simp; with_reducible rfl
 rotate_left
 ·simp only [ps]; rfl
 refine pu_ (v := ?_) (a' := ?_) 41 124 (awL 42) aB ?_ ?_ ?_; rotate_left
 ·intro w'; go_simp; with_reducible rfl
 rotate_left
 ·simp only [ps]; rfl
 refine pu_ (v := ?_) (a' := ?_) 42 125 (awL 43) aB ?_ ?_ ?_; rotate_left
 ·intro w'; go_simp; with_reducible rfl
 rotate_left
 ·simp only [ps]; rfl
 refine pu_ (v := ?_) (a' := ?_) 43 126 (awL 44) aB ?_ ?_ ?_; rotate_left
 ·intro w'; go_simp; with_reducible rfl
 rotate_left
 ·simp only [ps]; rfl
 refine pu_ (v := ?_) (a' := ?_) 44 127 (awL 45) aB ?_ ?_ ?_; rotate_left
 ·intro w'; go_simp; with_reducible rfl
 rotate_left
 ·simp only [ps]; rfl
 refine pu_ (v := ?_) (a' := ?_) 45 128 (awL 46) aB ?_ ?_ ?_; rotate_left
 ·intro w'; go_simp; with_reducible rfl
 rotate_left
 ·simp only [ps]; rfl
 refine pu_ (v := ?_) (a' := ?_) 46 129 (awL 47) aB ?_ ?_ ?_; rotate_left
 ·intro w'; go_simp; with_reducible rfl
 rotate_left
 ·simp only [ps]; rfl
 refine Br (i := 47) (N := some 130) (v := ?_) (a' := ?_) (awL 48) rfl rfl (BA aB.out oC.out (by kernel_rfl)) (fun _ _ _ h => h) (Or.inl ⟨by rfl, ?_⟩) lB ?_ ?_; rotate_left
 ·rintro w' ⟨s0, s1, s2, s3, s4, s5, s6, s7, s8, s9, oD, pD, qD, rD, sD, tD, uD, xD, yD, zD, aE, bE, cE, dE, eE⟩; go_simp; with_reducible rfl
 rotate_left
 ·simp only [ps]; rfl
 refine pu_ (v := ?_) (a' := ?_) 48 131 (awL 49) aB ?_ ?_ ?_; rotate_left
 ·intro w'; go_simp; with_reducible rfl
 rotate_left
 ·simp only [ps]; rfl
 refine pu_ (v := ?_) (a' := ?_) 49 132 (awL 50) aB ?_ ?_ ?_; rotate_left
 ·intro w'; go_simp; with_reducible rfl
 rotate_left
 ·simp only [ps]; rfl
 refine pu_ (v := ?_) (a' := ?_) 50 133 (awL 51) aB ?_ ?_ ?_; rotate_left
 ·intro w'; go_simp; with_reducible rfl
 rotate_left
 ·simp only [ps]; rfl
 refine pu_ (v := ?_) (a' := ?_) 51 134 (awL 52) aB ?_ ?_ ?_; rotate_left
 ·intro w'; go_simp; with_reducible rfl
 rotate_left
 ·simp only [ps]; rfl
 refine pu_ (v := ?_) (a' := ?_) 52 135 (awL 53) aB ?_ ?_ ?_; rotate_left
 ·intro w'; go_simp; with_reducible rfl
 rotate_left
 ·simp only [ps]; rfl
 refine Br (i := 53) (N := some 136) (v := ?_) (a' := ?_) (awL 54) rfl rfl (BA aB.out oC.out (by kernel_rfl)) (fun _ _ _ h => h) (Or.inl ⟨by rfl, ?_⟩) lB ?_ ?_; rotate_left
 ·rintro w' ⟨s0, s1, s2, s3, s4, s5, s6, s7, s8, s9, oD, pD, qD, rD, sD, tD, uD, xD, yD, zD, aE, bE, cE, dE, eE⟩; go_simp; with_reducible rfl
 rotate_left
 ·simp only [ps]; rfl
 refine Dj (i := 54) (N := some 137) (awL 55) rfl rfl (CQ aB.out (by kernel_rfl)) (by decide) (fun K hK => ?_); refine DF Try.func40 (by kernel_rfl) rfl #[.int .u8 1] (by rfl) rfl rfl (by (try simp only [List.map_toArray, List.map_cons, List.map_nil]); first | done | rfl | (simp only [List.length_drop, List.length_take]; rfl)) ?_; refine (Kl (S := fun _ => True) 1 (fun _ _ => trivial)).mono ?_; rintro e v1 ⟨_, rfl, ⟨Ab, zE, Bb, db, rfl, cF⟩, hb⟩; refine ⟨_, rfl, ?_⟩; replace HR := mk0 (Aj HR.out hb); clear hb; have HW := mk0 cF; clear cF; refine hK.out _ _ (HS.out _ HR.out) (fun lB => ?_); clear hK K; refine nz 137 ?_; refine Dj (i := 55) (N := some 138) (awL 56) rfl rfl (CQ aB.out (by kernel_rfl)) (by decide) (fun K hK => ?_); refine DF Try.func32 (by kernel_rfl) rfl #[.agg #[.int .i64 1, .int .i64 0, .slice A7 1 c7, .slice B7 0 d7], .agg #[.int .i64 1, .int .i64 0, .slice Ab 1 zE, .slice Bb 0 db]] (by rfl) rfl rfl (by (try simp only [List.map_toArray, List.map_cons, List.map_nil]); first | done | rfl | (simp only [List.length_drop, List.length_take]; rfl)) ?_; refine (Nv (S := fun _ => True) 1 _ _ (VB.up vD HR.out) ⟨Ab, zE, Bb, db, rfl, HW.out⟩ Lt).mono ?_; rintro e v2 ⟨rfl, hb⟩; refine ⟨_, rfl, ?_⟩; replace HR := mk0 (Aj HR.out hb); clear hb; clear HW; refine hK.out _ _ (HS.out _ HR.out) (fun lB => ?_); clear hK K; refine nz 138 ?_; refine pu_ (v := ?_) (a' := ?_) 56 139 (awL 57) aB ?_ ?_ ?_; rotate_left
 ·intro w'; go_simp; with_reducible rfl
 rotate_left
 ·simp only [ps]; rfl
 refine pu_ (v := ?_) (a' := ?_) 57 140 (awL 58) aB ?_ ?_ ?_; rotate_left
 ·intro w'; go_simp; with_reducible rfl
 rotate_left
 ·simp only [ps]; rfl
 refine Br (i := 58) (N := some 141) (v := ?_) (a' := ?_) (awL 59) rfl rfl (BA aB.out oC.out (by kernel_rfl)) (fun _ _ _ h => h) (Or.inl ⟨by rfl, ?_⟩) lB ?_ ?_; rotate_left
 ·rintro w' ⟨s0, s1, s2, s3, s4, s5, s6, s7, s8, s9, oD, pD, qD, rD, sD, tD, uD, xD, yD, zD, aE, bE, cE, dE, eE⟩; go_simp; with_reducible rfl
 rotate_left
 ·simp only [ps]; rfl
 refine Dj (i := 59) (N := some 142) (awL 60) rfl rfl (CQ aB.out (by kernel_rfl)) (by decide) (fun K hK => ?_); refine DF Try.func40 (by kernel_rfl) rfl #[.int .u8 1] (by rfl) rfl rfl (by (try simp only [List.map_toArray, List.map_cons, List.map_nil]); first | done | rfl | (simp only [List.length_drop, List.length_take]; rfl)) ?_; refine (Kl (S := fun _ => True) 1 (fun _ _ => trivial)).mono ?_; rintro e v3 ⟨_, rfl, ⟨Ab, zE, Bb, db, rfl, cF⟩, hb⟩; refine ⟨_, rfl, ?_⟩; replace HR := mk0 (Aj HR.out hb); clear hb; have HW := mk0 cF; clear cF; refine hK.out _ _ (HS.out _ HR.out) (fun lB => ?_); clear hK K; refine nz 142 ?_; refine Dj (i := 60) (N := some 143) (awL 61) rfl rfl (CQ aB.out (by kernel_rfl)) (by decide) (fun K hK => ?_); refine DF Try.func32 (by kernel_rfl) rfl #[.agg #[.int .i64 1, .int .i64 0, .slice A5 1 c5, .slice B5 0 d5], .agg #[.int .i64 1, .int .i64 0, .slice Ab 1 zE, .slice Bb 0 db]] (by rfl) rfl rfl (by (try simp only [List.map_toArray, List.map_cons, List.map_nil]); first | done | rfl | (simp only [List.length_drop, List.length_take]; rfl)) ?_; refine (Nv (S := fun _ => True) 1 _ _ (VB.up vV HR.out) ⟨Ab, zE, Bb, db, rfl, HW.out⟩ Lt).mono ?_; rintro e v4 ⟨rfl, hb⟩; refine ⟨_, rfl, ?_⟩; replace HR := mk0 (Aj HR.out hb); clear hb; clear HW; refine hK.out _ _ (HS.out _ HR.out) (fun lB => ?_); clear hK K; refine nz 143 ?_; refine pu_ (v := ?_) (a' := ?_) 61 144 (awL 62) aB ?_ ?_ ?_; rotate_left
 ·intro w'; go_simp; with_reducible rfl
 rotate_left
 ·simp only [ps]; rfl
 refine pu_ (v := ?_) (a' := ?_) 62 145 (awL 63) aB ?_ ?_ ?_; rotate_left
 ·intro w'; go_simp; with_reducible rfl
 rotate_left
 ·simp only [ps]; rfl
 refine pu_ (v := ?_) (a' := ?_) 63 146 (awL 64) aB ?_ ?_ ?_; rotate_left
 ·intro w'; go_simp; with_reducible rfl
 rotate_left
 ·simp only [ps]; rfl
 refine pu_ (v := ?_) (a' := ?_) 64 147 (awL 65) aB ?_ ?_ ?_; rotate_left
 ·intro w'; go_simp; with_reducible rfl
 rotate_left
 ·simp only [ps]; rfl
 refine pu_ (v := ?_) (a' := ?_) 65 148 (awL 66) aB ?_ ?_ ?_; rotate_left
 ·intro w'; go_simp; with_reducible rfl
 rotate_left
 ·simp only [ps]; rfl
 refine pu_ (v := ?_) (a' := ?_) 66 149 (awL 67) aB ?_ ?_ ?_; rotate_left
 ·intro w'; go_simp; with_reducible rfl
 rotate_left
 ·simp only [ps]; rfl
 refine pu_ (v := ?_) (a' := ?_) 67 150 (awL 68) aB ?_ ?_ ?_; rotate_left
 ·intro w'; go_simp; with_reducible rfl
 rotate_left
 ·simp only [ps]; rfl
 refine pu_ (v := ?_) (a' := ?_) 68 151 (awL 69) aB ?_ ?_ ?_; rotate_left
 ·intro w'; go_simp; with_reducible rfl
 rotate_left
 ·simp only [ps]; rfl
 refine pu_ (v := ?_) (a' := ?_) 69 152 (awL 70) aB ?_ ?_ ?_; rotate_left
 ·intro w'; go_simp; with_reducible rfl
 rotate_left
 ·simp only [ps]; rfl
 refine pu_ (v := ?_) (a' := ?_) 70 153 (awL 71) aB ?_ ?_ ?_; rotate_left
 ·intro w'; go_simp; with_reducible rfl
 rotate_left
 ·simp only [ps]; rfl
 refine pu_ (v := ?_) (a' := ?_) 71 154 (awL 72) aB ?_ ?_ ?_; rotate_left
 ·intro w'; go_simp; with_reducible rfl
 rotate_left
 ·simp only [ps]; rfl
 refine pu_ (v := ?_) (a' := ?_) 72 155 (awL 73) aB ?_ ?_ ?_; rotate_left
 ·intro w'; go_simp; with_reducible rfl
 rotate_left
 ·simp only [ps]; rfl
 refine pu_ (v := ?_) (a' := ?_) 73 156 (awL 74) aB ?_ ?_ ?_; rotate_left
 ·intro w'; go_simp; with_reducible rfl
 rotate_left
 ·simp only [ps]; rfl
 refine pu_ (v := ?_) (a' := ?_) 74 157 (awL 75) aB ?_ ?_ ?_; rotate_left
 ·intro w'; go_simp; with_reducible rfl
 rotate_left
 ·simp only [ps]; rfl
 refine pu_ (v := ?_) (a' := ?_) 75 158 (awL 76) aB ?_ ?_ ?_; rotate_left
 ·intro w'; go_simp; with_reducible rfl
 rotate_left
 ·simp only [ps]; rfl
 refine pu_ (v := ?_) (a' := ?_) 76 159 (awL 77) aB ?_ ?_ ?_; rotate_left
 ·intro w'; go_simp; with_reducible rfl
 rotate_left
 ·simp only [ps]; rfl
 refine pu_ (v := ?_) (a' := ?_) 77 160 (awL 78) aB ?_ ?_ ?_; rotate_left
 ·intro w'; go_simp; with_reducible rfl
 rotate_left
 ·simp only [ps]; rfl
 refine pu_ (v := ?_) (a' := ?_) 78 161 (awL 79) aB ?_ ?_ ?_; rotate_left
 ·intro w'; go_simp; with_reducible rfl
 rotate_left
 ·simp only [ps]; rfl
 refine pu_ (v := ?_) (a' := ?_) 79 162 (awL 80) aB ?_ ?_ ?_; rotate_left
 ·intro w'; go_simp; with_reducible rfl
 rotate_left
 ·simp only [ps]; rfl
 refine Br (i := 80) (N := some 163) (v := ?_) (a' := ?_) (awL 81) rfl rfl (BA aB.out oC.out (by kernel_rfl)) (fun _ _ _ h => h) (Or.inl ⟨by rfl, ?_⟩) lB ?_ ?_; rotate_left
 ·rintro w' ⟨s0, s1, s2, s3, s4, s5, s6, s7, s8, s9, oD, pD, qD, rD, sD, tD, uD, xD, yD, zD, aE, bE, cE, dE, eE⟩; go_simp; with_reducible rfl
 rotate_left
 ·simp only [ps]; rfl
 refine Dj (i := 81) (N := some 164) (awL 82) rfl rfl (CQ aB.out (by kernel_rfl)) (by decide) (fun K hK => ?_); refine DF Try.func17 (by kernel_rfl) rfl #[tv] (by rfl) rfl rfl (by (try simp only [List.map_toArray, List.map_cons, List.map_nil]); first | done | rfl | (simp only [List.length_drop, List.length_take]; rfl)) ?_; refine (Ov (Aa HG.out HR.out) Nz).mono ?_; rintro e v5 ⟨rfl, hb⟩; refine ⟨_, rfl, ?_⟩; replace HR := mk0 (Aj HR.out hb); clear hb; refine hK.out _ _ (HS.out _ HR.out) (fun lB => ?_); clear hK K; refine nz 164 ?_; refine pu_ (v := ?_) (a' := ?_) 82 165 (awL 83) aB ?_ ?_ ?_; rotate_left
 ·intro w'; go_simp; with_reducible rfl
 rotate_left
 ·simp only [ps]; rfl
 refine pu_ (v := ?_) (a' := ?_) 83 166 (awL 84) aB ?_ ?_ ?_; rotate_left
 ·intro w'; go_simp; with_reducible rfl
 rotate_left
 ·simp only [ps]; rfl
 refine Br (i := 84) (N := some 167) (v := ?_) (a' := ?_) (awL 85) rfl rfl (BA aB.out oC.out (by kernel_rfl)) (fun _ _ _ h => h) (Or.inl ⟨by rfl, ?_⟩) lB ?_ ?_; rotate_left
 ·rintro w' ⟨s0, s1, s2, s3, s4, s5, s6, s7, s8, s9, oD, pD, qD, rD, sD, tD, uD, xD, yD, zD, aE, bE, cE, dE, eE⟩; go_simp; with_reducible rfl
 rotate_left
 ·simp only [ps]; rfl
 refine Br (i := 85) (N := some 168) (v := ?_) (a' := ?_) (awL 86) rfl rfl (BA aB.out oC.out (by kernel_rfl)) (fun _ _ _ h => h) (Or.inl ⟨by rfl, ?_⟩) lB ?_ ?_; rotate_left
 ·rintro w' ⟨s0, s1, s2, s3, s4, s5, s6, s7, s8, s9, oD, pD, qD, rD, sD, tD, uD, xD, yD, zD, aE, bE, cE, dE, eE⟩; go_simp; with_reducible rfl
 rotate_left
 ·simp only [ps]; rfl
 refine Dj (i := 86) (N := some 169) (awL 87) rfl rfl (CQ aB.out (by kernel_rfl)) (by decide) (fun K hK => ?_); refine DF Try.func19 (by kernel_rfl) rfl #[tv, .agg #[.int .i64 1, .int .i64 0, .slice A6 1 c6, .slice B6 0 d6, .slice E6 2 e6]] (by rfl) rfl rfl (by (try simp only [List.map_toArray, List.map_cons, List.map_nil]); first | done | rfl | (simp only [List.length_drop, List.length_take]; rfl)) ?_; refine (isC 0 [tr 5 1, tr 7 0] _ (Aa HG.out HR.out) (pC.up HR.out) RN).mono ?_; rintro e v6 ⟨rfl, hb⟩; refine ⟨_, rfl, ?_⟩; replace HR := mk0 (Aj HR.out hb); clear hb; refine hK.out _ _ (HS.out _ HR.out) (fun lB => ?_); clear hK K; refine nz 169 ?_; refine pu_ (v := ?_) (a' := ?_) 87 170 (awL 88) aB ?_ ?_ ?_; rotate_left
 ·intro w'; go_simp; with_reducible rfl
 rotate_left
 ·simp only [ps]; rfl
 refine pu_ (v := ?_) (a' := ?_) 88 0 (awL 89) aB ?_ ?_ ?_; rotate_left
 ·intro w'; go_simp; with_reducible rfl
 rotate_left
 ·simp only [ps]; rfl
 refine EQ (Dm aB.out (by kernel_rfl)) ?_; try go_wp2
 go_ret; exact ⟨rfl, Aj HB.out HR.out⟩
end Go.Proofs.Ytojankgmedccdaa.Aw
namespace Go.Proofs.Ytojankgmedccdaa.Hand
open Go.RowKit Own Wo
def Dl.f (_ : Nat) : Option Bool := some true
theorem Dl.calls (k : Nat) (r : Bool) (w : World) (a : EP w) (h : Dl.f k = some r) : Calls Try.prog 16 #[] w fun e w' => e = .returned (.bool r) ∧ Below w.heap.size w w' := by
 obtain rfl := Option.some.inj h; exact Aw.walk w a
end Go.Proofs.Ytojankgmedccdaa.Hand
