/- Part of the proof of LawDriversOrder: every definition and lemma is one that it names. -/
import Derived.Test.YtojankgmedccdaaQAwT
namespace Go.Proofs.Ytojankgmedccdaa.Aw
open Go.RowKit Own PTy Hand PIs PAw YtojankgmedccdaaW.PrintWords YtojankgmedccdaaW.PrintLast YtojankgmedccdaaW.PrintMore
set_option linter.unusedVariables false
set_option linter.unusedSimpArgs false
theorem genC {P : Program} {c : Code} {Q : Exit → Act → World → Prop} {a : Act} {W : World} (h : ∀ W2, W2 = W → Code.wp P c Q a W2) : Code.wp P c Q a W := h W rfl
theorem heap_lt_alloc (w : World) (o : Obj) : w.heap.size < (w.alloc o).heap.size := blk_lt (blk_new w o)
theorem put4 {w : World} {g : Nat} {t : TypeId} {x0 x1 x2 x3 : Value} (h : w.heap[g]? = some (.cells #[x0, x1, x2, x3] t (0, 0))) (a b c d : Value) :
  ((((w.setCell ⟨g, 0, none⟩ a).setCell ⟨g, 1, none⟩ b).setCell ⟨g, 2, none⟩ c).setCell ⟨g, 3, none⟩ d).heap[g]? = some (.cells #[a, b, c, d] t (0, 0)) :=
 blk_put (blk_put (blk_put (blk_put h 0 a rfl) 1 b rfl) 2 c rfl) 3 d rfl
section
variable {w : World} {S : Nat → Prop} {g : Nat} {b : Int} {l : List S63}
theorem far2 {v u : Value} {j : Nat} (h : VB w (fun k => k ≠ g) b v) : VB (w.setCell ⟨g, j, none⟩ u) (fun k => k ≠ g) b v := by
 obtain ⟨A, c, B, d, h1, h2, h3, h4⟩ := h
 exact ⟨A, c, B, d, h1, h2, Kd.F_far h3 (fun _ hk => hk) u, Kd.F_far h4 (fun _ hk => hk) u⟩
theorem bp_store {z0 z1 z2 z3 z4 x0 x1 x2 x3 x4 : Value} (h : w.heap[g]? = some (.cells #[z0, z1, z2, z3, z4] 33 (0, 0))) (hp : PL w (fun k => k ≠ g) b l (.agg #[x0, x1, x2, x3, x4])) :
  BP (((((w.setCell ⟨g, 0, none⟩ x0).setCell ⟨g, 1, none⟩ x1).setCell ⟨g, 2, none⟩ x2).setCell ⟨g, 3, none⟩ x3).setCell ⟨g, 4, none⟩ x4) g b l :=
 ⟨x0, x1, x2, x3, x4, put5 h _ _ _ _ _, PL.mono (far1 (far1 (far1 (far1 (far1 hp))))) (fun k hk _ => hk)⟩
theorem bv_store {z0 z1 z2 z3 x0 x1 x2 x3 : Value} (h : w.heap[g]? = some (.cells #[z0, z1, z2, z3] 30 (0, 0))) (hp : VB w (fun k => k ≠ g) b (.agg #[x0, x1, x2, x3])) :
  BV ((((w.setCell ⟨g, 0, none⟩ x0).setCell ⟨g, 1, none⟩ x1).setCell ⟨g, 2, none⟩ x2).setCell ⟨g, 3, none⟩ x3) g b :=
 ⟨x0, x1, x2, x3, put4 h _ _ _ _, VB.mono (far2 (far2 (far2 (far2 hp)))) (fun k hk _ => hk)⟩
theorem alloc_at {o : Obj} {W' : World} (hS : S w.heap.size) (hW : ∀ k, S k → k < (w.alloc o).heap.size → W'.heap[k]? = (w.alloc o).heap[k]?) : W'.heap[w.heap.size]? = some o := (hW _ hS (heap_lt_alloc w o)).trans (blk_new w o)
theorem alloc_old {o : Obj} {W' : World} (hW : ∀ k, S k → k < (w.alloc o).heap.size → W'.heap[k]? = (w.alloc o).heap[k]?) : ∀ k, S k → k < w.heap.size → W'.heap[k]? = w.heap[k]? := fun k hk hlt =>
 (hW k hk (Nat.lt_trans hlt (heap_lt_alloc w o))).trans ((below_alloc (Below.refl w.heap.size w) o).block k hlt)
theorem lit30 {A B : Option Addr} {c d : Nat} (hc : 1 ≤ c) (h3 : Kd.F (Kd.int .u8) w S A 1 [b]) (h4 : Kd.F k30 w S B 0 []) (hS : S w.heap.size) :
  Kd.F k30 (w.alloc (.cells #[.int .i64 1, .int .i64 0, .slice A 1 c, .slice B 0 d] 30 (0, 0))) S (some ⟨w.heap.size, 0, none⟩) 1 [bv b] := by
 intro W' hW
 have hn := alloc_at hS hW
 have ho := alloc_old hW
 refine ⟨rfl, by decide, fun _ => ⟨_, rfl, ?_⟩⟩
 intro j p hj
 cases j with
 | succ j => simp at hj
 | zero =>
  obtain rfl := Option.some.inj hj
  refine ⟨[.int .i64 1, .int .i64 0, .slice A 1 c, .slice B 0 d], rfl, k30_mk W' (bv b) hc (h3 W' ho) (Nat.zero_le _) (h4 W' ho), ?_⟩
  intro i u hu
  have := blk_cell hn i
  match i with
  | 0 => exact this.trans hu
  | 1 => exact this.trans hu
  | 2 => exact this.trans hu
  | 3 => exact this.trans hu
  | i + 4 => simp at hu
theorem lit30b {b' : Int} {A B A' B' : Option Addr} {c d c' d' : Nat} (hc : 1 ≤ c) (h3 : Kd.F (Kd.int .u8) w S A 1 [b]) (h4 : Kd.F k30 w S B 0 []) (hc' : 1 ≤ c') (h3' : Kd.F (Kd.int .u8) w S A' 1 [b']) (h4' : Kd.F k30 w S B' 0 []) (hS : S w.heap.size) :
  Kd.F k30 (w.alloc (.cells #[.int .i64 1, .int .i64 0, .slice A 1 c, .slice B 0 d, .int .i64 1, .int .i64 0, .slice A' 1 c', .slice B' 0 d'] 30 (0, 0))) S (some ⟨w.heap.size, 0, none⟩) 2 [bv b, bv b'] := by
 intro W' hW
 have hn := alloc_at hS hW
 have ho := alloc_old hW
 refine ⟨rfl, by decide, fun _ => ⟨_, rfl, ?_⟩⟩
 intro j p hj
 match j with
 | 0 =>
  obtain rfl := Option.some.inj hj
  refine ⟨[.int .i64 1, .int .i64 0, .slice A 1 c, .slice B 0 d], rfl, k30_mk W' (bv b) hc (h3 W' ho) (Nat.zero_le _) (h4 W' ho), ?_⟩
  intro i u hu
  have := blk_cell hn i
  match i with
  | 0 => exact this.trans hu
  | 1 => exact this.trans hu
  | 2 => exact this.trans hu
  | 3 => exact this.trans hu
  | i + 4 => simp at hu
 | 1 =>
  obtain rfl := Option.some.inj hj
  refine ⟨[.int .i64 1, .int .i64 0, .slice A' 1 c', .slice B' 0 d'], rfl, k30_mk W' (bv b') hc' (h3' W' ho) (Nat.zero_le _) (h4' W' ho), ?_⟩
  intro i u hu
  have := blk_cell hn (4 + i)
  match i with
  | 0 => exact this.trans hu
  | 1 => exact this.trans hu
  | 2 => exact this.trans hu
  | 3 => exact this.trans hu
  | i + 4 => simp at hu
 | j + 2 => simp at hj
theorem BP.opens (h : BP w g b l) : ∃ A c B d E e, w.heap[g]? = some (.cells #[.int .i64 1, .int .i64 0, .slice A 1 c, .slice B 0 d, .slice E l.length e] 33 (0, 0)) ∧ PL w (fun k => k < w.heap.size) b l (.agg #[.int .i64 1, .int .i64 0, .slice A 1 c, .slice B 0 d, .slice E l.length e]) ∧ Kd.C k63 w E l.length l ∧ VB w (fun _ => True) b (.agg #[.int .i64 1, .int .i64 0, .slice A 1 c, .slice B 0 d]) := by
 obtain ⟨x0, x1, x2, x3, x4, hx, A, c, B, d, E, e, hy, h2, h3, h4, h5, h6⟩ := h
 simp only [Value.agg.injEq, Array.mk.injEq, List.cons.injEq, and_true] at hy
 obtain ⟨rfl, rfl, rfl, rfl, rfl⟩ := hy
 exact ⟨A, c, B, d, E, e, hx, ⟨A, c, B, d, E, e, rfl, h2, h3, h4, h5, h6⟩, Kd.F_now h6, A, c, B, d, rfl, h2, Kd.F_mono h4 (fun _ _ => trivial), Kd.F_mono h5 (fun _ _ => trivial)⟩
theorem BV.opens (h : BV w g b) : ∃ A c B d, w.heap[g]? = some (.cells #[.int .i64 1, .int .i64 0, .slice A 1 c, .slice B 0 d] 30 (0, 0)) ∧ VB w (fun _ => True) b (.agg #[.int .i64 1, .int .i64 0, .slice A 1 c, .slice B 0 d]) := by
 obtain ⟨x0, x1, x2, x3, hx, A, c, B, d, hy, h2, h3, h4⟩ := h
 simp only [Value.agg.injEq, Array.mk.injEq, List.cons.injEq, and_true] at hy
 obtain ⟨rfl, rfl, rfl, rfl⟩ := hy
 exact ⟨A, c, B, d, hx, A, c, B, d, rfl, h2, Kd.F_mono h3 (fun _ _ => trivial), Kd.F_mono h4 (fun _ _ => trivial)⟩
theorem litI (w : World) (n : Int) : Kd.C (Kd.int .i64) (w.alloc (.cells #[.int .i64 n] 3 (0, 0))) (some ⟨w.heap.size, 0, none⟩) 1 [n] := by
 refine ⟨rfl, by decide, fun _ => ⟨_, rfl, ?_⟩⟩
 intro j p hj
 cases j with
 | succ j => simp at hj
 | zero =>
  obtain rfl := Option.some.inj hj
  refine ⟨[.int .i64 n], rfl, rfl, ?_⟩
  intro i u hu
  cases i with
  | zero => exact (blk_cell (blk_new w _) 0).trans hu
  | succ i => simp at hu
end
def awL (n : Nat) : Array Bool := (List.replicate n true ++ List.replicate (89 - n) false).toArray
def awT3 : Bool × List (List Nat × List Nat) := (true, [([], []), ([], []), ([], []), ([2], [2]), ([], []), ([0, 1, 3, 4, 2], [0, 1, 3, 4]), ([5], [5]), ([6], [6]), ([6], [6]), ([], []), ([9, 7, 5, 0, 1, 2, 3, 4, 5, 6, 7, 9], [7, 9]), ([8, 10, 0, 1, 2, 3, 4, 5, 6, 7, 8, 9, 10], [8])])
def awB3 : List Nat := [0, 0, 0, 4, 0, 31, 63, 127, 127, 0, 767, 2047]
theorem awtab3 : rtab .any (opsOf Try.f16 3) = awT3 := by kernel_rfl
theorem awbits3 : waitsOk awT3.2 awB3 = true := by kernel_rfl
def awT4 : Bool × List (List Nat × List Nat) := (true, [([], []), ([], []), ([], []), ([2], [2]), ([], []), ([0, 1, 3, 4, 2], [0, 1, 3, 4]), ([5], [5]), ([6], [6]), ([6], [6]), ([], []), ([9, 7, 5, 0, 1, 2, 3, 4, 5, 6, 7, 9], [7, 9]), ([8, 10, 0, 1, 2, 3, 4, 5, 6, 7, 8, 9, 10], [8])])
def awB4 : List Nat := [0, 0, 0, 4, 0, 31, 63, 127, 127, 0, 767, 2047]
theorem awtab4 : rtab .any (opsOf Try.f16 4) = awT4 := by kernel_rfl
theorem awbits4 : waitsOk awT4.2 awB4 = true := by kernel_rfl
def awT5 : Bool × List (List Nat × List Nat) := (true, [([], []), ([], []), ([], []), ([2], [2]), ([], []), ([0, 1, 3, 4, 2], [0, 1, 3, 4]), ([5], [5]), ([6], [6]), ([6], [6]), ([], []), ([9, 7, 5, 0, 1, 2, 3, 4, 5, 6, 7, 9], [7, 9]), ([8, 10, 0, 1, 2, 3, 4, 5, 6, 7, 8, 9, 10], [8])])
def awB5 : List Nat := [0, 0, 0, 4, 0, 31, 63, 127, 127, 0, 767, 2047]
theorem awtab5 : rtab .any (opsOf Try.f16 5) = awT5 := by kernel_rfl
theorem awbits5 : waitsOk awT5.2 awB5 = true := by kernel_rfl
def awT8 : Bool × List (List Nat × List Nat) := (true, [([], []), ([], []), ([1], []), ([1, 2], [1, 2]), ([0, 3, 2], [0, 3]), ([4], [4]), ([5], [5]), ([5], [5]), ([], []), ([8, 6, 4, 0, 1, 2, 3, 4, 5, 6, 8], [6, 8]), ([7, 9, 0, 1, 2, 3, 4, 5, 6, 7, 8, 9], [7])])
def awB8 : List Nat := [0, 0, 2, 6, 15, 31, 63, 63, 0, 383, 1023]
theorem awtab8 : rtab .any (opsOf Try.f16 8) = awT8 := by kernel_rfl
theorem awbits8 : waitsOk awT8.2 awB8 = true := by kernel_rfl
def awT11 : Bool × List (List Nat × List Nat) := (true, [([], []), ([0], [0]), ([1], [1]), ([2], [2]), ([3, 2], [2, 3]), ([2, 4], [2, 4]), ([5, 2], [5]), ([6], [6]), ([7, 6], [6, 7]), ([8, 6], [6, 8]), ([9, 6], [6, 9]), ([6, 10], [6, 10]), ([11, 6], [11]), ([12], [12]), ([13, 12], [12, 13]), ([14, 12], [12, 14]), ([15, 12], [12, 15]), ([16, 12], [12, 16]), ([17, 12], [12, 17]), ([12, 18], [12, 18]), ([19, 12], [19]), ([20], [20]), ([21, 20], [20, 21]), ([20, 22], [20, 22]), ([23, 20], [23]), ([24], [24]), ([25, 24], [24, 25]), ([26, 24], [24, 26]), ([27, 24], [24, 27]), ([24, 28], [24, 28]), ([29, 24], [29]), ([30], [30]), ([31, 30], [30, 31]), ([30, 32], [30, 32]), ([33, 30], [33]), ([34], [34]), ([35, 34], [34, 35]), ([34, 36], [34, 36]), ([37, 34], [37]), ([38], [38]), ([38, 39], [38, 39]), ([40, 38], [40]), ([41], [41]), ([42, 41], [41, 42]), ([41, 43], [41, 43]), ([44, 41], [44]), ([45], [45]), ([46, 45], [45, 46]), ([47, 45], [45, 47]), ([48, 45], [45, 48]), ([45, 49], [45, 49]), ([50, 45], [50]), ([51], [51]), ([52, 51], [51, 52]), ([51, 51], [51]), ([53, 54, 54, 51], [51, 53, 54]), ([51, 55], [51, 55]), ([56, 55], [56]), ([57], [57]), ([57, 57], [57]), ([58, 59, 59, 57], [57, 58, 59]), ([57, 60], [57, 60]), ([61, 60], [61]), ([62], [62]), ([63, 62], [62, 63]), ([62, 64], [62, 64]), ([65, 62], [65]), ([66], [66]), ([67, 66], [66, 67]), ([66, 68], [66, 68]), ([69, 66], [69]), ([70], [70]), ([71, 70], [70, 71]), ([72, 70], [70, 72]), ([70, 73], [70, 73]), ([74, 70], [74]), ([75], [75]), ([76, 75], [75, 76]), ([75, 77], [75, 77]), ([78, 75], [78]), ([79], [79]), ([80, 79, 79], [79, 80]), ([79, 81], [79, 81]), ([82, 81], [82]), ([83], [83]), ([83], [83]), ([84, 85, 83, 83], [83, 84, 85]), ([83, 86], [83, 86]), ([87, 86, 0, 1, 2, 3, 4, 5, 6, 7, 8, 9, 10, 11, 12, 13, 14, 15, 16, 17, 18, 19, 20, 21, 22, 23, 24, 25, 26, 27, 28, 29, 30, 31, 32, 33, 34, 35, 36, 37, 38, 39, 40, 41, 42, 43, 44, 45, 46, 47, 48, 49, 50, 51, 52, 53, 54, 55, 56, 57, 58, 59, 60, 61, 62, 63, 64, 65, 66, 67, 68, 69, 70, 71, 72, 73, 74, 75, 76, 77, 78, 79, 80, 81, 82, 83, 84, 85, 86, 87], [87])])
def awB11 : List Nat := [0, 1, 3, 7, 15, 31, 63, 127, 255, 511, 1023, 2047, 4095, 8191, 16383, 32767, 65535, 131071, 262143, 524287, 1048575, 2097151, 4194303, 8388607, 16777215, 33554431, 67108863, 134217727, 268435455, 536870911, 1073741823, 2147483647, 4294967295, 8589934591, 17179869183, 34359738367, 68719476735, 137438953471, 274877906943, 549755813887, 1099511627775, 2199023255551, 4398046511103, 8796093022207, 17592186044415, 35184372088831, 70368744177663, 140737488355327, 281474976710655, 562949953421311, 1125899906842623, 2251799813685247, 4503599627370495, 9007199254740991, 4503599627370495, 36028797018963967, 72057594037927935, 144115188075855871, 288230376151711743, 288230376151711743, 1152921504606846975, 2305843009213693951, 4611686018427387903, 9223372036854775807, 18446744073709551615, 36893488147419103231, 73786976294838206463, 147573952589676412927, 295147905179352825855, 590295810358705651711, 1180591620717411303423, 2361183241434822606847, 4722366482869645213695, 9444732965739290427391, 18889465931478580854783, 37778931862957161709567, 75557863725914323419135, 151115727451828646838271, 302231454903657293676543, 604462909807314587353087, 1208925819614629174706175, 2417851639229258349412351, 4835703278458516698824703, 9671406556917033397649407, 19342813113834066795298815, 19342813113834066795298815, 77371252455336267181195263, 154742504910672534362390527, 309485009821345068724781055]
theorem awtab11 : rtab .any (opsOf Try.f16 11) = awT11 := by kernel_rfl
theorem awbits11 : waitsOk awT11.2 awB11 = true := by kernel_rfl
set_option maxHeartbeats 40000000 in
set_option maxRecDepth 100000 in
theorem walk (w : World) (hG : Glob w) : Calls Try.prog 16 #[] w fun e w' => e = .returned (.bool true) ∧ Below w.heap.size w w' := by
 have hu26 := Try.underlying26
 have hu30 := Try.underlying30
 have hu33 := Try.underlying33
 have HB := mk0 (Below.refl w.heap.size w)
 have HG := mk0 hG; clear hG
 go_enter Try.func16, Try.ntmps16
 go_wp2_with (first | ((with_reducible refine box_event rfl (N := 1) rfl (cs := #[.int .i64 0, .int .i64 0, .string ⟨#[]⟩, .slice none 0 0, .slice none 0 0]) (t := 26) ?hr ?_); (case hr => first | (go_simp; done) | (go_simp; rfl)); intro gT hg w1 hbox hb; have BT := mk0 hbox; have GT := bs (be HB) hg; replace HB := kh HB hb; clear hb hbox hg; have z1 := cells5 BT.out) | (go_at_call 40; refine (bitC (S := fun _ => True) 0 (fun _ _ => trivial)).mono ?_; rintro e w2 ⟨v, rfl, ⟨A2, c2, B2, d2, rfl, hv⟩, hb⟩; have HV := mk0 hv; have HT := mk0 (blk_below (put5 BT.out (.int .i64 1) (.int .i64 0) (.string ⟨#[]⟩) (.slice none 0 0) (.slice none 0 0)) hb); replace HB := kh1 HB GT hb; clear hv hb z1) | ((with_reducible refine box_event rfl (N := 2) rfl (cs := #[.int .i64 0, .int .i64 0, .slice none 0 0, .slice none 0 0, .slice none 0 0]) (t := 33) ?hr ?_); (case hr => first | (go_simp; done) | (go_simp; rfl)); intro gP hg w3 hbox hb; have BQ := mk0 hbox; have B3 := mk0 hb; have L3 := mk0 (Nat.le_of_eq hg.symm); clear hb hbox hg; have z2 := cells5 BQ.out))
 clear z2
 refine genC ?_
 intro W0 hW0
 have hb0 : Below w2.heap.size w2 W0 := by rw [hW0]; exact be1 B3 L3
 have hx : BP W0 gP 0 [] := by rw [hW0]; exact bp_store BQ.out (PL.mono (S := fun k => k < w2.heap.size) (PL.up ⟨A2, c2, B2, d2, none, 0, rfl, HV.out.1, Nat.le_refl _, Kd.F_mono (Kd.F_bound HV.out.2.1) (fun k hk => hk.2), Kd.F_mono (Kd.F_bound HV.out.2.2) (fun k hk => hk.2), Kd.F_nil _ _ _⟩ B3.out) (fun k _ hk e => Nat.not_lt.mpr L3.out (e ▸ hk)))
 replace HT := mk0 (blk_below HT.out hb0)
 replace HG := mk0 (glob_below HG.out (below_step HB.out hb0))
 replace HB := mk0 (below_step HB.out hb0)
 have HP := mk0 hx
 clear hx hb0 B3 L3 BQ HV BT
 clear hW0
 refine start_ (n := 12) (S := fun w' => True) (ds := []) #[false, false, false, false, false, false, false, false, false, false, false, false] (by kernel_rfl) rfl rfl trivial (fun hHeld => ?_); refine with_tabW awtab3 awbits3 (fun HT_ HW_ => ?_)
 have hd : Below W0.heap.size W0 W0.drew := below_drew1 (Below.refl _ _)
 replace HP := mk0 (HP.out.up hd)
 replace HT := mk0 (blk_below HT.out hd); replace HG := mk0 (glob_below HG.out hd); replace HB := mk0 (below_step HB.out hd)
 clear hd hHeld
 generalize W0.drew = wA at HT HG HB HP ⊢
 obtain ⟨x0, x1, x2, x3, x4, hx, hpl⟩ := HP.out
 refine inv_at [0, 1, 2, 3, 4, 5, 6, 7, 8, 9, 10, 11] (fun a0_ b a w' => ∃ (v_ : Value) (g27_ : Nat) (g28_ : Nat) (p_ : Value) (gA : Nat) (o3_ : Option Nat) (m3_ : Value) (m4_ : Value) (m5_ : Value) (m6_ : Value) (m7_ : Value) (m9_ : Value), a = putSel a0_ b [(0, 24, tv), (1, 25, .agg #[x0, x1, x2, x3, x4]), (2, 26, v_), (3, 27, m3_), (4, 28, m4_), (5, 29, m5_), (6, 23, m6_), (7, 30, m7_), (8, 31, .int .i64 0), (9, 3, m9_), (11, 4, .int .i64 0)] ∧ (Below wA.heap.size wA w') ∧ (b 10 = false → ∀ g, o3_ = some g → wA.heap.size ≤ g ∧ g < w'.heap.size) ∧ (b 2 = true → b 10 = false → VB w' (fun k => some k ≠ o3_) 1 v_) ∧ (b 3 = true → b 10 = false → Kd.F k30 w' (fun k => some k ≠ o3_) (some ⟨g27_, 0, none⟩) 1 [bv 1]) ∧ (b 4 = true → b 10 = false → Kd.C (Kd.int .i64) w' (some ⟨g28_, 0, none⟩) 1 [5]) ∧ (b 5 = true → b 10 = false → PL w' (fun k => some k ≠ o3_) 0 [tr 5 1] p_) ∧ (b 9 = true → b 10 = false → o3_ = some gA ∧ w'.heap[gA]? = some (.cells #[.int .i64 0, .int .i64 0, .slice none 0 0, .slice none 0 0, .slice none 0 0] 33 (0, 0)) ∧ wA.heap.size ≤ gA) ∧ (b 10 = true → BP w' gA 0 [tr 5 1]) ∧ (b 3 = true → (m3_ : Value) = .slice (some ⟨g27_, 0, none⟩) 1 1) ∧ (b 4 = true → (m4_ : Value) = .slice (some ⟨g28_, 0, none⟩) 1 1) ∧ (b 5 = true → (m5_ : Value) = .tuple #[p_, .int .i64 0]) ∧ (b 6 = true → (m6_ : Value) = .tuple #[p_, .int .i64 0]) ∧ (b 7 = true → (m7_ : Value) = p_) ∧ (b 9 = true → (m9_ : Value) = .pointer (some ⟨gA, 0, none⟩))) HT_.out HW_.out (by kernel_rfl) (by kernel_rfl) ?_ ?_ ?_
 ·exact ⟨.bool false, 0, 0, .bool false, 0, none, .bool false, .bool false, .bool false, .bool false, .bool false, .bool false, by simp only [putSel, Bool.false_eq_true, if_false], (Below.refl _ _), fun _ => (fun g e => by cases e), fun h_ => absurd h_ (by decide), fun h_ => absurd h_ (by decide), fun h_ => absurd h_ (by decide), fun h_ => absurd h_ (by decide), fun h_ => absurd h_ (by decide), fun h_ => absurd h_ (by decide), fun h_ => absurd h_ (by decide), fun h_ => absurd h_ (by decide), fun h_ => absurd h_ (by decide), fun h_ => absurd h_ (by decide), fun h_ => absurd h_ (by decide), fun h_ => absurd h_ (by decide)⟩
 ·skip
  refine steps_cons ?_ ?_
  ·rintro b a w' ⟨v_, g27_, g28_, p_, gA, o3_, m3_, m4_, m5_, m6_, m7_, m9_, ha, Q_FB, Q_FO, Q_FV, Q_FS, Q_FN, Q_FP, Q_FG, Q_FD, Q_X3_, Q_X4_, Q_X5_, Q_X6_, Q_X7_, Q_X9_⟩ hb_ hon hoff
   refine ⟨_, rfl, fun K hK => ?_⟩
   have e1 : a.tmps[1]? = some (.pointer (some ⟨gT, 0, none⟩)) := by rw [ha]; exact (putSel_off rfl).trans rfl
   replace ha := mk0 ha
   have FB := mk0 Q_FB
   have FO := mk0 (Q_FO (hoff 10 (by kernel_rfl)))
   have z_ := cells5 (blk_below HT.out FB.out)
   refine value_ (w1 := w') (v := tv) (by rfl) rfl ?_ ?_
   ·go_simp
    (try simp only [i64_w])
    try rfl
   refine hK.out _ _ ⟨v_, g27_, g28_, p_, gA, o3_, m3_, m4_, m5_, m6_, m7_, m9_, (by rw [ha.out]; exact putSel_upk 0 hb_ rfl rfl rfl), Q_FB, Q_FO, Q_FV, Q_FS, Q_FN, fun h0_ _ => absurd ((hoff 5 (by kernel_rfl)).symm.trans h0_) (by decide), Q_FG, fun h0_ => absurd ((hoff 10 (by kernel_rfl)).symm.trans h0_) (by decide), Q_X3_, Q_X4_, fun h0_ => absurd ((hoff 5 (by kernel_rfl)).symm.trans h0_) (by decide), fun h0_ => absurd ((hoff 6 (by kernel_rfl)).symm.trans h0_) (by decide), fun h0_ => absurd ((hoff 7 (by kernel_rfl)).symm.trans h0_) (by decide), Q_X9_⟩
  refine steps_cons ?_ ?_
  ·rintro b a w' ⟨v_, g27_, g28_, p_, gA, o3_, m3_, m4_, m5_, m6_, m7_, m9_, ha, Q_FB, Q_FO, Q_FV, Q_FS, Q_FN, Q_FP, Q_FG, Q_FD, Q_X3_, Q_X4_, Q_X5_, Q_X6_, Q_X7_, Q_X9_⟩ hb_ hon hoff
   refine ⟨_, rfl, fun K hK => ?_⟩
   have e2 : a.tmps[2]? = some (.pointer (some ⟨gP, 0, none⟩)) := by rw [ha]; exact (putSel_off rfl).trans rfl
   replace ha := mk0 ha
   have FB := mk0 Q_FB
   have FO := mk0 (Q_FO (hoff 10 (by kernel_rfl)))
   have z_ := cells5 (blk_below hx FB.out)
   refine value_ (w1 := w') (v := .agg #[x0, x1, x2, x3, x4]) (by rfl) rfl ?_ ?_
   ·go_simp
    (try simp only [i64_w])
    try rfl
   refine hK.out _ _ ⟨v_, g27_, g28_, p_, gA, o3_, m3_, m4_, m5_, m6_, m7_, m9_, (by rw [ha.out]; exact putSel_upk 1 hb_ rfl rfl rfl), Q_FB, Q_FO, Q_FV, Q_FS, Q_FN, fun h0_ _ => absurd ((hoff 5 (by kernel_rfl)).symm.trans h0_) (by decide), Q_FG, fun h0_ => absurd ((hoff 10 (by kernel_rfl)).symm.trans h0_) (by decide), Q_X3_, Q_X4_, fun h0_ => absurd ((hoff 5 (by kernel_rfl)).symm.trans h0_) (by decide), fun h0_ => absurd ((hoff 6 (by kernel_rfl)).symm.trans h0_) (by decide), fun h0_ => absurd ((hoff 7 (by kernel_rfl)).symm.trans h0_) (by decide), Q_X9_⟩
  refine steps_cons ?_ ?_
  ·rintro b a w' ⟨v_, g27_, g28_, p_, gA, o3_, m3_, m4_, m5_, m6_, m7_, m9_, ha, Q_FB, Q_FO, Q_FV, Q_FS, Q_FN, Q_FP, Q_FG, Q_FD, Q_X3_, Q_X4_, Q_X5_, Q_X6_, Q_X7_, Q_X9_⟩ hb_ hon hoff
   refine ⟨_, rfl, fun K hK => ?_⟩
   replace ha := mk0 ha
   have FB := mk0 Q_FB
   have FO := mk0 (Q_FO (hoff 10 (by kernel_rfl)))
   refine goes_ Try.func40 (by kernel_rfl) rfl #[.int .u8 1] (by rfl) rfl rfl (by first | (simp only [List.map_toArray, List.map_cons, List.map_nil, Act.eval, Array.getD_eq_getD_getElem?, Option.getD_some]; done) | (simp only [List.map_toArray, List.map_cons, List.map_nil, Act.eval, Array.getD_eq_getD_getElem?, Option.getD_some]; rfl)) ?_
   refine (bitC (S := (fun k => some k ≠ o3_)) 1 (fun k hk e => absurd (FO.out k e.symm).2 (Nat.not_lt.mpr hk))).mono ?_
   rintro e w2 ⟨v, rfl, hv, hb⟩
   refine ⟨_, rfl, ?_⟩
   refine hK.out _ _ ⟨v, g27_, g28_, p_, gA, o3_, m3_, m4_, m5_, m6_, m7_, m9_, (by rw [ha.out]; exact putSel_upk 2 hb_ rfl rfl rfl), (below_step FB.out hb), fun _ => (fun g e => ⟨(FO.out g e).1, Nat.lt_of_lt_of_le (FO.out g e).2 (Below.size hb)⟩), fun _ _ => hv, fun h0_ _ => absurd ((hoff 3 (by kernel_rfl)).symm.trans h0_) (by decide), fun h0_ h1_ => Kd.C_below (Q_FN h0_ h1_) hb, fun h0_ _ => absurd ((hoff 5 (by kernel_rfl)).symm.trans h0_) (by decide), fun h0_ h1_ => ⟨(Q_FG h0_ h1_).1, blk_below (Q_FG h0_ h1_).2.1 hb, (Q_FG h0_ h1_).2.2⟩, fun h0_ => absurd ((hoff 10 (by kernel_rfl)).symm.trans h0_) (by decide), fun h0_ => absurd ((hoff 3 (by kernel_rfl)).symm.trans h0_) (by decide), Q_X4_, fun h0_ => absurd ((hoff 5 (by kernel_rfl)).symm.trans h0_) (by decide), fun h0_ => absurd ((hoff 6 (by kernel_rfl)).symm.trans h0_) (by decide), fun h0_ => absurd ((hoff 7 (by kernel_rfl)).symm.trans h0_) (by decide), Q_X9_⟩
  refine steps_cons ?_ ?_
  ·rintro b a w' ⟨v_, g27_, g28_, p_, gA, o3_, m3_, m4_, m5_, m6_, m7_, m9_, ha, Q_FB, Q_FO, Q_FV, Q_FS, Q_FN, Q_FP, Q_FG, Q_FD, Q_X3_, Q_X4_, Q_X5_, Q_X6_, Q_X7_, Q_X9_⟩ hb_ hon hoff
   refine ⟨_, rfl, fun K hK => ?_⟩
   have e26 : a.tmps[26]? = some (v_) := by rw [ha]; exact putSel_on (e := (2, 26, v_)) 2 rfl rfl (hon 2 (by kernel_rfl)) rfl
   replace ha := mk0 ha
   have FB := mk0 Q_FB
   have FO := mk0 (Q_FO (hoff 10 (by kernel_rfl)))
   have FV := mk0 (Q_FV (hon 2 (by kernel_rfl)) (hoff 10 (by kernel_rfl)))
   obtain ⟨A2, c2, B2, d2, rfl, l2, h2, h3⟩ := FV.out
   refine value_ (w1 := ?_) (v := ?_) (by rfl) rfl ?_ ?_
   rotate_left 2
   ·go_simp
    constructor
    ·rfl
    ·rfl
   refine hK.out _ _ ⟨.agg #[.int .i64 1, .int .i64 0, .slice A2 1 c2, .slice B2 0 d2], w'.heap.size, g28_, p_, gA, o3_, (.slice (some ⟨w'.heap.size, 0, none⟩) 1 1), m4_, m5_, m6_, m7_, m9_, (by rw [ha.out]; exact putSel_upk 3 hb_ rfl rfl rfl), (below_step FB.out (below_alloc (Below.refl _ _) _)), fun _ => (fun g e => ⟨(FO.out g e).1, Nat.lt_of_lt_of_le (FO.out g e).2 (Below.size (below_alloc (Below.refl _ _) _))⟩), fun _ _ => (VB.up FV.out (below_alloc (Below.refl _ _) _)), fun _ _ => lit30 l2 h2 h3 (fun e => absurd (FO.out _ e.symm).2 (Nat.lt_irrefl _)), fun h0_ h1_ => Kd.C_below (Q_FN h0_ h1_) (below_alloc (Below.refl _ _) _), fun h0_ _ => absurd ((hoff 5 (by kernel_rfl)).symm.trans h0_) (by decide), fun h0_ h1_ => ⟨(Q_FG h0_ h1_).1, blk_below (Q_FG h0_ h1_).2.1 (below_alloc (Below.refl _ _) _), (Q_FG h0_ h1_).2.2⟩, fun h0_ => absurd ((hoff 10 (by kernel_rfl)).symm.trans h0_) (by decide), fun _ => rfl, Q_X4_, fun h0_ => absurd ((hoff 5 (by kernel_rfl)).symm.trans h0_) (by decide), fun h0_ => absurd ((hoff 6 (by kernel_rfl)).symm.trans h0_) (by decide), fun h0_ => absurd ((hoff 7 (by kernel_rfl)).symm.trans h0_) (by decide), Q_X9_⟩
  refine steps_cons ?_ ?_
  ·rintro b a w' ⟨v_, g27_, g28_, p_, gA, o3_, m3_, m4_, m5_, m6_, m7_, m9_, ha, Q_FB, Q_FO, Q_FV, Q_FS, Q_FN, Q_FP, Q_FG, Q_FD, Q_X3_, Q_X4_, Q_X5_, Q_X6_, Q_X7_, Q_X9_⟩ hb_ hon hoff
   refine ⟨_, rfl, fun K hK => ?_⟩
   replace ha := mk0 ha
   have FB := mk0 Q_FB
   have FO := mk0 (Q_FO (hoff 10 (by kernel_rfl)))
   refine value_ (w1 := ?_) (v := ?_) (by rfl) rfl ?_ ?_
   rotate_left 2
   ·go_simp
    constructor
    ·rfl
    ·rfl
   refine hK.out _ _ ⟨v_, g27_, w'.heap.size, p_, gA, o3_, m3_, (.slice (some ⟨w'.heap.size, 0, none⟩) 1 1), m5_, m6_, m7_, m9_, (by rw [ha.out]; exact putSel_upk 4 hb_ rfl rfl rfl), (below_step FB.out (below_alloc (Below.refl _ _) _)), fun _ => (fun g e => ⟨(FO.out g e).1, Nat.lt_of_lt_of_le (FO.out g e).2 (Below.size (below_alloc (Below.refl _ _) _))⟩), fun h0_ h1_ => (Q_FV h0_ h1_).up (below_alloc (Below.refl _ _) _), fun h0_ h1_ => Kd.F_below (Q_FS h0_ h1_) (below_alloc (Below.refl _ _) _), fun _ _ => litI _ _, fun h0_ _ => absurd ((hoff 5 (by kernel_rfl)).symm.trans h0_) (by decide), fun h0_ h1_ => ⟨(Q_FG h0_ h1_).1, blk_below (Q_FG h0_ h1_).2.1 (below_alloc (Below.refl _ _) _), (Q_FG h0_ h1_).2.2⟩, fun h0_ => absurd ((hoff 10 (by kernel_rfl)).symm.trans h0_) (by decide), Q_X3_, fun _ => rfl, fun h0_ => absurd ((hoff 5 (by kernel_rfl)).symm.trans h0_) (by decide), fun h0_ => absurd ((hoff 6 (by kernel_rfl)).symm.trans h0_) (by decide), fun h0_ => absurd ((hoff 7 (by kernel_rfl)).symm.trans h0_) (by decide), Q_X9_⟩
  refine steps_cons ?_ ?_
  ·rintro b a w' ⟨v_, g27_, g28_, p_, gA, o3_, m3_, m4_, m5_, m6_, m7_, m9_, ha, Q_FB, Q_FO, Q_FV, Q_FS, Q_FN, Q_FP, Q_FG, Q_FD, Q_X3_, Q_X4_, Q_X5_, Q_X6_, Q_X7_, Q_X9_⟩ hb_ hon hoff
   refine ⟨_, rfl, fun K hK => ?_⟩
   have e24 : a.tmps[24]? = some (tv) := by rw [ha]; exact putSel_on (e := (0, 24, tv)) 0 rfl rfl (hon 0 (by kernel_rfl)) rfl
   have e25 : a.tmps[25]? = some (.agg #[x0, x1, x2, x3, x4]) := by rw [ha]; exact putSel_on (e := (1, 25, .agg #[x0, x1, x2, x3, x4])) 1 rfl rfl (hon 1 (by kernel_rfl)) rfl
   have e27 : a.tmps[27]? = some (m3_) := by rw [ha]; exact putSel_on (e := (3, 27, m3_)) 3 rfl rfl (hon 3 (by kernel_rfl)) rfl
   rw [Q_X3_ (hon 3 (by kernel_rfl))] at e27
   have e28 : a.tmps[28]? = some (m4_) := by rw [ha]; exact putSel_on (e := (4, 28, m4_)) 4 rfl rfl (hon 4 (by kernel_rfl)) rfl
   rw [Q_X4_ (hon 4 (by kernel_rfl))] at e28
   replace ha := mk0 ha
   have FB := mk0 Q_FB
   have FO := mk0 (Q_FO (hoff 10 (by kernel_rfl)))
   have FV := mk0 (Q_FV (hon 2 (by kernel_rfl)) (hoff 10 (by kernel_rfl)))
   have FS := mk0 (Q_FS (hon 3 (by kernel_rfl)) (hoff 10 (by kernel_rfl)))
   have FN := mk0 (Q_FN (hon 4 (by kernel_rfl)) (hoff 10 (by kernel_rfl)))
   refine goes_ Try.func38 (by kernel_rfl) rfl #[tv, .agg #[x0, x1, x2, x3, x4], .int .i64 0, .slice (some ⟨g27_, 0, none⟩) 1 1, .slice (some ⟨g28_, 0, none⟩) 1 1, .bool false] (by rfl) rfl rfl (by first | (simp only [List.map_toArray, List.map_cons, List.map_nil, Act.eval, Array.getD_eq_getD_getElem?, Option.getD_some, e24, e25, e27, e28]; done) | (simp only [List.map_toArray, List.map_cons, List.map_nil, Act.eval, Array.getD_eq_getD_getElem?, Option.getD_some, e24, e25, e27, e28]; rfl)) ?_
   refine (assignC (S := (fun k => some k ≠ o3_)) (fun k hk e => absurd (FO.out k e.symm).2 (Nat.not_lt.mpr hk)) 0 1 0 5 [] [tr 5 1] _ false _ 1 _ 1 (glob_below HG.out FB.out) ((hpl.up FB.out).mono (fun k _ hk e => absurd (FO.out k e.symm).1 (Nat.not_le.mpr hk))) FS.out (Nat.le_refl _) FN.out (Nat.le_refl _) e_assign1).mono ?_
   rintro e w2 ⟨p, rfl, hp, hb⟩
   refine ⟨_, rfl, ?_⟩
   refine hK.out _ _ ⟨v_, g27_, g28_, p, gA, o3_, m3_, m4_, (.tuple #[p, .int .i64 0]), m6_, m7_, m9_, (by rw [ha.out]; exact putSel_upk 5 hb_ rfl rfl rfl), (below_step FB.out hb), fun _ => (fun g e => ⟨(FO.out g e).1, Nat.lt_of_lt_of_le (FO.out g e).2 (Below.size hb)⟩), fun _ _ => FV.out.up hb, fun _ _ => Kd.F_below FS.out hb, fun _ _ => Kd.C_below FN.out hb, fun _ _ => hp, fun h0_ h1_ => ⟨(Q_FG h0_ h1_).1, blk_below (Q_FG h0_ h1_).2.1 hb, (Q_FG h0_ h1_).2.2⟩, fun h0_ => absurd ((hoff 10 (by kernel_rfl)).symm.trans h0_) (by decide), Q_X3_, Q_X4_, fun _ => rfl, fun h0_ => absurd ((hoff 6 (by kernel_rfl)).symm.trans h0_) (by decide), fun h0_ => absurd ((hoff 7 (by kernel_rfl)).symm.trans h0_) (by decide), Q_X9_⟩
  refine steps_cons ?_ ?_
  ·rintro b a w' ⟨v_, g27_, g28_, p_, gA, o3_, m3_, m4_, m5_, m6_, m7_, m9_, ha, Q_FB, Q_FO, Q_FV, Q_FS, Q_FN, Q_FP, Q_FG, Q_FD, Q_X3_, Q_X4_, Q_X5_, Q_X6_, Q_X7_, Q_X9_⟩ hb_ hon hoff
   refine ⟨_, rfl, fun K hK => ?_⟩
   have e29 : a.tmps[29]? = some (m5_) := by rw [ha]; exact putSel_on (e := (5, 29, m5_)) 5 rfl rfl (hon 5 (by kernel_rfl)) rfl
   rw [Q_X5_ (hon 5 (by kernel_rfl))] at e29
   replace ha := mk0 ha
   have FB := mk0 Q_FB
   have FO := mk0 (Q_FO (hoff 10 (by kernel_rfl)))
   have FV := mk0 (Q_FV (hon 2 (by kernel_rfl)) (hoff 10 (by kernel_rfl)))
   have FS := mk0 (Q_FS (hon 3 (by kernel_rfl)) (hoff 10 (by kernel_rfl)))
   have FN := mk0 (Q_FN (hon 4 (by kernel_rfl)) (hoff 10 (by kernel_rfl)))
   have FP := mk0 (Q_FP (hon 5 (by kernel_rfl)) (hoff 10 (by kernel_rfl)))
   refine value_ (w1 := w') (v := .tuple #[p_, .int .i64 0]) (by rfl) rfl ?_ ?_
   ·go_simp
    (try simp only [i64_w])
    try rfl
   refine hK.out _ _ ⟨v_, g27_, g28_, p_, gA, o3_, m3_, m4_, m5_, (.tuple #[p_, .int .i64 0]), m7_, m9_, (by rw [ha.out]; exact putSel_upk 6 hb_ rfl rfl rfl), Q_FB, Q_FO, Q_FV, Q_FS, Q_FN, Q_FP, Q_FG, fun h0_ => absurd ((hoff 10 (by kernel_rfl)).symm.trans h0_) (by decide), Q_X3_, Q_X4_, Q_X5_, fun _ => rfl, fun h0_ => absurd ((hoff 7 (by kernel_rfl)).symm.trans h0_) (by decide), Q_X9_⟩
  refine steps_cons ?_ ?_
  ·rintro b a w' ⟨v_, g27_, g28_, p_, gA, o3_, m3_, m4_, m5_, m6_, m7_, m9_, ha, Q_FB, Q_FO, Q_FV, Q_FS, Q_FN, Q_FP, Q_FG, Q_FD, Q_X3_, Q_X4_, Q_X5_, Q_X6_, Q_X7_, Q_X9_⟩ hb_ hon hoff
   refine ⟨_, rfl, fun K hK => ?_⟩
   have e23 : a.tmps[23]? = some (m6_) := by rw [ha]; exact putSel_on (e := (6, 23, m6_)) 6 rfl rfl (hon 6 (by kernel_rfl)) rfl
   rw [Q_X6_ (hon 6 (by kernel_rfl))] at e23
   replace ha := mk0 ha
   have FB := mk0 Q_FB
   have FO := mk0 (Q_FO (hoff 10 (by kernel_rfl)))
   have FV := mk0 (Q_FV (hon 2 (by kernel_rfl)) (hoff 10 (by kernel_rfl)))
   have FS := mk0 (Q_FS (hon 3 (by kernel_rfl)) (hoff 10 (by kernel_rfl)))
   have FN := mk0 (Q_FN (hon 4 (by kernel_rfl)) (hoff 10 (by kernel_rfl)))
   have FP := mk0 (Q_FP (hon 5 (by kernel_rfl)) (hoff 10 (by kernel_rfl)))
   refine value_ (w1 := w') (v := p_) (by rfl) rfl ?_ ?_
   ·go_simp
    (try simp only [i64_w])
    try rfl
   refine hK.out _ _ ⟨v_, g27_, g28_, p_, gA, o3_, m3_, m4_, m5_, m6_, (p_), m9_, (by rw [ha.out]; exact putSel_upk 7 hb_ rfl rfl rfl), Q_FB, Q_FO, Q_FV, Q_FS, Q_FN, Q_FP, Q_FG, fun h0_ => absurd ((hoff 10 (by kernel_rfl)).symm.trans h0_) (by decide), Q_X3_, Q_X4_, Q_X5_, Q_X6_, fun _ => rfl, Q_X9_⟩
  refine steps_cons ?_ ?_
  ·rintro b a w' ⟨v_, g27_, g28_, p_, gA, o3_, m3_, m4_, m5_, m6_, m7_, m9_, ha, Q_FB, Q_FO, Q_FV, Q_FS, Q_FN, Q_FP, Q_FG, Q_FD, Q_X3_, Q_X4_, Q_X5_, Q_X6_, Q_X7_, Q_X9_⟩ hb_ hon hoff
   refine ⟨_, rfl, fun K hK => ?_⟩
   have e23 : a.tmps[23]? = some (m6_) := by rw [ha]; exact putSel_on (e := (6, 23, m6_)) 6 rfl rfl (hon 6 (by kernel_rfl)) rfl
   rw [Q_X6_ (hon 6 (by kernel_rfl))] at e23
   replace ha := mk0 ha
   have FB := mk0 Q_FB
   refine value_ (w1 := w') (v := .int .i64 0) (by rfl) rfl ?_ ?_
   ·go_simp
    (try simp only [i64_w])
    try rfl
   refine hK.out _ _ ⟨v_, g27_, g28_, p_, gA, o3_, m3_, m4_, m5_, m6_, m7_, m9_, (by rw [ha.out]; exact putSel_upk 8 hb_ rfl rfl rfl), Q_FB, Q_FO, Q_FV, Q_FS, Q_FN, Q_FP, Q_FG, Q_FD, Q_X3_, Q_X4_, Q_X5_, Q_X6_, Q_X7_, Q_X9_⟩
  refine steps_cons ?_ ?_
  ·rintro b a w' ⟨v_, g27_, g28_, p_, gA, o3_, m3_, m4_, m5_, m6_, m7_, m9_, ha, Q_FB, Q_FO, Q_FV, Q_FS, Q_FN, Q_FP, Q_FG, Q_FD, Q_X3_, Q_X4_, Q_X5_, Q_X6_, Q_X7_, Q_X9_⟩ hb_ hon hoff
   refine ⟨_, rfl, fun K hK => ?_⟩
   replace ha := mk0 ha
   have FB := mk0 Q_FB
   have FO := mk0 (Q_FO (hoff 10 (by kernel_rfl)))
   refine value_ (w1 := ?_) (v := ?_) (by rfl) rfl ?_ ?_
   rotate_left 2
   ·go_simp
    constructor
    ·rfl
    ·rfl
   refine hK.out _ _ ⟨v_, g27_, g28_, p_, w'.heap.size, (some w'.heap.size), m3_, m4_, m5_, m6_, m7_, (.pointer (some ⟨w'.heap.size, 0, none⟩)), (by rw [ha.out]; exact putSel_upk 9 hb_ rfl rfl rfl), (below_alloc FB.out _), fun _ => (fun g e => by cases e; exact ⟨FB.out.size, heap_lt_alloc _ _⟩), fun h0_ h1_ => ((Q_FV h0_ h1_).mono (fun k hk _ e => Nat.ne_of_lt hk (Option.some.inj e))).up (below_alloc (Below.refl _ _) _), fun h0_ h1_ => Kd.F_alloc (Kd.F_mono (Kd.F_bound (Q_FS h0_ h1_)) (fun k hk e => Nat.ne_of_lt hk.2 (Option.some.inj e))) _, fun h0_ h1_ => Kd.C_below (Q_FN h0_ h1_) (below_alloc (Below.refl _ _) _), fun h0_ h1_ => ((Q_FP h0_ h1_).mono (fun k hk _ e => Nat.ne_of_lt hk (Option.some.inj e))).up (below_alloc (Below.refl _ _) _), fun _ _ => ⟨rfl, blk_new _ _, FB.out.size⟩, fun h0_ => absurd ((hoff 10 (by kernel_rfl)).symm.trans h0_) (by decide), Q_X3_, Q_X4_, Q_X5_, Q_X6_, Q_X7_, fun _ => rfl⟩
  refine steps_cons ?_ ?_
  ·rintro b a w' ⟨v_, g27_, g28_, p_, gA, o3_, m3_, m4_, m5_, m6_, m7_, m9_, ha, Q_FB, Q_FO, Q_FV, Q_FS, Q_FN, Q_FP, Q_FG, Q_FD, Q_X3_, Q_X4_, Q_X5_, Q_X6_, Q_X7_, Q_X9_⟩ hb_ hon hoff
   refine ⟨_, rfl, fun K hK => ?_⟩
   have e3 : a.tmps[3]? = some (m9_) := by rw [ha]; exact putSel_on (e := (9, 3, m9_)) 9 rfl rfl (hon 9 (by kernel_rfl)) rfl
   rw [Q_X9_ (hon 9 (by kernel_rfl))] at e3
   have e30 : a.tmps[30]? = some (m7_) := by rw [ha]; exact putSel_on (e := (7, 30, m7_)) 7 rfl rfl (hon 7 (by kernel_rfl)) rfl
   rw [Q_X7_ (hon 7 (by kernel_rfl))] at e30
   replace ha := mk0 ha
   have FB := mk0 Q_FB
   have FO := mk0 (Q_FO hb_)
   have FV := mk0 (Q_FV (hon 2 (by kernel_rfl)) hb_)
   have FS := mk0 (Q_FS (hon 3 (by kernel_rfl)) hb_)
   have FN := mk0 (Q_FN (hon 4 (by kernel_rfl)) hb_)
   have FP := mk0 (Q_FP (hon 5 (by kernel_rfl)) hb_)
   have FG := mk0 (Q_FG (hon 9 (by kernel_rfl)) hb_)
   obtain ⟨A2, c2, B2, d2, E2, e2, rfl, q1, q2, q3, q4, q5⟩ := FP.out
   have z_ := cells5 FG.out.2.1
   refine skip_ (w1 := ?_) (by rfl) rfl ?_ ?_
   rotate_left
   ·go_simp
    rfl
   refine hK.out _ _ ⟨v_, g27_, g28_, .agg #[.int .i64 1, .int .i64 0, .slice A2 1 c2, .slice B2 0 d2, .slice E2 1 e2], gA, o3_, m3_, m4_, m5_, m6_, m7_, m9_, (by rw [ha.out]; exact putSel_none (v := undef) rfl), (be1 FB ⟨FG.out.2.2⟩), fun h0_ => absurd ((up_self b 10).symm.trans h0_) (by decide), fun _ h1_ => absurd ((up_self b 10).symm.trans h1_) (by decide), fun _ h1_ => absurd ((up_self b 10).symm.trans h1_) (by decide), fun _ h1_ => absurd ((up_self b 10).symm.trans h1_) (by decide), fun _ h1_ => absurd ((up_self b 10).symm.trans h1_) (by decide), fun _ h1_ => absurd ((up_self b 10).symm.trans h1_) (by decide), fun _ => (bp_store FG.out.2.1 (PL.mono (S' := fun k => k ≠ gA) ⟨A2, c2, B2, d2, E2, e2, rfl, q1, q2, q3, q4, q5⟩ (fun k _ hk e => hk (by rw [FG.out.1, e])))), Q_X3_, Q_X4_, Q_X5_, Q_X6_, Q_X7_, Q_X9_⟩
  refine steps_cons ?_ ?_
  ·rintro b a w' ⟨v_, g27_, g28_, p_, gA, o3_, m3_, m4_, m5_, m6_, m7_, m9_, ha, Q_FB, Q_FO, Q_FV, Q_FS, Q_FN, Q_FP, Q_FG, Q_FD, Q_X3_, Q_X4_, Q_X5_, Q_X6_, Q_X7_, Q_X9_⟩ hb_ hon hoff
   refine ⟨_, rfl, fun K hK => ?_⟩
   have e31 : a.tmps[31]? = some (.int .i64 0) := by rw [ha]; exact putSel_on (e := (8, 31, .int .i64 0)) 8 rfl rfl (hon 8 (by kernel_rfl)) rfl
   replace ha := mk0 ha
   have FB := mk0 Q_FB
   have FD := mk0 (Q_FD (hon 10 (by kernel_rfl)))
   refine value_ (w1 := w') (v := .int .i64 0) (by rfl) rfl ?_ ?_
   ·go_simp
    (try simp only [i64_w])
    try rfl
   refine hK.out _ _ ⟨v_, g27_, g28_, p_, gA, o3_, m3_, m4_, m5_, m6_, m7_, m9_, (by rw [ha.out]; exact putSel_upk 10 hb_ rfl rfl rfl), Q_FB, fun h0_ => absurd ((hon 10 (by kernel_rfl)).symm.trans h0_) (by decide), fun _ h1_ => absurd ((hon 10 (by kernel_rfl)).symm.trans h1_) (by decide), fun _ h1_ => absurd ((hon 10 (by kernel_rfl)).symm.trans h1_) (by decide), fun _ h1_ => absurd ((hon 10 (by kernel_rfl)).symm.trans h1_) (by decide), fun _ h1_ => absurd ((hon 10 (by kernel_rfl)).symm.trans h1_) (by decide), fun _ h1_ => absurd ((hon 10 (by kernel_rfl)).symm.trans h1_) (by decide), Q_FD, Q_X3_, Q_X4_, Q_X5_, Q_X6_, Q_X7_, Q_X9_⟩
  exact steps_nil
 rintro b a w' hall ⟨v_, g27_, g28_, p_, gA, o3_, m3_, m4_, m5_, m6_, m7_, m9_, ha, Q_FB, Q_FO, Q_FV, Q_FS, Q_FN, Q_FP, Q_FG, Q_FD, Q_X3_, Q_X4_, Q_X5_, Q_X6_, Q_X7_, Q_X9_⟩
 have hb0_ := hall 0 (by kernel_rfl)
 have hb1_ := hall 1 (by kernel_rfl)
 have hb2_ := hall 2 (by kernel_rfl)
 have hb3_ := hall 3 (by kernel_rfl)
 have hb4_ := hall 4 (by kernel_rfl)
 have hb5_ := hall 5 (by kernel_rfl)
 have hb6_ := hall 6 (by kernel_rfl)
 have hb7_ := hall 7 (by kernel_rfl)
 have hb8_ := hall 8 (by kernel_rfl)
 have hb9_ := hall 9 (by kernel_rfl)
 have hb10_ := hall 10 (by kernel_rfl)
 have hb11_ := hall 11 (by kernel_rfl)
 subst ha
 obtain rfl := Q_X3_ hb3_
 obtain rfl := Q_X4_ hb4_
 obtain rfl := Q_X5_ hb5_
 obtain rfl := Q_X6_ hb6_
 obtain rfl := Q_X7_ hb7_
 obtain rfl := Q_X9_ hb9_
 simp only [putSel, hb0_, hb1_, hb2_, hb3_, hb4_, hb5_, hb6_, hb7_, hb8_, hb9_, hb10_, hb11_, if_true, Act.put, List.setIfInBounds_toArray, List.set_cons_zero, List.set_cons_succ]
 have FB := mk0 Q_FB
 clear Q_FB
 clear Q_FO
 clear Q_FV
 clear Q_FS
 clear Q_FN
 clear Q_FP
 clear Q_FG
 have FD := mk0 (Q_FD hb10_)
 clear Q_FD
 clear hall hb0_ hb1_ hb2_ hb3_ hb4_ hb5_ hb6_ hb7_ hb8_ hb9_ hb10_ hb11_
 skip
 have hd := FB.out
 replace HP := mk0 (HP.out.up hd)
 replace HT := mk0 (blk_below HT.out hd); replace HG := mk0 (glob_below HG.out hd); replace HB := mk0 (below_step HB.out hd)
 have HA := FD; clear FD FB hd hx hpl
 try go_wp2
 refine start_ (n := 12) (S := fun w' => True) (ds := []) #[false, false, false, false, false, false, false, false, false, false, false, false] (by kernel_rfl) rfl rfl trivial (fun hHeld => ?_); refine with_tabW awtab4 awbits4 (fun HT_ HW_ => ?_)
 have hd : Below w'.heap.size w' w'.drew := below_drew1 (Below.refl _ _)
 replace HP := mk0 (HP.out.up hd)
 replace HA := mk0 (HA.out.up hd)
 replace HT := mk0 (blk_below HT.out hd); replace HG := mk0 (glob_below HG.out hd); replace HB := mk0 (below_step HB.out hd)
 clear hd hHeld
 generalize w'.drew = wB at HT HG HB HP HA ⊢
 obtain ⟨x0, x1, x2, x3, x4, hx, hpl⟩ := HA.out
 refine inv_at [0, 1, 2, 3, 4, 5, 6, 7, 8, 9, 10, 11] (fun a0_ b a w' => ∃ (v_ : Value) (g27_ : Nat) (g28_ : Nat) (p_ : Value) (gB : Nat) (o3_ : Option Nat) (m3_ : Value) (m4_ : Value) (m5_ : Value) (m6_ : Value) (m7_ : Value) (m9_ : Value), a = putSel a0_ b [(0, 33, tv), (1, 34, .agg #[x0, x1, x2, x3, x4]), (2, 35, v_), (3, 36, m3_), (4, 37, m4_), (5, 38, m5_), (6, 32, m6_), (7, 39, m7_), (8, 40, .int .i64 0), (9, 5, m9_), (11, 6, .int .i64 0)] ∧ (Below wB.heap.size wB w') ∧ (b 10 = false → ∀ g, o3_ = some g → wB.heap.size ≤ g ∧ g < w'.heap.size) ∧ (b 2 = true → b 10 = false → VB w' (fun k => some k ≠ o3_) 0 v_) ∧ (b 3 = true → b 10 = false → Kd.F k30 w' (fun k => some k ≠ o3_) (some ⟨g27_, 0, none⟩) 1 [bv 0]) ∧ (b 4 = true → b 10 = false → Kd.C (Kd.int .i64) w' (some ⟨g28_, 0, none⟩) 1 [5]) ∧ (b 5 = true → b 10 = false → PL w' (fun k => some k ≠ o3_) 0 [tr 7 0] p_) ∧ (b 9 = true → b 10 = false → o3_ = some gB ∧ w'.heap[gB]? = some (.cells #[.int .i64 0, .int .i64 0, .slice none 0 0, .slice none 0 0, .slice none 0 0] 33 (0, 0)) ∧ wB.heap.size ≤ gB) ∧ (b 10 = true → BP w' gB 0 [tr 7 0]) ∧ (b 3 = true → (m3_ : Value) = .slice (some ⟨g27_, 0, none⟩) 1 1) ∧ (b 4 = true → (m4_ : Value) = .slice (some ⟨g28_, 0, none⟩) 1 1) ∧ (b 5 = true → (m5_ : Value) = .tuple #[p_, .int .i64 0]) ∧ (b 6 = true → (m6_ : Value) = .tuple #[p_, .int .i64 0]) ∧ (b 7 = true → (m7_ : Value) = p_) ∧ (b 9 = true → (m9_ : Value) = .pointer (some ⟨gB, 0, none⟩))) HT_.out HW_.out (by kernel_rfl) (by kernel_rfl) ?_ ?_ ?_
 ·exact ⟨.bool false, 0, 0, .bool false, 0, none, .bool false, .bool false, .bool false, .bool false, .bool false, .bool false, by simp only [putSel, Bool.false_eq_true, if_false], (Below.refl _ _), fun _ => (fun g e => by cases e), fun h_ => absurd h_ (by decide), fun h_ => absurd h_ (by decide), fun h_ => absurd h_ (by decide), fun h_ => absurd h_ (by decide), fun h_ => absurd h_ (by decide), fun h_ => absurd h_ (by decide), fun h_ => absurd h_ (by decide), fun h_ => absurd h_ (by decide), fun h_ => absurd h_ (by decide), fun h_ => absurd h_ (by decide), fun h_ => absurd h_ (by decide), fun h_ => absurd h_ (by decide)⟩
 ·skip
  refine steps_cons ?_ ?_
  ·rintro b a w' ⟨v_, g27_, g28_, p_, gB, o3_, m3_, m4_, m5_, m6_, m7_, m9_, ha, Q_FB, Q_FO, Q_FV, Q_FS, Q_FN, Q_FP, Q_FG, Q_FD, Q_X3_, Q_X4_, Q_X5_, Q_X6_, Q_X7_, Q_X9_⟩ hb_ hon hoff
   refine ⟨_, rfl, fun K hK => ?_⟩
   have e1 : a.tmps[1]? = some (.pointer (some ⟨gT, 0, none⟩)) := by rw [ha]; exact (putSel_off rfl).trans rfl
   replace ha := mk0 ha
   have FB := mk0 Q_FB
   have FO := mk0 (Q_FO (hoff 10 (by kernel_rfl)))
   have z_ := cells5 (blk_below HT.out FB.out)
   refine value_ (w1 := w') (v := tv) (by rfl) rfl ?_ ?_
   ·go_simp
    (try simp only [i64_w])
    try rfl
   refine hK.out _ _ ⟨v_, g27_, g28_, p_, gB, o3_, m3_, m4_, m5_, m6_, m7_, m9_, (by rw [ha.out]; exact putSel_upk 0 hb_ rfl rfl rfl), Q_FB, Q_FO, Q_FV, Q_FS, Q_FN, fun h0_ _ => absurd ((hoff 5 (by kernel_rfl)).symm.trans h0_) (by decide), Q_FG, fun h0_ => absurd ((hoff 10 (by kernel_rfl)).symm.trans h0_) (by decide), Q_X3_, Q_X4_, fun h0_ => absurd ((hoff 5 (by kernel_rfl)).symm.trans h0_) (by decide), fun h0_ => absurd ((hoff 6 (by kernel_rfl)).symm.trans h0_) (by decide), fun h0_ => absurd ((hoff 7 (by kernel_rfl)).symm.trans h0_) (by decide), Q_X9_⟩
  refine steps_cons ?_ ?_
  ·rintro b a w' ⟨v_, g27_, g28_, p_, gB, o3_, m3_, m4_, m5_, m6_, m7_, m9_, ha, Q_FB, Q_FO, Q_FV, Q_FS, Q_FN, Q_FP, Q_FG, Q_FD, Q_X3_, Q_X4_, Q_X5_, Q_X6_, Q_X7_, Q_X9_⟩ hb_ hon hoff
   refine ⟨_, rfl, fun K hK => ?_⟩
   have e3 : a.tmps[3]? = some (.pointer (some ⟨gA, 0, none⟩)) := by rw [ha]; exact (putSel_off rfl).trans rfl
   replace ha := mk0 ha
   have FB := mk0 Q_FB
   have FO := mk0 (Q_FO (hoff 10 (by kernel_rfl)))
   have z_ := cells5 (blk_below hx FB.out)
   refine value_ (w1 := w') (v := .agg #[x0, x1, x2, x3, x4]) (by rfl) rfl ?_ ?_
   ·go_simp
    (try simp only [i64_w])
    try rfl
   refine hK.out _ _ ⟨v_, g27_, g28_, p_, gB, o3_, m3_, m4_, m5_, m6_, m7_, m9_, (by rw [ha.out]; exact putSel_upk 1 hb_ rfl rfl rfl), Q_FB, Q_FO, Q_FV, Q_FS, Q_FN, fun h0_ _ => absurd ((hoff 5 (by kernel_rfl)).symm.trans h0_) (by decide), Q_FG, fun h0_ => absurd ((hoff 10 (by kernel_rfl)).symm.trans h0_) (by decide), Q_X3_, Q_X4_, fun h0_ => absurd ((hoff 5 (by kernel_rfl)).symm.trans h0_) (by decide), fun h0_ => absurd ((hoff 6 (by kernel_rfl)).symm.trans h0_) (by decide), fun h0_ => absurd ((hoff 7 (by kernel_rfl)).symm.trans h0_) (by decide), Q_X9_⟩
  refine steps_cons ?_ ?_
  ·rintro b a w' ⟨v_, g27_, g28_, p_, gB, o3_, m3_, m4_, m5_, m6_, m7_, m9_, ha, Q_FB, Q_FO, Q_FV, Q_FS, Q_FN, Q_FP, Q_FG, Q_FD, Q_X3_, Q_X4_, Q_X5_, Q_X6_, Q_X7_, Q_X9_⟩ hb_ hon hoff
   refine ⟨_, rfl, fun K hK => ?_⟩
   replace ha := mk0 ha
   have FB := mk0 Q_FB
   have FO := mk0 (Q_FO (hoff 10 (by kernel_rfl)))
   refine goes_ Try.func40 (by kernel_rfl) rfl #[.int .u8 0] (by rfl) rfl rfl (by first | (simp only [List.map_toArray, List.map_cons, List.map_nil, Act.eval, Array.getD_eq_getD_getElem?, Option.getD_some]; done) | (simp only [List.map_toArray, List.map_cons, List.map_nil, Act.eval, Array.getD_eq_getD_getElem?, Option.getD_some]; rfl)) ?_
   refine (bitC (S := (fun k => some k ≠ o3_)) 0 (fun k hk e => absurd (FO.out k e.symm).2 (Nat.not_lt.mpr hk))).mono ?_
   rintro e w2 ⟨v, rfl, hv, hb⟩
   refine ⟨_, rfl, ?_⟩
   refine hK.out _ _ ⟨v, g27_, g28_, p_, gB, o3_, m3_, m4_, m5_, m6_, m7_, m9_, (by rw [ha.out]; exact putSel_upk 2 hb_ rfl rfl rfl), (below_step FB.out hb), fun _ => (fun g e => ⟨(FO.out g e).1, Nat.lt_of_lt_of_le (FO.out g e).2 (Below.size hb)⟩), fun _ _ => hv, fun h0_ _ => absurd ((hoff 3 (by kernel_rfl)).symm.trans h0_) (by decide), fun h0_ h1_ => Kd.C_below (Q_FN h0_ h1_) hb, fun h0_ _ => absurd ((hoff 5 (by kernel_rfl)).symm.trans h0_) (by decide), fun h0_ h1_ => ⟨(Q_FG h0_ h1_).1, blk_below (Q_FG h0_ h1_).2.1 hb, (Q_FG h0_ h1_).2.2⟩, fun h0_ => absurd ((hoff 10 (by kernel_rfl)).symm.trans h0_) (by decide), fun h0_ => absurd ((hoff 3 (by kernel_rfl)).symm.trans h0_) (by decide), Q_X4_, fun h0_ => absurd ((hoff 5 (by kernel_rfl)).symm.trans h0_) (by decide), fun h0_ => absurd ((hoff 6 (by kernel_rfl)).symm.trans h0_) (by decide), fun h0_ => absurd ((hoff 7 (by kernel_rfl)).symm.trans h0_) (by decide), Q_X9_⟩
  refine steps_cons ?_ ?_
  ·rintro b a w' ⟨v_, g27_, g28_, p_, gB, o3_, m3_, m4_, m5_, m6_, m7_, m9_, ha, Q_FB, Q_FO, Q_FV, Q_FS, Q_FN, Q_FP, Q_FG, Q_FD, Q_X3_, Q_X4_, Q_X5_, Q_X6_, Q_X7_, Q_X9_⟩ hb_ hon hoff
   refine ⟨_, rfl, fun K hK => ?_⟩
   have e35 : a.tmps[35]? = some (v_) := by rw [ha]; exact putSel_on (e := (2, 35, v_)) 2 rfl rfl (hon 2 (by kernel_rfl)) rfl
   replace ha := mk0 ha
   have FB := mk0 Q_FB
   have FO := mk0 (Q_FO (hoff 10 (by kernel_rfl)))
   have FV := mk0 (Q_FV (hon 2 (by kernel_rfl)) (hoff 10 (by kernel_rfl)))
   obtain ⟨A2, c2, B2, d2, rfl, l2, h2, h3⟩ := FV.out
   refine value_ (w1 := ?_) (v := ?_) (by rfl) rfl ?_ ?_
   rotate_left 2
   ·go_simp
    constructor
    ·rfl
    ·rfl
   refine hK.out _ _ ⟨.agg #[.int .i64 1, .int .i64 0, .slice A2 1 c2, .slice B2 0 d2], w'.heap.size, g28_, p_, gB, o3_, (.slice (some ⟨w'.heap.size, 0, none⟩) 1 1), m4_, m5_, m6_, m7_, m9_, (by rw [ha.out]; exact putSel_upk 3 hb_ rfl rfl rfl), (below_step FB.out (below_alloc (Below.refl _ _) _)), fun _ => (fun g e => ⟨(FO.out g e).1, Nat.lt_of_lt_of_le (FO.out g e).2 (Below.size (below_alloc (Below.refl _ _) _))⟩), fun _ _ => (VB.up FV.out (below_alloc (Below.refl _ _) _)), fun _ _ => lit30 l2 h2 h3 (fun e => absurd (FO.out _ e.symm).2 (Nat.lt_irrefl _)), fun h0_ h1_ => Kd.C_below (Q_FN h0_ h1_) (below_alloc (Below.refl _ _) _), fun h0_ _ => absurd ((hoff 5 (by kernel_rfl)).symm.trans h0_) (by decide), fun h0_ h1_ => ⟨(Q_FG h0_ h1_).1, blk_below (Q_FG h0_ h1_).2.1 (below_alloc (Below.refl _ _) _), (Q_FG h0_ h1_).2.2⟩, fun h0_ => absurd ((hoff 10 (by kernel_rfl)).symm.trans h0_) (by decide), fun _ => rfl, Q_X4_, fun h0_ => absurd ((hoff 5 (by kernel_rfl)).symm.trans h0_) (by decide), fun h0_ => absurd ((hoff 6 (by kernel_rfl)).symm.trans h0_) (by decide), fun h0_ => absurd ((hoff 7 (by kernel_rfl)).symm.trans h0_) (by decide), Q_X9_⟩
  refine steps_cons ?_ ?_
  ·rintro b a w' ⟨v_, g27_, g28_, p_, gB, o3_, m3_, m4_, m5_, m6_, m7_, m9_, ha, Q_FB, Q_FO, Q_FV, Q_FS, Q_FN, Q_FP, Q_FG, Q_FD, Q_X3_, Q_X4_, Q_X5_, Q_X6_, Q_X7_, Q_X9_⟩ hb_ hon hoff
   refine ⟨_, rfl, fun K hK => ?_⟩
   replace ha := mk0 ha
   have FB := mk0 Q_FB
   have FO := mk0 (Q_FO (hoff 10 (by kernel_rfl)))
   refine value_ (w1 := ?_) (v := ?_) (by rfl) rfl ?_ ?_
   rotate_left 2
   ·go_simp
    constructor
    ·rfl
    ·rfl
   refine hK.out _ _ ⟨v_, g27_, w'.heap.size, p_, gB, o3_, m3_, (.slice (some ⟨w'.heap.size, 0, none⟩) 1 1), m5_, m6_, m7_, m9_, (by rw [ha.out]; exact putSel_upk 4 hb_ rfl rfl rfl), (below_step FB.out (below_alloc (Below.refl _ _) _)), fun _ => (fun g e => ⟨(FO.out g e).1, Nat.lt_of_lt_of_le (FO.out g e).2 (Below.size (below_alloc (Below.refl _ _) _))⟩), fun h0_ h1_ => (Q_FV h0_ h1_).up (below_alloc (Below.refl _ _) _), fun h0_ h1_ => Kd.F_below (Q_FS h0_ h1_) (below_alloc (Below.refl _ _) _), fun _ _ => litI _ _, fun h0_ _ => absurd ((hoff 5 (by kernel_rfl)).symm.trans h0_) (by decide), fun h0_ h1_ => ⟨(Q_FG h0_ h1_).1, blk_below (Q_FG h0_ h1_).2.1 (below_alloc (Below.refl _ _) _), (Q_FG h0_ h1_).2.2⟩, fun h0_ => absurd ((hoff 10 (by kernel_rfl)).symm.trans h0_) (by decide), Q_X3_, fun _ => rfl, fun h0_ => absurd ((hoff 5 (by kernel_rfl)).symm.trans h0_) (by decide), fun h0_ => absurd ((hoff 6 (by kernel_rfl)).symm.trans h0_) (by decide), fun h0_ => absurd ((hoff 7 (by kernel_rfl)).symm.trans h0_) (by decide), Q_X9_⟩
  refine steps_cons ?_ ?_
  ·rintro b a w' ⟨v_, g27_, g28_, p_, gB, o3_, m3_, m4_, m5_, m6_, m7_, m9_, ha, Q_FB, Q_FO, Q_FV, Q_FS, Q_FN, Q_FP, Q_FG, Q_FD, Q_X3_, Q_X4_, Q_X5_, Q_X6_, Q_X7_, Q_X9_⟩ hb_ hon hoff
   refine ⟨_, rfl, fun K hK => ?_⟩
   have e33 : a.tmps[33]? = some (tv) := by rw [ha]; exact putSel_on (e := (0, 33, tv)) 0 rfl rfl (hon 0 (by kernel_rfl)) rfl
   have e34 : a.tmps[34]? = some (.agg #[x0, x1, x2, x3, x4]) := by rw [ha]; exact putSel_on (e := (1, 34, .agg #[x0, x1, x2, x3, x4])) 1 rfl rfl (hon 1 (by kernel_rfl)) rfl
   have e36 : a.tmps[36]? = some (m3_) := by rw [ha]; exact putSel_on (e := (3, 36, m3_)) 3 rfl rfl (hon 3 (by kernel_rfl)) rfl
   rw [Q_X3_ (hon 3 (by kernel_rfl))] at e36
   have e37 : a.tmps[37]? = some (m4_) := by rw [ha]; exact putSel_on (e := (4, 37, m4_)) 4 rfl rfl (hon 4 (by kernel_rfl)) rfl
   rw [Q_X4_ (hon 4 (by kernel_rfl))] at e37
   replace ha := mk0 ha
   have FB := mk0 Q_FB
   have FO := mk0 (Q_FO (hoff 10 (by kernel_rfl)))
   have FV := mk0 (Q_FV (hon 2 (by kernel_rfl)) (hoff 10 (by kernel_rfl)))
   have FS := mk0 (Q_FS (hon 3 (by kernel_rfl)) (hoff 10 (by kernel_rfl)))
   have FN := mk0 (Q_FN (hon 4 (by kernel_rfl)) (hoff 10 (by kernel_rfl)))
   refine goes_ Try.func38 (by kernel_rfl) rfl #[tv, .agg #[x0, x1, x2, x3, x4], .int .i64 2, .slice (some ⟨g27_, 0, none⟩) 1 1, .slice (some ⟨g28_, 0, none⟩) 1 1, .bool false] (by rfl) rfl rfl (by first | (simp only [List.map_toArray, List.map_cons, List.map_nil, Act.eval, Array.getD_eq_getD_getElem?, Option.getD_some, e33, e34, e36, e37]; done) | (simp only [List.map_toArray, List.map_cons, List.map_nil, Act.eval, Array.getD_eq_getD_getElem?, Option.getD_some, e33, e34, e36, e37]; rfl)) ?_
   refine (assignC (S := (fun k => some k ≠ o3_)) (fun k hk e => absurd (FO.out k e.symm).2 (Nat.not_lt.mpr hk)) 0 0 2 5 [tr 5 1] [tr 7 0] _ false _ 1 _ 1 (glob_below HG.out FB.out) ((hpl.up FB.out).mono (fun k _ hk e => absurd (FO.out k e.symm).1 (Nat.not_le.mpr hk))) FS.out (Nat.le_refl _) FN.out (Nat.le_refl _) e_assign2).mono ?_
   rintro e w2 ⟨p, rfl, hp, hb⟩
   refine ⟨_, rfl, ?_⟩
   refine hK.out _ _ ⟨v_, g27_, g28_, p, gB, o3_, m3_, m4_, (.tuple #[p, .int .i64 0]), m6_, m7_, m9_, (by rw [ha.out]; exact putSel_upk 5 hb_ rfl rfl rfl), (below_step FB.out hb), fun _ => (fun g e => ⟨(FO.out g e).1, Nat.lt_of_lt_of_le (FO.out g e).2 (Below.size hb)⟩), fun _ _ => FV.out.up hb, fun _ _ => Kd.F_below FS.out hb, fun _ _ => Kd.C_below FN.out hb, fun _ _ => hp, fun h0_ h1_ => ⟨(Q_FG h0_ h1_).1, blk_below (Q_FG h0_ h1_).2.1 hb, (Q_FG h0_ h1_).2.2⟩, fun h0_ => absurd ((hoff 10 (by kernel_rfl)).symm.trans h0_) (by decide), Q_X3_, Q_X4_, fun _ => rfl, fun h0_ => absurd ((hoff 6 (by kernel_rfl)).symm.trans h0_) (by decide), fun h0_ => absurd ((hoff 7 (by kernel_rfl)).symm.trans h0_) (by decide), Q_X9_⟩
  refine steps_cons ?_ ?_
  ·rintro b a w' ⟨v_, g27_, g28_, p_, gB, o3_, m3_, m4_, m5_, m6_, m7_, m9_, ha, Q_FB, Q_FO, Q_FV, Q_FS, Q_FN, Q_FP, Q_FG, Q_FD, Q_X3_, Q_X4_, Q_X5_, Q_X6_, Q_X7_, Q_X9_⟩ hb_ hon hoff
   refine ⟨_, rfl, fun K hK => ?_⟩
   have e38 : a.tmps[38]? = some (m5_) := by rw [ha]; exact putSel_on (e := (5, 38, m5_)) 5 rfl rfl (hon 5 (by kernel_rfl)) rfl
   rw [Q_X5_ (hon 5 (by kernel_rfl))] at e38
   replace ha := mk0 ha
   have FB := mk0 Q_FB
   have FO := mk0 (Q_FO (hoff 10 (by kernel_rfl)))
   have FV := mk0 (Q_FV (hon 2 (by kernel_rfl)) (hoff 10 (by kernel_rfl)))
   have FS := mk0 (Q_FS (hon 3 (by kernel_rfl)) (hoff 10 (by kernel_rfl)))
   have FN := mk0 (Q_FN (hon 4 (by kernel_rfl)) (hoff 10 (by kernel_rfl)))
   have FP := mk0 (Q_FP (hon 5 (by kernel_rfl)) (hoff 10 (by kernel_rfl)))
   refine value_ (w1 := w') (v := .tuple #[p_, .int .i64 0]) (by rfl) rfl ?_ ?_
   ·go_simp
    (try simp only [i64_w])
    try rfl
   refine hK.out _ _ ⟨v_, g27_, g28_, p_, gB, o3_, m3_, m4_, m5_, (.tuple #[p_, .int .i64 0]), m7_, m9_, (by rw [ha.out]; exact putSel_upk 6 hb_ rfl rfl rfl), Q_FB, Q_FO, Q_FV, Q_FS, Q_FN, Q_FP, Q_FG, fun h0_ => absurd ((hoff 10 (by kernel_rfl)).symm.trans h0_) (by decide), Q_X3_, Q_X4_, Q_X5_, fun _ => rfl, fun h0_ => absurd ((hoff 7 (by kernel_rfl)).symm.trans h0_) (by decide), Q_X9_⟩
  refine steps_cons ?_ ?_
  ·rintro b a w' ⟨v_, g27_, g28_, p_, gB, o3_, m3_, m4_, m5_, m6_, m7_, m9_, ha, Q_FB, Q_FO, Q_FV, Q_FS, Q_FN, Q_FP, Q_FG, Q_FD, Q_X3_, Q_X4_, Q_X5_, Q_X6_, Q_X7_, Q_X9_⟩ hb_ hon hoff
   refine ⟨_, rfl, fun K hK => ?_⟩
   have e32 : a.tmps[32]? = some (m6_) := by rw [ha]; exact putSel_on (e := (6, 32, m6_)) 6 rfl rfl (hon 6 (by kernel_rfl)) rfl
   rw [Q_X6_ (hon 6 (by kernel_rfl))] at e32
   replace ha := mk0 ha
   have FB := mk0 Q_FB
   have FO := mk0 (Q_FO (hoff 10 (by kernel_rfl)))
   have FV := mk0 (Q_FV (hon 2 (by kernel_rfl)) (hoff 10 (by kernel_rfl)))
   have FS := mk0 (Q_FS (hon 3 (by kernel_rfl)) (hoff 10 (by kernel_rfl)))
   have FN := mk0 (Q_FN (hon 4 (by kernel_rfl)) (hoff 10 (by kernel_rfl)))
   have FP := mk0 (Q_FP (hon 5 (by kernel_rfl)) (hoff 10 (by kernel_rfl)))
   refine value_ (w1 := w') (v := p_) (by rfl) rfl ?_ ?_
   ·go_simp
    (try simp only [i64_w])
    try rfl
   refine hK.out _ _ ⟨v_, g27_, g28_, p_, gB, o3_, m3_, m4_, m5_, m6_, (p_), m9_, (by rw [ha.out]; exact putSel_upk 7 hb_ rfl rfl rfl), Q_FB, Q_FO, Q_FV, Q_FS, Q_FN, Q_FP, Q_FG, fun h0_ => absurd ((hoff 10 (by kernel_rfl)).symm.trans h0_) (by decide), Q_X3_, Q_X4_, Q_X5_, Q_X6_, fun _ => rfl, Q_X9_⟩
  refine steps_cons ?_ ?_
  ·rintro b a w' ⟨v_, g27_, g28_, p_, gB, o3_, m3_, m4_, m5_, m6_, m7_, m9_, ha, Q_FB, Q_FO, Q_FV, Q_FS, Q_FN, Q_FP, Q_FG, Q_FD, Q_X3_, Q_X4_, Q_X5_, Q_X6_, Q_X7_, Q_X9_⟩ hb_ hon hoff
   refine ⟨_, rfl, fun K hK => ?_⟩
   have e32 : a.tmps[32]? = some (m6_) := by rw [ha]; exact putSel_on (e := (6, 32, m6_)) 6 rfl rfl (hon 6 (by kernel_rfl)) rfl
   rw [Q_X6_ (hon 6 (by kernel_rfl))] at e32
   replace ha := mk0 ha
   have FB := mk0 Q_FB
   refine value_ (w1 := w') (v := .int .i64 0) (by rfl) rfl ?_ ?_
   ·go_simp
    (try simp only [i64_w])
    try rfl
   refine hK.out _ _ ⟨v_, g27_, g28_, p_, gB, o3_, m3_, m4_, m5_, m6_, m7_, m9_, (by rw [ha.out]; exact putSel_upk 8 hb_ rfl rfl rfl), Q_FB, Q_FO, Q_FV, Q_FS, Q_FN, Q_FP, Q_FG, Q_FD, Q_X3_, Q_X4_, Q_X5_, Q_X6_, Q_X7_, Q_X9_⟩
  refine steps_cons ?_ ?_
  ·rintro b a w' ⟨v_, g27_, g28_, p_, gB, o3_, m3_, m4_, m5_, m6_, m7_, m9_, ha, Q_FB, Q_FO, Q_FV, Q_FS, Q_FN, Q_FP, Q_FG, Q_FD, Q_X3_, Q_X4_, Q_X5_, Q_X6_, Q_X7_, Q_X9_⟩ hb_ hon hoff
   refine ⟨_, rfl, fun K hK => ?_⟩
   replace ha := mk0 ha
   have FB := mk0 Q_FB
   have FO := mk0 (Q_FO (hoff 10 (by kernel_rfl)))
   refine value_ (w1 := ?_) (v := ?_) (by rfl) rfl ?_ ?_
   rotate_left 2
   ·go_simp
    constructor
    ·rfl
    ·rfl
   refine hK.out _ _ ⟨v_, g27_, g28_, p_, w'.heap.size, (some w'.heap.size), m3_, m4_, m5_, m6_, m7_, (.pointer (some ⟨w'.heap.size, 0, none⟩)), (by rw [ha.out]; exact putSel_upk 9 hb_ rfl rfl rfl), (below_alloc FB.out _), fun _ => (fun g e => by cases e; exact ⟨FB.out.size, heap_lt_alloc _ _⟩), fun h0_ h1_ => ((Q_FV h0_ h1_).mono (fun k hk _ e => Nat.ne_of_lt hk (Option.some.inj e))).up (below_alloc (Below.refl _ _) _), fun h0_ h1_ => Kd.F_alloc (Kd.F_mono (Kd.F_bound (Q_FS h0_ h1_)) (fun k hk e => Nat.ne_of_lt hk.2 (Option.some.inj e))) _, fun h0_ h1_ => Kd.C_below (Q_FN h0_ h1_) (below_alloc (Below.refl _ _) _), fun h0_ h1_ => ((Q_FP h0_ h1_).mono (fun k hk _ e => Nat.ne_of_lt hk (Option.some.inj e))).up (below_alloc (Below.refl _ _) _), fun _ _ => ⟨rfl, blk_new _ _, FB.out.size⟩, fun h0_ => absurd ((hoff 10 (by kernel_rfl)).symm.trans h0_) (by decide), Q_X3_, Q_X4_, Q_X5_, Q_X6_, Q_X7_, fun _ => rfl⟩
  refine steps_cons ?_ ?_
  ·rintro b a w' ⟨v_, g27_, g28_, p_, gB, o3_, m3_, m4_, m5_, m6_, m7_, m9_, ha, Q_FB, Q_FO, Q_FV, Q_FS, Q_FN, Q_FP, Q_FG, Q_FD, Q_X3_, Q_X4_, Q_X5_, Q_X6_, Q_X7_, Q_X9_⟩ hb_ hon hoff
   refine ⟨_, rfl, fun K hK => ?_⟩
   have e5 : a.tmps[5]? = some (m9_) := by rw [ha]; exact putSel_on (e := (9, 5, m9_)) 9 rfl rfl (hon 9 (by kernel_rfl)) rfl
   rw [Q_X9_ (hon 9 (by kernel_rfl))] at e5
   have e39 : a.tmps[39]? = some (m7_) := by rw [ha]; exact putSel_on (e := (7, 39, m7_)) 7 rfl rfl (hon 7 (by kernel_rfl)) rfl
   rw [Q_X7_ (hon 7 (by kernel_rfl))] at e39
   replace ha := mk0 ha
   have FB := mk0 Q_FB
   have FO := mk0 (Q_FO hb_)
   have FV := mk0 (Q_FV (hon 2 (by kernel_rfl)) hb_)
   have FS := mk0 (Q_FS (hon 3 (by kernel_rfl)) hb_)
   have FN := mk0 (Q_FN (hon 4 (by kernel_rfl)) hb_)
   have FP := mk0 (Q_FP (hon 5 (by kernel_rfl)) hb_)
   have FG := mk0 (Q_FG (hon 9 (by kernel_rfl)) hb_)
   obtain ⟨A2, c2, B2, d2, E2, e2, rfl, q1, q2, q3, q4, q5⟩ := FP.out
   have z_ := cells5 FG.out.2.1
   refine skip_ (w1 := ?_) (by rfl) rfl ?_ ?_
   rotate_left
   ·go_simp
    rfl
   refine hK.out _ _ ⟨v_, g27_, g28_, .agg #[.int .i64 1, .int .i64 0, .slice A2 1 c2, .slice B2 0 d2, .slice E2 1 e2], gB, o3_, m3_, m4_, m5_, m6_, m7_, m9_, (by rw [ha.out]; exact putSel_none (v := undef) rfl), (be1 FB ⟨FG.out.2.2⟩), fun h0_ => absurd ((up_self b 10).symm.trans h0_) (by decide), fun _ h1_ => absurd ((up_self b 10).symm.trans h1_) (by decide), fun _ h1_ => absurd ((up_self b 10).symm.trans h1_) (by decide), fun _ h1_ => absurd ((up_self b 10).symm.trans h1_) (by decide), fun _ h1_ => absurd ((up_self b 10).symm.trans h1_) (by decide), fun _ h1_ => absurd ((up_self b 10).symm.trans h1_) (by decide), fun _ => (bp_store FG.out.2.1 (PL.mono (S' := fun k => k ≠ gB) ⟨A2, c2, B2, d2, E2, e2, rfl, q1, q2, q3, q4, q5⟩ (fun k _ hk e => hk (by rw [FG.out.1, e])))), Q_X3_, Q_X4_, Q_X5_, Q_X6_, Q_X7_, Q_X9_⟩
  refine steps_cons ?_ ?_
  ·rintro b a w' ⟨v_, g27_, g28_, p_, gB, o3_, m3_, m4_, m5_, m6_, m7_, m9_, ha, Q_FB, Q_FO, Q_FV, Q_FS, Q_FN, Q_FP, Q_FG, Q_FD, Q_X3_, Q_X4_, Q_X5_, Q_X6_, Q_X7_, Q_X9_⟩ hb_ hon hoff
   refine ⟨_, rfl, fun K hK => ?_⟩
   have e40 : a.tmps[40]? = some (.int .i64 0) := by rw [ha]; exact putSel_on (e := (8, 40, .int .i64 0)) 8 rfl rfl (hon 8 (by kernel_rfl)) rfl
   replace ha := mk0 ha
   have FB := mk0 Q_FB
   have FD := mk0 (Q_FD (hon 10 (by kernel_rfl)))
   refine value_ (w1 := w') (v := .int .i64 0) (by rfl) rfl ?_ ?_
   ·go_simp
    (try simp only [i64_w])
    try rfl
   refine hK.out _ _ ⟨v_, g27_, g28_, p_, gB, o3_, m3_, m4_, m5_, m6_, m7_, m9_, (by rw [ha.out]; exact putSel_upk 10 hb_ rfl rfl rfl), Q_FB, fun h0_ => absurd ((hon 10 (by kernel_rfl)).symm.trans h0_) (by decide), fun _ h1_ => absurd ((hon 10 (by kernel_rfl)).symm.trans h1_) (by decide), fun _ h1_ => absurd ((hon 10 (by kernel_rfl)).symm.trans h1_) (by decide), fun _ h1_ => absurd ((hon 10 (by kernel_rfl)).symm.trans h1_) (by decide), fun _ h1_ => absurd ((hon 10 (by kernel_rfl)).symm.trans h1_) (by decide), fun _ h1_ => absurd ((hon 10 (by kernel_rfl)).symm.trans h1_) (by decide), Q_FD, Q_X3_, Q_X4_, Q_X5_, Q_X6_, Q_X7_, Q_X9_⟩
  exact steps_nil
 rintro b a w' hall ⟨v_, g27_, g28_, p_, gB, o3_, m3_, m4_, m5_, m6_, m7_, m9_, ha, Q_FB, Q_FO, Q_FV, Q_FS, Q_FN, Q_FP, Q_FG, Q_FD, Q_X3_, Q_X4_, Q_X5_, Q_X6_, Q_X7_, Q_X9_⟩
 have hb0_ := hall 0 (by kernel_rfl)
 have hb1_ := hall 1 (by kernel_rfl)
 have hb2_ := hall 2 (by kernel_rfl)
 have hb3_ := hall 3 (by kernel_rfl)
 have hb4_ := hall 4 (by kernel_rfl)
 have hb5_ := hall 5 (by kernel_rfl)
 have hb6_ := hall 6 (by kernel_rfl)
 have hb7_ := hall 7 (by kernel_rfl)
 have hb8_ := hall 8 (by kernel_rfl)
 have hb9_ := hall 9 (by kernel_rfl)
 have hb10_ := hall 10 (by kernel_rfl)
 have hb11_ := hall 11 (by kernel_rfl)
 subst ha
 obtain rfl := Q_X3_ hb3_
 obtain rfl := Q_X4_ hb4_
 obtain rfl := Q_X5_ hb5_
 obtain rfl := Q_X6_ hb6_
 obtain rfl := Q_X7_ hb7_
 obtain rfl := Q_X9_ hb9_
 simp only [putSel, hb0_, hb1_, hb2_, hb3_, hb4_, hb5_, hb6_, hb7_, hb8_, hb9_, hb10_, hb11_, if_true, Act.put, List.setIfInBounds_toArray, List.set_cons_zero, List.set_cons_succ]
 have FB := mk0 Q_FB
 clear Q_FB
 clear Q_FO
 clear Q_FV
 clear Q_FS
 clear Q_FN
 clear Q_FP
 clear Q_FG
 have FD := mk0 (Q_FD hb10_)
 clear Q_FD
 clear hall hb0_ hb1_ hb2_ hb3_ hb4_ hb5_ hb6_ hb7_ hb8_ hb9_ hb10_ hb11_
 have hd := FB.out
 replace HP := mk0 (HP.out.up hd)
 replace HA := mk0 (HA.out.up hd)
 replace HT := mk0 (blk_below HT.out hd); replace HG := mk0 (glob_below HG.out hd); replace HB := mk0 (below_step HB.out hd)
 have HZ := FD; clear FD FB hd hx hpl
 try go_wp2
 refine start_ (n := 12) (S := fun w' => True) (ds := []) #[false, false, false, false, false, false, false, false, false, false, false, false] (by kernel_rfl) rfl rfl trivial (fun hHeld => ?_); refine with_tabW awtab5 awbits5 (fun HT_ HW_ => ?_)
 have hd : Below w'.heap.size w' w'.drew := below_drew1 (Below.refl _ _)
 replace HP := mk0 (HP.out.up hd)
 replace HA := mk0 (HA.out.up hd)
 replace HZ := mk0 (HZ.out.up hd)
 replace HT := mk0 (blk_below HT.out hd); replace HG := mk0 (glob_below HG.out hd); replace HB := mk0 (below_step HB.out hd)
 clear hd hHeld
 generalize w'.drew = wC at HT HG HB HP HA HZ ⊢
 obtain ⟨x0, x1, x2, x3, x4, hx, hpl⟩ := HA.out
 refine inv_at [0, 1, 2, 3, 4, 5, 6, 7, 8, 9, 10, 11] (fun a0_ b a w' => ∃ (v_ : Value) (g27_ : Nat) (g28_ : Nat) (p_ : Value) (gC : Nat) (o3_ : Option Nat) (m3_ : Value) (m4_ : Value) (m5_ : Value) (m6_ : Value) (m7_ : Value) (m9_ : Value), a = putSel a0_ b [(0, 42, tv), (1, 43, .agg #[x0, x1, x2, x3, x4]), (2, 44, v_), (3, 45, m3_), (4, 46, m4_), (5, 47, m5_), (6, 41, m6_), (7, 48, m7_), (8, 49, .int .i64 0), (9, 7, m9_), (11, 8, .int .i64 0)] ∧ (Below wC.heap.size wC w') ∧ (b 10 = false → ∀ g, o3_ = some g → wC.heap.size ≤ g ∧ g < w'.heap.size) ∧ (b 2 = true → b 10 = false → VB w' (fun k => some k ≠ o3_) 0 v_) ∧ (b 3 = true → b 10 = false → Kd.F k30 w' (fun k => some k ≠ o3_) (some ⟨g27_, 0, none⟩) 1 [bv 0]) ∧ (b 4 = true → b 10 = false → Kd.C (Kd.int .i64) w' (some ⟨g28_, 0, none⟩) 1 [5]) ∧ (b 5 = true → b 10 = false → PL w' (fun k => some k ≠ o3_) 0 [tr 5 1, tr 7 0] p_) ∧ (b 9 = true → b 10 = false → o3_ = some gC ∧ w'.heap[gC]? = some (.cells #[.int .i64 0, .int .i64 0, .slice none 0 0, .slice none 0 0, .slice none 0 0] 33 (0, 0)) ∧ wC.heap.size ≤ gC) ∧ (b 10 = true → BP w' gC 0 [tr 5 1, tr 7 0]) ∧ (b 3 = true → (m3_ : Value) = .slice (some ⟨g27_, 0, none⟩) 1 1) ∧ (b 4 = true → (m4_ : Value) = .slice (some ⟨g28_, 0, none⟩) 1 1) ∧ (b 5 = true → (m5_ : Value) = .tuple #[p_, .int .i64 0]) ∧ (b 6 = true → (m6_ : Value) = .tuple #[p_, .int .i64 0]) ∧ (b 7 = true → (m7_ : Value) = p_) ∧ (b 9 = true → (m9_ : Value) = .pointer (some ⟨gC, 0, none⟩))) HT_.out HW_.out (by kernel_rfl) (by kernel_rfl) ?_ ?_ ?_
 ·exact ⟨.bool false, 0, 0, .bool false, 0, none, .bool false, .bool false, .bool false, .bool false, .bool false, .bool false, by simp only [putSel, Bool.false_eq_true, if_false], (Below.refl _ _), fun _ => (fun g e => by cases e), fun h_ => absurd h_ (by decide), fun h_ => absurd h_ (by decide), fun h_ => absurd h_ (by decide), fun h_ => absurd h_ (by decide), fun h_ => absurd h_ (by decide), fun h_ => absurd h_ (by decide), fun h_ => absurd h_ (by decide), fun h_ => absurd h_ (by decide), fun h_ => absurd h_ (by decide), fun h_ => absurd h_ (by decide), fun h_ => absurd h_ (by decide), fun h_ => absurd h_ (by decide)⟩
 ·skip
  refine steps_cons ?_ ?_
  ·rintro b a w' ⟨v_, g27_, g28_, p_, gC, o3_, m3_, m4_, m5_, m6_, m7_, m9_, ha, Q_FB, Q_FO, Q_FV, Q_FS, Q_FN, Q_FP, Q_FG, Q_FD, Q_X3_, Q_X4_, Q_X5_, Q_X6_, Q_X7_, Q_X9_⟩ hb_ hon hoff
   refine ⟨_, rfl, fun K hK => ?_⟩
   have e1 : a.tmps[1]? = some (.pointer (some ⟨gT, 0, none⟩)) := by rw [ha]; exact (putSel_off rfl).trans rfl
   replace ha := mk0 ha
   have FB := mk0 Q_FB
   have FO := mk0 (Q_FO (hoff 10 (by kernel_rfl)))
   have z_ := cells5 (blk_below HT.out FB.out)
   refine value_ (w1 := w') (v := tv) (by rfl) rfl ?_ ?_
   ·go_simp
    (try simp only [i64_w])
    try rfl
   refine hK.out _ _ ⟨v_, g27_, g28_, p_, gC, o3_, m3_, m4_, m5_, m6_, m7_, m9_, (by rw [ha.out]; exact putSel_upk 0 hb_ rfl rfl rfl), Q_FB, Q_FO, Q_FV, Q_FS, Q_FN, fun h0_ _ => absurd ((hoff 5 (by kernel_rfl)).symm.trans h0_) (by decide), Q_FG, fun h0_ => absurd ((hoff 10 (by kernel_rfl)).symm.trans h0_) (by decide), Q_X3_, Q_X4_, fun h0_ => absurd ((hoff 5 (by kernel_rfl)).symm.trans h0_) (by decide), fun h0_ => absurd ((hoff 6 (by kernel_rfl)).symm.trans h0_) (by decide), fun h0_ => absurd ((hoff 7 (by kernel_rfl)).symm.trans h0_) (by decide), Q_X9_⟩
  refine steps_cons ?_ ?_
  ·rintro b a w' ⟨v_, g27_, g28_, p_, gC, o3_, m3_, m4_, m5_, m6_, m7_, m9_, ha, Q_FB, Q_FO, Q_FV, Q_FS, Q_FN, Q_FP, Q_FG, Q_FD, Q_X3_, Q_X4_, Q_X5_, Q_X6_, Q_X7_, Q_X9_⟩ hb_ hon hoff
   refine ⟨_, rfl, fun K hK => ?_⟩
   have e3 : a.tmps[3]? = some (.pointer (some ⟨gA, 0, none⟩)) := by rw [ha]; exact (putSel_off rfl).trans rfl
   replace ha := mk0 ha
   have FB := mk0 Q_FB
   have FO := mk0 (Q_FO (hoff 10 (by kernel_rfl)))
   have z_ := cells5 (blk_below hx FB.out)
   refine value_ (w1 := w') (v := .agg #[x0, x1, x2, x3, x4]) (by rfl) rfl ?_ ?_
   ·go_simp
    (try simp only [i64_w])
    try rfl
   refine hK.out _ _ ⟨v_, g27_, g28_, p_, gC, o3_, m3_, m4_, m5_, m6_, m7_, m9_, (by rw [ha.out]; exact putSel_upk 1 hb_ rfl rfl rfl), Q_FB, Q_FO, Q_FV, Q_FS, Q_FN, fun h0_ _ => absurd ((hoff 5 (by kernel_rfl)).symm.trans h0_) (by decide), Q_FG, fun h0_ => absurd ((hoff 10 (by kernel_rfl)).symm.trans h0_) (by decide), Q_X3_, Q_X4_, fun h0_ => absurd ((hoff 5 (by kernel_rfl)).symm.trans h0_) (by decide), fun h0_ => absurd ((hoff 6 (by kernel_rfl)).symm.trans h0_) (by decide), fun h0_ => absurd ((hoff 7 (by kernel_rfl)).symm.trans h0_) (by decide), Q_X9_⟩
  refine steps_cons ?_ ?_
  ·rintro b a w' ⟨v_, g27_, g28_, p_, gC, o3_, m3_, m4_, m5_, m6_, m7_, m9_, ha, Q_FB, Q_FO, Q_FV, Q_FS, Q_FN, Q_FP, Q_FG, Q_FD, Q_X3_, Q_X4_, Q_X5_, Q_X6_, Q_X7_, Q_X9_⟩ hb_ hon hoff
   refine ⟨_, rfl, fun K hK => ?_⟩
   replace ha := mk0 ha
   have FB := mk0 Q_FB
   have FO := mk0 (Q_FO (hoff 10 (by kernel_rfl)))
   refine goes_ Try.func40 (by kernel_rfl) rfl #[.int .u8 0] (by rfl) rfl rfl (by first | (simp only [List.map_toArray, List.map_cons, List.map_nil, Act.eval, Array.getD_eq_getD_getElem?, Option.getD_some]; done) | (simp only [List.map_toArray, List.map_cons, List.map_nil, Act.eval, Array.getD_eq_getD_getElem?, Option.getD_some]; rfl)) ?_
   refine (bitC (S := (fun k => some k ≠ o3_)) 0 (fun k hk e => absurd (FO.out k e.symm).2 (Nat.not_lt.mpr hk))).mono ?_
   rintro e w2 ⟨v, rfl, hv, hb⟩
   refine ⟨_, rfl, ?_⟩
   refine hK.out _ _ ⟨v, g27_, g28_, p_, gC, o3_, m3_, m4_, m5_, m6_, m7_, m9_, (by rw [ha.out]; exact putSel_upk 2 hb_ rfl rfl rfl), (below_step FB.out hb), fun _ => (fun g e => ⟨(FO.out g e).1, Nat.lt_of_lt_of_le (FO.out g e).2 (Below.size hb)⟩), fun _ _ => hv, fun h0_ _ => absurd ((hoff 3 (by kernel_rfl)).symm.trans h0_) (by decide), fun h0_ h1_ => Kd.C_below (Q_FN h0_ h1_) hb, fun h0_ _ => absurd ((hoff 5 (by kernel_rfl)).symm.trans h0_) (by decide), fun h0_ h1_ => ⟨(Q_FG h0_ h1_).1, blk_below (Q_FG h0_ h1_).2.1 hb, (Q_FG h0_ h1_).2.2⟩, fun h0_ => absurd ((hoff 10 (by kernel_rfl)).symm.trans h0_) (by decide), fun h0_ => absurd ((hoff 3 (by kernel_rfl)).symm.trans h0_) (by decide), Q_X4_, fun h0_ => absurd ((hoff 5 (by kernel_rfl)).symm.trans h0_) (by decide), fun h0_ => absurd ((hoff 6 (by kernel_rfl)).symm.trans h0_) (by decide), fun h0_ => absurd ((hoff 7 (by kernel_rfl)).symm.trans h0_) (by decide), Q_X9_⟩
  refine steps_cons ?_ ?_
  ·rintro b a w' ⟨v_, g27_, g28_, p_, gC, o3_, m3_, m4_, m5_, m6_, m7_, m9_, ha, Q_FB, Q_FO, Q_FV, Q_FS, Q_FN, Q_FP, Q_FG, Q_FD, Q_X3_, Q_X4_, Q_X5_, Q_X6_, Q_X7_, Q_X9_⟩ hb_ hon hoff
   refine ⟨_, rfl, fun K hK => ?_⟩
   have e44 : a.tmps[44]? = some (v_) := by rw [ha]; exact putSel_on (e := (2, 44, v_)) 2 rfl rfl (hon 2 (by kernel_rfl)) rfl
   replace ha := mk0 ha
   have FB := mk0 Q_FB
   have FO := mk0 (Q_FO (hoff 10 (by kernel_rfl)))
   have FV := mk0 (Q_FV (hon 2 (by kernel_rfl)) (hoff 10 (by kernel_rfl)))
   obtain ⟨A2, c2, B2, d2, rfl, l2, h2, h3⟩ := FV.out
   refine value_ (w1 := ?_) (v := ?_) (by rfl) rfl ?_ ?_
   rotate_left 2
   ·go_simp
    constructor
    ·rfl
    ·rfl
   refine hK.out _ _ ⟨.agg #[.int .i64 1, .int .i64 0, .slice A2 1 c2, .slice B2 0 d2], w'.heap.size, g28_, p_, gC, o3_, (.slice (some ⟨w'.heap.size, 0, none⟩) 1 1), m4_, m5_, m6_, m7_, m9_, (by rw [ha.out]; exact putSel_upk 3 hb_ rfl rfl rfl), (below_step FB.out (below_alloc (Below.refl _ _) _)), fun _ => (fun g e => ⟨(FO.out g e).1, Nat.lt_of_lt_of_le (FO.out g e).2 (Below.size (below_alloc (Below.refl _ _) _))⟩), fun _ _ => (VB.up FV.out (below_alloc (Below.refl _ _) _)), fun _ _ => lit30 l2 h2 h3 (fun e => absurd (FO.out _ e.symm).2 (Nat.lt_irrefl _)), fun h0_ h1_ => Kd.C_below (Q_FN h0_ h1_) (below_alloc (Below.refl _ _) _), fun h0_ _ => absurd ((hoff 5 (by kernel_rfl)).symm.trans h0_) (by decide), fun h0_ h1_ => ⟨(Q_FG h0_ h1_).1, blk_below (Q_FG h0_ h1_).2.1 (below_alloc (Below.refl _ _) _), (Q_FG h0_ h1_).2.2⟩, fun h0_ => absurd ((hoff 10 (by kernel_rfl)).symm.trans h0_) (by decide), fun _ => rfl, Q_X4_, fun h0_ => absurd ((hoff 5 (by kernel_rfl)).symm.trans h0_) (by decide), fun h0_ => absurd ((hoff 6 (by kernel_rfl)).symm.trans h0_) (by decide), fun h0_ => absurd ((hoff 7 (by kernel_rfl)).symm.trans h0_) (by decide), Q_X9_⟩
  refine steps_cons ?_ ?_
  ·rintro b a w' ⟨v_, g27_, g28_, p_, gC, o3_, m3_, m4_, m5_, m6_, m7_, m9_, ha, Q_FB, Q_FO, Q_FV, Q_FS, Q_FN, Q_FP, Q_FG, Q_FD, Q_X3_, Q_X4_, Q_X5_, Q_X6_, Q_X7_, Q_X9_⟩ hb_ hon hoff
   refine ⟨_, rfl, fun K hK => ?_⟩
   replace ha := mk0 ha
   have FB := mk0 Q_FB
   have FO := mk0 (Q_FO (hoff 10 (by kernel_rfl)))
   refine value_ (w1 := ?_) (v := ?_) (by rfl) rfl ?_ ?_
   rotate_left 2
   ·go_simp
    constructor
    ·rfl
    ·rfl
   refine hK.out _ _ ⟨v_, g27_, w'.heap.size, p_, gC, o3_, m3_, (.slice (some ⟨w'.heap.size, 0, none⟩) 1 1), m5_, m6_, m7_, m9_, (by rw [ha.out]; exact putSel_upk 4 hb_ rfl rfl rfl), (below_step FB.out (below_alloc (Below.refl _ _) _)), fun _ => (fun g e => ⟨(FO.out g e).1, Nat.lt_of_lt_of_le (FO.out g e).2 (Below.size (below_alloc (Below.refl _ _) _))⟩), fun h0_ h1_ => (Q_FV h0_ h1_).up (below_alloc (Below.refl _ _) _), fun h0_ h1_ => Kd.F_below (Q_FS h0_ h1_) (below_alloc (Below.refl _ _) _), fun _ _ => litI _ _, fun h0_ _ => absurd ((hoff 5 (by kernel_rfl)).symm.trans h0_) (by decide), fun h0_ h1_ => ⟨(Q_FG h0_ h1_).1, blk_below (Q_FG h0_ h1_).2.1 (below_alloc (Below.refl _ _) _), (Q_FG h0_ h1_).2.2⟩, fun h0_ => absurd ((hoff 10 (by kernel_rfl)).symm.trans h0_) (by decide), Q_X3_, fun _ => rfl, fun h0_ => absurd ((hoff 5 (by kernel_rfl)).symm.trans h0_) (by decide), fun h0_ => absurd ((hoff 6 (by kernel_rfl)).symm.trans h0_) (by decide), fun h0_ => absurd ((hoff 7 (by kernel_rfl)).symm.trans h0_) (by decide), Q_X9_⟩
  refine steps_cons ?_ ?_
  ·rintro b a w' ⟨v_, g27_, g28_, p_, gC, o3_, m3_, m4_, m5_, m6_, m7_, m9_, ha, Q_FB, Q_FO, Q_FV, Q_FS, Q_FN, Q_FP, Q_FG, Q_FD, Q_X3_, Q_X4_, Q_X5_, Q_X6_, Q_X7_, Q_X9_⟩ hb_ hon hoff
   refine ⟨_, rfl, fun K hK => ?_⟩
   have e42 : a.tmps[42]? = some (tv) := by rw [ha]; exact putSel_on (e := (0, 42, tv)) 0 rfl rfl (hon 0 (by kernel_rfl)) rfl
   have e43 : a.tmps[43]? = some (.agg #[x0, x1, x2, x3, x4]) := by rw [ha]; exact putSel_on (e := (1, 43, .agg #[x0, x1, x2, x3, x4])) 1 rfl rfl (hon 1 (by kernel_rfl)) rfl
   have e45 : a.tmps[45]? = some (m3_) := by rw [ha]; exact putSel_on (e := (3, 45, m3_)) 3 rfl rfl (hon 3 (by kernel_rfl)) rfl
   rw [Q_X3_ (hon 3 (by kernel_rfl))] at e45
   have e46 : a.tmps[46]? = some (m4_) := by rw [ha]; exact putSel_on (e := (4, 46, m4_)) 4 rfl rfl (hon 4 (by kernel_rfl)) rfl
   rw [Q_X4_ (hon 4 (by kernel_rfl))] at e46
   replace ha := mk0 ha
   have FB := mk0 Q_FB
   have FO := mk0 (Q_FO (hoff 10 (by kernel_rfl)))
   have FV := mk0 (Q_FV (hon 2 (by kernel_rfl)) (hoff 10 (by kernel_rfl)))
   have FS := mk0 (Q_FS (hon 3 (by kernel_rfl)) (hoff 10 (by kernel_rfl)))
   have FN := mk0 (Q_FN (hon 4 (by kernel_rfl)) (hoff 10 (by kernel_rfl)))
   refine goes_ Try.func38 (by kernel_rfl) rfl #[tv, .agg #[x0, x1, x2, x3, x4], .int .i64 2, .slice (some ⟨g27_, 0, none⟩) 1 1, .slice (some ⟨g28_, 0, none⟩) 1 1, .bool true] (by rfl) rfl rfl (by first | (simp only [List.map_toArray, List.map_cons, List.map_nil, Act.eval, Array.getD_eq_getD_getElem?, Option.getD_some, e42, e43, e45, e46]; done) | (simp only [List.map_toArray, List.map_cons, List.map_nil, Act.eval, Array.getD_eq_getD_getElem?, Option.getD_some, e42, e43, e45, e46]; rfl)) ?_
   refine (assignC (S := (fun k => some k ≠ o3_)) (fun k hk e => absurd (FO.out k e.symm).2 (Nat.not_lt.mpr hk)) 0 0 2 5 [tr 5 1] [tr 5 1, tr 7 0] _ true _ 1 _ 1 (glob_below HG.out FB.out) ((hpl.up FB.out).mono (fun k _ hk e => absurd (FO.out k e.symm).1 (Nat.not_le.mpr hk))) FS.out (Nat.le_refl _) FN.out (Nat.le_refl _) e_assign3).mono ?_
   rintro e w2 ⟨p, rfl, hp, hb⟩
   refine ⟨_, rfl, ?_⟩
   refine hK.out _ _ ⟨v_, g27_, g28_, p, gC, o3_, m3_, m4_, (.tuple #[p, .int .i64 0]), m6_, m7_, m9_, (by rw [ha.out]; exact putSel_upk 5 hb_ rfl rfl rfl), (below_step FB.out hb), fun _ => (fun g e => ⟨(FO.out g e).1, Nat.lt_of_lt_of_le (FO.out g e).2 (Below.size hb)⟩), fun _ _ => FV.out.up hb, fun _ _ => Kd.F_below FS.out hb, fun _ _ => Kd.C_below FN.out hb, fun _ _ => hp, fun h0_ h1_ => ⟨(Q_FG h0_ h1_).1, blk_below (Q_FG h0_ h1_).2.1 hb, (Q_FG h0_ h1_).2.2⟩, fun h0_ => absurd ((hoff 10 (by kernel_rfl)).symm.trans h0_) (by decide), Q_X3_, Q_X4_, fun _ => rfl, fun h0_ => absurd ((hoff 6 (by kernel_rfl)).symm.trans h0_) (by decide), fun h0_ => absurd ((hoff 7 (by kernel_rfl)).symm.trans h0_) (by decide), Q_X9_⟩
  refine steps_cons ?_ ?_
  ·rintro b a w' ⟨v_, g27_, g28_, p_, gC, o3_, m3_, m4_, m5_, m6_, m7_, m9_, ha, Q_FB, Q_FO, Q_FV, Q_FS, Q_FN, Q_FP, Q_FG, Q_FD, Q_X3_, Q_X4_, Q_X5_, Q_X6_, Q_X7_, Q_X9_⟩ hb_ hon hoff
   refine ⟨_, rfl, fun K hK => ?_⟩
   have e47 : a.tmps[47]? = some (m5_) := by rw [ha]; exact putSel_on (e := (5, 47, m5_)) 5 rfl rfl (hon 5 (by kernel_rfl)) rfl
   rw [Q_X5_ (hon 5 (by kernel_rfl))] at e47
   replace ha := mk0 ha
   have FB := mk0 Q_FB
   have FO := mk0 (Q_FO (hoff 10 (by kernel_rfl)))
   have FV := mk0 (Q_FV (hon 2 (by kernel_rfl)) (hoff 10 (by kernel_rfl)))
   have FS := mk0 (Q_FS (hon 3 (by kernel_rfl)) (hoff 10 (by kernel_rfl)))
   have FN := mk0 (Q_FN (hon 4 (by kernel_rfl)) (hoff 10 (by kernel_rfl)))
   have FP := mk0 (Q_FP (hon 5 (by kernel_rfl)) (hoff 10 (by kernel_rfl)))
   refine value_ (w1 := w') (v := .tuple #[p_, .int .i64 0]) (by rfl) rfl ?_ ?_
   ·go_simp
    (try simp only [i64_w])
    try rfl
   refine hK.out _ _ ⟨v_, g27_, g28_, p_, gC, o3_, m3_, m4_, m5_, (.tuple #[p_, .int .i64 0]), m7_, m9_, (by rw [ha.out]; exact putSel_upk 6 hb_ rfl rfl rfl), Q_FB, Q_FO, Q_FV, Q_FS, Q_FN, Q_FP, Q_FG, fun h0_ => absurd ((hoff 10 (by kernel_rfl)).symm.trans h0_) (by decide), Q_X3_, Q_X4_, Q_X5_, fun _ => rfl, fun h0_ => absurd ((hoff 7 (by kernel_rfl)).symm.trans h0_) (by decide), Q_X9_⟩
  refine steps_cons ?_ ?_
  ·rintro b a w' ⟨v_, g27_, g28_, p_, gC, o3_, m3_, m4_, m5_, m6_, m7_, m9_, ha, Q_FB, Q_FO, Q_FV, Q_FS, Q_FN, Q_FP, Q_FG, Q_FD, Q_X3_, Q_X4_, Q_X5_, Q_X6_, Q_X7_, Q_X9_⟩ hb_ hon hoff
   refine ⟨_, rfl, fun K hK => ?_⟩
   have e41 : a.tmps[41]? = some (m6_) := by rw [ha]; exact putSel_on (e := (6, 41, m6_)) 6 rfl rfl (hon 6 (by kernel_rfl)) rfl
   rw [Q_X6_ (hon 6 (by kernel_rfl))] at e41
   replace ha := mk0 ha
   have FB := mk0 Q_FB
   have FO := mk0 (Q_FO (hoff 10 (by kernel_rfl)))
   have FV := mk0 (Q_FV (hon 2 (by kernel_rfl)) (hoff 10 (by kernel_rfl)))
   have FS := mk0 (Q_FS (hon 3 (by kernel_rfl)) (hoff 10 (by kernel_rfl)))
   have FN := mk0 (Q_FN (hon 4 (by kernel_rfl)) (hoff 10 (by kernel_rfl)))
   have FP := mk0 (Q_FP (hon 5 (by kernel_rfl)) (hoff 10 (by kernel_rfl)))
   refine value_ (w1 := w') (v := p_) (by rfl) rfl ?_ ?_
   ·go_simp
    (try simp only [i64_w])
    try rfl
   refine hK.out _ _ ⟨v_, g27_, g28_, p_, gC, o3_, m3_, m4_, m5_, m6_, (p_), m9_, (by rw [ha.out]; exact putSel_upk 7 hb_ rfl rfl rfl), Q_FB, Q_FO, Q_FV, Q_FS, Q_FN, Q_FP, Q_FG, fun h0_ => absurd ((hoff 10 (by kernel_rfl)).symm.trans h0_) (by decide), Q_X3_, Q_X4_, Q_X5_, Q_X6_, fun _ => rfl, Q_X9_⟩
  refine steps_cons ?_ ?_
  ·rintro b a w' ⟨v_, g27_, g28_, p_, gC, o3_, m3_, m4_, m5_, m6_, m7_, m9_, ha, Q_FB, Q_FO, Q_FV, Q_FS, Q_FN, Q_FP, Q_FG, Q_FD, Q_X3_, Q_X4_, Q_X5_, Q_X6_, Q_X7_, Q_X9_⟩ hb_ hon hoff
   refine ⟨_, rfl, fun K hK => ?_⟩
   have e41 : a.tmps[41]? = some (m6_) := by rw [ha]; exact putSel_on (e := (6, 41, m6_)) 6 rfl rfl (hon 6 (by kernel_rfl)) rfl
   rw [Q_X6_ (hon 6 (by kernel_rfl))] at e41
   replace ha := mk0 ha
   have FB := mk0 Q_FB
   refine value_ (w1 := w') (v := .int .i64 0) (by rfl) rfl ?_ ?_
   ·go_simp
    (try simp only [i64_w])
    try rfl
   refine hK.out _ _ ⟨v_, g27_, g28_, p_, gC, o3_, m3_, m4_, m5_, m6_, m7_, m9_, (by rw [ha.out]; exact putSel_upk 8 hb_ rfl rfl rfl), Q_FB, Q_FO, Q_FV, Q_FS, Q_FN, Q_FP, Q_FG, Q_FD, Q_X3_, Q_X4_, Q_X5_, Q_X6_, Q_X7_, Q_X9_⟩
  refine steps_cons ?_ ?_
  ·rintro b a w' ⟨v_, g27_, g28_, p_, gC, o3_, m3_, m4_, m5_, m6_, m7_, m9_, ha, Q_FB, Q_FO, Q_FV, Q_FS, Q_FN, Q_FP, Q_FG, Q_FD, Q_X3_, Q_X4_, Q_X5_, Q_X6_, Q_X7_, Q_X9_⟩ hb_ hon hoff
   refine ⟨_, rfl, fun K hK => ?_⟩
   replace ha := mk0 ha
   have FB := mk0 Q_FB
   have FO := mk0 (Q_FO (hoff 10 (by kernel_rfl)))
   refine value_ (w1 := ?_) (v := ?_) (by rfl) rfl ?_ ?_
   rotate_left 2
   ·go_simp
    constructor
    ·rfl
    ·rfl
   refine hK.out _ _ ⟨v_, g27_, g28_, p_, w'.heap.size, (some w'.heap.size), m3_, m4_, m5_, m6_, m7_, (.pointer (some ⟨w'.heap.size, 0, none⟩)), (by rw [ha.out]; exact putSel_upk 9 hb_ rfl rfl rfl), (below_alloc FB.out _), fun _ => (fun g e => by cases e; exact ⟨FB.out.size, heap_lt_alloc _ _⟩), fun h0_ h1_ => ((Q_FV h0_ h1_).mono (fun k hk _ e => Nat.ne_of_lt hk (Option.some.inj e))).up (below_alloc (Below.refl _ _) _), fun h0_ h1_ => Kd.F_alloc (Kd.F_mono (Kd.F_bound (Q_FS h0_ h1_)) (fun k hk e => Nat.ne_of_lt hk.2 (Option.some.inj e))) _, fun h0_ h1_ => Kd.C_below (Q_FN h0_ h1_) (below_alloc (Below.refl _ _) _), fun h0_ h1_ => ((Q_FP h0_ h1_).mono (fun k hk _ e => Nat.ne_of_lt hk (Option.some.inj e))).up (below_alloc (Below.refl _ _) _), fun _ _ => ⟨rfl, blk_new _ _, FB.out.size⟩, fun h0_ => absurd ((hoff 10 (by kernel_rfl)).symm.trans h0_) (by decide), Q_X3_, Q_X4_, Q_X5_, Q_X6_, Q_X7_, fun _ => rfl⟩
  refine steps_cons ?_ ?_
  ·rintro b a w' ⟨v_, g27_, g28_, p_, gC, o3_, m3_, m4_, m5_, m6_, m7_, m9_, ha, Q_FB, Q_FO, Q_FV, Q_FS, Q_FN, Q_FP, Q_FG, Q_FD, Q_X3_, Q_X4_, Q_X5_, Q_X6_, Q_X7_, Q_X9_⟩ hb_ hon hoff
   refine ⟨_, rfl, fun K hK => ?_⟩
   have e7 : a.tmps[7]? = some (m9_) := by rw [ha]; exact putSel_on (e := (9, 7, m9_)) 9 rfl rfl (hon 9 (by kernel_rfl)) rfl
   rw [Q_X9_ (hon 9 (by kernel_rfl))] at e7
   have e48 : a.tmps[48]? = some (m7_) := by rw [ha]; exact putSel_on (e := (7, 48, m7_)) 7 rfl rfl (hon 7 (by kernel_rfl)) rfl
   rw [Q_X7_ (hon 7 (by kernel_rfl))] at e48
   replace ha := mk0 ha
   have FB := mk0 Q_FB
   have FO := mk0 (Q_FO hb_)
   have FV := mk0 (Q_FV (hon 2 (by kernel_rfl)) hb_)
   have FS := mk0 (Q_FS (hon 3 (by kernel_rfl)) hb_)
   have FN := mk0 (Q_FN (hon 4 (by kernel_rfl)) hb_)
   have FP := mk0 (Q_FP (hon 5 (by kernel_rfl)) hb_)
   have FG := mk0 (Q_FG (hon 9 (by kernel_rfl)) hb_)
   obtain ⟨A2, c2, B2, d2, E2, e2, rfl, q1, q2, q3, q4, q5⟩ := FP.out
   have z_ := cells5 FG.out.2.1
   refine skip_ (w1 := ?_) (by rfl) rfl ?_ ?_
   rotate_left
   ·go_simp
    rfl
   refine hK.out _ _ ⟨v_, g27_, g28_, .agg #[.int .i64 1, .int .i64 0, .slice A2 1 c2, .slice B2 0 d2, .slice E2 2 e2], gC, o3_, m3_, m4_, m5_, m6_, m7_, m9_, (by rw [ha.out]; exact putSel_none (v := undef) rfl), (be1 FB ⟨FG.out.2.2⟩), fun h0_ => absurd ((up_self b 10).symm.trans h0_) (by decide), fun _ h1_ => absurd ((up_self b 10).symm.trans h1_) (by decide), fun _ h1_ => absurd ((up_self b 10).symm.trans h1_) (by decide), fun _ h1_ => absurd ((up_self b 10).symm.trans h1_) (by decide), fun _ h1_ => absurd ((up_self b 10).symm.trans h1_) (by decide), fun _ h1_ => absurd ((up_self b 10).symm.trans h1_) (by decide), fun _ => (bp_store FG.out.2.1 (PL.mono (S' := fun k => k ≠ gC) ⟨A2, c2, B2, d2, E2, e2, rfl, q1, q2, q3, q4, q5⟩ (fun k _ hk e => hk (by rw [FG.out.1, e])))), Q_X3_, Q_X4_, Q_X5_, Q_X6_, Q_X7_, Q_X9_⟩
  refine steps_cons ?_ ?_
  ·rintro b a w' ⟨v_, g27_, g28_, p_, gC, o3_, m3_, m4_, m5_, m6_, m7_, m9_, ha, Q_FB, Q_FO, Q_FV, Q_FS, Q_FN, Q_FP, Q_FG, Q_FD, Q_X3_, Q_X4_, Q_X5_, Q_X6_, Q_X7_, Q_X9_⟩ hb_ hon hoff
   refine ⟨_, rfl, fun K hK => ?_⟩
   have e49 : a.tmps[49]? = some (.int .i64 0) := by rw [ha]; exact putSel_on (e := (8, 49, .int .i64 0)) 8 rfl rfl (hon 8 (by kernel_rfl)) rfl
   replace ha := mk0 ha
   have FB := mk0 Q_FB
   have FD := mk0 (Q_FD (hon 10 (by kernel_rfl)))
   refine value_ (w1 := w') (v := .int .i64 0) (by rfl) rfl ?_ ?_
   ·go_simp
    (try simp only [i64_w])
    try rfl
   refine hK.out _ _ ⟨v_, g27_, g28_, p_, gC, o3_, m3_, m4_, m5_, m6_, m7_, m9_, (by rw [ha.out]; exact putSel_upk 10 hb_ rfl rfl rfl), Q_FB, fun h0_ => absurd ((hon 10 (by kernel_rfl)).symm.trans h0_) (by decide), fun _ h1_ => absurd ((hon 10 (by kernel_rfl)).symm.trans h1_) (by decide), fun _ h1_ => absurd ((hon 10 (by kernel_rfl)).symm.trans h1_) (by decide), fun _ h1_ => absurd ((hon 10 (by kernel_rfl)).symm.trans h1_) (by decide), fun _ h1_ => absurd ((hon 10 (by kernel_rfl)).symm.trans h1_) (by decide), fun _ h1_ => absurd ((hon 10 (by kernel_rfl)).symm.trans h1_) (by decide), Q_FD, Q_X3_, Q_X4_, Q_X5_, Q_X6_, Q_X7_, Q_X9_⟩
  exact steps_nil
 rintro b a w' hall ⟨v_, g27_, g28_, p_, gC, o3_, m3_, m4_, m5_, m6_, m7_, m9_, ha, Q_FB, Q_FO, Q_FV, Q_FS, Q_FN, Q_FP, Q_FG, Q_FD, Q_X3_, Q_X4_, Q_X5_, Q_X6_, Q_X7_, Q_X9_⟩
 have hb0_ := hall 0 (by kernel_rfl)
 have hb1_ := hall 1 (by kernel_rfl)
 have hb2_ := hall 2 (by kernel_rfl)
 have hb3_ := hall 3 (by kernel_rfl)
 have hb4_ := hall 4 (by kernel_rfl)
 have hb5_ := hall 5 (by kernel_rfl)
 have hb6_ := hall 6 (by kernel_rfl)
 have hb7_ := hall 7 (by kernel_rfl)
 have hb8_ := hall 8 (by kernel_rfl)
 have hb9_ := hall 9 (by kernel_rfl)
 have hb10_ := hall 10 (by kernel_rfl)
 have hb11_ := hall 11 (by kernel_rfl)
 subst ha
 obtain rfl := Q_X3_ hb3_
 obtain rfl := Q_X4_ hb4_
 obtain rfl := Q_X5_ hb5_
 obtain rfl := Q_X6_ hb6_
 obtain rfl := Q_X7_ hb7_
 obtain rfl := Q_X9_ hb9_
 simp only [putSel, hb0_, hb1_, hb2_, hb3_, hb4_, hb5_, hb6_, hb7_, hb8_, hb9_, hb10_, hb11_, if_true, Act.put, List.setIfInBounds_toArray, List.set_cons_zero, List.set_cons_succ]
 have FB := mk0 Q_FB
 clear Q_FB
 clear Q_FO
 clear Q_FV
 clear Q_FS
 clear Q_FN
 clear Q_FP
 clear Q_FG
 have FD := mk0 (Q_FD hb10_)
 clear Q_FD
 clear hall hb0_ hb1_ hb2_ hb3_ hb4_ hb5_ hb6_ hb7_ hb8_ hb9_ hb10_ hb11_
 have hd := FB.out
 replace HP := mk0 (HP.out.up hd)
 replace HA := mk0 (HA.out.up hd)
 replace HZ := mk0 (HZ.out.up hd)
 replace HT := mk0 (blk_below HT.out hd); replace HG := mk0 (glob_below HG.out hd); replace HB := mk0 (below_step HB.out hd)
 have HC := FD; clear FD FB hd hx hpl
 clear HP HA
 obtain ⟨A6, c6, B6, d6, E6, e6, hx, hpl, hc6, _⟩ := HC.out.opens; have zT := cells5 HT.out; have zC := cells5 hx
 go_wp2_with (first | (go_at_call 25; refine (nextC 0 5 [tr 5 1, tr 7 0] _ HG.out hpl e_next).mono ?_; rintro e w6 ⟨rfl, hb⟩; clear zT zC hx hpl hc6; replace HT := mk0 (blk_below HT.out hb); replace HG := mk0 (glob_below HG.out hb); replace HB := mk0 (below_step HB.out hb); replace HZ := mk0 (HZ.out.up hb); replace HC := mk0 (HC.out.up hb); obtain ⟨A6, c6, B6, d6, E6, e6, hx, hpl, hc6, _⟩ := HC.out.opens; have zT := cells5 HT.out; have zC := cells5 hx; clear hb) | (go_at_call 28; refine (takeC _ HG.out _ (hpl.mono (fun _ _ _ => trivial))).mono ?_; rintro e w7 ⟨p, rfl, ⟨A7, c7, B7, d7, E7, e7, rfl, hp⟩, hb⟩; clear zT zC hx hpl hc6; replace HT := mk0 (blk_below HT.out hb); replace HG := mk0 (glob_below HG.out hb); replace HB := mk0 (below_step HB.out hb); replace HZ := mk0 (HZ.out.up hb); replace HC := mk0 (HC.out.up hb); have H7 := mk0 hp; clear hp hb) | ((with_reducible refine box_event rfl (N := 11) rfl (cs := #[.int .i64 0, .int .i64 0, .slice none 0 0, .slice none 0 0, .slice none 0 0]) (t := 33) ?hr ?_); (case hr => first | (go_simp; done) | (go_simp; rfl)); intro gD hg w8 hbox hb; have BQ := mk0 hbox; have B3 := mk0 hb; have L3 := mk0 (Nat.le_of_eq hg.symm); clear hb hbox hg; have z2 := cells5 BQ.out))
 clear z2
 refine genC ?_
 intro W0 hW0
 have hb0 : Below w7.heap.size w7 W0 := by rw [hW0]; exact be1 B3 L3
 have hx : BP W0 gD 1 [tr 7 0] := by rw [hW0]; exact bp_store BQ.out (PL.mono (S := fun k => k < w7.heap.size) (PL.up ⟨A7, c7, B7, d7, E7, e7, rfl, H7.out.1, H7.out.2.1, Kd.F_mono (Kd.F_bound H7.out.2.2.1) (fun k hk => hk.2), Kd.F_mono (Kd.F_bound H7.out.2.2.2.1) (fun k hk => hk.2), Kd.F_mono (Kd.F_bound H7.out.2.2.2.2) (fun k hk => hk.2)⟩ B3.out) (fun k _ hk e => Nat.not_lt.mpr L3.out (e ▸ hk)))
 have hb := hb0
 replace HT := mk0 (blk_below HT.out hb); replace HG := mk0 (glob_below HG.out hb); replace HB := mk0 (below_step HB.out hb); replace HZ := mk0 (HZ.out.up hb); replace HC := mk0 (HC.out.up hb); have HD := mk0 hx
 clear hx hb hb0 B3 L3 BQ H7 hW0
 refine start_ (n := 11) (S := fun w' => True) (ds := []) #[false, false, false, false, false, false, false, false, false, false, false] (by kernel_rfl) rfl rfl trivial (fun hHeld => ?_); refine with_tabW awtab8 awbits8 (fun HT_ HW_ => ?_)
 have hd : Below W0.heap.size W0 W0.drew := below_drew1 (Below.refl _ _)
 replace HZ := mk0 (HZ.out.up hd)
 replace HC := mk0 (HC.out.up hd)
 replace HD := mk0 (HD.out.up hd)
 replace HT := mk0 (blk_below HT.out hd); replace HG := mk0 (glob_below HG.out hd); replace HB := mk0 (below_step HB.out hd)
 clear hd hHeld
 generalize W0.drew = wD at HT HG HB HZ HC HD ⊢
 refine inv_at [0, 1, 2, 3, 4, 5, 6, 7, 8, 9, 10] (fun a0_ b a w' => ∃ (v_ : Value) (u_ : Value) (g27_ : Nat) (p_ : Value) (gV : Nat) (o3_ : Option Nat) (m3_ : Value) (m4_ : Value) (m5_ : Value) (m6_ : Value) (m8_ : Value), a = putSel a0_ b [(0, 64, tv), (1, 65, v_), (2, 66, u_), (3, 67, m3_), (4, 68, m4_), (5, 63, m5_), (6, 69, m6_), (7, 70, .int .i64 0), (8, 14, m8_), (10, 15, .int .i64 0)] ∧ (Below wD.heap.size wD w') ∧ (b 9 = false → ∀ g, o3_ = some g → wD.heap.size ≤ g ∧ g < w'.heap.size) ∧ (b 1 = true → b 9 = false → VB w' (fun k => some k ≠ o3_) 3 v_) ∧ (b 2 = true → b 9 = false → VB w' (fun k => some k ≠ o3_) 1 u_) ∧ (b 3 = true → b 9 = false → Kd.F k30 w' (fun k => some k ≠ o3_) (some ⟨g27_, 0, none⟩) 2 [bv 3, bv 1]) ∧ (b 4 = true → b 9 = false → VB w' (fun k => some k ≠ o3_) 1 p_) ∧ (b 8 = true → b 9 = false → o3_ = some gV ∧ w'.heap[gV]? = some (.cells #[.int .i64 0, .int .i64 0, .slice none 0 0, .slice none 0 0] 30 (0, 0)) ∧ wD.heap.size ≤ gV) ∧ (b 9 = true → BV w' gV 1) ∧ (b 3 = true → (m3_ : Value) = .slice (some ⟨g27_, 0, none⟩) 2 2) ∧ (b 4 = true → (m4_ : Value) = .tuple #[p_, .int .i64 0]) ∧ (b 5 = true → (m5_ : Value) = .tuple #[p_, .int .i64 0]) ∧ (b 6 = true → (m6_ : Value) = p_) ∧ (b 8 = true → (m8_ : Value) = .pointer (some ⟨gV, 0, none⟩))) HT_.out HW_.out (by kernel_rfl) (by kernel_rfl) ?_ ?_ ?_
 ·exact ⟨.bool false, .bool false, 0, .bool false, 0, none, .bool false, .bool false, .bool false, .bool false, .bool false, by simp only [putSel, Bool.false_eq_true, if_false], (Below.refl _ _), fun _ => (fun g e => by cases e), fun h_ => absurd h_ (by decide), fun h_ => absurd h_ (by decide), fun h_ => absurd h_ (by decide), fun h_ => absurd h_ (by decide), fun h_ => absurd h_ (by decide), fun h_ => absurd h_ (by decide), fun h_ => absurd h_ (by decide), fun h_ => absurd h_ (by decide), fun h_ => absurd h_ (by decide), fun h_ => absurd h_ (by decide), fun h_ => absurd h_ (by decide)⟩
 ·skip
  refine steps_cons ?_ ?_
  ·rintro b a w' ⟨v_, u_, g27_, p_, gV, o3_, m3_, m4_, m5_, m6_, m8_, ha, Q_FB, Q_FO, Q_FV, Q_FU, Q_FS, Q_FP, Q_FG, Q_FD, Q_X3_, Q_X4_, Q_X5_, Q_X6_, Q_X8_⟩ hb_ hon hoff
   refine ⟨_, rfl, fun K hK => ?_⟩
   have e1 : a.tmps[1]? = some (.pointer (some ⟨gT, 0, none⟩)) := by rw [ha]; exact (putSel_off rfl).trans rfl
   replace ha := mk0 ha
   have FB := mk0 Q_FB
   have FO := mk0 (Q_FO (hoff 9 (by kernel_rfl)))
   have z_ := cells5 (blk_below HT.out FB.out)
   refine value_ (w1 := w') (v := tv) (by rfl) rfl ?_ ?_
   ·go_simp
    (try simp only [i64_w])
    try rfl
   refine hK.out _ _ ⟨v_, u_, g27_, p_, gV, o3_, m3_, m4_, m5_, m6_, m8_, (by rw [ha.out]; exact putSel_upk 0 hb_ rfl rfl rfl), Q_FB, Q_FO, Q_FV, Q_FU, Q_FS, fun h0_ _ => absurd ((hoff 4 (by kernel_rfl)).symm.trans h0_) (by decide), Q_FG, fun h0_ => absurd ((hoff 9 (by kernel_rfl)).symm.trans h0_) (by decide), Q_X3_, fun h0_ => absurd ((hoff 4 (by kernel_rfl)).symm.trans h0_) (by decide), fun h0_ => absurd ((hoff 5 (by kernel_rfl)).symm.trans h0_) (by decide), fun h0_ => absurd ((hoff 6 (by kernel_rfl)).symm.trans h0_) (by decide), Q_X8_⟩
  refine steps_cons ?_ ?_
  ·rintro b a w' ⟨v_, u_, g27_, p_, gV, o3_, m3_, m4_, m5_, m6_, m8_, ha, Q_FB, Q_FO, Q_FV, Q_FU, Q_FS, Q_FP, Q_FG, Q_FD, Q_X3_, Q_X4_, Q_X5_, Q_X6_, Q_X8_⟩ hb_ hon hoff
   refine ⟨_, rfl, fun K hK => ?_⟩
   replace ha := mk0 ha
   have FB := mk0 Q_FB
   have FO := mk0 (Q_FO (hoff 9 (by kernel_rfl)))
   refine goes_ Try.func40 (by kernel_rfl) rfl #[.int .u8 3] (by rfl) rfl rfl (by first | (simp only [List.map_toArray, List.map_cons, List.map_nil, Act.eval, Array.getD_eq_getD_getElem?, Option.getD_some]; done) | (simp only [List.map_toArray, List.map_cons, List.map_nil, Act.eval, Array.getD_eq_getD_getElem?, Option.getD_some]; rfl)) ?_
   refine (bitC (S := (fun k => some k ≠ o3_)) 3 (fun k hk e => absurd (FO.out k e.symm).2 (Nat.not_lt.mpr hk))).mono ?_
   rintro e w2 ⟨v, rfl, hv, hb⟩
   refine ⟨_, rfl, ?_⟩
   refine hK.out _ _ ⟨v, u_, g27_, p_, gV, o3_, m3_, m4_, m5_, m6_, m8_, (by rw [ha.out]; exact putSel_upk 1 hb_ rfl rfl rfl), (below_step FB.out hb), fun _ => (fun g e => ⟨(FO.out g e).1, Nat.lt_of_lt_of_le (FO.out g e).2 (Below.size hb)⟩), fun _ _ => hv, fun h0_ _ => absurd ((hoff 2 (by kernel_rfl)).symm.trans h0_) (by decide), fun h0_ _ => absurd ((hoff 3 (by kernel_rfl)).symm.trans h0_) (by decide), fun h0_ _ => absurd ((hoff 4 (by kernel_rfl)).symm.trans h0_) (by decide), fun h0_ h1_ => ⟨(Q_FG h0_ h1_).1, blk_below (Q_FG h0_ h1_).2.1 hb, (Q_FG h0_ h1_).2.2⟩, fun h0_ => absurd ((hoff 9 (by kernel_rfl)).symm.trans h0_) (by decide), fun h0_ => absurd ((hoff 3 (by kernel_rfl)).symm.trans h0_) (by decide), fun h0_ => absurd ((hoff 4 (by kernel_rfl)).symm.trans h0_) (by decide), fun h0_ => absurd ((hoff 5 (by kernel_rfl)).symm.trans h0_) (by decide), fun h0_ => absurd ((hoff 6 (by kernel_rfl)).symm.trans h0_) (by decide), Q_X8_⟩
  refine steps_cons ?_ ?_
  ·rintro b a w' ⟨v_, u_, g27_, p_, gV, o3_, m3_, m4_, m5_, m6_, m8_, ha, Q_FB, Q_FO, Q_FV, Q_FU, Q_FS, Q_FP, Q_FG, Q_FD, Q_X3_, Q_X4_, Q_X5_, Q_X6_, Q_X8_⟩ hb_ hon hoff
   refine ⟨_, rfl, fun K hK => ?_⟩
   replace ha := mk0 ha
   have FB := mk0 Q_FB
   have FO := mk0 (Q_FO (hoff 9 (by kernel_rfl)))
   have FV := mk0 (Q_FV (hon 1 (by kernel_rfl)) (hoff 9 (by kernel_rfl)))
   refine goes_ Try.func40 (by kernel_rfl) rfl #[.int .u8 1] (by rfl) rfl rfl (by first | (simp only [List.map_toArray, List.map_cons, List.map_nil, Act.eval, Array.getD_eq_getD_getElem?, Option.getD_some]; done) | (simp only [List.map_toArray, List.map_cons, List.map_nil, Act.eval, Array.getD_eq_getD_getElem?, Option.getD_some]; rfl)) ?_
   refine (bitC (S := (fun k => some k ≠ o3_)) 1 (fun k hk e => absurd (FO.out k e.symm).2 (Nat.not_lt.mpr hk))).mono ?_
   rintro e w2 ⟨v, rfl, hv, hb⟩
   refine ⟨_, rfl, ?_⟩
   refine hK.out _ _ ⟨v_, v, g27_, p_, gV, o3_, m3_, m4_, m5_, m6_, m8_, (by rw [ha.out]; exact putSel_upk 2 hb_ rfl rfl rfl), (below_step FB.out hb), fun _ => (fun g e => ⟨(FO.out g e).1, Nat.lt_of_lt_of_le (FO.out g e).2 (Below.size hb)⟩), fun _ _ => FV.out.up hb, fun _ _ => hv, fun h0_ _ => absurd ((hoff 3 (by kernel_rfl)).symm.trans h0_) (by decide), fun h0_ _ => absurd ((hoff 4 (by kernel_rfl)).symm.trans h0_) (by decide), fun h0_ h1_ => ⟨(Q_FG h0_ h1_).1, blk_below (Q_FG h0_ h1_).2.1 hb, (Q_FG h0_ h1_).2.2⟩, fun h0_ => absurd ((hoff 9 (by kernel_rfl)).symm.trans h0_) (by decide), fun h0_ => absurd ((hoff 3 (by kernel_rfl)).symm.trans h0_) (by decide), fun h0_ => absurd ((hoff 4 (by kernel_rfl)).symm.trans h0_) (by decide), fun h0_ => absurd ((hoff 5 (by kernel_rfl)).symm.trans h0_) (by decide), fun h0_ => absurd ((hoff 6 (by kernel_rfl)).symm.trans h0_) (by decide), Q_X8_⟩
  refine steps_cons ?_ ?_
  ·rintro b a w' ⟨v_, u_, g27_, p_, gV, o3_, m3_, m4_, m5_, m6_, m8_, ha, Q_FB, Q_FO, Q_FV, Q_FU, Q_FS, Q_FP, Q_FG, Q_FD, Q_X3_, Q_X4_, Q_X5_, Q_X6_, Q_X8_⟩ hb_ hon hoff
   refine ⟨_, rfl, fun K hK => ?_⟩
   have e65 : a.tmps[65]? = some (v_) := by rw [ha]; exact putSel_on (e := (1, 65, v_)) 1 rfl rfl (hon 1 (by kernel_rfl)) rfl
   have e66 : a.tmps[66]? = some (u_) := by rw [ha]; exact putSel_on (e := (2, 66, u_)) 2 rfl rfl (hon 2 (by kernel_rfl)) rfl
   replace ha := mk0 ha
   have FB := mk0 Q_FB
   have FO := mk0 (Q_FO (hoff 9 (by kernel_rfl)))
   have FV := mk0 (Q_FV (hon 1 (by kernel_rfl)) (hoff 9 (by kernel_rfl)))
   have FU := mk0 (Q_FU (hon 2 (by kernel_rfl)) (hoff 9 (by kernel_rfl)))
   obtain ⟨A2, c2, B2, d2, rfl, l2, h2, h3⟩ := FV.out
   obtain ⟨A3, c3, B3, d3, rfl, m2, k2, k3⟩ := FU.out
   refine value_ (w1 := ?_) (v := ?_) (by rfl) rfl ?_ ?_
   rotate_left 2
   ·go_simp
    constructor
    ·rfl
    ·rfl
   refine hK.out _ _ ⟨.agg #[.int .i64 1, .int .i64 0, .slice A2 1 c2, .slice B2 0 d2], .agg #[.int .i64 1, .int .i64 0, .slice A3 1 c3, .slice B3 0 d3], w'.heap.size, p_, gV, o3_, (.slice (some ⟨w'.heap.size, 0, none⟩) 2 2), m4_, m5_, m6_, m8_, (by rw [ha.out]; exact putSel_upk 3 hb_ rfl rfl rfl), (below_step FB.out (below_alloc (Below.refl _ _) _)), fun _ => (fun g e => ⟨(FO.out g e).1, Nat.lt_of_lt_of_le (FO.out g e).2 (Below.size (below_alloc (Below.refl _ _) _))⟩), fun _ _ => (VB.up FV.out (below_alloc (Below.refl _ _) _)), fun _ _ => (VB.up FU.out (below_alloc (Below.refl _ _) _)), fun _ _ => lit30b l2 h2 h3 m2 k2 k3 (fun e => absurd (FO.out _ e.symm).2 (Nat.lt_irrefl _)), fun h0_ _ => absurd ((hoff 4 (by kernel_rfl)).symm.trans h0_) (by decide), fun h0_ h1_ => ⟨(Q_FG h0_ h1_).1, blk_below (Q_FG h0_ h1_).2.1 (below_alloc (Below.refl _ _) _), (Q_FG h0_ h1_).2.2⟩, fun h0_ => absurd ((hoff 9 (by kernel_rfl)).symm.trans h0_) (by decide), fun _ => rfl, fun h0_ => absurd ((hoff 4 (by kernel_rfl)).symm.trans h0_) (by decide), fun h0_ => absurd ((hoff 5 (by kernel_rfl)).symm.trans h0_) (by decide), fun h0_ => absurd ((hoff 6 (by kernel_rfl)).symm.trans h0_) (by decide), Q_X8_⟩
  refine steps_cons ?_ ?_
  ·rintro b a w' ⟨v_, u_, g27_, p_, gV, o3_, m3_, m4_, m5_, m6_, m8_, ha, Q_FB, Q_FO, Q_FV, Q_FU, Q_FS, Q_FP, Q_FG, Q_FD, Q_X3_, Q_X4_, Q_X5_, Q_X6_, Q_X8_⟩ hb_ hon hoff
   refine ⟨_, rfl, fun K hK => ?_⟩
   have e64 : a.tmps[64]? = some (tv) := by rw [ha]; exact putSel_on (e := (0, 64, tv)) 0 rfl rfl (hon 0 (by kernel_rfl)) rfl
   have e67 : a.tmps[67]? = some (m3_) := by rw [ha]; exact putSel_on (e := (3, 67, m3_)) 3 rfl rfl (hon 3 (by kernel_rfl)) rfl
   rw [Q_X3_ (hon 3 (by kernel_rfl))] at e67
   replace ha := mk0 ha
   have FB := mk0 Q_FB
   have FO := mk0 (Q_FO (hoff 9 (by kernel_rfl)))
   have FV := mk0 (Q_FV (hon 1 (by kernel_rfl)) (hoff 9 (by kernel_rfl)))
   have FU := mk0 (Q_FU (hon 2 (by kernel_rfl)) (hoff 9 (by kernel_rfl)))
   have FS := mk0 (Q_FS (hon 3 (by kernel_rfl)) (hoff 9 (by kernel_rfl)))
   refine goes_ Try.func30 (by kernel_rfl) rfl #[tv, .slice (some ⟨g27_, 0, none⟩) 2 2] (by rfl) rfl rfl (by first | (simp only [List.map_toArray, List.map_cons, List.map_nil, Act.eval, Array.getD_eq_getD_getElem?, Option.getD_some, e64, e67]; done) | (simp only [List.map_toArray, List.map_cons, List.map_nil, Act.eval, Array.getD_eq_getD_getElem?, Option.getD_some, e64, e67]; rfl)) ?_
   refine (resolveC (S := (fun k => some k ≠ o3_)) (fun k hk e => absurd (FO.out k e.symm).2 (Nat.not_lt.mpr hk)) 1 [bv 3, bv 1] _ 2 (glob_below HG.out FB.out) (Nat.le_refl _) FS.out e_resolve).mono ?_
   rintro e w2 ⟨p, rfl, hp, hb⟩
   refine ⟨_, rfl, ?_⟩
   refine hK.out _ _ ⟨v_, u_, g27_, p, gV, o3_, m3_, (.tuple #[p, .int .i64 0]), m5_, m6_, m8_, (by rw [ha.out]; exact putSel_upk 4 hb_ rfl rfl rfl), (below_step FB.out hb), fun _ => (fun g e => ⟨(FO.out g e).1, Nat.lt_of_lt_of_le (FO.out g e).2 (Below.size hb)⟩), fun _ _ => FV.out.up hb, fun _ _ => FU.out.up hb, fun _ _ => Kd.F_below FS.out hb, fun _ _ => hp, fun h0_ h1_ => ⟨(Q_FG h0_ h1_).1, blk_below (Q_FG h0_ h1_).2.1 hb, (Q_FG h0_ h1_).2.2⟩, fun h0_ => absurd ((hoff 9 (by kernel_rfl)).symm.trans h0_) (by decide), Q_X3_, fun _ => rfl, fun h0_ => absurd ((hoff 5 (by kernel_rfl)).symm.trans h0_) (by decide), fun h0_ => absurd ((hoff 6 (by kernel_rfl)).symm.trans h0_) (by decide), Q_X8_⟩
  refine steps_cons ?_ ?_
  ·rintro b a w' ⟨v_, u_, g27_, p_, gV, o3_, m3_, m4_, m5_, m6_, m8_, ha, Q_FB, Q_FO, Q_FV, Q_FU, Q_FS, Q_FP, Q_FG, Q_FD, Q_X3_, Q_X4_, Q_X5_, Q_X6_, Q_X8_⟩ hb_ hon hoff
   refine ⟨_, rfl, fun K hK => ?_⟩
   have e68 : a.tmps[68]? = some (m4_) := by rw [ha]; exact putSel_on (e := (4, 68, m4_)) 4 rfl rfl (hon 4 (by kernel_rfl)) rfl
   rw [Q_X4_ (hon 4 (by kernel_rfl))] at e68
   replace ha := mk0 ha
   have FB := mk0 Q_FB
   have FO := mk0 (Q_FO (hoff 9 (by kernel_rfl)))
   have FV := mk0 (Q_FV (hon 1 (by kernel_rfl)) (hoff 9 (by kernel_rfl)))
   have FU := mk0 (Q_FU (hon 2 (by kernel_rfl)) (hoff 9 (by kernel_rfl)))
   have FS := mk0 (Q_FS (hon 3 (by kernel_rfl)) (hoff 9 (by kernel_rfl)))
   have FP := mk0 (Q_FP (hon 4 (by kernel_rfl)) (hoff 9 (by kernel_rfl)))
   refine value_ (w1 := w') (v := .tuple #[p_, .int .i64 0]) (by rfl) rfl ?_ ?_
   ·go_simp
    (try simp only [i64_w])
    try rfl
   refine hK.out _ _ ⟨v_, u_, g27_, p_, gV, o3_, m3_, m4_, (.tuple #[p_, .int .i64 0]), m6_, m8_, (by rw [ha.out]; exact putSel_upk 5 hb_ rfl rfl rfl), Q_FB, Q_FO, Q_FV, Q_FU, Q_FS, Q_FP, Q_FG, fun h0_ => absurd ((hoff 9 (by kernel_rfl)).symm.trans h0_) (by decide), Q_X3_, Q_X4_, fun _ => rfl, fun h0_ => absurd ((hoff 6 (by kernel_rfl)).symm.trans h0_) (by decide), Q_X8_⟩
  refine steps_cons ?_ ?_
  ·rintro b a w' ⟨v_, u_, g27_, p_, gV, o3_, m3_, m4_, m5_, m6_, m8_, ha, Q_FB, Q_FO, Q_FV, Q_FU, Q_FS, Q_FP, Q_FG, Q_FD, Q_X3_, Q_X4_, Q_X5_, Q_X6_, Q_X8_⟩ hb_ hon hoff
   refine ⟨_, rfl, fun K hK => ?_⟩
   have e63 : a.tmps[63]? = some (m5_) := by rw [ha]; exact putSel_on (e := (5, 63, m5_)) 5 rfl rfl (hon 5 (by kernel_rfl)) rfl
   rw [Q_X5_ (hon 5 (by kernel_rfl))] at e63
   replace ha := mk0 ha
   have FB := mk0 Q_FB
   have FO := mk0 (Q_FO (hoff 9 (by kernel_rfl)))
   have FV := mk0 (Q_FV (hon 1 (by kernel_rfl)) (hoff 9 (by kernel_rfl)))
   have FU := mk0 (Q_FU (hon 2 (by kernel_rfl)) (hoff 9 (by kernel_rfl)))
   have FS := mk0 (Q_FS (hon 3 (by kernel_rfl)) (hoff 9 (by kernel_rfl)))
   have FP := mk0 (Q_FP (hon 4 (by kernel_rfl)) (hoff 9 (by kernel_rfl)))
   refine value_ (w1 := w') (v := p_) (by rfl) rfl ?_ ?_
   ·go_simp
    (try simp only [i64_w])
    try rfl
   refine hK.out _ _ ⟨v_, u_, g27_, p_, gV, o3_, m3_, m4_, m5_, (p_), m8_, (by rw [ha.out]; exact putSel_upk 6 hb_ rfl rfl rfl), Q_FB, Q_FO, Q_FV, Q_FU, Q_FS, Q_FP, Q_FG, fun h0_ => absurd ((hoff 9 (by kernel_rfl)).symm.trans h0_) (by decide), Q_X3_, Q_X4_, Q_X5_, fun _ => rfl, Q_X8_⟩
  refine steps_cons ?_ ?_
  ·rintro b a w' ⟨v_, u_, g27_, p_, gV, o3_, m3_, m4_, m5_, m6_, m8_, ha, Q_FB, Q_FO, Q_FV, Q_FU, Q_FS, Q_FP, Q_FG, Q_FD, Q_X3_, Q_X4_, Q_X5_, Q_X6_, Q_X8_⟩ hb_ hon hoff
   refine ⟨_, rfl, fun K hK => ?_⟩
   have e63 : a.tmps[63]? = some (m5_) := by rw [ha]; exact putSel_on (e := (5, 63, m5_)) 5 rfl rfl (hon 5 (by kernel_rfl)) rfl
   rw [Q_X5_ (hon 5 (by kernel_rfl))] at e63
   replace ha := mk0 ha
   have FB := mk0 Q_FB
   refine value_ (w1 := w') (v := .int .i64 0) (by rfl) rfl ?_ ?_
   ·go_simp
    (try simp only [i64_w])
    try rfl
   refine hK.out _ _ ⟨v_, u_, g27_, p_, gV, o3_, m3_, m4_, m5_, m6_, m8_, (by rw [ha.out]; exact putSel_upk 7 hb_ rfl rfl rfl), Q_FB, Q_FO, Q_FV, Q_FU, Q_FS, Q_FP, Q_FG, Q_FD, Q_X3_, Q_X4_, Q_X5_, Q_X6_, Q_X8_⟩
  refine steps_cons ?_ ?_
  ·rintro b a w' ⟨v_, u_, g27_, p_, gV, o3_, m3_, m4_, m5_, m6_, m8_, ha, Q_FB, Q_FO, Q_FV, Q_FU, Q_FS, Q_FP, Q_FG, Q_FD, Q_X3_, Q_X4_, Q_X5_, Q_X6_, Q_X8_⟩ hb_ hon hoff
   refine ⟨_, rfl, fun K hK => ?_⟩
   replace ha := mk0 ha
   have FB := mk0 Q_FB
   have FO := mk0 (Q_FO (hoff 9 (by kernel_rfl)))
   refine value_ (w1 := ?_) (v := ?_) (by rfl) rfl ?_ ?_
   rotate_left 2
   ·go_simp
    constructor
    ·rfl
    ·rfl
   refine hK.out _ _ ⟨v_, u_, g27_, p_, w'.heap.size, (some w'.heap.size), m3_, m4_, m5_, m6_, (.pointer (some ⟨w'.heap.size, 0, none⟩)), (by rw [ha.out]; exact putSel_upk 8 hb_ rfl rfl rfl), (below_alloc FB.out _), fun _ => (fun g e => by cases e; exact ⟨FB.out.size, heap_lt_alloc _ _⟩), fun h0_ h1_ => ((Q_FV h0_ h1_).mono (fun k hk _ e => Nat.ne_of_lt hk (Option.some.inj e))).up (below_alloc (Below.refl _ _) _), fun h0_ h1_ => ((Q_FU h0_ h1_).mono (fun k hk _ e => Nat.ne_of_lt hk (Option.some.inj e))).up (below_alloc (Below.refl _ _) _), fun h0_ h1_ => Kd.F_alloc (Kd.F_mono (Kd.F_bound (Q_FS h0_ h1_)) (fun k hk e => Nat.ne_of_lt hk.2 (Option.some.inj e))) _, fun h0_ h1_ => ((Q_FP h0_ h1_).mono (fun k hk _ e => Nat.ne_of_lt hk (Option.some.inj e))).up (below_alloc (Below.refl _ _) _), fun _ _ => ⟨rfl, blk_new _ _, FB.out.size⟩, fun h0_ => absurd ((hoff 9 (by kernel_rfl)).symm.trans h0_) (by decide), Q_X3_, Q_X4_, Q_X5_, Q_X6_, fun _ => rfl⟩
  refine steps_cons ?_ ?_
  ·rintro b a w' ⟨v_, u_, g27_, p_, gV, o3_, m3_, m4_, m5_, m6_, m8_, ha, Q_FB, Q_FO, Q_FV, Q_FU, Q_FS, Q_FP, Q_FG, Q_FD, Q_X3_, Q_X4_, Q_X5_, Q_X6_, Q_X8_⟩ hb_ hon hoff
   refine ⟨_, rfl, fun K hK => ?_⟩
   have e14 : a.tmps[14]? = some (m8_) := by rw [ha]; exact putSel_on (e := (8, 14, m8_)) 8 rfl rfl (hon 8 (by kernel_rfl)) rfl
   rw [Q_X8_ (hon 8 (by kernel_rfl))] at e14
   have e69 : a.tmps[69]? = some (m6_) := by rw [ha]; exact putSel_on (e := (6, 69, m6_)) 6 rfl rfl (hon 6 (by kernel_rfl)) rfl
   rw [Q_X6_ (hon 6 (by kernel_rfl))] at e69
   replace ha := mk0 ha
   have FB := mk0 Q_FB
   have FO := mk0 (Q_FO hb_)
   have FV := mk0 (Q_FV (hon 1 (by kernel_rfl)) hb_)
   have FU := mk0 (Q_FU (hon 2 (by kernel_rfl)) hb_)
   have FS := mk0 (Q_FS (hon 3 (by kernel_rfl)) hb_)
   have FP := mk0 (Q_FP (hon 4 (by kernel_rfl)) hb_)
   have FG := mk0 (Q_FG (hon 8 (by kernel_rfl)) hb_)
   obtain ⟨A2, c2, B2, d2, rfl, q1, q2, q3⟩ := FP.out
   have z_ := cells4 FG.out.2.1
   refine skip_ (w1 := ?_) (by rfl) rfl ?_ ?_
   rotate_left
   ·go_simp
    rfl
   refine hK.out _ _ ⟨v_, u_, g27_, .agg #[.int .i64 1, .int .i64 0, .slice A2 1 c2, .slice B2 0 d2], gV, o3_, m3_, m4_, m5_, m6_, m8_, (by rw [ha.out]; exact putSel_none (v := undef) rfl), (be1 FB ⟨FG.out.2.2⟩), fun h0_ => absurd ((up_self b 9).symm.trans h0_) (by decide), fun _ h1_ => absurd ((up_self b 9).symm.trans h1_) (by decide), fun _ h1_ => absurd ((up_self b 9).symm.trans h1_) (by decide), fun _ h1_ => absurd ((up_self b 9).symm.trans h1_) (by decide), fun _ h1_ => absurd ((up_self b 9).symm.trans h1_) (by decide), fun _ h1_ => absurd ((up_self b 9).symm.trans h1_) (by decide), fun _ => (bv_store FG.out.2.1 (VB.mono (S' := fun k => k ≠ gV) ⟨A2, c2, B2, d2, rfl, q1, q2, q3⟩ (fun k _ hk e => hk (by rw [FG.out.1, e])))), Q_X3_, Q_X4_, Q_X5_, Q_X6_, Q_X8_⟩
  refine steps_cons ?_ ?_
  ·rintro b a w' ⟨v_, u_, g27_, p_, gV, o3_, m3_, m4_, m5_, m6_, m8_, ha, Q_FB, Q_FO, Q_FV, Q_FU, Q_FS, Q_FP, Q_FG, Q_FD, Q_X3_, Q_X4_, Q_X5_, Q_X6_, Q_X8_⟩ hb_ hon hoff
   refine ⟨_, rfl, fun K hK => ?_⟩
   have e70 : a.tmps[70]? = some (.int .i64 0) := by rw [ha]; exact putSel_on (e := (7, 70, .int .i64 0)) 7 rfl rfl (hon 7 (by kernel_rfl)) rfl
   replace ha := mk0 ha
   have FB := mk0 Q_FB
   have FD := mk0 (Q_FD (hon 9 (by kernel_rfl)))
   refine value_ (w1 := w') (v := .int .i64 0) (by rfl) rfl ?_ ?_
   ·go_simp
    (try simp only [i64_w])
    try rfl
   refine hK.out _ _ ⟨v_, u_, g27_, p_, gV, o3_, m3_, m4_, m5_, m6_, m8_, (by rw [ha.out]; exact putSel_upk 9 hb_ rfl rfl rfl), Q_FB, fun h0_ => absurd ((hon 9 (by kernel_rfl)).symm.trans h0_) (by decide), fun _ h1_ => absurd ((hon 9 (by kernel_rfl)).symm.trans h1_) (by decide), fun _ h1_ => absurd ((hon 9 (by kernel_rfl)).symm.trans h1_) (by decide), fun _ h1_ => absurd ((hon 9 (by kernel_rfl)).symm.trans h1_) (by decide), fun _ h1_ => absurd ((hon 9 (by kernel_rfl)).symm.trans h1_) (by decide), fun _ h1_ => absurd ((hon 9 (by kernel_rfl)).symm.trans h1_) (by decide), Q_FD, Q_X3_, Q_X4_, Q_X5_, Q_X6_, Q_X8_⟩
  exact steps_nil
 rintro b a w' hall ⟨v_, u_, g27_, p_, gV, o3_, m3_, m4_, m5_, m6_, m8_, ha, Q_FB, Q_FO, Q_FV, Q_FU, Q_FS, Q_FP, Q_FG, Q_FD, Q_X3_, Q_X4_, Q_X5_, Q_X6_, Q_X8_⟩
 have hb0_ := hall 0 (by kernel_rfl)
 have hb1_ := hall 1 (by kernel_rfl)
 have hb2_ := hall 2 (by kernel_rfl)
 have hb3_ := hall 3 (by kernel_rfl)
 have hb4_ := hall 4 (by kernel_rfl)
 have hb5_ := hall 5 (by kernel_rfl)
 have hb6_ := hall 6 (by kernel_rfl)
 have hb7_ := hall 7 (by kernel_rfl)
 have hb8_ := hall 8 (by kernel_rfl)
 have hb9_ := hall 9 (by kernel_rfl)
 have hb10_ := hall 10 (by kernel_rfl)
 subst ha
 obtain rfl := Q_X3_ hb3_
 obtain rfl := Q_X4_ hb4_
 obtain rfl := Q_X5_ hb5_
 obtain rfl := Q_X6_ hb6_
 obtain rfl := Q_X8_ hb8_
 simp only [putSel, hb0_, hb1_, hb2_, hb3_, hb4_, hb5_, hb6_, hb7_, hb8_, hb9_, hb10_, if_true, Act.put, List.setIfInBounds_toArray, List.set_cons_zero, List.set_cons_succ]
 have FB := mk0 Q_FB
 clear Q_FB
 clear Q_FO
 clear Q_FV
 clear Q_FU
 clear Q_FS
 clear Q_FP
 clear Q_FG
 have FD := mk0 (Q_FD hb9_)
 clear Q_FD
 clear hall hb0_ hb1_ hb2_ hb3_ hb4_ hb5_ hb6_ hb7_ hb8_ hb9_ hb10_
 have hd := FB.out
 have hb := hd
 replace HT := mk0 (blk_below HT.out hb); replace HG := mk0 (glob_below HG.out hb); replace HB := mk0 (below_step HB.out hb); replace HZ := mk0 (HZ.out.up hb); replace HC := mk0 (HC.out.up hb); replace HD := mk0 (HD.out.up hb); have HV := FD; clear FD FB hd hb
 obtain ⟨A6, c6, B6, d6, E6, e6, hx, hpl, hc6, _⟩ := HC.out.opens; have zT := cells5 HT.out; have zC := cells5 hx
 go_upto_region 10 with (go_at_call 33; refine (shapeC 0 6 9 5 [tr 5 1, tr 7 0] [] _ HG.out hpl e_shape1).mono ?_; rintro e w9 ⟨A9, c9, rfl, hb⟩; clear zT zC hx hpl hc6; replace HT := mk0 (blk_below HT.out hb); replace HG := mk0 (glob_below HG.out hb); replace HB := mk0 (below_step HB.out hb); replace HZ := mk0 (HZ.out.up hb); replace HC := mk0 (HC.out.up hb); replace HD := mk0 (HD.out.up hb); replace HV := mk0 (HV.out.up hb); obtain ⟨A6, c6, B6, d6, E6, e6, hx, hpl, hc6, _⟩ := HC.out.opens; have zT := cells5 HT.out; have zC := cells5 hx; clear hb)
 go_wp2_with (go_at_call 33; refine (shapeC 0 0 6 0 [tr 5 1, tr 7 0] [tr 5 1] _ HG.out hpl e_shape2).mono ?_; rintro e wE ⟨A10, c10, rfl, hb⟩; clear zT zC hx hpl hc6; replace HT := mk0 (blk_below HT.out hb); replace HG := mk0 (glob_below HG.out hb); replace HB := mk0 (below_step HB.out hb); replace HZ := mk0 (HZ.out.up hb); replace HC := mk0 (HC.out.up hb); replace HD := mk0 (HD.out.up hb); replace HV := mk0 (HV.out.up hb); clear hb)
 obtain ⟨A6, c6, B6, d6, E6, e6, hC, pC, _, _⟩ := HC.out.opens
 obtain ⟨A8, c8, B8, d8, E8, e8, hZ, _, hz8, _⟩ := HZ.out.opens
 obtain ⟨A7, c7, B7, d7, E7, e7, hD, _, _, vD⟩ := HD.out.opens
 obtain ⟨A5, c5, B5, d5, hV, vV⟩ := HV.out.opens
 obtain ⟨ad, _, _, _, _, rfl, hz0, _⟩ := at_T63 hz8 0 (by decide) (by decide)
 replace hz0 : wE.cell? ad = some (.int .i64 7) := by rwa [show ((0 : Int)).toNat * 5 = 0 from rfl, Addr.add_zero'] at hz0
 have hS : ∀ w', Below wE.heap.size wE w' → (w'.cell? ⟨gT, 0, none⟩ = some (.int .i64 1) ∧ w'.cell? ⟨gT, 1, none⟩ = some (.int .i64 0) ∧ w'.cell? ⟨gT, 2, none⟩ = some (.string ⟨#[]⟩) ∧ w'.cell? ⟨gT, 3, none⟩ = some (.slice none 0 0) ∧ w'.cell? ⟨gT, 4, none⟩ = some (.slice none 0 0) ∧ w'.cell? ⟨gB, 0, none⟩ = some (.int .i64 1) ∧ w'.cell? ⟨gB, 1, none⟩ = some (.int .i64 0) ∧ w'.cell? ⟨gB, 2, none⟩ = some (.slice A8 1 c8) ∧ w'.cell? ⟨gB, 3, none⟩ = some (.slice B8 0 d8) ∧ w'.cell? ⟨gB, 4, none⟩ = some (.slice (some ad) 1 e8) ∧ w'.cell? ⟨gC, 0, none⟩ = some (.int .i64 1) ∧ w'.cell? ⟨gC, 1, none⟩ = some (.int .i64 0) ∧ w'.cell? ⟨gC, 2, none⟩ = some (.slice A6 1 c6) ∧ w'.cell? ⟨gC, 3, none⟩ = some (.slice B6 0 d6) ∧ w'.cell? ⟨gC, 4, none⟩ = some (.slice E6 2 e6) ∧ w'.cell? ⟨gD, 0, none⟩ = some (.int .i64 1) ∧ w'.cell? ⟨gD, 1, none⟩ = some (.int .i64 0) ∧ w'.cell? ⟨gD, 2, none⟩ = some (.slice A7 1 c7) ∧ w'.cell? ⟨gD, 3, none⟩ = some (.slice B7 0 d7) ∧ w'.cell? ⟨gD, 4, none⟩ = some (.slice E7 1 e7) ∧ w'.cell? ⟨gV, 0, none⟩ = some (.int .i64 1) ∧ w'.cell? ⟨gV, 1, none⟩ = some (.int .i64 0) ∧ w'.cell? ⟨gV, 2, none⟩ = some (.slice A5 1 c5) ∧ w'.cell? ⟨gV, 3, none⟩ = some (.slice B5 0 d5) ∧ w'.cell? ad = some (.int .i64 7)) := fun w' hb => ⟨(blk_cell (blk_below HT.out hb) 0).trans rfl, (blk_cell (blk_below HT.out hb) 1).trans rfl, (blk_cell (blk_below HT.out hb) 2).trans rfl, (blk_cell (blk_below HT.out hb) 3).trans rfl, (blk_cell (blk_below HT.out hb) 4).trans rfl, (blk_cell (blk_below hZ hb) 0).trans rfl, (blk_cell (blk_below hZ hb) 1).trans rfl, (blk_cell (blk_below hZ hb) 2).trans rfl, (blk_cell (blk_below hZ hb) 3).trans rfl, (blk_cell (blk_below hZ hb) 4).trans rfl, (blk_cell (blk_below hC hb) 0).trans rfl, (blk_cell (blk_below hC hb) 1).trans rfl, (blk_cell (blk_below hC hb) 2).trans rfl, (blk_cell (blk_below hC hb) 3).trans rfl, (blk_cell (blk_below hC hb) 4).trans rfl, (blk_cell (blk_below hD hb) 0).trans rfl, (blk_cell (blk_below hD hb) 1).trans rfl, (blk_cell (blk_below hD hb) 2).trans rfl, (blk_cell (blk_below hD hb) 3).trans rfl, (blk_cell (blk_below hD hb) 4).trans rfl, (blk_cell (blk_below hV hb) 0).trans rfl, (blk_cell (blk_below hV hb) 1).trans rfl, (blk_cell (blk_below hV hb) 2).trans rfl, (blk_cell (blk_below hV hb) 3).trans rfl, keepc hb hz0⟩
 refine start_ (n := 89) (S := fun w' => w'.cell? ⟨gT, 0, none⟩ = some (.int .i64 1) ∧ w'.cell? ⟨gT, 1, none⟩ = some (.int .i64 0) ∧ w'.cell? ⟨gT, 2, none⟩ = some (.string ⟨#[]⟩) ∧ w'.cell? ⟨gT, 3, none⟩ = some (.slice none 0 0) ∧ w'.cell? ⟨gT, 4, none⟩ = some (.slice none 0 0) ∧ w'.cell? ⟨gB, 0, none⟩ = some (.int .i64 1) ∧ w'.cell? ⟨gB, 1, none⟩ = some (.int .i64 0) ∧ w'.cell? ⟨gB, 2, none⟩ = some (.slice A8 1 c8) ∧ w'.cell? ⟨gB, 3, none⟩ = some (.slice B8 0 d8) ∧ w'.cell? ⟨gB, 4, none⟩ = some (.slice (some ad) 1 e8) ∧ w'.cell? ⟨gC, 0, none⟩ = some (.int .i64 1) ∧ w'.cell? ⟨gC, 1, none⟩ = some (.int .i64 0) ∧ w'.cell? ⟨gC, 2, none⟩ = some (.slice A6 1 c6) ∧ w'.cell? ⟨gC, 3, none⟩ = some (.slice B6 0 d6) ∧ w'.cell? ⟨gC, 4, none⟩ = some (.slice E6 2 e6) ∧ w'.cell? ⟨gD, 0, none⟩ = some (.int .i64 1) ∧ w'.cell? ⟨gD, 1, none⟩ = some (.int .i64 0) ∧ w'.cell? ⟨gD, 2, none⟩ = some (.slice A7 1 c7) ∧ w'.cell? ⟨gD, 3, none⟩ = some (.slice B7 0 d7) ∧ w'.cell? ⟨gD, 4, none⟩ = some (.slice E7 1 e7) ∧ w'.cell? ⟨gV, 0, none⟩ = some (.int .i64 1) ∧ w'.cell? ⟨gV, 1, none⟩ = some (.int .i64 0) ∧ w'.cell? ⟨gV, 2, none⟩ = some (.slice A5 1 c5) ∧ w'.cell? ⟨gV, 3, none⟩ = some (.slice B5 0 d5) ∧ w'.cell? ad = some (.int .i64 7)) (ds := []) (awL 0) (by kernel_rfl) rfl (by kernel_rfl) (hS _ (below_drew1 (Below.refl _ _))) (fun hHeld => ?_); refine with_tabW awtab11 awbits11 (fun HT_ HW_ => ?_)
 have HR := mk0 (below_drew1 (Below.refl wE.heap.size wE)); have HS := mk0 hS; clear hS
 generalize wE.drew = wF at HR hHeld ⊢
 refine pu_ (v := ?_) (a' := ?_) 0 83 (awL 1) HT_ ?_ ?_ ?_
 rotate_left
 ·intro w'; go_simp; with_reducible rfl
 rotate_left
 ·simp only [ps]; rfl
 refine pu_ (v := ?_) (a' := ?_) 1 84 (awL 2) HT_ ?_ ?_ ?_
 rotate_left
 ·intro w'; go_simp; with_reducible rfl
 rotate_left
 ·simp only [ps]; rfl
 refine pu_ (v := ?_) (a' := ?_) 2 85 (awL 3) HT_ ?_ ?_ ?_
 rotate_left
 ·intro w'; go_simp; with_reducible rfl
 rotate_left
 ·simp only [ps]; rfl
 refine pu_ (v := ?_) (a' := ?_) 3 86 (awL 4) HT_ ?_ ?_ ?_
 rotate_left
 ·intro w'; go_simp; with_reducible rfl
 rotate_left
 ·simp only [ps]; rfl
 refine pu_ (v := ?_) (a' := ?_) 4 87 (awL 5) HT_ ?_ ?_ ?_
 rotate_left
 ·intro w'; go_simp; with_reducible rfl
 rotate_left
 ·simp only [ps]; rfl
 refine pu_ (v := ?_) (a' := ?_) 5 88 (awL 6) HT_ ?_ ?_ ?_
 rotate_left
 ·intro w'; go_simp; with_reducible rfl
 rotate_left
 ·simp only [ps]; rfl
 refine pu_ (v := ?_) (a' := ?_) 6 89 (awL 7) HT_ ?_ ?_ ?_
 rotate_left
 ·intro w'; go_simp; with_reducible rfl
 rotate_left
 ·simp only [ps]; rfl
 refine pu_ (v := ?_) (a' := ?_) 7 90 (awL 8) HT_ ?_ ?_ ?_
 rotate_left
 ·intro w'; go_simp; with_reducible rfl
 rotate_left
 ·simp only [ps]; rfl
 refine take_ (i := 8) (N := some 91) (v := ?_) (a' := ?_) (awL 9) rfl rfl (take_ofW HT_.out HW_.out (by kernel_rfl)) (fun _ _ _ h => h) (Or.inl ⟨by rfl, ?_⟩) hHeld ?_ ?_
 rotate_left
 ·rintro w' ⟨s0, s1, s2, s3, s4, s5, s6, s7, s8, s9, s10, s11, s12, s13, s14, s15, s16, s17, s18, s19, s20, s21, s22, s23, s24⟩; go_simp; with_reducible rfl
 rotate_left
 ·simp only [ps]; rfl
 refine pu_ (v := ?_) (a' := ?_) 9 92 (awL 10) HT_ ?_ ?_ ?_
 rotate_left
 ·intro w'; go_simp; with_reducible rfl
 rotate_left
 ·simp only [ps]; rfl
 refine pu_ (v := ?_) (a' := ?_) 10 93 (awL 11) HT_ ?_ ?_ ?_
 rotate_left
 ·intro w'; go_simp; with_reducible rfl
 rotate_left
 ·simp only [ps]; rfl
 refine pu_ (v := ?_) (a' := ?_) 11 94 (awL 12) HT_ ?_ ?_ ?_
 rotate_left
 ·intro w'; go_simp; with_reducible rfl
 rotate_left
 ·simp only [ps]; rfl
 refine pu_ (v := ?_) (a' := ?_) 12 95 (awL 13) HT_ ?_ ?_ ?_
 rotate_left
 ·intro w'; go_simp; with_reducible rfl
 rotate_left
 ·simp only [ps]; rfl
 refine pu_ (v := ?_) (a' := ?_) 13 96 (awL 14) HT_ ?_ ?_ ?_
 rotate_left
 ·intro w'; go_simp; with_reducible rfl
 rotate_left
 ·simp only [ps]; rfl
 refine take_ (i := 14) (N := some 97) (v := ?_) (a' := ?_) (awL 15) rfl rfl (take_ofW HT_.out HW_.out (by kernel_rfl)) (fun _ _ _ h => h) (Or.inl ⟨by rfl, ?_⟩) hHeld ?_ ?_
 rotate_left
 ·rintro w' ⟨s0, s1, s2, s3, s4, s5, s6, s7, s8, s9, s10, s11, s12, s13, s14, s15, s16, s17, s18, s19, s20, s21, s22, s23, s24⟩; go_simp; with_reducible rfl
 rotate_left
 ·simp only [ps]; rfl
 refine pu_ (v := ?_) (a' := ?_) 15 98 (awL 16) HT_ ?_ ?_ ?_
 rotate_left
 ·intro w'; go_simp; with_reducible rfl
 rotate_left
 ·simp only [ps]; rfl
 refine pu_ (v := ?_) (a' := ?_) 16 99 (awL 17) HT_ ?_ ?_ ?_
 rotate_left
 ·intro w'; go_simp; with_reducible rfl
 rotate_left
 ·simp only [ps]; rfl
 refine take_ (i := 17) (N := some 100) (v := ?_) (a' := ?_) (awL 18) rfl rfl (take_ofW HT_.out HW_.out (by kernel_rfl)) (fun _ _ _ h => h) (Or.inl ⟨by rfl, ?_⟩) hHeld ?_ ?_
 rotate_left
 ·rintro w' ⟨s0, s1, s2, s3, s4, s5, s6, s7, s8, s9, s10, s11, s12, s13, s14, s15, s16, s17, s18, s19, s20, s21, s22, s23, s24⟩; go_simp; with_reducible rfl
 rotate_left
 ·simp only [ps]; rfl
 refine pu_ (v := ?_) (a' := ?_) 18 101 (awL 19) HT_ ?_ ?_ ?_
 rotate_left
 ·intro w'; go_simp; with_reducible rfl
 rotate_left
 ·simp only [ps]; rfl
 refine pu_ (v := ?_) (a' := ?_) 19 102 (awL 20) HT_ ?_ ?_ ?_
 rotate_left
 ·intro w'; go_simp; with_reducible rfl
 rotate_left
 ·simp only [ps]; rfl
 refine pu_ (v := ?_) (a' := ?_) 20 103 (awL 21) HT_ ?_ ?_ ?_
 rotate_left
 ·intro w'; go_simp; with_reducible rfl
 rotate_left
 ·simp only [ps]; rfl
 refine pu_ (v := ?_) (a' := ?_) 21 104 (awL 22) HT_ ?_ ?_ ?_
 rotate_left
 ·intro w'; go_simp; with_reducible rfl
 rotate_left
 ·simp only [ps]; rfl
 refine pu_ (v := ?_) (a' := ?_) 22 105 (awL 23) HT_ ?_ ?_ ?_
 rotate_left
 ·intro w'; go_simp; with_reducible rfl
 rotate_left
 ·simp only [ps]; rfl
 refine pu_ (v := ?_) (a' := ?_) 23 106 (awL 24) HT_ ?_ ?_ ?_
 rotate_left
 ·intro w'; go_simp; with_reducible rfl
 rotate_left
 ·simp only [ps]; rfl
 refine pu_ (v := ?_) (a' := ?_) 24 107 (awL 25) HT_ ?_ ?_ ?_
 rotate_left
 ·intro w'; go_simp; with_reducible rfl
 rotate_left
 ·simp only [ps]; rfl
 refine pu_ (v := ?_) (a' := ?_) 25 108 (awL 26) HT_ ?_ ?_ ?_
 rotate_left
 ·intro w'; go_simp; with_reducible rfl
 rotate_left
 ·simp only [ps]; rfl
 refine take_ (i := 26) (N := some 109) (v := ?_) (a' := ?_) (awL 27) rfl rfl (take_ofW HT_.out HW_.out (by kernel_rfl)) (fun _ _ _ h => h) (Or.inl ⟨by rfl, ?_⟩) hHeld ?_ ?_
 rotate_left
 ·rintro w' ⟨s0, s1, s2, s3, s4, s5, s6, s7, s8, s9, s10, s11, s12, s13, s14, s15, s16, s17, s18, s19, s20, s21, s22, s23, s24⟩; go_simp; with_reducible rfl
 rotate_left
 ·simp only [ps]; rfl
 refine pu_ (v := ?_) (a' := ?_) 27 110 (awL 28) HT_ ?_ ?_ ?_
 rotate_left
 ·intro w'; go_simp; with_reducible rfl
 rotate_left
 ·simp only [ps]; rfl
 refine pu_ (v := ?_) (a' := ?_) 28 111 (awL 29) HT_ ?_ ?_ ?_
 rotate_left
 ·intro w'; go_simp; with_reducible rfl
 rotate_left
 ·simp only [ps]; rfl
 refine pu_ (v := ?_) (a' := ?_) 29 112 (awL 30) HT_ ?_ ?_ ?_
 rotate_left
 ·intro w'; go_simp; with_reducible rfl
 rotate_left
 ·simp only [ps]; rfl
 refine pu_ (v := ?_) (a' := ?_) 30 113 (awL 31) HT_ ?_ ?_ ?_
 rotate_left
 ·intro w'; go_simp; with_reducible rfl
 rotate_left
 ·simp only [ps]; rfl
 refine pu_ (v := ?_) (a' := ?_) 31 114 (awL 32) HT_ ?_ ?_ ?_
 rotate_left
 ·intro w'; go_simp; with_reducible rfl
 rotate_left
 ·simp only [ps]; rfl
 refine pu_ (v := ?_) (a' := ?_) 32 115 (awL 33) HT_ ?_ ?_ ?_
 rotate_left
 ·intro w'; go_simp; with_reducible rfl
 rotate_left
 ·simp only [ps]; rfl
 refine pu_ (v := ?_) (a' := ?_) 33 116 (awL 34) HT_ ?_ ?_ ?_
 rotate_left
 ·intro w'; go_simp; with_reducible rfl
 rotate_left
 ·simp only [ps]; rfl
 refine pu_ (v := ?_) (a' := ?_) 34 117 (awL 35) HT_ ?_ ?_ ?_
 rotate_left
 ·intro w'; go_simp; with_reducible rfl
 rotate_left
 ·simp only [ps]; rfl
 refine pu_ (v := ?_) (a' := ?_) 35 118 (awL 36) HT_ ?_ ?_ ?_
 rotate_left
 ·intro w'; go_simp; with_reducible rfl
 rotate_left
 ·simp only [ps]; rfl
 refine pu_ (v := ?_) (a' := ?_) 36 119 (awL 37) HT_ ?_ ?_ ?_
 rotate_left
 ·intro w'; go_simp; with_reducible rfl
 rotate_left
 ·simp only [ps]; rfl
 refine pu_ (v := ?_) (a' := ?_) 37 120 (awL 38) HT_ ?_ ?_ ?_
 rotate_left
 ·intro w'; go_simp; with_reducible rfl
 rotate_left
 ·simp only [ps]; rfl
 refine pu_ (v := ?_) (a' := ?_) 38 121 (awL 39) HT_ ?_ ?_ ?_
 rotate_left
 ·intro w'; go_simp; with_reducible rfl
 rotate_left
 ·simp only [ps]; rfl
 refine pu_ (v := ?_) (a' := ?_) 39 122 (awL 40) HT_ ?_ ?_ ?_
 rotate_left
 ·intro w'; go_simp; with_reducible rfl
 rotate_left
 ·simp only [ps]; rfl
 refine pu_ (v := ?_) (a' := ?_) 40 123 (awL 41) HT_ ?_ ?_ ?_
 rotate_left
 ·intro w'; go_simp; with_reducible rfl
 rotate_left
 ·simp only [ps]; rfl
 refine pu_ (v := ?_) (a' := ?_) 41 124 (awL 42) HT_ ?_ ?_ ?_
 rotate_left
 ·intro w'; go_simp; with_reducible rfl
 rotate_left
 ·simp only [ps]; rfl
 refine pu_ (v := ?_) (a' := ?_) 42 125 (awL 43) HT_ ?_ ?_ ?_
 rotate_left
 ·intro w'; go_simp; with_reducible rfl
 rotate_left
 ·simp only [ps]; rfl
 refine pu_ (v := ?_) (a' := ?_) 43 126 (awL 44) HT_ ?_ ?_ ?_
 rotate_left
 ·intro w'; go_simp; with_reducible rfl
 rotate_left
 ·simp only [ps]; rfl
 refine pu_ (v := ?_) (a' := ?_) 44 127 (awL 45) HT_ ?_ ?_ ?_
 rotate_left
 ·intro w'; go_simp; with_reducible rfl
 rotate_left
 ·simp only [ps]; rfl
 refine pu_ (v := ?_) (a' := ?_) 45 128 (awL 46) HT_ ?_ ?_ ?_
 rotate_left
 ·intro w'; go_simp; with_reducible rfl
 rotate_left
 ·simp only [ps]; rfl
 refine pu_ (v := ?_) (a' := ?_) 46 129 (awL 47) HT_ ?_ ?_ ?_
 rotate_left
 ·intro w'; go_simp; with_reducible rfl
 rotate_left
 ·simp only [ps]; rfl
 refine take_ (i := 47) (N := some 130) (v := ?_) (a' := ?_) (awL 48) rfl rfl (take_ofW HT_.out HW_.out (by kernel_rfl)) (fun _ _ _ h => h) (Or.inl ⟨by rfl, ?_⟩) hHeld ?_ ?_
 rotate_left
 ·rintro w' ⟨s0, s1, s2, s3, s4, s5, s6, s7, s8, s9, s10, s11, s12, s13, s14, s15, s16, s17, s18, s19, s20, s21, s22, s23, s24⟩; go_simp; with_reducible rfl
 rotate_left
 ·simp only [ps]; rfl
 refine pu_ (v := ?_) (a' := ?_) 48 131 (awL 49) HT_ ?_ ?_ ?_
 rotate_left
 ·intro w'; go_simp; with_reducible rfl
 rotate_left
 ·simp only [ps]; rfl
 refine pu_ (v := ?_) (a' := ?_) 49 132 (awL 50) HT_ ?_ ?_ ?_
 rotate_left
 ·intro w'; go_simp; with_reducible rfl
 rotate_left
 ·simp only [ps]; rfl
 refine pu_ (v := ?_) (a' := ?_) 50 133 (awL 51) HT_ ?_ ?_ ?_
 rotate_left
 ·intro w'; go_simp; with_reducible rfl
 rotate_left
 ·simp only [ps]; rfl
 refine pu_ (v := ?_) (a' := ?_) 51 134 (awL 52) HT_ ?_ ?_ ?_
 rotate_left
 ·intro w'; go_simp; with_reducible rfl
 rotate_left
 ·simp only [ps]; rfl
 refine pu_ (v := ?_) (a' := ?_) 52 135 (awL 53) HT_ ?_ ?_ ?_
 rotate_left
 ·intro w'; go_simp; with_reducible rfl
 rotate_left
 ·simp only [ps]; rfl
 refine take_ (i := 53) (N := some 136) (v := ?_) (a' := ?_) (awL 54) rfl rfl (take_ofW HT_.out HW_.out (by kernel_rfl)) (fun _ _ _ h => h) (Or.inl ⟨by rfl, ?_⟩) hHeld ?_ ?_
 rotate_left
 ·rintro w' ⟨s0, s1, s2, s3, s4, s5, s6, s7, s8, s9, s10, s11, s12, s13, s14, s15, s16, s17, s18, s19, s20, s21, s22, s23, s24⟩; go_simp; with_reducible rfl
 rotate_left
 ·simp only [ps]; rfl
 refine one_ (i := 54) (N := some 137) (awL 55) rfl rfl (one_of HT_.out (by kernel_rfl)) (by decide) (fun K hK => ?_)
 refine goes_ Try.func40 (by kernel_rfl) rfl #[.int .u8 1] (by rfl) rfl rfl (by (try simp only [List.map_toArray, List.map_cons, List.map_nil]); first | done | rfl | (simp only [List.length_drop, List.length_take]; rfl)) ?_
 refine (bitC (S := fun _ => True) 1 (fun _ _ => trivial)).mono ?_
 rintro e v1 ⟨_, rfl, ⟨Ab, cb_, Bb, db, rfl, hv1⟩, hb⟩
 refine ⟨_, rfl, ?_⟩
 replace HR := mk0 (below_step HR.out hb); clear hb
 have HW := mk0 hv1; clear hv1
 refine hK.out _ _ (HS.out _ HR.out) (fun hHeld => ?_)
 clear hK K
 refine norm_ (a' := ?_) ?_ ?_
 rotate_left
 ·show Act.put _ (some 137) _ = _
  simp only [ps]
  rfl
 refine one_ (i := 55) (N := some 138) (awL 56) rfl rfl (one_of HT_.out (by kernel_rfl)) (by decide) (fun K hK => ?_)
 refine goes_ Try.func32 (by kernel_rfl) rfl #[.agg #[.int .i64 1, .int .i64 0, .slice A7 1 c7, .slice B7 0 d7], .agg #[.int .i64 1, .int .i64 0, .slice Ab 1 cb_, .slice Bb 0 db]] (by rfl) rfl rfl (by (try simp only [List.map_toArray, List.map_cons, List.map_nil]); first | done | rfl | (simp only [List.length_drop, List.length_take]; rfl)) ?_
 refine (alikeC (S := fun _ => True) 1 _ _ (VB.up vD HR.out) ⟨Ab, cb_, Bb, db, rfl, HW.out⟩ e_alike).mono ?_
 rintro e v2 ⟨rfl, hb⟩
 refine ⟨_, rfl, ?_⟩
 replace HR := mk0 (below_step HR.out hb); clear hb
 clear HW
 refine hK.out _ _ (HS.out _ HR.out) (fun hHeld => ?_)
 clear hK K
 refine norm_ (a' := ?_) ?_ ?_
 rotate_left
 ·show Act.put _ (some 138) _ = _
  simp only [ps]
  rfl
 refine pu_ (v := ?_) (a' := ?_) 56 139 (awL 57) HT_ ?_ ?_ ?_
 rotate_left
 ·intro w'; go_simp; with_reducible rfl
 rotate_left
 ·simp only [ps]; rfl
 refine pu_ (v := ?_) (a' := ?_) 57 140 (awL 58) HT_ ?_ ?_ ?_
 rotate_left
 ·intro w'; go_simp; with_reducible rfl
 rotate_left
 ·simp only [ps]; rfl
 refine take_ (i := 58) (N := some 141) (v := ?_) (a' := ?_) (awL 59) rfl rfl (take_ofW HT_.out HW_.out (by kernel_rfl)) (fun _ _ _ h => h) (Or.inl ⟨by rfl, ?_⟩) hHeld ?_ ?_
 rotate_left
 ·rintro w' ⟨s0, s1, s2, s3, s4, s5, s6, s7, s8, s9, s10, s11, s12, s13, s14, s15, s16, s17, s18, s19, s20, s21, s22, s23, s24⟩; go_simp; with_reducible rfl
 rotate_left
 ·simp only [ps]; rfl
 refine one_ (i := 59) (N := some 142) (awL 60) rfl rfl (one_of HT_.out (by kernel_rfl)) (by decide) (fun K hK => ?_)
 refine goes_ Try.func40 (by kernel_rfl) rfl #[.int .u8 1] (by rfl) rfl rfl (by (try simp only [List.map_toArray, List.map_cons, List.map_nil]); first | done | rfl | (simp only [List.length_drop, List.length_take]; rfl)) ?_
 refine (bitC (S := fun _ => True) 1 (fun _ _ => trivial)).mono ?_
 rintro e v3 ⟨_, rfl, ⟨Ab, cb_, Bb, db, rfl, hv1⟩, hb⟩
 refine ⟨_, rfl, ?_⟩
 replace HR := mk0 (below_step HR.out hb); clear hb
 have HW := mk0 hv1; clear hv1
 refine hK.out _ _ (HS.out _ HR.out) (fun hHeld => ?_)
 clear hK K
 refine norm_ (a' := ?_) ?_ ?_
 rotate_left
 ·show Act.put _ (some 142) _ = _
  simp only [ps]
  rfl
 refine one_ (i := 60) (N := some 143) (awL 61) rfl rfl (one_of HT_.out (by kernel_rfl)) (by decide) (fun K hK => ?_)
 refine goes_ Try.func32 (by kernel_rfl) rfl #[.agg #[.int .i64 1, .int .i64 0, .slice A5 1 c5, .slice B5 0 d5], .agg #[.int .i64 1, .int .i64 0, .slice Ab 1 cb_, .slice Bb 0 db]] (by rfl) rfl rfl (by (try simp only [List.map_toArray, List.map_cons, List.map_nil]); first | done | rfl | (simp only [List.length_drop, List.length_take]; rfl)) ?_
 refine (alikeC (S := fun _ => True) 1 _ _ (VB.up vV HR.out) ⟨Ab, cb_, Bb, db, rfl, HW.out⟩ e_alike).mono ?_
 rintro e v4 ⟨rfl, hb⟩
 refine ⟨_, rfl, ?_⟩
 replace HR := mk0 (below_step HR.out hb); clear hb
 clear HW
 refine hK.out _ _ (HS.out _ HR.out) (fun hHeld => ?_)
 clear hK K
 refine norm_ (a' := ?_) ?_ ?_
 rotate_left
 ·show Act.put _ (some 143) _ = _
  simp only [ps]
  rfl
 refine pu_ (v := ?_) (a' := ?_) 61 144 (awL 62) HT_ ?_ ?_ ?_
 rotate_left
 ·intro w'; go_simp; with_reducible rfl
 rotate_left
 ·simp only [ps]; rfl
 refine pu_ (v := ?_) (a' := ?_) 62 145 (awL 63) HT_ ?_ ?_ ?_
 rotate_left
 ·intro w'; go_simp; with_reducible rfl
 rotate_left
 ·simp only [ps]; rfl
 refine pu_ (v := ?_) (a' := ?_) 63 146 (awL 64) HT_ ?_ ?_ ?_
 rotate_left
 ·intro w'; go_simp; with_reducible rfl
 rotate_left
 ·simp only [ps]; rfl
 refine pu_ (v := ?_) (a' := ?_) 64 147 (awL 65) HT_ ?_ ?_ ?_
 rotate_left
 ·intro w'; go_simp; with_reducible rfl
 rotate_left
 ·simp only [ps]; rfl
 refine pu_ (v := ?_) (a' := ?_) 65 148 (awL 66) HT_ ?_ ?_ ?_
 rotate_left
 ·intro w'; go_simp; with_reducible rfl
 rotate_left
 ·simp only [ps]; rfl
 refine pu_ (v := ?_) (a' := ?_) 66 149 (awL 67) HT_ ?_ ?_ ?_
 rotate_left
 ·intro w'; go_simp; with_reducible rfl
 rotate_left
 ·simp only [ps]; rfl
 refine pu_ (v := ?_) (a' := ?_) 67 150 (awL 68) HT_ ?_ ?_ ?_
 rotate_left
 ·intro w'; go_simp; with_reducible rfl
 rotate_left
 ·simp only [ps]; rfl
 refine pu_ (v := ?_) (a' := ?_) 68 151 (awL 69) HT_ ?_ ?_ ?_
 rotate_left
 ·intro w'; go_simp; with_reducible rfl
 rotate_left
 ·simp only [ps]; rfl
 refine pu_ (v := ?_) (a' := ?_) 69 152 (awL 70) HT_ ?_ ?_ ?_
 rotate_left
 ·intro w'; go_simp; with_reducible rfl
 rotate_left
 ·simp only [ps]; rfl
 refine pu_ (v := ?_) (a' := ?_) 70 153 (awL 71) HT_ ?_ ?_ ?_
 rotate_left
 ·intro w'; go_simp; with_reducible rfl
 rotate_left
 ·simp only [ps]; rfl
 refine pu_ (v := ?_) (a' := ?_) 71 154 (awL 72) HT_ ?_ ?_ ?_
 rotate_left
 ·intro w'; go_simp; with_reducible rfl
 rotate_left
 ·simp only [ps]; rfl
 refine pu_ (v := ?_) (a' := ?_) 72 155 (awL 73) HT_ ?_ ?_ ?_
 rotate_left
 ·intro w'; go_simp; with_reducible rfl
 rotate_left
 ·simp only [ps]; rfl
 refine pu_ (v := ?_) (a' := ?_) 73 156 (awL 74) HT_ ?_ ?_ ?_
 rotate_left
 ·intro w'; go_simp; with_reducible rfl
 rotate_left
 ·simp only [ps]; rfl
 refine pu_ (v := ?_) (a' := ?_) 74 157 (awL 75) HT_ ?_ ?_ ?_
 rotate_left
 ·intro w'; go_simp; with_reducible rfl
 rotate_left
 ·simp only [ps]; rfl
 refine pu_ (v := ?_) (a' := ?_) 75 158 (awL 76) HT_ ?_ ?_ ?_
 rotate_left
 ·intro w'; go_simp; with_reducible rfl
 rotate_left
 ·simp only [ps]; rfl
 refine pu_ (v := ?_) (a' := ?_) 76 159 (awL 77) HT_ ?_ ?_ ?_
 rotate_left
 ·intro w'; go_simp; with_reducible rfl
 rotate_left
 ·simp only [ps]; rfl
 refine pu_ (v := ?_) (a' := ?_) 77 160 (awL 78) HT_ ?_ ?_ ?_
 rotate_left
 ·intro w'; go_simp; with_reducible rfl
 rotate_left
 ·simp only [ps]; rfl
 refine pu_ (v := ?_) (a' := ?_) 78 161 (awL 79) HT_ ?_ ?_ ?_
 rotate_left
 ·intro w'; go_simp; with_reducible rfl
 rotate_left
 ·simp only [ps]; rfl
 refine pu_ (v := ?_) (a' := ?_) 79 162 (awL 80) HT_ ?_ ?_ ?_
 rotate_left
 ·intro w'; go_simp; with_reducible rfl
 rotate_left
 ·simp only [ps]; rfl
 refine take_ (i := 80) (N := some 163) (v := ?_) (a' := ?_) (awL 81) rfl rfl (take_ofW HT_.out HW_.out (by kernel_rfl)) (fun _ _ _ h => h) (Or.inl ⟨by rfl, ?_⟩) hHeld ?_ ?_
 rotate_left
 ·rintro w' ⟨s0, s1, s2, s3, s4, s5, s6, s7, s8, s9, s10, s11, s12, s13, s14, s15, s16, s17, s18, s19, s20, s21, s22, s23, s24⟩; go_simp; with_reducible rfl
 rotate_left
 ·simp only [ps]; rfl
 refine one_ (i := 81) (N := some 164) (awL 82) rfl rfl (one_of HT_.out (by kernel_rfl)) (by decide) (fun K hK => ?_)
 refine goes_ Try.func17 (by kernel_rfl) rfl #[tv] (by rfl) rfl rfl (by (try simp only [List.map_toArray, List.map_cons, List.map_nil]); first | done | rfl | (simp only [List.length_drop, List.length_take]; rfl)) ?_
 refine (scalarC (glob_below HG.out HR.out) e_scalar).mono ?_
 rintro e v5 ⟨rfl, hb⟩
 refine ⟨_, rfl, ?_⟩
 replace HR := mk0 (below_step HR.out hb); clear hb
 refine hK.out _ _ (HS.out _ HR.out) (fun hHeld => ?_)
 clear hK K
 refine norm_ (a' := ?_) ?_ ?_
 rotate_left
 ·show Act.put _ (some 164) _ = _
  simp only [ps]
  rfl
 refine pu_ (v := ?_) (a' := ?_) 82 165 (awL 83) HT_ ?_ ?_ ?_
 rotate_left
 ·intro w'; go_simp; with_reducible rfl
 rotate_left
 ·simp only [ps]; rfl
 refine pu_ (v := ?_) (a' := ?_) 83 166 (awL 84) HT_ ?_ ?_ ?_
 rotate_left
 ·intro w'; go_simp; with_reducible rfl
 rotate_left
 ·simp only [ps]; rfl
 refine take_ (i := 84) (N := some 167) (v := ?_) (a' := ?_) (awL 85) rfl rfl (take_ofW HT_.out HW_.out (by kernel_rfl)) (fun _ _ _ h => h) (Or.inl ⟨by rfl, ?_⟩) hHeld ?_ ?_
 rotate_left
 ·rintro w' ⟨s0, s1, s2, s3, s4, s5, s6, s7, s8, s9, s10, s11, s12, s13, s14, s15, s16, s17, s18, s19, s20, s21, s22, s23, s24⟩; go_simp; with_reducible rfl
 rotate_left
 ·simp only [ps]; rfl
 refine take_ (i := 85) (N := some 168) (v := ?_) (a' := ?_) (awL 86) rfl rfl (take_ofW HT_.out HW_.out (by kernel_rfl)) (fun _ _ _ h => h) (Or.inl ⟨by rfl, ?_⟩) hHeld ?_ ?_
 rotate_left
 ·rintro w' ⟨s0, s1, s2, s3, s4, s5, s6, s7, s8, s9, s10, s11, s12, s13, s14, s15, s16, s17, s18, s19, s20, s21, s22, s23, s24⟩; go_simp; with_reducible rfl
 rotate_left
 ·simp only [ps]; rfl
 refine one_ (i := 86) (N := some 169) (awL 87) rfl rfl (one_of HT_.out (by kernel_rfl)) (by decide) (fun K hK => ?_)
 refine goes_ Try.func19 (by kernel_rfl) rfl #[tv, .agg #[.int .i64 1, .int .i64 0, .slice A6 1 c6, .slice B6 0 d6, .slice E6 2 e6]] (by rfl) rfl rfl (by (try simp only [List.map_toArray, List.map_cons, List.map_nil]); first | done | rfl | (simp only [List.length_drop, List.length_take]; rfl)) ?_
 refine (isC 0 [tr 5 1, tr 7 0] _ (glob_below HG.out HR.out) (pC.up HR.out) e_is).mono ?_
 rintro e v6 ⟨rfl, hb⟩
 refine ⟨_, rfl, ?_⟩
 replace HR := mk0 (below_step HR.out hb); clear hb
 refine hK.out _ _ (HS.out _ HR.out) (fun hHeld => ?_)
 clear hK K
 refine norm_ (a' := ?_) ?_ ?_
 rotate_left
 ·show Act.put _ (some 169) _ = _
  simp only [ps]
  rfl
 refine pu_ (v := ?_) (a' := ?_) 87 170 (awL 88) HT_ ?_ ?_ ?_
 rotate_left
 ·intro w'; go_simp; with_reducible rfl
 rotate_left
 ·simp only [ps]; rfl
 refine pu_ (v := ?_) (a' := ?_) 88 0 (awL 89) HT_ ?_ ?_ ?_
 rotate_left
 ·intro w'; go_simp; with_reducible rfl
 rotate_left
 ·simp only [ps]; rfl
 refine done_ (done_of HT_.out (by kernel_rfl)) ?_
 try go_wp2
 go_ret
 exact ⟨rfl, below_step HB.out HR.out⟩
end Go.Proofs.Ytojankgmedccdaa.Aw
namespace Go.Proofs.Ytojankgmedccdaa.Hand
open Go.RowKit Own YtojankgmedccdaaW.PrintWords
def v15awake.f (_ : Nat) : Option Bool := some true
theorem v15awake.mono : ∀ k, LeO (v15awake.f k) (v15awake.f (k + 1)) := fun _ _ h => h
theorem v15awake.calls (k : Nat) (r : Bool) (w : World) (hG : Glob w) (h : v15awake.f k = some r) : Calls Try.prog 16 #[] w fun e w' => e = .returned (.bool r) ∧ Below w.heap.size w w' := by
 obtain rfl := Option.some.inj h
 exact Aw.walk w hG
end Go.Proofs.Ytojankgmedccdaa.Hand
