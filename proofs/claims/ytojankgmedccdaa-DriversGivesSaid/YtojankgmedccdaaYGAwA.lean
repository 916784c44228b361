/- Lemmas for LawDriversGives. -/
import Derived.Test.YtojankgmedccdaaYGPGnF25
import Derived.Test.YtojankgmedccdaaYGPGnF38
import Derived.Test.YtojankgmedccdaaYGPGnF32
import Derived.Test.YtojankgmedccdaaYGPAwx9
namespace Go.Proofs.Ytojankgmedccdaa.Aw
open Go.RowKit Own PTy Hand PIs PAw YtojankgmedccdaaW.PrintWords YtojankgmedccdaaW.PrintLast YtojankgmedccdaaW.PrintMore
set_option linter.unusedVariables false
abbrev tv : Value := .agg #[.int .i64 1, .int .i64 0, .string ⟨#[]⟩, .slice none 0 0, .slice none 0 0]
abbrev bv (b : Int) : S30 := ⟨1, 0, [b], []⟩
abbrev tr (t b : Int) : S63 := ⟨t, bv b⟩
def VB (w : World) (S : Nat → Prop) (b : Int) (v : Value) : Prop := ∃ A c B d, v = .agg #[.int .i64 1, .int .i64 0, .slice A 1 c, .slice B 0 d] ∧ 1 ≤ c ∧ Kd.F (Kd.int .u8) w S A 1 [b] ∧ Kd.F k30 w S B 0 []
def PL (w : World) (S : Nat → Prop) (b : Int) (l : List S63) (v : Value) : Prop := ∃ A c B d E e, v = .agg #[.int .i64 1, .int .i64 0, .slice A 1 c, .slice B 0 d, .slice E l.length e] ∧ 1 ≤ c ∧ l.length ≤ e ∧ Kd.F (Kd.int .u8) w S A 1 [b] ∧ Kd.F k30 w S B 0 [] ∧ Kd.F k63 w S E l.length l
def BP (w : World) (g : Nat) (b : Int) (l : List S63) : Prop := ∃ a c d e h, w.heap[g]? = some (.cells #[a, c, d, e, h] 33 (0, 0)) ∧ PL w (fun k => k < w.heap.size) b l (.agg #[a, c, d, e, h])
def BV (w : World) (g : Nat) (b : Int) : Prop := ∃ a c d e, w.heap[g]? = some (.cells #[a, c, d, e] 30 (0, 0)) ∧ VB w (fun k => k < w.heap.size) b (.agg #[a, c, d, e])
theorem VB.mono {w : World} {S S' : Nat → Prop} {b : Int} {v : Value} (h : VB w S b v) (e : ∀ k, k < w.heap.size → S k → S' k) : VB w S' b v := by
 obtain ⟨A, c, B, d, h1, g, i, j⟩ := h
 exact ⟨A, c, B, d, h1, g, Kd.Cr (Kd.Dh i) (fun k a => e k a.2 a.1), Kd.Cr (Kd.Dh j) (fun k a => e k a.2 a.1)⟩
theorem PL.mono {w : World} {S S' : Nat → Prop} {b : Int} {l : List S63} {v : Value} (h : PL w S b l v) (g : ∀ k, k < w.heap.size → S k → S' k) : PL w S' b l v := by
 obtain ⟨A, c, B, d, E, e, h1, i, j, m, n, o⟩ := h
 exact ⟨A, c, B, d, E, e, h1, i, j, Kd.Cr (Kd.Dh m) (fun k a => g k a.2 a.1), Kd.Cr (Kd.Dh n) (fun k a => g k a.2 a.1), Kd.Cr (Kd.Dh o) (fun k a => g k a.2 a.1)⟩
theorem VB.up {w w' : World} {S : Nat → Prop} {b : Int} {v : Value} (h : VB w S b v) (a : Below w.heap.size w w') : VB w' S b v := by
 obtain ⟨A, c, B, d, h1, e, g, i⟩ := h
 exact ⟨A, c, B, d, h1, e, Kd.Cc g a, Kd.Cc i a⟩
theorem PL.up {w w' : World} {S : Nat → Prop} {b : Int} {l : List S63} {v : Value} (h : PL w S b l v) (a : Below w.heap.size w w') : PL w' S b l v := by
 obtain ⟨A, c, B, d, E, e, h1, g, i, j, k, m⟩ := h
 exact ⟨A, c, B, d, E, e, h1, g, i, Kd.Cc j a, Kd.Cc k a, Kd.Cc m a⟩
theorem BP.up {w w' : World} {g : Nat} {b : Int} {l : List S63} (h : BP w g b l) (a : Below w.heap.size w w') : BP w' g b l := by
 obtain ⟨e, i, j, m, n, h1, c⟩ := h
 exact ⟨e, i, j, m, n, Aa h1 a, (c.up a).mono (fun k _ d => Nat.lt_of_lt_of_le d a.size)⟩
theorem BV.up {w w' : World} {g : Nat} {b : Int} (h : BV w g b) (a : Below w.heap.size w w') : BV w' g b := by
 obtain ⟨e, i, j, l, h1, c⟩ := h
 exact ⟨e, i, j, l, Aa h1 a, (c.up a).mono (fun k _ d => Nat.lt_of_lt_of_le d a.size)⟩
theorem Ki (w : World) : Kd.C Kd.string w none ([] : List ByteArray).length [] := Kd.Jc _ _
theorem Kj (w : World) : Kd.C k26 w none ([] : List S26).length [] := Kd.Jc _ _
section
variable {w : World} {S : Nat → Prop}
set_option maxRecDepth 100000 in
theorem J3 (b : Int) (i : ∀ k, w.heap.size ≤ k → S k) : Calls Try.prog 40 #[.int .u8 b] w fun e w' => ∃ v, e = .returned v ∧ VB w' S b v ∧ Below w.heap.size w w' := by
 refine (JW.calls b 1 0 [b] [] w rfl).mono ?_
 rintro e w' ⟨v2, v3, rfl, j, l, m⟩
 have a := Kd.BC (Kd.Dn (M := S) j (Nat.le_refl _) i) (ok' := S) (fun k h => h.1)
 have g := Kd.BC (Kd.Dn (M := S) l (Nat.le_refl _) i) (ok' := S) (fun k h => h.1)
 obtain ⟨A, c, rfl⟩ := Kd.Bn a
 obtain ⟨B, d, rfl⟩ := Kd.Bn g
 exact ⟨_, rfl, ⟨A, c, B, d, rfl, (Kd.C9 a).2.1, Kd.R_F a, Kd.R_F g⟩, m⟩
set_option maxRecDepth 100000 in
theorem NF (b : Int) (v u : Value) (o : VB w S b v) (n : VB w S b u) (h : PGn.Bi.f 9 1 0 [b] [] 1 0 [b] [] = some true) : Calls Try.prog 32 #[v, u] w fun e w' => e = .returned (.bool true) ∧ Below w.heap.size w w' := by
 obtain ⟨A, c, B, d, rfl, l1, h1, m⟩ := o
 obtain ⟨j, l, k, d', rfl, i, a, g⟩ := n
 exact PGn.Bi.calls 9 1 0 A c [b] B d [] 1 0 j l [b] k d' [] true w (Kd.ET h1) l1 (Kd.ET m) (Nat.zero_le _) (Kd.ET a) i (Kd.ET g) (Nat.zero_le _) h
set_option maxRecDepth 100000 in
theorem Pm (b t : Int) (l : List S63) (v : Value) (i : D8 w) (j : PL w S b l v) (h : PGn.CF.f 12 1 0 ⟨#[]⟩ [] [] 1 0 [b] [] l = some (t, 0)) : Calls Try.prog 25 #[tv, v] w fun e w' => e = .returned (.tuple #[.int .i64 t, .int .i64 0]) ∧ Below w.heap.size w w' := by
 obtain ⟨A, c, B, d, E, e, rfl, l1, l2, h1, a, g⟩ := j
 exact PGn.CF.calls 12 1 0 ⟨#[]⟩ none 0 [] none 0 [] 1 0 A c [b] B d [] E e l t 0 w i (Ki w) (Nat.le_refl _) (Kj w) (Nat.le_refl _) (Kd.ET h1) l1 (Kd.ET a) (Nat.zero_le _) (Kd.ET g) l2 h
set_option maxRecDepth 100000 in
theorem OD (a : D8 w) (h : CE.f 12 1 0 ⟨#[]⟩ [] [] = some true) : Calls Try.prog 17 #[tv] w fun e w' => e = .returned (.bool true) ∧ Below w.heap.size w w' :=
 CE.calls 12 1 0 ⟨#[]⟩ none 0 [] none 0 [] true w a (Ki w) (Nat.le_refl _) (Kj w) (Nat.le_refl _) h
set_option maxRecDepth 100000 in
theorem isC (b : Int) (l : List S63) (v : Value) (i : D8 w) (j : PL w S b l v) (h : Aq.f 12 1 0 ⟨#[]⟩ [] [] 1 0 [b] [] l = some true) : Calls Try.prog 19 #[tv, v] w fun e w' => e = .returned (.bool true) ∧ Below w.heap.size w w' := by
 obtain ⟨A, c, B, d, E, e, rfl, l1, l2, h1, a, g⟩ := j
 exact Aq.calls 12 1 0 ⟨#[]⟩ none 0 [] none 0 [] 1 0 A c [b] B d [] E e l true w i (Ki w) (Nat.le_refl _) (Kj w) (Nat.le_refl _) (Kd.ET h1) l1 (Kd.ET a) (Nat.zero_le _) (Kd.ET g) l2 h
set_option maxRecDepth 100000 in
theorem NG (i : ∀ k, w.heap.size ≤ k → S k) (b : Int) (l : List S30) (A : Option Addr) (c : Nat) (q : D8 w) (s : l.length ≤ c) (o : Kd.F k30 w S A l.length l) (h : CB.f 12 1 0 ⟨#[]⟩ [] [] l = some (1, 0, [b], [], 0)) :
  Calls Try.prog 30 #[tv, .slice A l.length c] w fun e w' => ∃ p, e = .returned (.tuple #[p, .int .i64 0]) ∧ VB w' S b p ∧ Below w.heap.size w w' := by
 refine (CB.calls 12 1 0 ⟨#[]⟩ none 0 [] none 0 [] A c l 1 0 [b] [] 0 w q (Ki w) (Nat.le_refl _) (Kj w) (Nat.le_refl _) (Kd.ET o) s h).mono ?_
 rintro e w' ⟨v2, v3, rfl, u, v, r⟩
 have a := Kd.BC (Kd.Dn (M := S) u (Nat.le_refl _) i) (ok' := S) (fun k g => g.1)
 have d := Kd.BC (Kd.Dn (M := S) v (Nat.le_refl _) i) (ok' := S) (fun k g => g.1)
 obtain ⟨j, n, rfl⟩ := Kd.Bn a
 obtain ⟨m, d', rfl⟩ := Kd.Bn d
 exact ⟨_, rfl, ⟨j, n, m, d', rfl, (Kd.C9 a).2.1, Kd.R_F a, Kd.R_F d⟩, r⟩
set_option maxRecDepth 100000 in
theorem NH (b s t r : Int) (l a : List S63) (v : Value) (m : D8 w) (o : PL w S b l v) (h : Bd.f 12 1 0 ⟨#[]⟩ [] [] 1 0 [b] [] l s t = some (a, r)) :
  Calls Try.prog 33 #[tv, v, .int .i64 s, .int .i64 t] w fun e w' => ∃ A c, e = .returned (.tuple #[.slice A a.length c, .int .i64 r]) ∧ Below w.heap.size w w' := by
 obtain ⟨A, c, B, d, E, e, rfl, l1, l2, h1, j, k⟩ := o
 refine (Bd.calls 12 1 0 ⟨#[]⟩ none 0 [] none 0 [] 1 0 S A c [b] S B d [] S E e l s t a r w m (Ki w) (Nat.le_refl _) (Kj w) (Nat.le_refl _) (Kd.C8 l1 h1) (Kd.C8 (Nat.zero_le _) j) (Kd.C8 l2 k) h).mono ?_
 rintro e w' ⟨v2, rfl, p, n⟩
 obtain ⟨g, i, rfl⟩ := Kd.Ce p
 exact ⟨g, i, rfl, n⟩
set_option maxRecDepth 100000 in
theorem JX (a : ∀ k, w.heap.size ≤ k → S k) (b u now d : Int) (l m : List S63) (v : Value) (x : Bool) (A : Option Addr) (c : Nat) (N : Option Addr) (n : Nat) (T : D8 w) (Y : PL w S b l v) (O : Kd.F k30 w S A 1 [bv u]) (X : 1 ≤ c) (U : Kd.C (Kd.int .i64) w N 1 [d]) (hn : 1 ≤ n)
  (h : PGn.AJ.f 14 1 0 ⟨#[]⟩ [] [] 1 0 [b] [] l now [bv u] [d] x = some (1, 0, [b], [], m, 0)) :
  Calls Try.prog 38 #[tv, v, .int .i64 now, .slice A 1 c, .slice N 1 n, .bool x] w fun e w' => ∃ p, e = .returned (.tuple #[p, .int .i64 0]) ∧ PL w' S b m p ∧ Below w.heap.size w w' := by
 obtain ⟨q, z, B, d', E, e, rfl, l1, l2, h1, J, L⟩ := Y
 refine (PGn.AJ.calls 14 1 0 ⟨#[]⟩ none 0 [] none 0 [] 1 0 q z [b] S B d' [] S E e l now S A c [bv u] N n [d] x 1 0 [b] [] m 0 w T (Ki w) (Nat.le_refl _) (Kj w) (Nat.le_refl _) (Kd.ET h1) l1 (Kd.C8 (Nat.zero_le _) J) (Kd.C8 l2 L) (Kd.C8 X O) U hn h).mono ?_
 rintro e w' ⟨v2, v3, v4, rfl, i, o, j, W⟩
 obtain ⟨r, D, rfl⟩ := Kd.Bn i
 obtain ⟨s, G, rfl⟩ := Kd.Bu o
 obtain ⟨y, I, rfl⟩ := Kd.Ce j
 exact ⟨_, rfl, ⟨r, D, s, G, y, I, rfl, (Kd.C9 i).2.1, (Kd.DY j).2.1, Kd.Cr (Kd.R_F i) a, Kd.Cr (Kd.V_F o) (fun k g => g.1.elim (fun h => h.elim id (fun h => h.elim id id)) (a k)), Kd.Cr (Kd.N_F j) (fun k g => g.1.elim (fun h => h.elim id (fun h => h.elim id id)) (a k))⟩, W⟩
end
theorem LG : PGn.Bi.f 9 1 0 [1] [] 1 0 [1] [] = some true := by kernel_rfl
theorem NI : CE.f 12 1 0 ⟨#[]⟩ [] [] = some true := by kernel_rfl
theorem Ql : Aq.f 12 1 0 ⟨#[]⟩ [] [] 1 0 [0] [] [tr 5 1, tr 7 0] = some true := by kernel_rfl
theorem O3 : PGn.CF.f 12 1 0 ⟨#[]⟩ [] [] 1 0 [0] [] [tr 5 1, tr 7 0] = some (5, 0) := by kernel_rfl
theorem Ls : CB.f 12 1 0 ⟨#[]⟩ [] [] [bv 3, bv 1] = some (1, 0, [1], [], 0) := by kernel_rfl
theorem NJ : Bd.f 12 1 0 ⟨#[]⟩ [] [] 1 0 [0] [] [tr 5 1, tr 7 0] 6 9 = some ([], 5) := by kernel_rfl
theorem NK : Bd.f 12 1 0 ⟨#[]⟩ [] [] 1 0 [0] [] [tr 5 1, tr 7 0] 0 6 = some ([tr 5 1], 0) := by kernel_rfl
theorem Lt : PGn.AJ.f 14 1 0 ⟨#[]⟩ [] [] 1 0 [0] [] [] 0 [bv 1] [5] false = some (1, 0, [0], [], [tr 5 1], 0) := by kernel_rfl
theorem Lu : PGn.AJ.f 14 1 0 ⟨#[]⟩ [] [] 1 0 [0] [] [tr 5 1] 2 [bv 0] [5] false = some (1, 0, [0], [], [tr 7 0], 0) := by kernel_rfl
theorem Lv : PGn.AJ.f 14 1 0 ⟨#[]⟩ [] [] 1 0 [0] [] [tr 5 1] 2 [bv 0] [5] true = some (1, 0, [0], [], [tr 5 1, tr 7 0], 0) := by kernel_rfl
end Go.Proofs.Ytojankgmedccdaa.Aw
