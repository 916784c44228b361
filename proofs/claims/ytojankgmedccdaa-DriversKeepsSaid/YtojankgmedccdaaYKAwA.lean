/- Lemmas for LawDriversKeeps. -/
import Derived.Test.YtojankgmedccdaaYKPGnF33
import Derived.Test.YtojankgmedccdaaYKPGnF38
import Derived.Test.YtojankgmedccdaaYKPGnF32
namespace Go.Proofs.Ytojankgmedccdaa.Aw
open Go.RowKit Own PTy Hand PIs PAw YtojankgmedccdaaW.PrintWords YtojankgmedccdaaW.PrintLast YtojankgmedccdaaW.PrintMore
set_option linter.unusedVariables false
abbrev tv : Value := .agg #[.int .i64 1, .int .i64 0, .string ⟨#[]⟩, .slice none 0 0, .slice none 0 0]
abbrev bv (b : Int) : S30 := ⟨1, 0, [b], []⟩
abbrev tr (t b : Int) : S63 := ⟨t, bv b⟩
def VB (w : World) (S : Nat → Prop) (b : Int) (v : Value) : Prop := ∃ A c B d, v = .agg #[.int .i64 1, .int .i64 0, .slice A 1 c, .slice B 0 d] ∧ 1 ≤ c ∧ Kd.F (Kd.int .u8) w S A 1 [b] ∧ Kd.F k30 w S B 0 []
def PL (w : World) (S : Nat → Prop) (b : Int) (l : List S63) (v : Value) : Prop := ∃ A c B d E e, v = .agg #[.int .i64 1, .int .i64 0, .slice A 1 c, .slice B 0 d, .slice E l.length e] ∧ 1 ≤ c ∧ l.length ≤ e ∧ Kd.F (Kd.int .u8) w S A 1 [b] ∧ Kd.F k30 w S B 0 [] ∧ Kd.F k63 w S E l.length l
def BP (w : World) (g : Nat) (b : Int) (l : List S63) : Prop := ∃ a c d e h, w.heap[g]? = some (.cells #[a, c, d, e, h] 33 (0, 0)) ∧ PL w (fun k => k < w.heap.size) b l (.agg #[a, c, d, e, h])
def BV (w : World) (g : Nat) (b : Int) : Prop := ∃ a c d e, w.heap[g]? = some (.cells #[a, c, d, e] 30 (0, 0)) ∧ VB w (fun k => k < w.heap.size) b (.agg #[a, c, d, e])
theorem VB.mono {w : World} {S S' : Nat → Prop} {b : Int} {v : Value} (h : VB w S b v) (e : ∀ k, k < w.heap.size → S k → S' k) : VB w S' b v := by
 obtain ⟨A, c, B, d, h1, g, i, j⟩ := h
 exact ⟨A, c, B, d, h1, g, Kd.Cu (Kd.DN i) (fun k a => e k a.2 a.1), Kd.Cu (Kd.DN j) (fun k a => e k a.2 a.1)⟩
theorem PL.mono {w : World} {S S' : Nat → Prop} {b : Int} {l : List S63} {v : Value} (h : PL w S b l v) (g : ∀ k, k < w.heap.size → S k → S' k) : PL w S' b l v := by
 obtain ⟨A, c, B, d, E, e, h1, i, j, m, n, o⟩ := h
 exact ⟨A, c, B, d, E, e, h1, i, j, Kd.Cu (Kd.DN m) (fun k a => g k a.2 a.1), Kd.Cu (Kd.DN n) (fun k a => g k a.2 a.1), Kd.Cu (Kd.DN o) (fun k a => g k a.2 a.1)⟩
theorem VB.up {w w' : World} {S : Nat → Prop} {b : Int} {v : Value} (h : VB w S b v) (a : Below w.heap.size w w') : VB w' S b v := by
 obtain ⟨A, c, B, d, h1, e, g, i⟩ := h
 exact ⟨A, c, B, d, h1, e, Kd.CS g a, Kd.CS i a⟩
theorem PL.up {w w' : World} {S : Nat → Prop} {b : Int} {l : List S63} {v : Value} (h : PL w S b l v) (a : Below w.heap.size w w') : PL w' S b l v := by
 obtain ⟨A, c, B, d, E, e, h1, g, i, j, k, m⟩ := h
 exact ⟨A, c, B, d, E, e, h1, g, i, Kd.CS j a, Kd.CS k a, Kd.CS m a⟩
theorem BP.up {w w' : World} {g : Nat} {b : Int} {l : List S63} (h : BP w g b l) (a : Below w.heap.size w w') : BP w' g b l := by
 obtain ⟨e, i, j, m, n, h1, c⟩ := h
 exact ⟨e, i, j, m, n, Ac h1 a, (c.up a).mono (fun k _ d => Nat.lt_of_lt_of_le d a.size)⟩
theorem BV.up {w w' : World} {g : Nat} {b : Int} (h : BV w g b) (a : Below w.heap.size w w') : BV w' g b := by
 obtain ⟨e, i, j, l, h1, c⟩ := h
 exact ⟨e, i, j, l, Ac h1 a, (c.up a).mono (fun k _ d => Nat.lt_of_lt_of_le d a.size)⟩
theorem Lm (w : World) : Kd.C Kd.string w none ([] : List ByteArray).length [] := Kd.Gg _ _
theorem Lp (w : World) : Kd.C k26 w none ([] : List S26).length [] := Kd.Gg _ _
section
variable {w : World} {S : Nat → Prop}
set_option maxRecDepth 100000 in
theorem J9 (b : Int) (i : ∀ k, w.heap.size ≤ k → S k) : Calls Try.prog 40 #[.int .u8 b] w fun e w' => ∃ v, e = .returned v ∧ VB w' S b v ∧ Below w.heap.size w w' := by
 refine (Ja.calls b 1 0 [b] [] w rfl).mono ?_
 rintro e w' ⟨v2, v3, rfl, j, l, m⟩
 have a := Kd.Ba (Kd.Eb (M := S) j (Nat.le_refl _) i) (ok' := S) (fun k h => h.1)
 have g := Kd.Ba (Kd.Eb (M := S) l (Nat.le_refl _) i) (ok' := S) (fun k h => h.1)
 obtain ⟨A, c, rfl⟩ := Kd.Bv a
 obtain ⟨B, d, rfl⟩ := Kd.Bv g
 exact ⟨_, rfl, ⟨A, c, B, d, rfl, (Kd.DL a).2.1, Kd.R_F a, Kd.R_F g⟩, m⟩
set_option maxRecDepth 100000 in
theorem NE (b : Int) (v u : Value) (o : VB w S b v) (n : VB w S b u) (h : PGn.Bd.f 9 1 0 [b] [] 1 0 [b] [] = some true) : Calls Try.prog 32 #[v, u] w fun e w' => e = .returned (.bool true) ∧ Below w.heap.size w w' := by
 obtain ⟨A, c, B, d, rfl, l1, h1, m⟩ := o
 obtain ⟨j, l, k, d', rfl, i, a, g⟩ := n
 exact PGn.Bd.calls 9 1 0 A c [b] B d [] 1 0 j l [b] k d' [] true w (Kd.Dy h1) l1 (Kd.Dy m) (Nat.zero_le _) (Kd.Dy a) i (Kd.Dy g) (Nat.zero_le _) h
set_option maxRecDepth 100000 in
theorem PZ (b t : Int) (l : List S63) (v : Value) (i : D8 w) (j : PL w S b l v) (h : Dv.f 12 1 0 ⟨#[]⟩ [] [] 1 0 [b] [] l = some (t, 0)) : Calls Try.prog 25 #[tv, v] w fun e w' => e = .returned (.tuple #[.int .i64 t, .int .i64 0]) ∧ Below w.heap.size w w' := by
 obtain ⟨A, c, B, d, E, e, rfl, l1, l2, h1, a, g⟩ := j
 exact Dv.calls 12 1 0 ⟨#[]⟩ none 0 [] none 0 [] 1 0 A c [b] B d [] E e l t 0 w i (Lm w) (Nat.le_refl _) (Lp w) (Nat.le_refl _) (Kd.Dy h1) l1 (Kd.Dy a) (Nat.zero_le _) (Kd.Dy g) l2 h
set_option maxRecDepth 100000 in
theorem Ny (a : D8 w) (h : CG.f 12 1 0 ⟨#[]⟩ [] [] = some true) : Calls Try.prog 17 #[tv] w fun e w' => e = .returned (.bool true) ∧ Below w.heap.size w w' :=
 CG.calls 12 1 0 ⟨#[]⟩ none 0 [] none 0 [] true w a (Lm w) (Nat.le_refl _) (Lp w) (Nat.le_refl _) h
set_option maxRecDepth 100000 in
theorem isC (b : Int) (l : List S63) (v : Value) (i : D8 w) (j : PL w S b l v) (h : BJ.f 12 1 0 ⟨#[]⟩ [] [] 1 0 [b] [] l = some true) : Calls Try.prog 19 #[tv, v] w fun e w' => e = .returned (.bool true) ∧ Below w.heap.size w w' := by
 obtain ⟨A, c, B, d, E, e, rfl, l1, l2, h1, a, g⟩ := j
 exact BJ.calls 12 1 0 ⟨#[]⟩ none 0 [] none 0 [] 1 0 A c [b] B d [] E e l true w i (Lm w) (Nat.le_refl _) (Lp w) (Nat.le_refl _) (Kd.Dy h1) l1 (Kd.Dy a) (Nat.zero_le _) (Kd.Dy g) l2 h
set_option maxRecDepth 100000 in
theorem NF (i : ∀ k, w.heap.size ≤ k → S k) (b : Int) (l : List S30) (A : Option Addr) (c : Nat) (q : D8 w) (s : l.length ≤ c) (o : Kd.F k30 w S A l.length l) (h : CB.f 12 1 0 ⟨#[]⟩ [] [] l = some (1, 0, [b], [], 0)) :
  Calls Try.prog 30 #[tv, .slice A l.length c] w fun e w' => ∃ p, e = .returned (.tuple #[p, .int .i64 0]) ∧ VB w' S b p ∧ Below w.heap.size w w' := by
 refine (CB.calls 12 1 0 ⟨#[]⟩ none 0 [] none 0 [] A c l 1 0 [b] [] 0 w q (Lm w) (Nat.le_refl _) (Lp w) (Nat.le_refl _) (Kd.Dy o) s h).mono ?_
 rintro e w' ⟨v2, v3, rfl, u, v, r⟩
 have a := Kd.Ba (Kd.Eb (M := S) u (Nat.le_refl _) i) (ok' := S) (fun k g => g.1)
 have d := Kd.Ba (Kd.Eb (M := S) v (Nat.le_refl _) i) (ok' := S) (fun k g => g.1)
 obtain ⟨j, n, rfl⟩ := Kd.Bv a
 obtain ⟨m, d', rfl⟩ := Kd.Bv d
 exact ⟨_, rfl, ⟨j, n, m, d', rfl, (Kd.DL a).2.1, Kd.R_F a, Kd.R_F d⟩, r⟩
set_option maxRecDepth 100000 in
theorem NG (b s t r : Int) (l a : List S63) (v : Value) (m : D8 w) (o : PL w S b l v) (h : PGn.Af.f 12 1 0 ⟨#[]⟩ [] [] 1 0 [b] [] l s t = some (a, r)) :
  Calls Try.prog 33 #[tv, v, .int .i64 s, .int .i64 t] w fun e w' => ∃ A c, e = .returned (.tuple #[.slice A a.length c, .int .i64 r]) ∧ Below w.heap.size w w' := by
 obtain ⟨A, c, B, d, E, e, rfl, l1, l2, h1, j, k⟩ := o
 refine (PGn.Af.calls 12 1 0 ⟨#[]⟩ none 0 [] none 0 [] 1 0 S A c [b] S B d [] S E e l s t a r w m (Lm w) (Nat.le_refl _) (Lp w) (Nat.le_refl _) (Kd.DW l1 h1) (Kd.DW (Nat.zero_le _) j) (Kd.DW l2 k) h).mono ?_
 rintro e w' ⟨v2, rfl, p, n⟩
 obtain ⟨g, i, rfl⟩ := Kd.Ch p
 exact ⟨g, i, rfl, n⟩
set_option maxRecDepth 100000 in
theorem Jb (a : ∀ k, w.heap.size ≤ k → S k) (b u now d : Int) (l m : List S63) (v : Value) (x : Bool) (A : Option Addr) (c : Nat) (N : Option Addr) (n : Nat) (T : D8 w) (Y : PL w S b l v) (O : Kd.F k30 w S A 1 [bv u]) (X : 1 ≤ c) (U : Kd.C (Kd.int .i64) w N 1 [d]) (hn : 1 ≤ n)
  (h : PGn.AC.f 14 1 0 ⟨#[]⟩ [] [] 1 0 [b] [] l now [bv u] [d] x = some (1, 0, [b], [], m, 0)) :
  Calls Try.prog 38 #[tv, v, .int .i64 now, .slice A 1 c, .slice N 1 n, .bool x] w fun e w' => ∃ p, e = .returned (.tuple #[p, .int .i64 0]) ∧ PL w' S b m p ∧ Below w.heap.size w w' := by
 obtain ⟨q, z, B, d', E, e, rfl, l1, l2, h1, J, L⟩ := Y
 refine (PGn.AC.calls 14 1 0 ⟨#[]⟩ none 0 [] none 0 [] 1 0 q z [b] S B d' [] S E e l now S A c [bv u] N n [d] x 1 0 [b] [] m 0 w T (Lm w) (Nat.le_refl _) (Lp w) (Nat.le_refl _) (Kd.Dy h1) l1 (Kd.DW (Nat.zero_le _) J) (Kd.DW l2 L) (Kd.DW X O) U hn h).mono ?_
 rintro e w' ⟨v2, v3, v4, rfl, i, o, j, W⟩
 obtain ⟨r, D, rfl⟩ := Kd.Bv i
 obtain ⟨s, G, rfl⟩ := Kd.Df o
 obtain ⟨y, I, rfl⟩ := Kd.Ch j
 exact ⟨_, rfl, ⟨r, D, s, G, y, I, rfl, (Kd.DL i).2.1, (Kd.DR j).2.1, Kd.Cu (Kd.R_F i) a, Kd.Cu (Kd.V_F o) (fun k g => g.1.elim (fun h => h.elim id (fun h => h.elim id id)) (a k)), Kd.Cu (Kd.N_F j) (fun k g => g.1.elim (fun h => h.elim id (fun h => h.elim id id)) (a k))⟩, W⟩
end
theorem LG : PGn.Bd.f 9 1 0 [1] [] 1 0 [1] [] = some true := by kernel_rfl
theorem NH : CG.f 12 1 0 ⟨#[]⟩ [] [] = some true := by kernel_rfl
theorem Pb : BJ.f 12 1 0 ⟨#[]⟩ [] [] 1 0 [0] [] [tr 5 1, tr 7 0] = some true := by kernel_rfl
theorem Oq : Dv.f 12 1 0 ⟨#[]⟩ [] [] 1 0 [0] [] [tr 5 1, tr 7 0] = some (5, 0) := by kernel_rfl
theorem Lr : CB.f 12 1 0 ⟨#[]⟩ [] [] [bv 3, bv 1] = some (1, 0, [1], [], 0) := by kernel_rfl
theorem NI : PGn.Af.f 12 1 0 ⟨#[]⟩ [] [] 1 0 [0] [] [tr 5 1, tr 7 0] 6 9 = some ([], 5) := by kernel_rfl
theorem NJ : PGn.Af.f 12 1 0 ⟨#[]⟩ [] [] 1 0 [0] [] [tr 5 1, tr 7 0] 0 6 = some ([tr 5 1], 0) := by kernel_rfl
theorem Ls : PGn.AC.f 14 1 0 ⟨#[]⟩ [] [] 1 0 [0] [] [] 0 [bv 1] [5] false = some (1, 0, [0], [], [tr 5 1], 0) := by kernel_rfl
theorem Lt : PGn.AC.f 14 1 0 ⟨#[]⟩ [] [] 1 0 [0] [] [tr 5 1] 2 [bv 0] [5] false = some (1, 0, [0], [], [tr 7 0], 0) := by kernel_rfl
theorem Lu : PGn.AC.f 14 1 0 ⟨#[]⟩ [] [] 1 0 [0] [] [tr 5 1] 2 [bv 0] [5] true = some (1, 0, [0], [], [tr 5 1, tr 7 0], 0) := by kernel_rfl
end Go.Proofs.Ytojankgmedccdaa.Aw
