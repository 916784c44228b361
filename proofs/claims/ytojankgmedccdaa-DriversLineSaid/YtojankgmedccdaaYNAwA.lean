/- Lemmas. -/
import Derived.Test.YtojankgmedccdaaYNPGnF25
import Derived.Test.YtojankgmedccdaaYNPGnF38
import Derived.Test.YtojankgmedccdaaYNPGnF32
import Derived.Test.YtojankgmedccdaaYNPAwx9
set_option maxRecDepth 100000
namespace Go.Proofs.Ytojankgmedccdaa.Aw
open Go.RowKit Own PTy Hand PIs PAw Wo
set_option linter.unusedVariables false
abbrev tv : Value := .agg #[.int .i64 1, .int .i64 0, .string ⟨#[]⟩, .slice none 0 0, .slice none 0 0]
abbrev bv (b : Int) : S30 := ⟨1, 0, [b], []⟩
abbrev tr (t b : Int) : S63 := ⟨t, bv b⟩
def VB (w : World) (S : Nat → Prop) (b : Int) (v : Value) : Prop := ∃ A c B d, v = .agg #[.int .i64 1, .int .i64 0, .slice A 1 c, .slice B 0 d] ∧ 1 ≤ c ∧ Kd.F (Kd.int .u8) w S A 1 [b] ∧ Kd.F k30 w S B 0 []
def PL (w : World) (S : Nat → Prop) (b : Int) (l : List S63) (v : Value) : Prop := ∃ A c B d E e, v = .agg #[.int .i64 1, .int .i64 0, .slice A 1 c, .slice B 0 d, .slice E l.length e] ∧ 1 ≤ c ∧ l.length ≤ e ∧ Kd.F (Kd.int .u8) w S A 1 [b] ∧ Kd.F k30 w S B 0 [] ∧ Kd.F k63 w S E l.length l
def BP (w : World) (g : Nat) (b : Int) (l : List S63) : Prop := ∃ a c d e h, bk w g 33 #[a, c, d, e, h] ∧ PL w (fun k => k < w.heap.size) b l (.agg #[a, c, d, e, h])
def BV (w : World) (g : Nat) (b : Int) : Prop := ∃ a c d e, bk w g 30 #[a, c, d, e] ∧ VB w (fun k => k < w.heap.size) b (.agg #[a, c, d, e])
theorem VB.mono {w : World} {S S' : Nat → Prop} {b : Int} {v : Value} (h : VB w S b v) (e : ∀ k, k < w.heap.size → S k → S' k) : VB w S' b v := by
 obtain ⟨A, c, B, d, h1, g, i, j⟩ := h; exact ⟨A, c, B, d, h1, g, Kd.Cw (Kd.DX i) (fun k a => e k a.2 a.1), Kd.Cw (Kd.DX j) (fun k a => e k a.2 a.1)⟩
theorem PL.mono {w : World} {S S' : Nat → Prop} {b : Int} {l : List S63} {v : Value} (h : PL w S b l v) (g : ∀ k, k < w.heap.size → S k → S' k) : PL w S' b l v := by
 obtain ⟨A, c, B, d, E, e, h1, i, j, m, n, o⟩ := h; exact ⟨A, c, B, d, E, e, h1, i, j, Kd.Cw (Kd.DX m) (fun k a => g k a.2 a.1), Kd.Cw (Kd.DX n) (fun k a => g k a.2 a.1), Kd.Cw (Kd.DX o) (fun k a => g k a.2 a.1)⟩
theorem VB.up {w w' : World} {S : Nat → Prop} {b : Int} {v : Value} (h : VB w S b v) (a : Below w.heap.size w w') : VB w' S b v := by
 obtain ⟨A, c, B, d, h1, e, g, i⟩ := h; exact ⟨A, c, B, d, h1, e, Kd.Cs g a, Kd.Cs i a⟩
theorem PL.up {w w' : World} {S : Nat → Prop} {b : Int} {l : List S63} {v : Value} (h : PL w S b l v) (a : Below w.heap.size w w') : PL w' S b l v := by
 obtain ⟨A, c, B, d, E, e, h1, g, i, j, k, m⟩ := h; exact ⟨A, c, B, d, E, e, h1, g, i, Kd.Cs j a, Kd.Cs k a, Kd.Cs m a⟩
theorem BP.up {w w' : World} {g : Nat} {b : Int} {l : List S63} (h : BP w g b l) (a : Below w.heap.size w w') : BP w' g b l := by
 obtain ⟨e, i, j, m, n, h1, c⟩ := h; exact ⟨e, i, j, m, n, AX h1 a, (c.up a).mono (fun k _ d => Nat.lt_of_lt_of_le d a.size)⟩
theorem BV.up {w w' : World} {g : Nat} {b : Int} (h : BV w g b) (a : Below w.heap.size w w') : BV w' g b := by
 obtain ⟨e, i, j, l, h1, c⟩ := h; exact ⟨e, i, j, l, AX h1 a, (c.up a).mono (fun k _ d => Nat.lt_of_lt_of_le d a.size)⟩
theorem LW (w : World) : Kd.C Kd.string w none ([] : List ByteArray).length [] := Kd.GY _ _
theorem LX (w : World) : Kd.C k26 w none ([] : List S26).length [] := Kd.GY _ _
section
variable {w : World} {S : Nat → Prop}
theorem Kl (b : Int) (i : ∀ k, w.heap.size ≤ k → S k) : Calls Try.prog 40 #[.int .u8 b] w fun e w' => ∃ v, e = .returned v ∧ VB w' S b v ∧ Below w.heap.size w w' := by
 refine (KF.calls b 1 0 [b] [] w rfl).mono ?_; rintro e w' ⟨v2, v3, rfl, j, l, m⟩; have a := Kd.BK (Kd.Dv (M := S) j (Nat.le_refl _) i) (ok' := S) (fun k h => h.1); have g := Kd.BK (Kd.Dv (M := S) l (Nat.le_refl _) i) (ok' := S) (fun k h => h.1); obtain ⟨A, c, rfl⟩ := Kd.Bt a; obtain ⟨B, d, rfl⟩ := Kd.Bt g; exact ⟨_, rfl, ⟨A, c, B, d, rfl, (Kd.Cg a).2.1, Kd.R_F a, Kd.R_F g⟩, m⟩
theorem Nv (b : Int) (v u : Value) (o : VB w S b v) (n : VB w S b u) (h : PGn.Bi.f 9 1 0 [b] [] 1 0 [b] [] = some true) : Calls Try.prog 32 #[v, u] w fun e w' => e = .returned (.bool true) ∧ Below w.heap.size w w' := by
 obtain ⟨A, c, B, d, rfl, l1, h1, m⟩ := o; obtain ⟨j, l, k, d', rfl, i, a, g⟩ := n; exact PGn.Bi.calls 9 1 0 A c [b] B d [] 1 0 j l [b] k d' [] true w (Kd.Ew h1) l1 (Kd.Ew m) (Nat.zero_le _) (Kd.Ew a) i (Kd.Ew g) (Nat.zero_le _) h
theorem QN (b t : Int) (l : List S63) (v : Value) (i : EP w) (j : PL w S b l v) (h : PGn.CX.f 12 1 0 ⟨#[]⟩ [] [] 1 0 [b] [] l = some (t, 0)) : Calls Try.prog 25 #[tv, v] w fun e w' => e = .returned (.tuple #[.int .i64 t, .int .i64 0]) ∧ Below w.heap.size w w' := by
 obtain ⟨A, c, B, d, E, e, rfl, l1, l2, h1, a, g⟩ := j; exact PGn.CX.calls 12 1 0 ⟨#[]⟩ none 0 [] none 0 [] 1 0 A c [b] B d [] E e l t 0 w i (LW w) (Nat.le_refl _) (LX w) (Nat.le_refl _) (Kd.Ew h1) l1 (Kd.Ew a) (Nat.zero_le _) (Kd.Ew g) l2 h
theorem Ov (a : EP w) (h : CP.f 12 1 0 ⟨#[]⟩ [] [] = some true) : Calls Try.prog 17 #[tv] w fun e w' => e = .returned (.bool true) ∧ Below w.heap.size w w' :=
 CP.calls 12 1 0 ⟨#[]⟩ none 0 [] none 0 [] true w a (LW w) (Nat.le_refl _) (LX w) (Nat.le_refl _) h
theorem isC (b : Int) (l : List S63) (v : Value) (i : EP w) (j : PL w S b l v) (h : BI.f 12 1 0 ⟨#[]⟩ [] [] 1 0 [b] [] l = some true) : Calls Try.prog 19 #[tv, v] w fun e w' => e = .returned (.bool true) ∧ Below w.heap.size w w' := by
 obtain ⟨A, c, B, d, E, e, rfl, l1, l2, h1, a, g⟩ := j; exact BI.calls 12 1 0 ⟨#[]⟩ none 0 [] none 0 [] 1 0 A c [b] B d [] E e l true w i (LW w) (Nat.le_refl _) (LX w) (Nat.le_refl _) (Kd.Ew h1) l1 (Kd.Ew a) (Nat.zero_le _) (Kd.Ew g) l2 h
theorem Nw (i : ∀ k, w.heap.size ≤ k → S k) (b : Int) (l : List S30) (A : Option Addr) (c : Nat) (q : EP w) (s : l.length ≤ c) (o : Kd.F k30 w S A l.length l) (h : CO.f 12 1 0 ⟨#[]⟩ [] [] l = some (1, 0, [b], [], 0)) :
  Calls Try.prog 30 #[tv, .slice A l.length c] w fun e w' => ∃ p, e = .returned (.tuple #[p, .int .i64 0]) ∧ VB w' S b p ∧ Below w.heap.size w w' := by
 refine (CO.calls 12 1 0 ⟨#[]⟩ none 0 [] none 0 [] A c l 1 0 [b] [] 0 w q (LW w) (Nat.le_refl _) (LX w) (Nat.le_refl _) (Kd.Ew o) s h).mono ?_
 rintro e w' ⟨v2, v3, rfl, u, v, r⟩
 have a := Kd.BK (Kd.Dv (M := S) u (Nat.le_refl _) i) (ok' := S) (fun k g => g.1)
 have d := Kd.BK (Kd.Dv (M := S) v (Nat.le_refl _) i) (ok' := S) (fun k g => g.1)
 obtain ⟨j, n, rfl⟩ := Kd.Bt a
 obtain ⟨m, d', rfl⟩ := Kd.Bt d
 exact ⟨_, rfl, ⟨j, n, m, d', rfl, (Kd.Cg a).2.1, Kd.R_F a, Kd.R_F d⟩, r⟩
theorem Ny (b s t r : Int) (l a : List S63) (v : Value) (m : EP w) (o : PL w S b l v) (h : Be.f 12 1 0 ⟨#[]⟩ [] [] 1 0 [b] [] l s t = some (a, r)) :
  Calls Try.prog 33 #[tv, v, .int .i64 s, .int .i64 t] w fun e w' => ∃ A c, e = .returned (.tuple #[.slice A a.length c, .int .i64 r]) ∧ Below w.heap.size w w' := by
 obtain ⟨A, c, B, d, E, e, rfl, l1, l2, h1, j, k⟩ := o
 refine (Be.calls 12 1 0 ⟨#[]⟩ none 0 [] none 0 [] 1 0 S A c [b] S B d [] S E e l s t a r w m (LW w) (Nat.le_refl _) (LX w) (Nat.le_refl _) (Kd.Di l1 h1) (Kd.Di (Nat.zero_le _) j) (Kd.Di l2 k) h).mono ?_
 rintro e w' ⟨v2, rfl, p, n⟩
 obtain ⟨g, i, rfl⟩ := Kd.Ct p
 exact ⟨g, i, rfl, n⟩
theorem IG (a : ∀ k, w.heap.size ≤ k → S k) (b u now d : Int) (l m : List S63) (v : Value) (x : Bool) (A : Option Addr) (c : Nat) (N : Option Addr) (n : Nat) (T : EP w) (Y : PL w S b l v) (O : Kd.F k30 w S A 1 [bv u]) (X : 1 ≤ c) (U : Kd.C (Kd.int .i64) w N 1 [d]) (hn : 1 ≤ n)
  (h : PGn.AC.f 14 1 0 ⟨#[]⟩ [] [] 1 0 [b] [] l now [bv u] [d] x = some (1, 0, [b], [], m, 0)) :
  Calls Try.prog 38 #[tv, v, .int .i64 now, .slice A 1 c, .slice N 1 n, .bool x] w fun e w' => ∃ p, e = .returned (.tuple #[p, .int .i64 0]) ∧ PL w' S b m p ∧ Below w.heap.size w w' := by
 obtain ⟨q, z, B, d', E, e, rfl, l1, l2, h1, J, L⟩ := Y
 refine (PGn.AC.calls 14 1 0 ⟨#[]⟩ none 0 [] none 0 [] 1 0 q z [b] S B d' [] S E e l now S A c [bv u] N n [d] x 1 0 [b] [] m 0 w T (LW w) (Nat.le_refl _) (LX w) (Nat.le_refl _) (Kd.Ew h1) l1 (Kd.Di (Nat.zero_le _) J) (Kd.Di l2 L) (Kd.Di X O) U hn h).mono ?_
 rintro e w' ⟨v2, v3, v4, rfl, i, o, j, W⟩
 obtain ⟨r, D, rfl⟩ := Kd.Bt i
 obtain ⟨s, G, rfl⟩ := Kd.CL o
 obtain ⟨y, I, rfl⟩ := Kd.Ct j
 exact ⟨_, rfl, ⟨r, D, s, G, y, I, rfl, (Kd.Cg i).2.1, (Kd.EE j).2.1, Kd.Cw (Kd.R_F i) a, Kd.Cw (Kd.V_F o) (fun k g => g.1.elim (fun h => h.elim id (fun h => h.elim id id)) (a k)), Kd.Cw (Kd.N_F j) (fun k g => g.1.elim (fun h => h.elim id (fun h => h.elim id id)) (a k))⟩, W⟩
end
theorem Lt : PGn.Bi.f 9 1 0 [1] [] 1 0 [1] [] = some true := by kernel_rfl
theorem Nz : CP.f 12 1 0 ⟨#[]⟩ [] [] = some true := by kernel_rfl
theorem RN : BI.f 12 1 0 ⟨#[]⟩ [] [] 1 0 [0] [] [tr 5 1, tr 7 0] = some true := by kernel_rfl
theorem Pf : PGn.CX.f 12 1 0 ⟨#[]⟩ [] [] 1 0 [0] [] [tr 5 1, tr 7 0] = some (5, 0) := by kernel_rfl
theorem MW : CO.f 12 1 0 ⟨#[]⟩ [] [] [bv 3, bv 1] = some (1, 0, [1], [], 0) := by kernel_rfl
theorem N7 : Be.f 12 1 0 ⟨#[]⟩ [] [] 1 0 [0] [] [tr 5 1, tr 7 0] 6 9 = some ([], 5) := by kernel_rfl
theorem N8 : Be.f 12 1 0 ⟨#[]⟩ [] [] 1 0 [0] [] [tr 5 1, tr 7 0] 0 6 = some ([tr 5 1], 0) := by kernel_rfl
theorem MX : PGn.AC.f 14 1 0 ⟨#[]⟩ [] [] 1 0 [0] [] [] 0 [bv 1] [5] false = some (1, 0, [0], [], [tr 5 1], 0) := by kernel_rfl
theorem MZ : PGn.AC.f 14 1 0 ⟨#[]⟩ [] [] 1 0 [0] [] [tr 5 1] 2 [bv 0] [5] false = some (1, 0, [0], [], [tr 7 0], 0) := by kernel_rfl
theorem Ma : PGn.AC.f 14 1 0 ⟨#[]⟩ [] [] 1 0 [0] [] [tr 5 1] 2 [bv 0] [5] true = some (1, 0, [0], [], [tr 5 1, tr 7 0], 0) := by kernel_rfl
end Go.Proofs.Ytojankgmedccdaa.Aw
