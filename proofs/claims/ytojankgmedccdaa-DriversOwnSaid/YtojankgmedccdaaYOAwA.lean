/- Lemmas. -/
import Derived.Test.YtojankgmedccdaaYOPGnF30
import Derived.Test.YtojankgmedccdaaYOPFrQ
import Derived.Test.YtojankgmedccdaaYOPFrS
import Derived.Test.YtojankgmedccdaaYOPGnF32
set_option maxRecDepth 100000
namespace Go.Proofs.Ytojankgmedccdaa.Aw
open Go.RowKit Own PTy Hand PIs PAw Wo
set_option linter.unusedVariables false
abbrev tv : Value := .agg #[.int .i64 1, .int .i64 0, .string ⟨#[]⟩, .slice none 0 0, .slice none 0 0]
abbrev bv (b : Int) : S30 := ⟨1, 0, [b], []⟩
abbrev tr (t b : Int) : S63 := ⟨t, bv b⟩
def VB (w : World) (S : Nat → Prop) (b : Int) (v : Value) : Prop := ∃ A c B d, v = .agg #[.int .i64 1, .int .i64 0, .slice A 1 c, .slice B 0 d] ∧ 1 ≤ c ∧ Kd.F (Kd.int .u8) w S A 1 [b] ∧ Kd.F k30 w S B 0 []
def PL (w : World) (S : Nat → Prop) (b : Int) (l : List S63) (v : Value) : Prop := ∃ A c B d E e, v = .agg #[.int .i64 1, .int .i64 0, .slice A 1 c, .slice B 0 d, .slice E l.length e] ∧ 1 ≤ c ∧ l.length ≤ e ∧ Kd.F (Kd.int .u8) w S A 1 [b] ∧ Kd.F k30 w S B 0 [] ∧ Kd.F k63 w S E l.length l
def BP (w : World) (g : Nat) (b : Int) (l : List S63) : Prop := ∃ a c e h i, bk w g 33 #[a, c, e, h, i] ∧ PL w (fun k => k < w.heap.size) b l (.agg #[a, c, e, h, i])
def BV (w : World) (g : Nat) (b : Int) : Prop := ∃ a c e h, bk w g 30 #[a, c, e, h] ∧ VB w (fun k => k < w.heap.size) b (.agg #[a, c, e, h])
theorem VB.mono {w : World} {S S' : Nat → Prop} {b : Int} {v : Value} (h : VB w S b v) (e : ∀ k, k < w.heap.size → S k → S' k) : VB w S' b v := by
 obtain ⟨A, c, B, d, h1, h2, h3, h4⟩ := h; exact ⟨A, c, B, d, h1, h2, Kd.Cn (Kd.DL h3) (fun k a => e k a.2 a.1), Kd.Cn (Kd.DL h4) (fun k a => e k a.2 a.1)⟩
theorem PL.mono {w : World} {S S' : Nat → Prop} {b : Int} {l : List S63} {v : Value} (h : PL w S b l v) (i : ∀ k, k < w.heap.size → S k → S' k) : PL w S' b l v := by
 obtain ⟨A, c, B, d, E, e, h1, h2, h3, h4, j, o⟩ := h; exact ⟨A, c, B, d, E, e, h1, h2, h3, Kd.Cn (Kd.DL h4) (fun k a => i k a.2 a.1), Kd.Cn (Kd.DL j) (fun k a => i k a.2 a.1), Kd.Cn (Kd.DL o) (fun k a => i k a.2 a.1)⟩
theorem VB.up {w w' : World} {S : Nat → Prop} {b : Int} {v : Value} (h : VB w S b v) (a : Below w.heap.size w w') : VB w' S b v := by
 obtain ⟨A, c, B, d, h1, h2, h3, h4⟩ := h; exact ⟨A, c, B, d, h1, h2, Kd.Cj h3 a, Kd.Cj h4 a⟩
theorem PL.up {w w' : World} {S : Nat → Prop} {b : Int} {l : List S63} {v : Value} (h : PL w S b l v) (a : Below w.heap.size w w') : PL w' S b l v := by
 obtain ⟨A, c, B, d, E, e, h1, h2, h3, h4, i, j⟩ := h; exact ⟨A, c, B, d, E, e, h1, h2, h3, Kd.Cj h4 a, Kd.Cj i a, Kd.Cj j a⟩
theorem BP.up {w w' : World} {g : Nat} {b : Int} {l : List S63} (h : BP w g b l) (a : Below w.heap.size w w') : BP w' g b l := by
 obtain ⟨e, i, j, o, q, h1, h2⟩ := h; exact ⟨e, i, j, o, q, AL h1 a, (h2.up a).mono (fun k _ c => Nat.lt_of_lt_of_le c a.size)⟩
theorem BV.up {w w' : World} {g : Nat} {b : Int} (h : BV w g b) (a : Below w.heap.size w w') : BV w' g b := by
 obtain ⟨e, i, j, l, h1, h2⟩ := h; exact ⟨e, i, j, l, AL h1 a, (h2.up a).mono (fun k _ c => Nat.lt_of_lt_of_le c a.size)⟩
theorem LY (w : World) : Kd.C Kd.string w none ([] : List ByteArray).length [] := Kd.GD _ _
theorem LZ (w : World) : Kd.C k26 w none ([] : List S26).length [] := Kd.GD _ _
section
variable {w : World} {S : Nat → Prop}
theorem Ke (b : Int) (j : ∀ k, w.heap.size ≤ k → S k) : Calls Try.prog 40 #[.int .u8 b] w fun e w' => ∃ v, e = .returned v ∧ VB w' S b v ∧ Below w.heap.size w w' := by
 refine (J2.calls b 1 0 [b] [] w rfl).mono ?_; rintro e w' ⟨v2, v3, rfl, h2, h3, l⟩; have a := Kd.BS (Kd.EL (M := S) h2 (Nat.le_refl _) j) (ok' := S) (fun k i => i.1); have h := Kd.BS (Kd.EL (M := S) h3 (Nat.le_refl _) j) (ok' := S) (fun k i => i.1); obtain ⟨A, c, rfl⟩ := Kd.Bo a; obtain ⟨B, d, rfl⟩ := Kd.Bo h; exact ⟨_, rfl, ⟨A, c, B, d, rfl, (Kd.CE a).2.1, Kd.R_F a, Kd.R_F h⟩, l⟩
theorem OE (b : Int) (v u : Value) (r : VB w S b v) (q : VB w S b u) (h : PGn.BH.f 9 1 0 [b] [] 1 0 [b] [] = some true) : Calls Try.prog 32 #[v, u] w fun e w' => e = .returned (.bool true) ∧ Below w.heap.size w w' := by
 obtain ⟨A, c, B, d, rfl, l1, h1, h2⟩ := r; obtain ⟨k, o, l, d', rfl, j, a, i⟩ := q; exact PGn.BH.calls 9 1 0 A c [b] B d [] 1 0 k o [b] l d' [] true w (Kd.El h1) l1 (Kd.El h2) (Nat.zero_le _) (Kd.El a) j (Kd.El i) (Nat.zero_le _) h
theorem Qr (b t : Int) (l : List S63) (v : Value) (a : Dk w) (i : PL w S b l v) (h : Dt.f 12 1 0 ⟨#[]⟩ [] [] 1 0 [b] [] l = some (t, 0)) : Calls Try.prog 25 #[tv, v] w fun e w' => e = .returned (.tuple #[.int .i64 t, .int .i64 0]) ∧ Below w.heap.size w w' := by
 obtain ⟨A, c, B, d, E, e, rfl, l1, l2, h1, h2, h3⟩ := i; exact Dt.calls 12 1 0 ⟨#[]⟩ none 0 [] none 0 [] 1 0 A c [b] B d [] E e l t 0 w a (LY w) (Nat.le_refl _) (LZ w) (Nat.le_refl _) (Kd.El h1) l1 (Kd.El h2) (Nat.zero_le _) (Kd.El h3) l2 h
theorem O9 (a : Dk w) (h : Bq.f 12 1 0 ⟨#[]⟩ [] [] = some true) : Calls Try.prog 17 #[tv] w fun e w' => e = .returned (.bool true) ∧ Below w.heap.size w w' :=
 Bq.calls 12 1 0 ⟨#[]⟩ none 0 [] none 0 [] true w a (LY w) (Nat.le_refl _) (LZ w) (Nat.le_refl _) h
theorem isC (b : Int) (l : List S63) (v : Value) (a : Dk w) (i : PL w S b l v) (h : Av.f 12 1 0 ⟨#[]⟩ [] [] 1 0 [b] [] l = some true) : Calls Try.prog 19 #[tv, v] w fun e w' => e = .returned (.bool true) ∧ Below w.heap.size w w' := by
 obtain ⟨A, c, B, d, E, e, rfl, l1, l2, h1, h2, h3⟩ := i; exact Av.calls 12 1 0 ⟨#[]⟩ none 0 [] none 0 [] 1 0 A c [b] B d [] E e l true w a (LY w) (Nat.le_refl _) (LZ w) (Nat.le_refl _) (Kd.El h1) l1 (Kd.El h2) (Nat.zero_le _) (Kd.El h3) l2 h
theorem OG (o : ∀ k, w.heap.size ≤ k → S k) (b : Int) (l : List S30) (A : Option Addr) (c : Nat) (v : Dk w) (B : l.length ≤ c) (u : Kd.F k30 w S A l.length l) (h : PGn.Ae.f 12 1 0 ⟨#[]⟩ [] [] l = some (1, 0, [b], [], 0)) :
  Calls Try.prog 30 #[tv, .slice A l.length c] w fun e w' => ∃ p, e = .returned (.tuple #[p, .int .i64 0]) ∧ VB w' S b p ∧ Below w.heap.size w w' := by
 refine (PGn.Ae.calls 12 1 0 ⟨#[]⟩ none 0 [] none 0 [] S A c l 1 0 [b] [] 0 w v (LY w) (Nat.le_refl _) (LZ w) (Nat.le_refl _) (Kd.Cs B u) h).mono ?_
 rintro e w' ⟨v2, v3, rfl, D, G, z⟩
 have a := Kd.BS D (ok' := S) (fun k j => o k j)
 have i := Kd.AR G (ok' := S) (fun k j => j.1.elim id (o k))
 obtain ⟨q, s, rfl⟩ := Kd.Bo a
 obtain ⟨r, d', rfl⟩ := Kd.DN i
 exact ⟨_, rfl, ⟨q, s, r, d', rfl, (Kd.CE a).2.1, Kd.R_F a, Kd.V_F i⟩, z⟩
theorem OH (b s t r : Int) (l a : List S63) (v : Value) (k : Dk w) (q : PL w S b l v) (h : PGn.Ag.f 12 1 0 ⟨#[]⟩ [] [] 1 0 [b] [] l s t = some (a, r)) :
  Calls Try.prog 33 #[tv, v, .int .i64 s, .int .i64 t] w fun e w' => ∃ A c, e = .returned (.tuple #[.slice A a.length c, .int .i64 r]) ∧ Below w.heap.size w w' := by
 obtain ⟨A, c, B, d, E, e, rfl, l1, l2, h1, h2, h3⟩ := q
 refine (PGn.Ag.Dp S 12 1 0 ⟨#[]⟩ none 0 [] none 0 [] 1 0 S A c [b] S B d [] S E e l s t a r w k (LY w) (Nat.le_refl _) (LZ w) (Nat.le_refl _) (Kd.Cs l1 h1) (Kd.Cs (Nat.zero_le _) h2) (Kd.Cs l2 h3) (fun _ _ => .inr fun _ h => h.elim id (fun h => h.elim id id)) h).mono ?_
 rintro e w' ⟨v2, rfl, u, o⟩
 obtain ⟨i, j, rfl⟩ := Kd.Dq u
 exact ⟨i, j, rfl, o⟩
theorem J5 (a : ∀ k, w.heap.size ≤ k → S k) (b u now d : Int) (l q : List S63) (v : Value) (x : Bool) (A : Option Addr) (c : Nat) (N : Option Addr) (n : Nat) (U : Dk w) (Z : PL w S b l v) (T : Kd.F k30 w S A 1 [bv u]) (Y : 1 ≤ c) (W : Kd.C (Kd.int .i64) w N 1 [d]) (hn : 1 ≤ n)
  (h : PGn.AC.f 14 1 0 ⟨#[]⟩ [] [] 1 0 [b] [] l now [bv u] [d] x = some (1, 0, [b], [], q, 0)) :
  Calls Try.prog 38 #[tv, v, .int .i64 now, .slice A 1 c, .slice N 1 n, .bool x] w fun e w' => ∃ p, e = .returned (.tuple #[p, .int .i64 0]) ∧ PL w' S b q p ∧ Below w.heap.size w w' := by
 obtain ⟨s, I, B, d', E, e, rfl, l1, l2, h1, h2, h3⟩ := Z
 refine (PGn.AC.Dp S 14 1 0 ⟨#[]⟩ none 0 [] none 0 [] 1 0 s I [b] S B d' [] S E e l now S A c [bv u] N n [d] x 1 0 [b] [] q 0 w U (LY w) (Nat.le_refl _) (LZ w) (Nat.le_refl _) (Kd.El h1) l1 (Kd.Cs (Nat.zero_le _) h2) (Kd.Cs l2 h3) (Kd.Cs Y T) W hn (.inr fun _ h => h.elim id (fun h => h.elim id id)) (fun _ _ => .inr fun _ h => h.elim id (fun h => h.elim id id)) (fun _ _ => .inr fun _ h => h.elim id (fun h => h.elim id id)) h).mono ?_
 rintro e w' ⟨v2, v3, v4, rfl, j, r, o, X⟩
 obtain ⟨z, J, rfl⟩ := Kd.Bo j
 obtain ⟨D, L, rfl⟩ := Kd.DN r
 obtain ⟨G, O, rfl⟩ := Kd.Dq o
 exact ⟨_, rfl, ⟨z, J, D, L, G, O, rfl, (Kd.CE j).2.1, (Kd.Ff o).2.1, Kd.Cn (Kd.R_F j) a, Kd.Cn (Kd.V_F r) (fun k i => i.1.elim id (a k)), Kd.Cn (Kd.N_F o) (fun k i => i.1.elim id (a k))⟩, X⟩
end
theorem MH : PGn.BH.f 9 1 0 [1] [] 1 0 [1] [] = some true := by kernel_rfl
theorem OI : Bq.f 12 1 0 ⟨#[]⟩ [] [] = some true := by kernel_rfl
theorem SA : Av.f 12 1 0 ⟨#[]⟩ [] [] 1 0 [0] [] [tr 5 1, tr 7 0] = some true := by kernel_rfl
theorem P5 : Dt.f 12 1 0 ⟨#[]⟩ [] [] 1 0 [0] [] [tr 5 1, tr 7 0] = some (5, 0) := by kernel_rfl
theorem Mm : PGn.Ae.f 12 1 0 ⟨#[]⟩ [] [] [bv 3, bv 1] = some (1, 0, [1], [], 0) := by kernel_rfl
theorem OJ : PGn.Ag.f 12 1 0 ⟨#[]⟩ [] [] 1 0 [0] [] [tr 5 1, tr 7 0] 6 9 = some ([], 5) := by kernel_rfl
theorem OL : PGn.Ag.f 12 1 0 ⟨#[]⟩ [] [] 1 0 [0] [] [tr 5 1, tr 7 0] 0 6 = some ([tr 5 1], 0) := by kernel_rfl
theorem Mo : PGn.AC.f 14 1 0 ⟨#[]⟩ [] [] 1 0 [0] [] [] 0 [bv 1] [5] false = some (1, 0, [0], [], [tr 5 1], 0) := by kernel_rfl
theorem Mq : PGn.AC.f 14 1 0 ⟨#[]⟩ [] [] 1 0 [0] [] [tr 5 1] 2 [bv 0] [5] false = some (1, 0, [0], [], [tr 7 0], 0) := by kernel_rfl
theorem Mr : PGn.AC.f 14 1 0 ⟨#[]⟩ [] [] 1 0 [0] [] [tr 5 1] 2 [bv 0] [5] true = some (1, 0, [0], [], [tr 5 1, tr 7 0], 0) := by kernel_rfl
end Go.Proofs.Ytojankgmedccdaa.Aw
