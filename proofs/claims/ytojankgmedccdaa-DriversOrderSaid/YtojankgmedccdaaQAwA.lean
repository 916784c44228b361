/- Part of the proof of LawDriversOrder: every definition and lemma is one that it names. -/
import Derived.Test.YtojankgmedccdaaQPAwx7
import Derived.Test.YtojankgmedccdaaQPAwx1
import Derived.Test.YtojankgmedccdaaQPAwx2
import Derived.Test.YtojankgmedccdaaQPAwx3
import Derived.Test.YtojankgmedccdaaQPAwx9
import Derived.Test.YtojankgmedccdaaQPAwx6
import Derived.Test.YtojankgmedccdaaQPRsx1
import Derived.Test.YtojankgmedccdaaQPRsx4
namespace Go.Proofs.Ytojankgmedccdaa.Aw
open Go.RowKit Own PTy Hand PIs PAw YtojankgmedccdaaW.PrintWords YtojankgmedccdaaW.PrintLast YtojankgmedccdaaW.PrintMore
set_option linter.unusedVariables false
abbrev tv : Value := .agg #[.int .i64 1, .int .i64 0, .string ⟨#[]⟩, .slice none 0 0, .slice none 0 0]
abbrev bv (b : Int) : S30 := ⟨1, 0, [b], []⟩
abbrev tr (t b : Int) : S63 := ⟨t, bv b⟩
def VB (w : World) (S : Nat → Prop) (b : Int) (v : Value) : Prop := ∃ A c B d, v = .agg #[.int .i64 1, .int .i64 0, .slice A 1 c, .slice B 0 d] ∧ 1 ≤ c ∧ Kd.F (Kd.int .u8) w S A 1 [b] ∧ Kd.F k30 w S B 0 []
def PL (w : World) (S : Nat → Prop) (b : Int) (l : List S63) (v : Value) : Prop := ∃ A c B d E e, v = .agg #[.int .i64 1, .int .i64 0, .slice A 1 c, .slice B 0 d, .slice E l.length e] ∧ 1 ≤ c ∧ l.length ≤ e ∧ Kd.F (Kd.int .u8) w S A 1 [b] ∧ Kd.F k30 w S B 0 [] ∧ Kd.F k63 w S E l.length l
def BP (w : World) (g : Nat) (b : Int) (l : List S63) : Prop := ∃ x0 x1 x2 x3 x4, w.heap[g]? = some (.cells #[x0, x1, x2, x3, x4] 33 (0, 0)) ∧ PL w (fun k => k < w.heap.size) b l (.agg #[x0, x1, x2, x3, x4])
def BV (w : World) (g : Nat) (b : Int) : Prop := ∃ x0 x1 x2 x3, w.heap[g]? = some (.cells #[x0, x1, x2, x3] 30 (0, 0)) ∧ VB w (fun k => k < w.heap.size) b (.agg #[x0, x1, x2, x3])
theorem VB.mono {w : World} {S S' : Nat → Prop} {b : Int} {v : Value} (h : VB w S b v) (hS : ∀ k, k < w.heap.size → S k → S' k) : VB w S' b v := by
 obtain ⟨A, c, B, d, h1, h2, h3, h4⟩ := h
 exact ⟨A, c, B, d, h1, h2, Kd.F_mono (Kd.F_bound h3) (fun k hk => hS k hk.2 hk.1), Kd.F_mono (Kd.F_bound h4) (fun k hk => hS k hk.2 hk.1)⟩
theorem PL.mono {w : World} {S S' : Nat → Prop} {b : Int} {l : List S63} {v : Value} (h : PL w S b l v) (hS : ∀ k, k < w.heap.size → S k → S' k) : PL w S' b l v := by
 obtain ⟨A, c, B, d, E, e, h1, h2, h3, h4, h5, h6⟩ := h
 exact ⟨A, c, B, d, E, e, h1, h2, h3, Kd.F_mono (Kd.F_bound h4) (fun k hk => hS k hk.2 hk.1), Kd.F_mono (Kd.F_bound h5) (fun k hk => hS k hk.2 hk.1), Kd.F_mono (Kd.F_bound h6) (fun k hk => hS k hk.2 hk.1)⟩
theorem VB.up {w w' : World} {S : Nat → Prop} {b : Int} {v : Value} (h : VB w S b v) (hb : Below w.heap.size w w') : VB w' S b v := by
 obtain ⟨A, c, B, d, h1, h2, h3, h4⟩ := h
 exact ⟨A, c, B, d, h1, h2, Kd.F_below h3 hb, Kd.F_below h4 hb⟩
theorem PL.up {w w' : World} {S : Nat → Prop} {b : Int} {l : List S63} {v : Value} (h : PL w S b l v) (hb : Below w.heap.size w w') : PL w' S b l v := by
 obtain ⟨A, c, B, d, E, e, h1, h2, h3, h4, h5, h6⟩ := h
 exact ⟨A, c, B, d, E, e, h1, h2, h3, Kd.F_below h4 hb, Kd.F_below h5 hb, Kd.F_below h6 hb⟩
theorem BP.up {w w' : World} {g : Nat} {b : Int} {l : List S63} (h : BP w g b l) (hb : Below w.heap.size w w') : BP w' g b l := by
 obtain ⟨x0, x1, x2, x3, x4, h1, h2⟩ := h
 exact ⟨x0, x1, x2, x3, x4, blk_below h1 hb, (h2.up hb).mono (fun k _ hk => Nat.lt_of_lt_of_le hk hb.size)⟩
theorem BV.up {w w' : World} {g : Nat} {b : Int} (h : BV w g b) (hb : Below w.heap.size w w') : BV w' g b := by
 obtain ⟨x0, x1, x2, x3, h1, h2⟩ := h
 exact ⟨x0, x1, x2, x3, blk_below h1 hb, (h2.up hb).mono (fun k _ hk => Nat.lt_of_lt_of_le hk hb.size)⟩
theorem nilS (w : World) : Kd.C Kd.string w none ([] : List ByteArray).length [] := Kd.C_nil _ _
theorem nilT (w : World) : Kd.C k26 w none ([] : List S26).length [] := Kd.C_nil _ _
section
variable {w : World} {S : Nat → Prop}
theorem bitC (b : Int) (hS : ∀ k, w.heap.size ≤ k → S k) : Calls Try.prog 40 #[.int .u8 b] w fun e w' => ∃ v, e = .returned v ∧ VB w' S b v ∧ Below w.heap.size w w' := by
 refine (v15bit.calls b 1 0 [b] [] w rfl).mono ?_
 rintro e w' ⟨v2, v3, rfl, h2, h3, hb⟩
 have h2' := Kd.R_mono (Kd.R_newM (M := S) h2 (Nat.le_refl _) hS) (ok' := S) (fun k hk => hk.1)
 have h3' := Kd.R_mono (Kd.R_newM (M := S) h3 (Nat.le_refl _) hS) (ok' := S) (fun k hk => hk.1)
 obtain ⟨A, c, rfl⟩ := Kd.R_slice h2'
 obtain ⟨B, d, rfl⟩ := Kd.R_slice h3'
 exact ⟨_, rfl, ⟨A, c, B, d, rfl, (Kd.R_reads' h2').2.1, Kd.R_F h2', Kd.R_F h3'⟩, hb⟩
theorem alikeC (b : Int) (v u : Value) (hv : VB w S b v) (hu : VB w S b u) (h : PRs.r04Alike.f 9 1 0 [b] [] 1 0 [b] [] = some true) : Calls Try.prog 32 #[v, u] w fun e w' => e = .returned (.bool true) ∧ Below w.heap.size w w' := by
 obtain ⟨A, c, B, d, rfl, l1, h1, h2⟩ := hv
 obtain ⟨A', c', B', d', rfl, l1', h1', h2'⟩ := hu
 exact PRs.r04Alike.calls 9 1 0 A c [b] B d [] 1 0 A' c' [b] B' d' [] true w (Kd.F_now h1) l1 (Kd.F_now h2) (Nat.zero_le _) (Kd.F_now h1') l1' (Kd.F_now h2') (Nat.zero_le _) h
theorem nextC (b t : Int) (l : List S63) (v : Value) (hG : Glob w) (hv : PL w S b l v) (h : drivers_Next.f 12 1 0 ⟨#[]⟩ [] [] 1 0 [b] [] l = some (t, 0)) : Calls Try.prog 25 #[tv, v] w fun e w' => e = .returned (.tuple #[.int .i64 t, .int .i64 0]) ∧ Below w.heap.size w w' := by
 obtain ⟨A, c, B, d, E, e, rfl, l1, l2, h1, h2, h3⟩ := hv
 exact drivers_Next.calls 12 1 0 ⟨#[]⟩ none 0 [] none 0 [] 1 0 A c [b] B d [] E e l t 0 w hG (nilS w) (Nat.le_refl _) (nilT w) (Nat.le_refl _) (Kd.F_now h1) l1 (Kd.F_now h2) (Nat.zero_le _) (Kd.F_now h3) l2 h
theorem scalarC (hG : Glob w) (h : drivers_Scalar.f 12 1 0 ⟨#[]⟩ [] [] = some true) : Calls Try.prog 17 #[tv] w fun e w' => e = .returned (.bool true) ∧ Below w.heap.size w w' :=
 drivers_Scalar.calls 12 1 0 ⟨#[]⟩ none 0 [] none 0 [] true w hG (nilS w) (Nat.le_refl _) (nilT w) (Nat.le_refl _) h
theorem isC (b : Int) (l : List S63) (v : Value) (hG : Glob w) (hv : PL w S b l v) (h : drivers_Is.f 12 1 0 ⟨#[]⟩ [] [] 1 0 [b] [] l = some true) : Calls Try.prog 19 #[tv, v] w fun e w' => e = .returned (.bool true) ∧ Below w.heap.size w w' := by
 obtain ⟨A, c, B, d, E, e, rfl, l1, l2, h1, h2, h3⟩ := hv
 exact drivers_Is.calls 12 1 0 ⟨#[]⟩ none 0 [] none 0 [] 1 0 A c [b] B d [] E e l true w hG (nilS w) (Nat.le_refl _) (nilT w) (Nat.le_refl _) (Kd.F_now h1) l1 (Kd.F_now h2) (Nat.zero_le _) (Kd.F_now h3) l2 h
theorem resolveC (hS : ∀ k, w.heap.size ≤ k → S k) (b : Int) (l : List S30) (A : Option Addr) (c : Nat) (hG : Glob w) (hl : l.length ≤ c) (hA : Kd.F k30 w S A l.length l) (h : PRs.drivers_Resolve.f 12 1 0 ⟨#[]⟩ [] [] l = some (1, 0, [b], [], 0)) :
  Calls Try.prog 30 #[tv, .slice A l.length c] w fun e w' => ∃ p, e = .returned (.tuple #[p, .int .i64 0]) ∧ VB w' S b p ∧ Below w.heap.size w w' := by
 refine (PRs.drivers_Resolve.calls 12 1 0 ⟨#[]⟩ none 0 [] none 0 [] S A c l 1 0 [b] [] 0 w hG (nilS w) (Nat.le_refl _) (nilT w) (Nat.le_refl _) (Kd.V_mk hl hA) h).mono ?_
 rintro e w' ⟨v2, v3, rfl, k2, k3, hb⟩
 have k2' := Kd.R_mono k2 (ok' := S) (fun k hk => hS k hk)
 have k3' := Kd.V_mono k3 (ok' := S) (fun k hk => hk.1.elim id (hS k))
 obtain ⟨A', c', rfl⟩ := Kd.R_slice k2'
 obtain ⟨B', d', rfl⟩ := Kd.V_slice k3'
 exact ⟨_, rfl, ⟨A', c', B', d', rfl, (Kd.R_reads' k2').2.1, Kd.R_F k2', Kd.V_F k3'⟩, hb⟩
theorem shapeC (b s t r : Int) (l l' : List S63) (v : Value) (hG : Glob w) (hv : PL w S b l v) (h : drivers_Shape.f 12 1 0 ⟨#[]⟩ [] [] 1 0 [b] [] l s t = some (l', r)) :
  Calls Try.prog 33 #[tv, v, .int .i64 s, .int .i64 t] w fun e w' => ∃ A c, e = .returned (.tuple #[.slice A l'.length c, .int .i64 r]) ∧ Below w.heap.size w w' := by
 obtain ⟨A, c, B, d, E, e, rfl, l1, l2, h1, h2, h3⟩ := hv
 refine (drivers_Shape.calls 12 1 0 ⟨#[]⟩ none 0 [] none 0 [] 1 0 S A c [b] S B d [] S E e l s t l' r w hG (nilS w) (Nat.le_refl _) (nilT w) (Nat.le_refl _) (Kd.V_mk l1 h1) (Kd.V_mk (Nat.zero_le _) h2) (Kd.V_mk l2 h3) h).mono ?_
 rintro e w' ⟨v2, rfl, k2, hb⟩
 obtain ⟨A', c', rfl⟩ := Kd.N_slice k2
 exact ⟨A', c', rfl, hb⟩
theorem assignC (hS : ∀ k, w.heap.size ≤ k → S k) (b u now d : Int) (l l' : List S63) (v : Value) (x : Bool) (A : Option Addr) (c : Nat) (N : Option Addr) (n : Nat) (hG : Glob w) (hv : PL w S b l v) (hA : Kd.F k30 w S A 1 [bv u]) (hc : 1 ≤ c) (hN : Kd.C (Kd.int .i64) w N 1 [d]) (hn : 1 ≤ n)
  (h : drivers_Assign.f 14 1 0 ⟨#[]⟩ [] [] 1 0 [b] [] l now [bv u] [d] x = some (1, 0, [b], [], l', 0)) :
  Calls Try.prog 38 #[tv, v, .int .i64 now, .slice A 1 c, .slice N 1 n, .bool x] w fun e w' => ∃ p, e = .returned (.tuple #[p, .int .i64 0]) ∧ PL w' S b l' p ∧ Below w.heap.size w w' := by
 obtain ⟨A', c', B, d', E, e, rfl, l1, l2, h1, h2, h3⟩ := hv
 refine (drivers_Assign.calls 14 1 0 ⟨#[]⟩ none 0 [] none 0 [] 1 0 A' c' [b] S B d' [] S E e l now S A c [bv u] N n [d] x 1 0 [b] [] l' 0 w hG (nilS w) (Nat.le_refl _) (nilT w) (Nat.le_refl _) (Kd.F_now h1) l1 (Kd.V_mk (Nat.zero_le _) h2) (Kd.V_mk l2 h3) (Kd.V_mk hc hA) hN hn h).mono ?_
 rintro e w' ⟨v2, v3, v4, rfl, k2, k3, k4, hb⟩
 obtain ⟨A2, c2, rfl⟩ := Kd.R_slice k2
 obtain ⟨B2, d2, rfl⟩ := Kd.V_slice k3
 obtain ⟨E2, e2, rfl⟩ := Kd.N_slice k4
 exact ⟨_, rfl, ⟨A2, c2, B2, d2, E2, e2, rfl, (Kd.R_reads' k2).2.1, (Kd.N_reads' k4).2.1, Kd.F_mono (Kd.R_F k2) hS, Kd.F_mono (Kd.V_F k3) (fun k hk => hk.1.elim (fun h => h.elim id (fun h => h.elim id id)) (hS k)), Kd.F_mono (Kd.N_F k4) (fun k hk => hk.1.elim (fun h => h.elim id (fun h => h.elim id id)) (hS k))⟩, hb⟩
end
theorem e_alike : PRs.r04Alike.f 9 1 0 [1] [] 1 0 [1] [] = some true := by kernel_rfl
theorem e_scalar : drivers_Scalar.f 12 1 0 ⟨#[]⟩ [] [] = some true := by kernel_rfl
theorem e_is : drivers_Is.f 12 1 0 ⟨#[]⟩ [] [] 1 0 [0] [] [tr 5 1, tr 7 0] = some true := by kernel_rfl
theorem e_next : drivers_Next.f 12 1 0 ⟨#[]⟩ [] [] 1 0 [0] [] [tr 5 1, tr 7 0] = some (5, 0) := by kernel_rfl
theorem e_resolve : PRs.drivers_Resolve.f 12 1 0 ⟨#[]⟩ [] [] [bv 3, bv 1] = some (1, 0, [1], [], 0) := by kernel_rfl
theorem e_shape1 : drivers_Shape.f 12 1 0 ⟨#[]⟩ [] [] 1 0 [0] [] [tr 5 1, tr 7 0] 6 9 = some ([], 5) := by kernel_rfl
theorem e_shape2 : drivers_Shape.f 12 1 0 ⟨#[]⟩ [] [] 1 0 [0] [] [tr 5 1, tr 7 0] 0 6 = some ([tr 5 1], 0) := by kernel_rfl
theorem e_assign1 : drivers_Assign.f 14 1 0 ⟨#[]⟩ [] [] 1 0 [0] [] [] 0 [bv 1] [5] false = some (1, 0, [0], [], [tr 5 1], 0) := by kernel_rfl
theorem e_assign2 : drivers_Assign.f 14 1 0 ⟨#[]⟩ [] [] 1 0 [0] [] [tr 5 1] 2 [bv 0] [5] false = some (1, 0, [0], [], [tr 7 0], 0) := by kernel_rfl
theorem e_assign3 : drivers_Assign.f 14 1 0 ⟨#[]⟩ [] [] 1 0 [0] [] [tr 5 1] 2 [bv 0] [5] true = some (1, 0, [0], [], [tr 5 1, tr 7 0], 0) := by kernel_rfl
end Go.Proofs.Ytojankgmedccdaa.Aw
