/- Lemmas. -/
import Derived.Test.YtojankgmedccdaaYNAwA
import Derived.Test.YtojankgmedccdaaYNPGnF28
namespace Go.Proofs.Ytojankgmedccdaa.Aw
open Go.RowKit Own PTy Hand PIs PAw Wo
set_option linter.unusedVariables false
set_option linter.unusedSimpArgs false
theorem Ow {w : World} {g : Nat} {t : TypeId} {i j k l m : Value} (h : w.heap[g]? = some (.cells #[i, j, k, l, m] t (0, 0))) (a b c d e : Value) :
  (((((w.setCell ⟨g, 0, none⟩ a).setCell ⟨g, 1, none⟩ b).setCell ⟨g, 2, none⟩ c).setCell ⟨g, 3, none⟩ d).setCell ⟨g, 4, none⟩ e).heap[g]? = some (.cells #[a, b, c, d, e] t (0, 0)) :=
 CU (CU (CU (CU (CU h 0 a rfl) 1 b rfl) 2 c rfl) 3 d rfl) 4 e rfl
section
variable {w : World} {S : Nat → Prop} {g : Nat} {b : Int} {l : List S63}
theorem N9 {v u : Value} {j : Nat} (h : PL w (fun k => k ≠ g) b l v) : PL (w.setCell ⟨g, j, none⟩ u) (fun k => k ≠ g) b l v := by
 obtain ⟨A, c, B, d, E, e, h1, i, m, n, o, p⟩ := h; exact ⟨A, c, B, d, E, e, h1, i, m, Kd.Jj n (fun _ a => a) u, Kd.Jj o (fun _ a => a) u, Kd.Jj p (fun _ a => a) u⟩
end
theorem Pg : PGn.Ao.f 12 1 0 ⟨#[]⟩ [] [] 1 0 [0] [] [tr 5 1, tr 7 0] 5 = some (1, 0, [1], [], [tr 7 0], true, 0) := by kernel_rfl
theorem takeC (w : World) (q : EP w) (v : Value) (s : PL w (fun _ => True) 0 [tr 5 1, tr 7 0] v) :
  Calls Try.prog 28 #[tv, v, .int .i64 5] w fun e w' => ∃ p, e = .returned (.tuple #[p, .bool true, .int .i64 0]) ∧ PL w' (fun _ => True) 1 [tr 7 0] p ∧ Below w.heap.size w w' := by
 obtain ⟨A, c, B, d, E, e, rfl, l1, l2, h1, n, o⟩ := s
 refine (PGn.Ao.calls 12 1 0 ⟨#[]⟩ none 0 [] none 0 [] 1 0 A c [0] (fun _ => True) B d [] (fun _ => True) E e [tr 5 1, tr 7 0] 5 1 0 [1] [] [tr 7 0] true 0 w q (LW w) (Nat.le_refl _) (LX w) (Nat.le_refl _) (Kd.Ew h1) l1 (Kd.Di (Nat.zero_le _) n) (Kd.Di l2 o) Pg).mono ?_
 rintro e w' ⟨v2, v3, v4, rfl, a, g, b, r⟩
 obtain ⟨h, k, rfl⟩ := Kd.Bt a
 obtain ⟨i, l, rfl⟩ := Kd.CL g
 obtain ⟨j, m, rfl⟩ := Kd.Ct b
 exact ⟨_, rfl, ⟨h, k, i, l, j, m, rfl, (Kd.Cg a).2.1, (Kd.EE b).2.1, Kd.Cw (Kd.R_F a) (fun _ _ => trivial), Kd.Cw (Kd.V_F g) (fun _ _ => trivial), Kd.Cw (Kd.N_F b) (fun _ _ => trivial)⟩, r⟩
end Go.Proofs.Ytojankgmedccdaa.Aw
