/- Lemmas. -/
import Derived.Test.YtojankgmedccdaaYLAwA
import Derived.Test.YtojankgmedccdaaYLPGnF28
namespace Go.Proofs.Ytojankgmedccdaa.Aw
open Go.RowKit Own PTy Hand PIs PAw Wo
set_option linter.unusedVariables false
set_option linter.unusedSimpArgs false
theorem Po {w : World} {g : Nat} {t : TypeId} {i j k l m : Value} (h : w.heap[g]? = some (.cells #[i, j, k, l, m] t (0, 0))) (a b c d e : Value) :
  (((((w.setCell ⟨g, 0, none⟩ a).setCell ⟨g, 1, none⟩ b).setCell ⟨g, 2, none⟩ c).setCell ⟨g, 3, none⟩ d).setCell ⟨g, 4, none⟩ e).heap[g]? = some (.cells #[a, b, c, d, e] t (0, 0)) :=
 CZ (CZ (CZ (CZ (CZ h 0 a rfl) 1 b rfl) 2 c rfl) 3 d rfl) 4 e rfl
section
variable {w : World} {S : Nat → Prop} {g : Nat} {b : Int} {l : List S63}
theorem NM {v u : Value} {j : Nat} (h : PL w (fun k => k ≠ g) b l v) : PL (w.setCell ⟨g, j, none⟩ u) (fun k => k ≠ g) b l v := by
 obtain ⟨A, c, B, d, E, e, h1, i, m, n, o, p⟩ := h; exact ⟨A, c, B, d, E, e, h1, i, m, Kd.JI n (fun _ a => a) u, Kd.JI o (fun _ a => a) u, Kd.JI p (fun _ a => a) u⟩
end
theorem O5 : PGn.Av.f 12 1 0 ⟨#[]⟩ [] [] 1 0 [0] [] [tr 5 1, tr 7 0] 5 = some (1, 0, [1], [], [tr 7 0], true, 0) := by kernel_rfl
theorem takeC (w : World) (q : EG w) (v : Value) (s : PL w (fun _ => True) 0 [tr 5 1, tr 7 0] v) :
  Calls Try.prog 28 #[tv, v, .int .i64 5] w fun e w' => ∃ p, e = .returned (.tuple #[p, .bool true, .int .i64 0]) ∧ PL w' (fun _ => True) 1 [tr 7 0] p ∧ Below w.heap.size w w' := by
 obtain ⟨A, c, B, d, E, e, rfl, l1, l2, h1, n, o⟩ := s
 refine (PGn.Av.calls 12 1 0 ⟨#[]⟩ none 0 [] none 0 [] 1 0 A c [0] (fun _ => True) B d [] (fun _ => True) E e [tr 5 1, tr 7 0] 5 1 0 [1] [] [tr 7 0] true 0 w q (Kz w) (Nat.le_refl _) (K3 w) (Nat.le_refl _) (Kd.El h1) l1 (Kd.Dm (Nat.zero_le _) n) (Kd.Dm l2 o) O5).mono ?_
 rintro e w' ⟨v2, v3, v4, rfl, a, g, b, r⟩
 obtain ⟨h, k, rfl⟩ := Kd.Bt a
 obtain ⟨i, l, rfl⟩ := Kd.CG g
 obtain ⟨j, m, rfl⟩ := Kd.CY b
 exact ⟨_, rfl, ⟨h, k, i, l, j, m, rfl, (Kd.DX a).2.1, (Kd.DR b).2.1, Kd.Cz (Kd.R_F a) (fun _ _ => trivial), Kd.Cz (Kd.V_F g) (fun _ _ => trivial), Kd.Cz (Kd.N_F b) (fun _ _ => trivial)⟩, r⟩
end Go.Proofs.Ytojankgmedccdaa.Aw
