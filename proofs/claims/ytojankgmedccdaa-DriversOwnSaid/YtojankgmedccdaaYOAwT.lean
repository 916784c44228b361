/- Lemmas. -/
import Derived.Test.YtojankgmedccdaaYOAwA
import Derived.Test.YtojankgmedccdaaYOPFrT
namespace Go.Proofs.Ytojankgmedccdaa.Aw
open Go.RowKit Own PTy Hand PIs PAw Wo
set_option linter.unusedVariables false
set_option linter.unusedSimpArgs false
theorem Qt {w : World} {g : Nat} {t : TypeId} {i j k l o : Value} (h : w.heap[g]? = some (.cells #[i, j, k, l, o] t (0, 0))) (a b c d e : Value) :
  (((((w.setCell ⟨g, 0, none⟩ a).setCell ⟨g, 1, none⟩ b).setCell ⟨g, 2, none⟩ c).setCell ⟨g, 3, none⟩ d).setCell ⟨g, 4, none⟩ e).heap[g]? = some (.cells #[a, b, c, d, e] t (0, 0)) :=
 CP (CP (CP (CP (CP h 0 a rfl) 1 b rfl) 2 c rfl) 3 d rfl) 4 e rfl
section
variable {w : World} {S : Nat → Prop} {g : Nat} {b : Int} {l : List S63}
theorem OM {v u : Value} {j : Nat} (h : PL w (fun k => k ≠ g) b l v) : PL (w.setCell ⟨g, j, none⟩ u) (fun k => k ≠ g) b l v := by
 obtain ⟨A, c, B, d, E, e, h1, h2, h3, h4, i, o⟩ := h; exact ⟨A, c, B, d, E, e, h1, h2, h3, Kd.JR h4 (fun _ a => a) u, Kd.JR i (fun _ a => a) u, Kd.JR o (fun _ a => a) u⟩
end
theorem P6 : PGn.Aj.f 12 1 0 ⟨#[]⟩ [] [] 1 0 [0] [] [tr 5 1, tr 7 0] 5 = some (1, 0, [1], [], [tr 7 0], true, 0) := by kernel_rfl
theorem takeC (w : World) (r : Dk w) (v : Value) (u : PL w (fun _ => True) 0 [tr 5 1, tr 7 0] v) :
  Calls Try.prog 28 #[tv, v, .int .i64 5] w fun e w' => ∃ p, e = .returned (.tuple #[p, .bool true, .int .i64 0]) ∧ PL w' (fun _ => True) 1 [tr 7 0] p ∧ Below w.heap.size w w' := by
 obtain ⟨A, c, B, d, E, e, rfl, l1, l2, h1, h2, h3⟩ := u
 refine (PGn.Aj.Dp (fun _ => True) 12 1 0 ⟨#[]⟩ none 0 [] none 0 [] 1 0 A c [0] (fun _ => True) B d [] (fun _ => True) E e [tr 5 1, tr 7 0] 5 1 0 [1] [] [tr 7 0] true 0 w r (LY w) (Nat.le_refl _) (LZ w) (Nat.le_refl _) (Kd.El h1) l1 (Kd.Cs (Nat.zero_le _) h2) (Kd.Cs l2 h3) (.inr fun _ _ => trivial) (fun _ _ => .inr fun _ _ => trivial) P6).mono ?_
 rintro e w' ⟨v2, v3, v4, rfl, a, h, b, s⟩
 obtain ⟨i, l, rfl⟩ := Kd.Bo a
 obtain ⟨j, o, rfl⟩ := Kd.DN h
 obtain ⟨k, q, rfl⟩ := Kd.Dq b
 exact ⟨_, rfl, ⟨i, l, j, o, k, q, rfl, (Kd.CE a).2.1, (Kd.Ff b).2.1, Kd.Cn (Kd.R_F a) (fun _ _ => trivial), Kd.Cn (Kd.V_F h) (fun _ _ => trivial), Kd.Cn (Kd.N_F b) (fun _ _ => trivial)⟩, s⟩
end Go.Proofs.Ytojankgmedccdaa.Aw
