/- Lemmas. -/
import Derived.Test.YtojankgmedccdaaYOPTyx0
import Derived.Test.YtojankgmedccdaaYOOwn4
namespace Go.Proofs.Ytojankgmedccdaa.Own
set_option linter.unusedSimpArgs false
open Go.RowKit PTy Wo
theorem Kd.Ay {e base n c g : Nat} {w : World} {ok : Nat → Prop} {b : Addr} {xs : List S63} (h : Kd.V k63 e w base ok (.slice (some b) n c) xs) (i : ∀ k, ok k → k ≠ g)
    (hn : 0 < n := by first | omega | exact of_decide_eq_true (by assumption) | exact of_eq_true (by assumption) | exact Int.ofNat_lt.mp (of_decide_eq_true (by assumption)) | exact Int.ofNat_lt.mp (of_eq_true (by assumption))) : some g ≠ (Value.slice (some b) n c).ownBlock := by
  obtain ⟨v, _, r⟩ := Kd.LB h; intro e; have l : b.block = g := by simpa [Value.ownBlock] using e.symm
  have q := r { w with heap := w.heap.setIfInBounds g (.cells #[] 0 (0, 0)) } (fun k u _ => by
    have := i k u; simp [Array.getElem?_setIfInBounds, Ne.symm this])
  obtain ⟨j, _, _, _, _, o, a, _⟩ := Cq q 0 (by decide) (by omega); cases o; have s : (b.add ((0 : Int).toNat * 5)).block = g := l; simp only [World.cell?, s] at a; rw [Array.getElem?_setIfInBounds] at a; simp only [if_true] at a; split at a
  · rename_i c1 _ _ h1; split at h1
    · simp at h1; obtain ⟨rfl, _⟩ := h1; simp at a
    · cases h1
  · cases a
end Go.Proofs.Ytojankgmedccdaa.Own
