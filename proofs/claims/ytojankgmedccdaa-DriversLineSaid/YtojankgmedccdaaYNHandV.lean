/- Lemmas. -/
import Derived.Test.YtojankgmedccdaaYNPTyx0
import Derived.Test.YtojankgmedccdaaYNOwn4
namespace Go.Proofs.Ytojankgmedccdaa.Own
set_option linter.unusedSimpArgs false
open Go.RowKit PTy Wo
theorem Kd.BH {e base n c g : Nat} {w : World} {ok : Nat → Prop} {b : Addr} {xs : List S63} (h : Kd.V k63 e w base ok (.slice (some b) n c) xs) (d : ∀ k, ok k → k ≠ g)
    (hn : 0 < n := by first | omega | exact of_decide_eq_true (by assumption) | exact of_eq_true (by assumption) | exact Int.ofNat_lt.mp (of_decide_eq_true (by assumption)) | exact Int.ofNat_lt.mp (of_eq_true (by assumption))) : some g ≠ (Value.slice (some b) n c).ownBlock := by
  obtain ⟨r, _, o⟩ := Kd.K9 h; intro e; have j : b.block = g := by simpa [Value.ownBlock] using e.symm
  have m := o { w with heap := w.heap.setIfInBounds g (.cells #[] 0 (0, 0)) } (fun k q _ => by
    have := d k q; simp [Array.getElem?_setIfInBounds, Ne.symm this])
  obtain ⟨i, _, _, _, _, l, a, _⟩ := Cy m 0 (by decide) (by omega); cases l; have p : (b.add ((0 : Int).toNat * 5)).block = g := j; simp only [World.cell?, p] at a; rw [Array.getElem?_setIfInBounds] at a; simp only [if_true] at a; split at a
  · rename_i c1 _ _ h1; split at h1
    · simp at h1; obtain ⟨rfl, _⟩ := h1; simp at a
    · cases h1
  · cases a
end Go.Proofs.Ytojankgmedccdaa.Own
