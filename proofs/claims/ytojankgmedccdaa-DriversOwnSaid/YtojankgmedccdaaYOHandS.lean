/- Lemmas. -/
import Derived.LoopTactic
import Derived.Outline
import Derived.WalkLawsBesides
import Derived.StillTailTactics
import Derived.Deep.RegionWith
import Derived.Lib.Hide
import Derived.Test.YtojankgmedccdaaYOHandX
namespace Go.Proofs.Ytojankgmedccdaa.Hand
open Go.RowKit Own PTy Wo
attribute [local go_sem] BI BJ Ba Bc Ao Ap BL BM
set_option linter.unusedVariables false
set_option linter.unusedSimpArgs false
structure Sp (lo hi : Nat) (w w' : World) : Prop where
  below : Below lo w w'
  above : ∀ k, hi ≤ k → k < w.heap.size → w'.heap[k]? = w.heap[k]?
  other : ∀ (k : Nat) (cs : Array Value) (t : Nat), t ≠ 73 → w.heap[k]? = some (.cells cs t (0, 0)) → w'.heap[k]? = some (.cells cs t (0, 0))
  bits : ∀ (k : Nat) (cs : Array Value), w.heap[k]? = some (.cells cs 73 (0, 0)) → ∃ ds : Array Value, w'.heap[k]? = some (.cells ds 73 (0, 0)) ∧ ∀ (j : Nat) (x : Int), cs[j]? = some (.int .u8 x) → ∃ y : Int, ds[j]? = some (.int .u8 y)
theorem Sp.refl (lo hi : Nat) (w : World) : Sp lo hi w w := ⟨Below.refl _ _, fun _ _ _ => rfl, fun _ _ _ _ h => h, fun k cs h => ⟨cs, h, fun j x a => ⟨x, a⟩⟩⟩
theorem Sp.trans {lo hi : Nat} {a b c : World} (h : Sp lo hi a b) (k : Sp lo hi b c) : Sp lo hi a c :=
  ⟨h.below.trans k.below, fun i h1 h2 => (k.above i h1 (Nat.lt_of_lt_of_le h2 h.below.size)).trans (h.above i h1 h2), fun i cs t l e => k.other i cs t l (h.other i cs t l e), fun i cs e => by
    obtain ⟨ds, hd, h1⟩ := h.bits i cs e; obtain ⟨o, q, h2⟩ := k.bits i ds hd; exact ⟨o, q, fun j x r => by obtain ⟨y, s⟩ := h1 j x r; exact h2 j y s⟩⟩
theorem Sp.drew {lo hi : Nat} {a b : World} (h : Sp lo hi a b) : Sp lo hi a b.drew := h.trans ⟨Below.drew (Below.refl _ _), fun _ _ _ => rfl, fun _ _ _ _ h => h, fun k cs h => ⟨cs, h, fun j x c => ⟨x, c⟩⟩⟩
theorem Sp.set {lo hi g : Nat} {a b : World} {cs : Array Value} (h : Sp lo hi a b) (l : b.heap[g]? = some (.cells cs 73 (0, 0))) (h1 : lo ≤ g) (h2 : g < hi) (j : Nat) (y : Int) : Sp lo hi a (b.setCell ⟨g, j, none⟩ (.int .u8 y)) := by
  refine h.trans ⟨Below.setCell (Below.refl _ _) h1 _, fun k r _ => Below.heap_setCell _ _ _ _ (by show k ≠ g; omega), fun k ds t q hd => ?_, fun k ds hd => ?_⟩
  · rw [Below.heap_setCell _ _ _ _ (by
      show k ≠ g; intro e; rw [e, l] at hd; injection hd with hd; injection hd with _ hd _; exact q hd.symm)]
    exact hd
  · by_cases e : k = g
    · subst e; rw [l] at hd; injection hd with hd; injection hd with hd _ _; subst hd; refine ⟨cs.setIfInBounds j (.int .u8 y), CP l j _ rfl, fun i x c => ?_⟩; by_cases ei : j = i
      · subst ei; have o : j < cs.size := (Array.getElem?_eq_some_iff.1 c).1; exact ⟨y, by rw [Array.getElem?_setIfInBounds, if_pos rfl, if_pos o]⟩
      · exact ⟨x, by rw [Array.getElem?_setIfInBounds, if_neg ei]; exact c⟩
    · exact ⟨ds, (Below.heap_setCell _ _ _ _ e).trans hd, fun i x c => ⟨x, c⟩⟩
def BR (lo hi : Nat) (w : World) (A : Option Addr) (n : Nat) : Prop := n = 0 ∨ ∃ (g : Nat) (cs : Array Value), A = some ⟨g, 0, none⟩ ∧ lo ≤ g ∧ g < hi ∧ w.heap[g]? = some (.cells cs 73 (0, 0)) ∧ ∀ j : Nat, j < n → ∃ x : Int, cs[j]? = some (.int .u8 x)
theorem BR.step {lo hi n : Nat} {w w' : World} {A : Option Addr} (h : BR lo hi w A n) (c : Sp lo hi w w') : BR lo hi w' A n := by
  rcases h with h | ⟨g, cs, rfl, h1, h2, hc, a⟩
  · exact .inl h
  · obtain ⟨ds, hd, e⟩ := c.bits g cs hc; exact .inr ⟨g, ds, rfl, h1, h2, hd, fun j b => by obtain ⟨x, a⟩ := a j b; exact e j x a⟩
theorem BR.of {lo hi base n c : Nat} {w : World} {ok : Nat → Prop} {A : Option Addr} {l : List Int} (h : Kd.R (Kd.int .u8) 73 w base ok (.slice A n c) l) (q : lo ≤ base) (o : w.heap.size ≤ hi) : BR lo hi w A n := by
  obtain ⟨hn, _, k⟩ := Kd.CE h; subst hn; by_cases h0 : 0 < l.length
  · obtain ⟨g, cap, e, u, r, cells, a⟩ := Kd.Kw h h0; injection e with e _ _; subst e; refine .inr ⟨g, cells, rfl, by omega, by omega, a, fun j v => ?_⟩; obtain ⟨s, i, b⟩ := Kd.DX k (j : Int) (by omega) (by omega); cases i; rw [show (j : Int).toNat = j from rfl, Ji, Nat.zero_add] at b; exact ⟨_, (AO a j).symm.trans b⟩
  · exact .inl (by omega)
set_option maxHeartbeats 4000000 in
set_option maxRecDepth 100000 in
theorem GM (lo hi : Nat) (w : World) (g o n c t : Nat) (cs : Array Value) (A : Option Addr) (L : t ≠ 73) (hg : w.heap[g]? = some (.cells cs t (0, 0))) (ho : cs[o + 2]? = some (.slice A n c)) (hm : n ≤ 9223372036854775807) (r : BR lo hi w A n) :
    Calls Try.prog 41 #[.pointer (some ⟨g, o, none⟩)] w fun e w' => e = .returned (.tuple #[]) ∧ Sp lo hi w w' := by
  have J : w.cell? ⟨g, o + 2, none⟩ = some (.slice A n c) := by rw [AO hg (o + 2)]; exact ho
  have G := Aside0.mk hg; have I := Aside0.mk ho; have D := Aside0.mk r; clear hg ho r; go_enter Try.func41, Try.ntmps41; go_wp2; go_loopw [8] (fun v wr => ∃ x : Int, v = .int .i64 x ∧ 0 ≤ x ∧ x ≤ n ∧ Aside0 (Sp lo hi w wr)) (fun v _ => n - (intOf v).toNat)
  case atStart => exact ⟨0, rfl, by omega, by omega, ⟨Sp.refl _ _ _⟩⟩
  case round =>
    obtain ⟨x, rfl, O, h1, a⟩ := hrel; clear J; by_cases hlt : x < (n : Int)
    · rcases D.out.step a.out with e | ⟨g2, ds, e, l1, l2, hd, hx⟩
      · omega
      subst e; obtain ⟨y, B⟩ := hx x.toNat (by omega); have l := Aside0.mk hd; have q := Aside0.mk (And.intro l1 l2); have b : wr.cell? ⟨g, o + 2, none⟩ = some (.slice (some ⟨g2, 0, none⟩) n c) := (AO (a.out.other g cs t L G.out) (o + 2)).trans I.out; have i : wr.cell? ⟨g2, x.toNat, none⟩ = some (.int .u8 y) := (AO hd _).trans B; have h := AJ hd x.toNat; clear hd hx B l1 l2; go_wp2_with (fail); refine wp_region_still_tail 14 (by kernel_rfl) (by kernel_rfl) ?_; simp only [List.take_succ_cons, List.take_zero, List.drop_succ_cons, List.drop_zero]; still_step; still_step; still_step; still_step; still_step; still_step; still_step; still_step; still_step; still_step; still_step; still_step; still_step; still_step; refine wpStill_nil ?_; change wpList _ _ _ _ _ wr.drew; have s : wr.drew.cell? ⟨g, o + 2, none⟩ = some (.slice (some ⟨g2, 0, none⟩) n c) := b; have z : wr.drew.cell? ⟨g2, x.toNat, none⟩ = some (.int .u8 y) := i; have u : wr.drew.frozen? ⟨g2, x.toNat, none⟩ = false := h; have k := Aside0.mk a.out.drew; have j := Aside0.mk (show wr.drew.heap[g2]? = some (.cells ds 73 (0, 0)) from l.out); clear b i h a l; generalize wr.drew = T at *; go_wp2; refine ⟨⟨x + 1, rfl, by omega, by omega, ⟨k.out.set j.out q.out.1 q.out.2 _ _⟩⟩, ?_⟩; simp [intOf]; omega
    · go_wp2; go_end0; exact ⟨rfl, a.out⟩
end Go.Proofs.Ytojankgmedccdaa.Hand
