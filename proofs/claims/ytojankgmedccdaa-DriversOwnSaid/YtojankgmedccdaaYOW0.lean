/- Lemmas. -/
import Derived.Below
import Derived.Deep.Draws
import Derived.Deep.AppendLies
import Derived.Maps.AppendAt
import Derived.OwnWalk
import Derived.Laws.BytesArg
import Derived.Laws.MakeOwn
import Derived.Laws.OwnMore
import Derived.Deep.OwnRows
import Derived.Tactics
import Derived.Lib.ConvBytes
import Derived.Laws.Slices
import Derived.WalkKit
import Derived.KernelRfl
import Derived.RowKit3
import Derived.Deep.LoopGhost
import Derived.Deep.QuietTactic
import Derived.BigQuiet
import Derived.WideLaws
import Derived.Deep.DeepCutAuto
import Derived.Deep.CutBlock
import Derived.Deep.RegionHeld3
import Derived.Laws.Rows
import Derived.Lib.AppendStr
import Derived.ArgAppend
import Derived.Laws.IdiomCopy
import Derived.RowKit
import Derived.OrdersHeld
import Derived.Laws.BitsLemmas
import Derived.Laws.StructEq
section
set_option linter.unusedVariables false
set_option linter.unusedSimpArgs false
namespace Go.Proofs.Ytojankgmedccdaa.Wo
open Go.RowKit
structure Aside0 (p : Prop) : Prop where mk :: (out : p)
structure Aq (w w' : World) : Prop where mk :: (out : ∃ n, w' = w.drewN n)
theorem Aq.refl (w : World) : Aq w w := ⟨⟨0, rfl⟩⟩
theorem Aq.step {w w' : World} (h : Aq w w') (n : Nat) : Aq w (w'.drewN n) := by
  obtain ⟨m, rfl⟩ := h; exact ⟨⟨m + n, World.drewN_drewN ..⟩⟩
def rd (xs : List Int) (i : Int) : Int := xs.getD i.toNat 0
def bt (s : ByteArray) (i : Int) : Int := if h : i.toNat < s.size then ((s[i.toNat]'h).toNat : Int) else 0
theorem Ll (s : ByteArray) (i : Int) : ∀ h : i.toNat < s.size, ((s[i.toNat]'h).toNat : Int) = bt s i := fun h => by simp [bt, h]
theorem AV {w W : World} (h : Below w.heap.size w W) (o : Obj) : Below w.heap.size w (W.alloc o) := h.alloc h.size o
theorem Fq {B : Nat} {w W : World} (h : Below B w W) : Below B w W.drew := ⟨h.os, h.tape, h.output, h.size, h.block⟩
theorem Ai {B : Nat} {w W : World} (h : Below B w W) (n : Nat) : Below B w (W.drewN n) := ⟨h.os, h.tape, h.output, h.size, h.block⟩
theorem Kq {B : Nat} {w w1 a : World} (h : Below B w w1) (b : B ≤ w1.heap.size) (k : Below w1.heap.size w1 a) : Below B w a :=
  h.trans ⟨k.os, k.tape, k.output, k.size, fun i hi => k.block i (Nat.lt_of_lt_of_le hi b)⟩
theorem JF {w w1 : World} (h : Below w.heap.size w w1) {a : Addr} {v : Value} (b : w.cell? a = some v) : w1.cell? a = some v := (h.cell (World.block_lt_of_cell? w a b)).trans b
theorem add_plain (g j : Nat) : (⟨g, 0, none⟩ : Addr).add j = ⟨g, j, none⟩ := by unfold Addr.add; split <;> simp_all
theorem Om (W : World) (base : Nat) (e : TypeId) (size : Nat) : W.ownsRow base e size (.slice none 0 0) 0 [] := ⟨by simp, .inl ⟨rfl, rfl⟩⟩
theorem Fb {w : World} {base : Nat} {e : TypeId} {size n : Nat} {v : Value} {xs : List Value} (h : w.ownsRow base e size v n xs) (k : Nat) (a : v.ownBlock = some k) : base ≤ k := by
  rcases h.2 with ⟨rfl, _⟩ | ⟨g, cap, cur, rfl, hb, _⟩
  · simp [Value.ownBlock] at a
  · have : g = k := by simpa [Value.ownBlock] using a
    omega
theorem NC {w : World} {base : Nat} {e : TypeId} {size n : Nat} {v : Value} {xs : List Value} (h : w.ownsRow base e size v n xs) (k : Nat) (a : v.ownBlock = some k) : k < w.heap.size := by
  rcases h.2 with ⟨rfl, _⟩ | ⟨g, cap, cur, rfl, hb, hh, _⟩
  · simp [Value.ownBlock] at a
  · have : g = k := by simpa [Value.ownBlock] using a
    subst this; exact (Array.getElem?_eq_some_iff.1 hh).1
section
variable {P : Program} {ops : Array Oper} {rest : List Oper} {o : Oper} {a : Act} {Q : Exit → Act → World → Prop}
end
section
variable {P : Program}
end
section
variable {P : Program} {ops : Array Oper} {rest : List Oper} {o : Oper} {a : Act} {Q : Exit → Act → World → Prop}
end
def Cu {α : Type} (R : α → List Value → Prop) (size : Nat) (ps : List α) (cs : List Value) : Prop :=
  cs.length = ps.length * size ∧ ∀ j p, ps[j]? = some p → R p ((cs.drop (j * size)).take size)
theorem Cu.none {α : Type} (R : α → List Value → Prop) (size : Nat) : Cu R size [] [] := ⟨by simp, fun j p h => by simp at h⟩
theorem Cu.snoc {α : Type} {R : α → List Value → Prop} {size : Nat} {ps : List α} {cs c : List Value} {p : α} (h : Cu R size ps cs) (hp : R p c) (i : c.length = size) : Cu R size (ps ++ [p]) (cs ++ c) := by
  refine ⟨by rw [List.length_append, h.1, i, List.length_append, List.length_singleton, Nat.add_mul, Nat.one_mul], fun j q a => ?_⟩; rcases Nat.lt_or_ge j ps.length with hj | hj
  · rw [List.getElem?_append_left hj] at a; have h1 : j * size + size ≤ cs.length := by rw [h.1, ← Nat.succ_mul]; exact Nat.mul_le_mul_right _ hj
    have h2 := h.2 j q a; rw [List.drop_append_of_le_length (by omega), List.take_append_of_le_length (by rw [List.length_drop]; omega)]; exact h2
  · have b : j = ps.length := by
      have := (List.getElem?_eq_some_iff.1 a).1; rw [List.length_append, List.length_singleton] at this; omega
    subst b; have e : p = q := by simpa using a
    subst e; rw [← h.1, List.drop_left, ← i, List.take_length]; exact hp
theorem Cu.FT {α : Type} {R R' : α → List Value → Prop} {size : Nat} {ps : List α} {cs : List Value} (h : Cu R size ps cs) (a : ∀ p c, R p c → R' p c) : Cu R' size ps cs := ⟨h.1, fun j p b => a _ _ (h.2 j p b)⟩
def Ci {α : Type} (R : α → List Value → Prop) (size : Nat) (w : World) (A : Option Addr) (n : Nat) (ps : List α) : Prop :=
  ps.length = n ∧ n ≤ 9223372036854775807 ∧ (0 < n → ∃ ad, A = some ad ∧ ∀ j p, ps[j]? = some p → ∃ c, c.length = size ∧ R p c ∧ ∀ i u, c[i]? = some u → w.cell? (ad.add (j * size + i)) = some u)
theorem Ci.RI {α : Type} {R : α → List Value → Prop} {size : Nat} {w : World} {A : Option Addr} {n : Nat} {ps : List α} (h : Ci R size w A n ps) (d : α) (i : Int) (l : 0 ≤ i) (h1 : i < n) :
    ∃ ad c, A = some ad ∧ c.length = size ∧ R (ps.getD i.toNat d) c ∧ ∀ j u, c[j]? = some u → w.cell? (ad.add (i.toNat * size + j)) = some u := by
  obtain ⟨ad, e, k⟩ := h.2.2 (by omega); have b : i.toNat < ps.length := by have := h.1; omega
  obtain ⟨c, hs, hr, a⟩ := k i.toNat _ (List.getElem?_eq_getElem b); refine ⟨ad, c, e, hs, ?_, a⟩; rw [List.getD_eq_getElem?_getD, List.getElem?_eq_getElem b]; exact hr
theorem Ci.FT {α : Type} {R R' : α → List Value → Prop} {size : Nat} {w w1 : World} {A : Option Addr} {n : Nat} {ps : List α} (h : Ci R size w A n ps) (k : Below w.heap.size w w1) (b : ∀ p c, R p c → R' p c) : Ci R' size w1 A n ps :=
  ⟨h.1, h.2.1, fun hn => by
    obtain ⟨ad, e, l⟩ := h.2.2 hn; refine ⟨ad, e, fun j p o => ?_⟩; obtain ⟨c, hs, hr, a⟩ := l j p o; exact ⟨c, hs, b _ _ hr, fun i u q => JF k (a i u q)⟩⟩
theorem JG {α : Type} {R : α → List Value → Prop} {w : World} {base n size : Nat} {e : TypeId} {v : Value} {ps : List α} {cs : List Value} (h : w.ownsRow base e size v n cs) (k : Cu R size ps cs) (hn : ps.length = n) :
    ∃ A c, v = .slice A n c ∧ Ci R size w A n ps := by
  rcases Nat.eq_zero_or_pos n with h0 | h0
  · rcases h.2 with ⟨rfl, rfl⟩ | ⟨g, cap, cur, rfl, _⟩
    · exact ⟨none, 0, rfl, hn, by omega, fun hp => absurd hp (by omega)⟩
    · exact ⟨_, cap, rfl, hn, by omega, fun hp => absurd hp (by omega)⟩
  · obtain ⟨g, cap, rfl, _, _⟩ := h.form h0; have hm : n ≤ 9223372036854775807 := by
      rcases h.2 with ⟨_, h1⟩ | ⟨g', cap', cur, he, _, _, h1, h2, _⟩
      · omega
      · simp only [maxLen] at h2; omega
    refine ⟨_, cap, rfl, hn, hm, fun _ => ⟨_, rfl, fun j p l => ⟨(cs.drop (j * size)).take size, ?_, k.2 j p l, fun i u a => ?_⟩⟩⟩
    · have b := (List.getElem?_eq_some_iff.1 l).1; have h1 : j * size + size ≤ cs.length := by rw [k.1, ← Nat.succ_mul]; exact Nat.mul_le_mul_right _ b
      rw [List.length_take, List.length_drop]; omega
    · refine h.cells (g := g) rfl _ u ?_; rw [List.getElem?_take] at a; split at a
      · rw [List.getElem?_drop] at a; exact a
      · cases a
theorem BX (ad : Addr) (m j : Nat) (a : 0 < j) : ad.add (m + j) = ⟨(ad.add m).block, (ad.add m).off + j, none⟩ := by
  unfold Addr.add; by_cases hm : m = 0
  · subst hm; simp [Nat.ne_of_gt a]
  · simp [hm, Nat.add_assoc]
section
variable {P : Program} {ops : Array Oper} {rest : List Oper} {o : Oper} {a : Act} {Q : Exit → Act → World → Prop}
theorem Gp {w0 W : World} (base : Nat) (w : o.guard = none) (s x : Operand) (t e : TypeId) (z : Value) (size bytes : Nat)
    (ho : o.op = .call { callee := .builtin .append, args := #[s, x], argTypes := #[t, t] })
    (X : P.underlying t = some (.slice e)) (k : (P.info? e).map (fun i => (i.zero, i.size, i.bytes)) = some (some z, size, bytes)) (Z : z.cells.size = size) (B : 0 < size) (r : 0 < bytes)
    (v : Value) (n : Nat) (xs ys : List Value) (hs : a.eval s = v) (Y : a.eval x = .slice (some ⟨W.heap.size, 0, none⟩) 1 1) (D : ys.length = size) (h1 : ∀ u ∈ ys, u.oneCell' = true)
    (L : W.ownsRow base e size v n xs) (U : Below base w0 W) (j : base ≤ W.heap.size) (O : (n + 1) * bytes ≤ 140737488355328)
    (h : ∀ v1 w1, w1.ownsRow base e size v1 (n + 1) (xs ++ ys) → Below base w0 w1 → W.grownBy w1 v.ownBlock → (v1.ownBlock = v.ownBlock ∨ ∃ b, v1.ownBlock = some b ∧ W.heap.size ≤ b) → wpList P ops Q rest (a.put o.dst v1) w1) :
    wpList P ops Q (o :: rest) a (W.alloc (.cells ys.toArray e)) := by
  obtain ⟨i0, hi, q⟩ := Option.map_eq_some_iff.1 k; simp only [Prod.mk.injEq] at q; obtain ⟨G, I, J⟩ := q; have T : n + 1 ≤ 140737488355328 := Nat.le_trans (Nat.le_mul_of_pos_right _ r) O; refine wpList_append_own_at (W.alloc (.cells ys.toArray e)) w s x t ho base e i0 z size bytes X hi G I J Z B v n xs hs (L.alloc _) ⟨W.heap.size, 0, none⟩ 1 1 ys Y (by rw [D]; simp)
    (by simpa using World.news_of_block (cs := ys.toArray) (t := e) (fr := (0, 0)) (heap_alloc_new W (.cells ys.toArray e))) h1 (by simp only [maxLen]; omega) O (by simp; omega) ?_
  intro v1 w1 l hg _ c; refine h v1 w1 l ((U.alloc j _).grown hg (by simp; omega) (Fb L)) (World.grownBy.trans (World.grownBy_alloc W _ _) hg) ?_; rcases c with c | c
  · exact .inl c
  · exact .inr ⟨_, c, by simp⟩
end
theorem own_ne {w : World} {base : Nat} {e t : TypeId} {size n g : Nat} {v : Value} {xs : List Value} {cs : Array Value} (h : w.ownsRow base e size v n xs) (hg : w.heap[g]? = some (.cells cs t (0, 0))) (a : e ≠ t) : some g ≠ v.ownBlock := by
  rcases h.2 with ⟨rfl, _⟩ | ⟨b, cap, cur, rfl, _, hh, _⟩
  · simp [Value.ownBlock]
  · intro c; have : g = b := by simpa [Value.ownBlock] using c
    subst this; rw [hg] at hh; injection hh with hh; injection hh with _ ht; exact a ht.symm
theorem Oo {w : World} {g : Nat} {t : TypeId} {cs : Array Value} (h : w.heap[g]? = some (.cells cs t (0, 0))) (i : Nat) (u : Value) : (w.setCell ⟨g, i, none⟩ u).heap[g]? = some (.cells (cs.setIfInBounds i u) t (0, 0)) := by
  simp [World.setCell, Array.getElem?_modify, h]
theorem ED {w : World} {g : Nat} {t : TypeId} {cs : Array Value} (h : w.heap[g]? = some (.cells cs t (0, 0))) {p : Addr} (hp : g ≠ p.block) (u : Value) : (w.setCell p u).heap[g]? = some (.cells cs t (0, 0)) := (Below.heap_setCell w p u g hp).trans h
theorem Dx {w : World} {g : Nat} {o : Obj} (h : w.heap[g]? = some o) : g < w.heap.size := (Array.getElem?_eq_some_iff.1 h).1
theorem AO {w : World} {g : Nat} {t : TypeId} {cs : Array Value} (h : w.heap[g]? = some (.cells cs t (0, 0))) (i : Nat) : w.cell? ⟨g, i, none⟩ = cs[i]? := cell_of_row w g i cs t (0, 0) h
theorem AJ {w : World} {g : Nat} {t : TypeId} {cs : Array Value} (h : w.heap[g]? = some (.cells cs t (0, 0))) (i : Nat) : w.frozen? ⟨g, i, none⟩ = false := by simp [World.frozen?, h]
theorem Bg {w w1 : World} {g : Nat} {o : Obj} {row : Option Nat} (h : w.heap[g]? = some o) (hg : w.grownBy w1 row) (a : some g ≠ row) : w1.heap[g]? = some o := (hg.block g (Dx h) a).trans h
def Ev {α : Type} (g : Nat → Option α) (r : α) : Prop := ∃ K, ∀ k, K ≤ k → g k = some r
theorem Ev.now {α : Type} (r : α) : Ev (fun _ => some r) r := ⟨0, fun _ _ => rfl⟩
theorem Ev.bind {α β : Type} {g : Nat → Option α} {f : Nat → α → Option β} {a : α} {r : β} (h : Ev g a) (k : Ev (fun n => f n a) r) : Ev (fun n => (g n).bind (f n)) r := by
  obtain ⟨K, h⟩ := h; obtain ⟨b, k⟩ := k; refine ⟨max K b, fun n hn => ?_⟩; have h1 := h n (by omega); have h2 := k n (by omega); simp only [h1, Option.bind_some]; exact h2
theorem Ev.step {α : Type} {g f : Nat → Option α} {r : α} (h : ∀ k, g (k + 1) = f k) (k : Ev f r) : Ev g r := by
  obtain ⟨K, k⟩ := k; refine ⟨K + 1, fun n hn => ?_⟩; obtain ⟨m, rfl⟩ : ∃ m, n = m + 1 := ⟨n - 1, by omega⟩; rw [h]; exact k m (by omega)
theorem Ev.congr {α : Type} {g f : Nat → Option α} {r : α} (h : ∀ k, g k = f k) (k : Ev f r) : Ev g r := by
  obtain ⟨K, k⟩ := k; exact ⟨K, fun n hn => (h n).trans (k n hn)⟩
section
variable {P : Program} {ops : Array Oper} {o : Oper} {a : Act} {Q : Exit → Act → World → Prop} {K : Act → World → Prop}
theorem G5 {w0 W : World} (base : Nat) (X : Region.wanted o (yielded ops a.tmps) = true) (s x : Operand) (t e : TypeId) (z : Value) (size bytes : Nat)
    (ho : o.op = .call { callee := .builtin .append, args := #[s, x], argTypes := #[t, t] })
    (U : P.underlying t = some (.slice e)) (k : (P.info? e).map (fun i => (i.zero, i.size, i.bytes)) = some (some z, size, bytes)) (Z : z.cells.size = size) (w : 0 < size) (r : 0 < bytes)
    (v : Value) (n : Nat) (xs ys : List Value) (hs : a.eval s = v) (Y : a.eval x = .slice (some ⟨W.heap.size, 0, none⟩) 1 1) (B : ys.length = size) (h1 : ∀ u ∈ ys, u.oneCell' = true)
    (J : W.ownsRow base e size v n xs) (T : Below base w0 W) (j : base ≤ W.heap.size) (L : (n + 1) * bytes ≤ 140737488355328)
    (h : ∀ v1 w1, w1.ownsRow base e size v1 (n + 1) (xs ++ ys) → Below base w0 w1 → W.grownBy w1 v.ownBlock → (v1.ownBlock = v.ownBlock ∨ ∃ b, v1.ownBlock = some b ∧ W.heap.size ≤ b) → K (a.put o.dst v1) w1) :
    if Region.wanted o (yielded ops a.tmps) = true then Oper.wp P o a (W.alloc (.cells ys.toArray e)) K Q else K (a.put o.dst undef) (W.alloc (.cells ys.toArray e)) := by
  obtain ⟨i0, hi, q⟩ := Option.map_eq_some_iff.1 k; simp only [Prod.mk.injEq] at q; obtain ⟨D, G, I⟩ := q; have O : n + 1 ≤ 140737488355328 := Nat.le_trans (Nat.le_mul_of_pos_right _ r) L; rw [if_pos X]; obtain ⟨v1, w1, hr, l, hg, _, c⟩ := run_append_own_at (P := P) (W.alloc (.cells ys.toArray e)) base t o.type e i0 z size bytes U hi D G I Z w v n xs (J.alloc _) ⟨W.heap.size, 0, none⟩ 1 1 ys (by rw [B]; simp)
    (by simpa using World.news_of_block (cs := ys.toArray) (t := e) (fr := (0, 0)) (heap_alloc_new W (.cells ys.toArray e))) h1 (by simp only [maxLen]; omega) L (by simp; omega)
  unfold Oper.wp execOp; simp only [ho, resolve, invoke, builtin, Sem.run_bind, Sem.run_pure, Result.andThen_ok, List.map_toArray, List.map_cons, List.map_nil, hs, Y, hr]; refine h v1 w1 l ((T.alloc j _).grown hg (by simp; omega) (Fb J)) (World.grownBy.trans (World.grownBy_alloc W _ _) hg) ?_; rcases c with c | c
  · exact .inl c
  · exact .inr ⟨_, c, by simp⟩
end
theorem Kr {w : World} {base base' : Nat} {e : TypeId} {size n : Nat} {v : Value} {xs : List Value} (h : w.ownsRow base e size v n xs) (a : base' ≤ base) : w.ownsRow base' e size v n xs := by
  obtain ⟨h1, h2⟩ := h; refine ⟨h1, ?_⟩; rcases h2 with h2 | ⟨g, cap, cur, rfl, hg, r⟩
  · exact .inl h2
  · exact .inr ⟨g, cap, cur, rfl, Nat.le_trans a hg, r⟩
section
variable {α : Type} {enc : α → Value} {d : α}
def Ec (d : α) (xs : List α) (i : Int) : α := xs.getD i.toNat d
def EE (enc : α → Value) (d : α) (w : World) (A : Option Addr) (n : Nat) (xs : List α) : Prop :=
  xs.length = n ∧ n ≤ 9223372036854775807 ∧ (0 < n → ∃ ad, A = some ad ∧ ∀ j, j < n → w.cell? (ad.add j) = some (enc (xs.getD j d)))
theorem EE.at_ {w : World} {A : Option Addr} {n : Nat} {xs : List α} (h : EE enc d w A n xs) (i : Int) (b : 0 ≤ i) (h1 : i < n) : ∃ ad, A = some ad ∧ w.cell? (ad.add i.toNat) = some (enc (Ec d xs i)) := by
  obtain ⟨ad, e, a⟩ := h.2.2 (by omega); exact ⟨ad, e, a _ (by omega)⟩
theorem EE.Bn {w : World} {A : Option Addr} {n : Nat} {xs : List α} (h : EE enc d w A n xs) (i : Nat) (hi : i ≤ n) : EE enc d w A i (xs.take i) := by
  refine ⟨by rw [List.length_take, h.1]; omega, by have := h.2.1; omega, fun hp => ?_⟩; obtain ⟨ad, e, a⟩ := h.2.2 (by omega); refine ⟨ad, e, fun j b => ?_⟩; rw [a j (by omega)]; simp [List.getD_eq_getElem?_getD, b]
end
section
variable {α : Type} {P : Program} {ops : Array Oper} {rest : List Oper} {o : Oper} {a : Act} {Q : Exit → Act → World → Prop}
end
theorem Ac {w : World} {g : Nat} {o : Obj} (h : w.heap[g]? = some o) (a : Obj) : (w.alloc a).heap[g]? = some o := (Below.heap_alloc w a g (Dx h)).trans h
theorem Aa {w : World} {g : Nat} {o : Obj} (h : w.heap[g]? = some o) : w.drew.heap[g]? = some o := h
theorem BN {w : World} {g : Nat} {o : Obj} (h : w.heap[g]? = some o) (n : Nat) : (w.drewN n).heap[g]? = some o := h
theorem AL {w w1 : World} {g : Nat} {o : Obj} (h : w.heap[g]? = some o) (a : Below w.heap.size w w1) : w1.heap[g]? = some o := (a.block g (Dx h)).trans h
theorem En (w : World) (o : Obj) : (w.alloc o).heap[w.heap.size]? = some o := heap_alloc_new w o
section
variable {P : Program}
theorem DD {c : Func} {p u : Tmp} {a : TypeId} (h : c.results = #[.cell p a, .tmp u]) (tmps : Array Value) (w : World) (g : Nat) (t : TypeId) (cs : Array Value) (fr : Nat × Nat) (d : TypeDesc)
    (hp : tmps.getD p undef = .pointer (some ⟨g, 0, none⟩)) (hg : w.heap[g]? = some (.cells cs t fr))
    (e : P.underlying a = some d) (hd : (match d with | .struct _ | .array _ _ => true | _ => false) = true) (hi : (P.info? a).map (·.size) = some cs.size) :
    (results c tmps).run P w = .ok (.tuple #[.agg cs, tmps.getD u undef]) w := by
  have b : tmps[p]?.getD undef = .pointer (some ⟨g, 0, none⟩) := by simpa using hp
  simp [results, h, b, asAddr, run_loadVar_row w g t a cs fr d hg e hd hi]
theorem FH {c : Func} {p u v : Tmp} {a : TypeId} (h : c.results = #[.cell p a, .tmp u, .tmp v]) (tmps : Array Value) (w : World) (g : Nat) (t : TypeId) (cs : Array Value) (fr : Nat × Nat) (d : TypeDesc)
    (hp : tmps.getD p undef = .pointer (some ⟨g, 0, none⟩)) (hg : w.heap[g]? = some (.cells cs t fr))
    (e : P.underlying a = some d) (hd : (match d with | .struct _ | .array _ _ => true | _ => false) = true) (hi : (P.info? a).map (·.size) = some cs.size) :
    (results c tmps).run P w = .ok (.tuple #[.agg cs, tmps.getD u undef, tmps.getD v undef]) w := by
  have b : tmps[p]?.getD undef = .pointer (some ⟨g, 0, none⟩) := by simpa using hp
  simp [results, h, b, asAddr, run_loadVar_row w g t a cs fr d hg e hd hi]
end
theorem Pg {w : World} {base n m c size : Nat} {e : TypeId} {A : Option Addr} {xs : List Value} (h : w.ownsRow base e size (.slice A m c) n xs) : m ≤ c := by
  rcases h.2 with ⟨he, _⟩ | ⟨g, cap, cur, he, _, _, hnc, _⟩
  · injection he with _ h2 h3; omega
  · injection he with _ h2 h3; omega
def EH {α : Type} (R : α → List Value → Prop) (e : TypeId) (size : Nat) (w : World) (base : Nat) (v : Value) (ps : List α) : Prop :=
  ∃ inner, w.ownsRow base e size v ps.length inner ∧ Cu R size ps inner
section
variable {α : Type} {R R' : α → List Value → Prop} {e : TypeId} {size : Nat} {w w1 : World} {base : Nat} {v : Value} {ps : List α}
theorem EH.none_ (R : α → List Value → Prop) (e : TypeId) (size : Nat) (w : World) (base : Nat) : EH R e size w base (.slice none 0 0) [] := ⟨[], Om _ _ _ _, Cu.none _ _⟩
theorem EH.FT (h : EH R e size w base v ps) (a : ∀ p c, R p c → R' p c) : EH R' e size w base v ps := by
  obtain ⟨inner, ho, hr⟩ := h; exact ⟨inner, ho, hr.FT a⟩
theorem EH.reads (h : EH R e size w base v ps) : ∃ A c, v = .slice A ps.length c ∧ ps.length ≤ c ∧ Ci R size w A ps.length ps := by
  obtain ⟨inner, ho, hr⟩ := h; obtain ⟨A, c, rfl, a⟩ := JG ho hr rfl; exact ⟨A, c, rfl, Pg ho, a⟩
theorem EH.ND (h : EH R e size w base v ps) {g : Nat} {t : TypeId} {cells : Array Value} (a : w.heap[g]? = some (.cells cells t (0, 0))) (b : e ≠ t) : some g ≠ v.ownBlock := by
  obtain ⟨inner, ho, hr⟩ := h; exact own_ne ho a b
end
section
variable {P : Program} {ops : Array Oper} {rest : List Oper} {o : Oper} {a : Act} {Q : Exit → Act → World → Prop} {α : Type} {R : α → List Value → Prop}
end
section
variable {P : Program} {ops : Array Oper} {o : Oper} {a : Act} {Q : Exit → Act → World → Prop} {K : Act → World → Prop} {α : Type} {R : α → List Value → Prop}
end
theorem Ci.Kt {α : Type} {R : α → List Value → Prop} {size : Nat} {w : World} {ad : Addr} {n : Nat} {ps : List α} (h : Ci R size w (some ad) n ps) :
    ∃ inner, Cu R size ps inner ∧ ∀ j u, inner[j]? = some u → w.cell? (ad.add j) = some u := by
  have key : ∀ m, m ≤ ps.length → ∃ inner, Cu R size (ps.take m) inner ∧ ∀ j u, inner[j]? = some u → w.cell? (ad.add j) = some u := by
    intro m; induction m with
    | zero => exact fun _ => ⟨[], Cu.none _ _, fun j u b => by simp at b⟩
    | succ m r =>
      intro hm; obtain ⟨inner, hr, e⟩ := r (by omega); obtain ⟨q, l, a⟩ := h.2.2 (by have := h.1; omega); injection l with l; subst l; obtain ⟨c, k, hp, i⟩ := a m _ (List.getElem?_eq_getElem (show m < ps.length by omega)); refine ⟨inner ++ c, ?_, fun j u b => ?_⟩
      · rw [List.take_succ_eq_append_getElem (show m < ps.length by omega)]; exact hr.snoc hp k
      · have o : inner.length = m * size := by rw [hr.1, List.length_take, Nat.min_eq_left (by omega)]
        rcases Nat.lt_or_ge j inner.length with hj | hj
        · rw [List.getElem?_append_left hj] at b; exact e j u b
        · rw [List.getElem?_append_right hj] at b; have := i (j - inner.length) u b; rwa [o, Nat.add_sub_cancel' (by omega)] at this
  obtain ⟨inner, hr, e⟩ := key ps.length (Nat.le_refl _); rw [List.take_length] at hr; exact ⟨inner, hr, e⟩
section
variable {α : Type} {P : Program}
theorem Gh (enc : α → Value) (d : α) (t e : TypeId) (o : IntKind) {i : TypeInfo} (l : P.underlying t = some (.slice e)) (hi : P.info? e = some i) (k : i.size = 1) (A : Option Addr) (c : Nat) (xs : List α) (j : Int) (q : 0 ≤ j) (hm : j ≤ xs.length) (u : xs.length ≤ c) :
    (∀ W : World, (Instr.slice t (.slice A xs.length c) none (some (.int o j)) none).run P W = .ok (.slice A (xs.take j.toNat).length c) W) ∧
      (∀ w : World, EE enc d w A xs.length xs → EE enc d w A (xs.take j.toNat).length (xs.take j.toNat)) ∧ (xs.take j.toNat).length ≤ c := by
  have b : (xs.take j.toNat).length = j.toNat := by rw [List.length_take]; omega
  refine ⟨fun W => ?_, fun w h => by rw [b]; exact h.Bn j.toNat (by omega), by rw [b]; omega⟩; have a : P.elem t = e := by simp [Program.elem, l]
  have s : P.underlying t = some (.slice (P.elem t)) := by rw [a]; exact l
  have r : (A.map fun x => x.add 0) = A := by cases A <;> simp [Addr.add]
  rw [run_slice_h W t A xs.length c s o j q (by omega), a, b]; simp [sizeOf, typeInfo, hi, k, sliced, Result.andThen, r]
end
section
variable {P : Program} {ops : Array Oper} {rest : List Oper} {o : Oper} {a : Act} {Q : Exit → Act → World → Prop}
end
structure Kd (α : Type) where
  sz : Nat
  E : List Nat
  K : World → α → List Value → Prop
  M : World → Nat → (Nat → Prop) → α → List Value → Prop
  K_len : ∀ {w x cs}, K w x cs → cs.length = sz
  K_one : ∀ {w x cs}, K w x cs → ∀ u ∈ cs, u.oneCell' = true
  K_below : ∀ {w w1 : World} {x cs}, Below w.heap.size w w1 → K w x cs → K w1 x cs
  K_of_M : ∀ {w base ok x cs}, M w base ok x cs → K w x cs
  M_mono : ∀ {w base ok ok' x cs}, (∀ k, ok k → ok' k) → M w base ok x cs → M w base ok' x cs
  M_bound : ∀ {w : World} {base ok x cs}, M w base ok x cs → M w base (fun k => ok k ∧ base ≤ k ∧ k < w.heap.size ∧ ∃ q, q ∈ E ∧ ∃ cells, w.heap[k]? = some (.cells cells q (0, 0))) x cs
  M_move : ∀ {w w1 : World} {base ok x cs}, (∀ k, ok k → w1.heap[k]? = w.heap[k]?) → M w base ok x cs → M w1 base ok x cs
  M_lower : ∀ {w base base' ok x cs}, base' ≤ base → M w base ok x cs → M w base' ok x cs
theorem NF {w w1 : World} {base : Nat} {e : TypeId} {size n : Nat} {v : Value} {xs : List Value} (h : w.ownsRow base e size v n xs) (hm : ∀ k, v.ownBlock = some k → w1.heap[k]? = w.heap[k]?) : w1.ownsRow base e size v n xs := by
  obtain ⟨h1, h2⟩ := h; refine ⟨h1, ?_⟩; rcases h2 with h2 | ⟨g, cap, cur, rfl, hg, hh, r⟩
  · exact .inl h2
  · exact .inr ⟨g, cap, cur, rfl, hg, (hm g (by simp [Value.ownBlock])).trans hh, r⟩
theorem GV {w : World} {base : Nat} {e : TypeId} {size n : Nat} {v : Value} {xs : List Value} (h : w.ownsRow base e size v n xs) (k : Nat) (a : v.ownBlock = some k) : ∃ cells, w.heap[k]? = some (.cells cells e (0, 0)) := by
  rcases h.2 with ⟨rfl, _⟩ | ⟨g, cap, cur, rfl, hg, hh, r⟩
  · simp [Value.ownBlock] at a
  · have : g = k := by simpa [Value.ownBlock] using a
    subst this; exact ⟨cur, hh⟩
namespace Kd
def C {α : Type} (d : Kd α) (w : World) (A : Option Addr) (n : Nat) (xs : List α) : Prop := Ci (d.K w) d.sz w A n xs
def R {α : Type} (d : Kd α) (e : Nat) (w : World) (base : Nat) (ok : Nat → Prop) (v : Value) (xs : List α) : Prop :=
  (∀ k, v.ownBlock = some k → ok k) ∧ EH (d.M w base (fun k => ok k ∧ some k ≠ v.ownBlock)) e d.sz w base v xs
section
variable {α : Type} {d : Kd α} {e : Nat} {w w1 : World} {base : Nat} {ok ok' : Nat → Prop} {v : Value} {xs : List α}
theorem Ak {A : Option Addr} {n : Nat} (h : d.C w A n xs) (a : Below w.heap.size w w1) : d.C w1 A n xs := Ci.FT h a (fun _ _ hp => d.K_below a hp)
theorem Da (d : Kd α) (e : Nat) (w : World) (base : Nat) (ok : Nat → Prop) : d.R e w base ok (.slice none 0 0) [] := ⟨fun k a => by simp [Value.ownBlock] at a, EH.none_ _ _ _ _ _⟩
theorem BS (h : d.R e w base ok v xs) (a : ∀ k, ok k → ok' k) : d.R e w base ok' v xs := ⟨fun k b => a k (h.1 k b), h.2.FT (fun _ _ hp => d.M_mono (fun k b => ⟨a k b.1, b.2⟩) hp)⟩
theorem DW (h : d.R e w base ok v xs) : d.R e w base (fun k => ok k ∧ base ≤ k ∧ k < w.heap.size ∧ ∃ q, q ∈ e :: d.E ∧ ∃ cells, w.heap[k]? = some (.cells cells q (0, 0))) v xs := by
  obtain ⟨c, inner, ho, hr⟩ := h; refine ⟨fun k a => ?_, inner, ho, hr.FT (fun _ _ hp => d.M_mono (fun k a => ?_) (d.M_bound hp))⟩
  · obtain ⟨cells, b⟩ := GV ho k a; exact ⟨c k a, Fb ho k a, NC ho k a, e, List.mem_cons_self, cells, b⟩
  · obtain ⟨⟨h1, h2⟩, h3, h4, q, i, b⟩ := a; exact ⟨⟨h1, h3, h4, q, List.mem_cons_of_mem _ i, b⟩, h2⟩
theorem Jf (h : d.R e w base ok v xs) (hm : ∀ k, ok k → w1.heap[k]? = w.heap[k]?) : d.R e w1 base ok v xs := by
  obtain ⟨b, inner, ho, hr⟩ := h; exact ⟨b, inner, NF ho (fun k a => hm k (b k a)), hr.FT (fun _ _ hp => d.M_move (fun k a => hm k a.1) hp)⟩
theorem Cc {base' : Nat} (h : d.R e w base ok v xs) (a : base' ≤ base) : d.R e w base' ok v xs := by
  obtain ⟨b, inner, ho, hr⟩ := h; exact ⟨b, inner, Kr ho a, hr.FT (fun _ _ hp => d.M_lower a hp)⟩
theorem IV (h : d.R e w base ok v xs) (hm : ∀ k, ok k → k < w.heap.size → w1.heap[k]? = w.heap[k]?) : d.R e w1 base ok v xs :=
  BS (Jf (DW h) (fun k a => hm k a.1 a.2.2.1)) (fun _ a => a.1)
theorem NG {x : α} {cs : List Value} (h : d.M w base ok x cs) (hm : ∀ k, ok k → k < w.heap.size → w1.heap[k]? = w.heap[k]?) : d.M w1 base ok x cs :=
  d.M_mono (fun _ a => a.1) (d.M_move (fun k a => hm k a.1 a.2.2.1) (d.M_bound h))
theorem Db (h : d.R e w base ok v xs) (a : Below w.heap.size w w1) : d.R e w1 base ok v xs := IV h (fun k _ b => a.block k b)
theorem Lm {x : α} {cs : List Value} (h : d.M w base ok x cs) (a : Below w.heap.size w w1) : d.M w1 base ok x cs := NG h (fun k _ b => a.block k b)
theorem QU (h : d.R e w base ok v xs) {p : Addr} (a : ∀ k, ok k → k ≠ p.block) (u : Value) : d.R e (w.setCell p u) base ok v xs := IV h (fun k ho _ => Below.heap_setCell w p u k (a k ho))
theorem Bf (h : d.R e w base ok v xs) {g t : Nat} {cells : Array Value} (a : w.heap[g]? = some (.cells cells t (0, 0))) (l : ∀ q, q ∈ e :: d.E → q ≠ t) : d.R e w base (fun k => ok k ∧ k ≠ g) v xs :=
  BS (DW h) (fun k c => ⟨c.1, by
    obtain ⟨_, _, _, q, j, b, i⟩ := c; rintro rfl; rw [i] at a; injection a with a; injection a with _ a; exact l q j a⟩)
theorem Jg (h : d.R e w base ok v xs) : ∃ A c, v = .slice A xs.length c ∧ xs.length ≤ c ∧ d.C w A xs.length xs := by
  obtain ⟨A, c, a, b, hr⟩ := EH.reads h.2; exact ⟨A, c, a, b, hr.FT (Below.refl _ _) (fun _ _ hp => d.K_of_M hp)⟩
theorem Bo (h : d.R e w base ok v xs) : ∃ A c, v = .slice A xs.length c := by
  obtain ⟨A, c, a, _⟩ := Jg h; exact ⟨A, c, a⟩
theorem Lp (h : d.R e w base ok v xs) : ∃ inner, w.ownsRow base e d.sz v xs.length inner := by
  obtain ⟨_, inner, ho, _⟩ := h; exact ⟨inner, ho⟩
theorem Fu (h : d.R e w base ok v xs) {g t : Nat} {cells : Array Value} (a : w.heap[g]? = some (.cells cells t (0, 0))) (b : e ≠ t) : some g ≠ v.ownBlock := EH.ND h.2 a b
end
def scalar {α : Type} (enc : α → Value) (h1 : ∀ x, (enc x).oneCell' = true) : Kd α where
  sz := 1
  E := []
  K := fun _ x cs => cs = [enc x]
  M := fun _ _ _ x cs => cs = [enc x]
  K_len := fun h => by rw [h]; rfl
  K_one := fun h u a => by
    rw [h] at a; rw [List.mem_singleton.1 a]; exact h1 _
  K_below := fun _ h => h
  K_of_M := fun h => h
  M_mono := fun _ h => h
  M_bound := fun h => h
  M_move := fun _ h => h
  M_lower := fun _ h => h
def int (k : IntKind) : Kd Int := scalar (Value.int k) (fun _ => rfl)
def bool : Kd Bool := scalar Value.bool (fun _ => rfl)
def string : Kd ByteArray := scalar Value.string (fun _ => rfl)
def slice {α : Type} (e : Nat) (d : Kd α) : Kd (List α) where
  sz := 1
  E := e :: d.E
  K := fun w xs cs => ∃ A c, cs = [.slice A xs.length c] ∧ xs.length ≤ c ∧ d.C w A xs.length xs
  M := fun w base ok xs cs => ∃ v, cs = [v] ∧ d.R e w base ok v xs
  K_len := by
    rintro w x cs ⟨A, c, rfl, _⟩; rfl
  K_one := by
    rintro w x cs ⟨A, c, rfl, _⟩ u j; rw [List.mem_singleton.1 j]; rfl
  K_below := by
    rintro w w1 x cs a ⟨A, c, rfl, b, hr⟩; exact ⟨A, c, rfl, b, Ak hr a⟩
  K_of_M := by
    rintro w base ok x cs ⟨v, rfl, h⟩; obtain ⟨A, c, rfl, b, hr⟩ := Jg h; exact ⟨A, c, rfl, b, hr⟩
  M_mono := by
    rintro w base ok ok' x cs i ⟨v, rfl, h⟩; exact ⟨v, rfl, BS h i⟩
  M_bound := by
    rintro w base ok x cs ⟨v, rfl, h⟩; exact ⟨v, rfl, DW h⟩
  M_move := by
    rintro w w1 base ok x cs hm ⟨v, rfl, h⟩; exact ⟨v, rfl, Jf h hm⟩
  M_lower := by
    rintro w base base' ok x cs a ⟨v, rfl, h⟩; exact ⟨v, rfl, Cc h a⟩
def pair {α β : Type} (a : Kd α) (b : Kd β) : Kd (α × β) where
  sz := a.sz + b.sz
  E := a.E ++ b.E
  K := fun w x cs => ∃ c e, cs = c ++ e ∧ a.K w x.1 c ∧ b.K w x.2 e
  M := fun w base ok x cs => ∃ c e, cs = c ++ e ∧ a.M w base ok x.1 c ∧ b.M w base ok x.2 e
  K_len := by
    rintro w x cs ⟨c, e, rfl, h, h1⟩; rw [List.length_append, a.K_len h, b.K_len h1]
  K_one := by
    rintro w x cs ⟨c, e, rfl, h, h1⟩ u l; rcases List.mem_append.1 l with l | l
    · exact a.K_one h u l
    · exact b.K_one h1 u l
  K_below := by
    rintro w w1 x cs i ⟨c, e, rfl, h, h1⟩; exact ⟨c, e, rfl, a.K_below i h, b.K_below i h1⟩
  K_of_M := by
    rintro w base ok x cs ⟨c, e, rfl, h, h1⟩; exact ⟨c, e, rfl, a.K_of_M h, b.K_of_M h1⟩
  M_mono := by
    rintro w base ok ok' x cs j ⟨c, e, rfl, h, h1⟩; exact ⟨c, e, rfl, a.M_mono j h, b.M_mono j h1⟩
  M_bound := by
    rintro w base ok x cs ⟨c, e, rfl, h, h1⟩; refine ⟨c, e, rfl, a.M_mono ?_ (a.M_bound h), b.M_mono ?_ (b.M_bound h1)⟩
    · rintro k ⟨h2, h3, h4, q, r, o⟩; exact ⟨h2, h3, h4, q, List.mem_append_left _ r, o⟩
    · rintro k ⟨h2, h3, h4, q, r, o⟩; exact ⟨h2, h3, h4, q, List.mem_append_right _ r, o⟩
  M_move := by
    rintro w w1 base ok x cs hm ⟨c, e, rfl, h, h1⟩; exact ⟨c, e, rfl, a.M_move hm h, b.M_move hm h1⟩
  M_lower := by
    rintro w base base' ok x cs i ⟨c, e, rfl, h, h1⟩; exact ⟨c, e, rfl, a.M_lower i h, b.M_lower i h1⟩
def iso {α β : Type} (d : Kd α) (f : β → α) : Kd β where
  sz := d.sz
  E := d.E
  K := fun w x cs => d.K w (f x) cs
  M := fun w base ok x cs => d.M w base ok (f x) cs
  K_len := d.K_len
  K_one := d.K_one
  K_below := d.K_below
  K_of_M := d.K_of_M
  M_mono := d.M_mono
  M_bound := d.M_bound
  M_move := d.M_move
  M_lower := d.M_lower
def bot {α : Type} (sz : Nat) (E : List Nat) : Kd α where
  sz := sz
  E := E
  K := fun _ _ _ => False
  M := fun _ _ _ _ _ => False
  K_len := fun h => h.elim
  K_one := fun h => h.elim
  K_below := fun _ h => h
  K_of_M := fun h => h
  M_mono := fun _ h => h
  M_bound := fun h => h
  M_move := fun _ h => h
  M_lower := fun _ h => h
def upto {α : Type} (F : Kd α → Kd α) (sz : Nat) (E : List Nat) : Nat → Kd α
  | 0 => bot sz E
  | n + 1 => F (upto F sz E n)
def fix {α : Type} (F : Kd α → Kd α) (sz : Nat) (E : List Nat) (hs : ∀ n, (upto F sz E n).sz = sz) (hE : ∀ n q, q ∈ (upto F sz E n).E → q ∈ E) : Kd α where
  sz := sz
  E := E
  K := fun w x cs => ∃ n, (upto F sz E n).K w x cs
  M := fun w base ok x cs => ∃ n, (upto F sz E n).M w base ok x cs
  K_len := by
    rintro w x cs ⟨n, h⟩; rw [(upto F sz E n).K_len h, hs n]
  K_one := by
    rintro w x cs ⟨n, h⟩; exact (upto F sz E n).K_one h
  K_below := by
    rintro w w1 x cs a ⟨n, h⟩; exact ⟨n, (upto F sz E n).K_below a h⟩
  K_of_M := by
    rintro w base ok x cs ⟨n, h⟩; exact ⟨n, (upto F sz E n).K_of_M h⟩
  M_mono := by
    rintro w base ok ok' x cs b ⟨n, h⟩; exact ⟨n, (upto F sz E n).M_mono b h⟩
  M_bound := by
    rintro w base ok x cs ⟨n, h⟩; refine ⟨n, (upto F sz E n).M_mono ?_ ((upto F sz E n).M_bound h)⟩; rintro k ⟨h2, h3, h4, q, e, c⟩; exact ⟨h2, h3, h4, q, hE n q e, c⟩
  M_move := by
    rintro w w1 base ok x cs hm ⟨n, h⟩; exact ⟨n, (upto F sz E n).M_move hm h⟩
  M_lower := by
    rintro w base base' ok x cs a ⟨n, h⟩; exact ⟨n, (upto F sz E n).M_lower a h⟩
theorem JL {α : Type} {d : Kd α} {w : World} {A : Option Addr} {n : Nat} {xs : List α} (h : d.C w A n xs) (z : α) (i : Int) (a : 0 ≤ i) (h1 : i < n) :
    ∃ ad c, A = some ad ∧ c.length = d.sz ∧ d.K w (xs.getD i.toNat z) c ∧ ∀ j u, c[j]? = some u → w.cell? (ad.add (i.toNat * d.sz + j)) = some u := Ci.RI h z i a h1
theorem IW {α : Type} {d : Kd α} {e base : Nat} {ok okp : Nat → Prop} {W w1 : World} {v v1 : Value} {xs : List α} {p : α} {inner cs : List Value} (w : ∀ k, v.ownBlock = some k → ok k) (hr : Cu (d.M W base (fun k => ok k ∧ some k ≠ v.ownBlock)) d.sz xs inner) (hp : d.M W base okp p cs) (j : ∀ k, okp k → ok k ∧ some k ≠ v.ownBlock) (i : ∀ k, W.heap.size ≤ k → ok k)
    (l : w1.ownsRow base e d.sz v1 (xs.length + 1) (inner ++ cs)) (hg : W.grownBy w1 v.ownBlock) (h : v1.ownBlock = v.ownBlock ∨ ∃ b, v1.ownBlock = some b ∧ W.heap.size ≤ b) : d.R e w1 base ok v1 (xs ++ [p]) := by
  have r : ∀ k, some k ≠ v.ownBlock → k < W.heap.size → some k ≠ v1.ownBlock := by
    intro k a z; rcases h with h | ⟨b, hb, hle⟩
    · rw [h]; exact a
    · rw [hb]; intro u; injection u with u; omega
  have step : ∀ {q : α} {c : List Value} {o : Nat → Prop}, d.M W base o q c → (∀ k, o k → ok k ∧ some k ≠ v.ownBlock) → d.M w1 base (fun k => ok k ∧ some k ≠ v1.ownBlock) q c := by
    intro q c o s ho; have h1 := d.M_move (w1 := w1) (fun k a => hg.block k a.2.2.1 (ho k a.1).2) (d.M_bound s); exact d.M_mono (fun k a => ⟨(ho k a.1).1, r k (ho k a.1).2 a.2.2.1⟩) h1
  refine ⟨fun k a => ?_, inner ++ cs, by rw [List.length_append, List.length_singleton]; exact l, ?_⟩
  · rcases h with h | ⟨b, hb, hle⟩
    · exact w k (h ▸ a)
    · rw [hb] at a; injection a with a; exact i k (by omega)
  · exact (hr.FT (fun _ _ s => step s (fun _ a => a))).snoc (step hp j) (d.K_len (d.K_of_M hp))
section
variable {P : Program} {ops : Array Oper} {rest : List Oper} {o : Oper} {a : Act} {Q : Exit → Act → World → Prop} {α : Type}
theorem KA (d : Kd α) {w0 W : World} (base : Nat) (I : o.guard = none) (s x : Operand) (t e : TypeId) (z : Value) (bytes : Nat)
    (ho : o.op = .call { callee := .builtin .append, args := #[s, x], argTypes := #[t, t] })
    (X : P.underlying t = some (.slice e)) (q : (P.info? e).map (fun i => (i.zero, i.size, i.bytes)) = some (some z, d.sz, bytes)) (Z : z.cells.size = d.sz) (J : 0 < d.sz) (D : 0 < bytes)
    (v : Value) (xs : List α) (p : α) (cs : List Value) (ok okp : Nat → Prop) (hs : a.eval s = v) (Y : a.eval x = .slice (some ⟨W.heap.size, 0, none⟩) 1 1) (hp : d.M W base okp p cs) (w : ∀ k, okp k → ok k ∧ some k ≠ v.ownBlock) (c : ∀ k, W.heap.size ≤ k → ok k)
    (O : d.R e W base ok v xs) (L : Below base w0 W) (l : base ≤ W.heap.size) (U : (xs.length + 1) * bytes ≤ 140737488355328)
    (h : ∀ v1 w1, d.R e w1 base ok v1 (xs ++ [p]) → Below base w0 w1 → W.grownBy w1 v.ownBlock → (v1.ownBlock = v.ownBlock ∨ ∃ b, v1.ownBlock = some b ∧ W.heap.size ≤ b) → wpList P ops Q rest (a.put o.dst v1) w1) :
    wpList P ops Q (o :: rest) a (W.alloc (.cells cs.toArray e)) := by
  obtain ⟨T, inner, B, hr⟩ := O; refine Gp base I s x t e z d.sz bytes ho X q Z J D v xs.length inner cs hs Y (d.K_len (d.K_of_M hp)) (d.K_one (d.K_of_M hp)) B L l U ?_; intro v1 w1 r G u j; exact h v1 w1 (IW T hr hp w c r u j) G u j
end
section
variable {P : Program} {ops : Array Oper} {o : Oper} {a : Act} {Q : Exit → Act → World → Prop} {Kc : Act → World → Prop} {α : Type}
theorem FW (d : Kd α) {w0 W : World} (base : Nat) (X : Region.wanted o (yielded ops a.tmps) = true) (s x : Operand) (t e : TypeId) (z : Value) (bytes : Nat)
    (ho : o.op = .call { callee := .builtin .append, args := #[s, x], argTypes := #[t, t] })
    (U : P.underlying t = some (.slice e)) (q : (P.info? e).map (fun i => (i.zero, i.size, i.bytes)) = some (some z, d.sz, bytes)) (Z : z.cells.size = d.sz) (I : 0 < d.sz) (D : 0 < bytes)
    (v : Value) (xs : List α) (p : α) (cs : List Value) (ok okp : Nat → Prop) (hs : a.eval s = v) (Y : a.eval x = .slice (some ⟨W.heap.size, 0, none⟩) 1 1) (hp : d.M W base okp p cs) (w : ∀ k, okp k → ok k ∧ some k ≠ v.ownBlock) (c : ∀ k, W.heap.size ≤ k → ok k)
    (L : d.R e W base ok v xs) (J : Below base w0 W) (l : base ≤ W.heap.size) (T : (xs.length + 1) * bytes ≤ 140737488355328)
    (h : ∀ v1 w1, d.R e w1 base ok v1 (xs ++ [p]) → Below base w0 w1 → W.grownBy w1 v.ownBlock → (v1.ownBlock = v.ownBlock ∨ ∃ b, v1.ownBlock = some b ∧ W.heap.size ≤ b) → Kc (a.put o.dst v1) w1) :
    if Region.wanted o (yielded ops a.tmps) = true then Oper.wp P o a (W.alloc (.cells cs.toArray e)) Kc Q else Kc (a.put o.dst undef) (W.alloc (.cells cs.toArray e)) := by
  obtain ⟨O, inner, B, hr⟩ := L; refine G5 base X s x t e z d.sz bytes ho U q Z I D v xs.length inner cs hs Y (d.K_len (d.K_of_M hp)) (d.K_one (d.K_of_M hp)) B J l T ?_; intro v1 w1 r G u j; exact h v1 w1 (IW O hr hp w c r u j) G u j
end
theorem IX {α : Type} {enc : α → Value} {d : α} {h1 : ∀ x, (enc x).oneCell' = true} {w : World} {A : Option Addr} {n : Nat} {xs : List α} (h : EE enc d w A n xs) : (scalar enc h1).C w A n xs := by
  refine ⟨h.1, h.2.1, fun hn => ?_⟩; obtain ⟨ad, e, c⟩ := h.2.2 hn; refine ⟨ad, e, fun j p a => ⟨[enc p], rfl, rfl, fun i u b => ?_⟩⟩; obtain ⟨k, hp⟩ := List.getElem?_eq_some_iff.1 a; have h2 := c j (by have := h.1; omega); rw [List.getD_eq_getElem?_getD, a] at h2; cases i with
  | zero =>
    have : enc p = u := by simpa using b
    subst this; simpa [scalar] using h2
  | succ i => simp at b
theorem Fv {α : Type} {enc : α → Value} {d : α} {h1 : ∀ x, (enc x).oneCell' = true} {w : World} {A : Option Addr} {n : Nat} {xs : List α} (h : (scalar enc h1).C w A n xs) : EE enc d w A n xs := by
  refine ⟨h.1, h.2.1, fun hn => ?_⟩; obtain ⟨ad, e, l⟩ := h.2.2 hn; refine ⟨ad, e, fun j o => ?_⟩; have i : j < xs.length := by have := h.1; omega
  obtain ⟨c, _, k, a⟩ := l j _ (List.getElem?_eq_getElem i); have b : c = [enc xs[j]] := k; subst b; have := a 0 _ rfl; simpa [scalar, List.getD_eq_getElem?_getD, List.getElem?_eq_getElem i] using this
end Kd
namespace Kd
structure Fw {α β : Type} (F : Kd α → Kd β) : Prop where
  sz : ∀ d d' : Kd α, d.sz = d'.sz → (F d).sz = (F d').sz
  K : ∀ d d' : Kd α, d.sz = d'.sz → (∀ w x cs, d.K w x cs → d'.K w x cs) → ∀ w x cs, (F d).K w x cs → (F d').K w x cs
  M : ∀ d d' : Kd α, d.sz = d'.sz → (∀ w base ok x cs, d.M w base ok x cs → d'.M w base ok x cs) → ∀ w base ok x cs, (F d).M w base ok x cs → (F d').M w base ok x cs
theorem D8 {α β : Type} (k : Kd β) : Fw (fun _ : Kd α => k) := ⟨fun _ _ _ => rfl, fun _ _ _ _ _ _ _ h => h, fun _ _ _ _ _ _ _ _ _ h => h⟩
theorem Lr {α : Type} : Fw (fun d : Kd α => d) := ⟨fun _ _ h => h, fun _ _ _ h => h, fun _ _ _ h => h⟩
theorem NH {α : Type} {d d' : Kd α} (hs : d.sz = d'.sz) (h : ∀ w x cs, d.K w x cs → d'.K w x cs) {w : World} {A : Option Addr} {n : Nat} {xs : List α} (a : d.C w A n xs) : d'.C w A n xs := by
  unfold C at a ⊢; rw [← hs]; exact a.FT (Below.refl _ _) (fun _ _ hp => h _ _ _ hp)
theorem NI {α : Type} {d d' : Kd α} (hs : d.sz = d'.sz) (h : ∀ w base ok x cs, d.M w base ok x cs → d'.M w base ok x cs) {e : Nat} {w : World} {base : Nat} {ok : Nat → Prop} {v : Value} {xs : List α} (hr : d.R e w base ok v xs) : d'.R e w base ok v xs := by
  unfold R at hr ⊢; rw [← hs]; exact ⟨hr.1, hr.2.FT (fun _ _ hp => h _ _ _ _ _ hp)⟩
theorem IY {α β : Type} (e : Nat) {G : Kd α → Kd β} (a : Fw G) : Fw (fun d => slice e (G d)) := by
  refine ⟨fun _ _ _ => rfl, ?_, ?_⟩
  · rintro d d' hs h w x cs ⟨A, c, rfl, b, hr⟩; exact ⟨A, c, rfl, b, NH (a.sz d d' hs) (a.K d d' hs h) hr⟩
  · rintro d d' hs h w base ok x cs ⟨v, rfl, hr⟩; exact ⟨v, rfl, NI (a.sz d d' hs) (a.M d d' hs h) hr⟩
theorem EI {α β γ : Type} {G : Kd α → Kd β} {H : Kd α → Kd γ} (e : Fw G) (i : Fw H) : Fw (fun d => pair (G d) (H d)) := by
  refine ⟨fun d d' hs => ?_, ?_, ?_⟩
  · show (G d).sz + (H d).sz = (G d').sz + (H d').sz; rw [e.sz d d' hs, i.sz d d' hs]
  · rintro d d' hs h w x cs ⟨a, b, rfl, c, h1⟩; exact ⟨a, b, rfl, e.K d d' hs h _ _ _ c, i.K d d' hs h _ _ _ h1⟩
  · rintro d d' hs h w base ok x cs ⟨a, b, rfl, c, h1⟩; exact ⟨a, b, rfl, e.M d d' hs h _ _ _ _ _ c, i.M d d' hs h _ _ _ _ _ h1⟩
theorem KC {α β γ : Type} {G : Kd α → Kd β} (f : γ → β) (a : Fw G) : Fw (fun d => iso (G d) f) :=
  ⟨a.sz, fun d d' hs h w x cs => a.K d d' hs h w (f x) cs, fun d d' hs h w base ok x cs => a.M d d' hs h w base ok (f x) cs⟩
def Sub {α β : Type} (F : Kd α → Kd β) (E : List Nat) : Prop := ∀ d : Kd α, (∀ q, q ∈ d.E → q ∈ E) → ∀ q, q ∈ (F d).E → q ∈ E
theorem EJ {α β : Type} {E : List Nat} (k : Kd β) (h : ∀ q, q ∈ k.E → q ∈ E) : Sub (fun _ : Kd α => k) E := fun _ _ => h
theorem NJ {α : Type} {E : List Nat} : Sub (fun d : Kd α => d) E := fun _ h => h
theorem JM {α β : Type} {E : List Nat} (e : Nat) {G : Kd α → Kd β} (c : e ∈ E) (b : Sub G E) : Sub (fun d => slice e (G d)) E := fun d h q a => by
  rcases List.mem_cons.1 a with rfl | a
  · exact c
  · exact b d h q a
theorem Et {α β γ : Type} {E : List Nat} {G : Kd α → Kd β} {H : Kd α → Kd γ} (b : Sub G E) (c : Sub H E) : Sub (fun d => pair (G d) (H d)) E := fun d h q a => by
  rcases List.mem_append.1 a with a | a
  · exact b d h q a
  · exact c d h q a
theorem Ls {α β γ : Type} {E : List Nat} {G : Kd α → Kd β} (f : γ → β) (a : Sub G E) : Sub (fun d => iso (G d) f) E := a
theorem Ku {α : Type} {F : Kd α → Kd α} {sz : Nat} {E : List Nat} (h : Sub F E) : ∀ n q, q ∈ (upto F sz E n).E → q ∈ E
  | 0, _, hq => hq
  | n + 1, q, hq => h _ (Ku h n) q hq
theorem Lt {α : Type} {F : Kd α → Kd α} {sz : Nat} {E : List Nat} (h : ∀ d : Kd α, (F d).sz = sz) : ∀ n, (upto F sz E n).sz = sz
  | 0 => rfl
  | _ + 1 => h _
section
variable {α : Type} {F : Kd α → Kd α} {sz : Nat} {E : List Nat} {hs : ∀ n, (upto F sz E n).sz = sz} {hE : ∀ n q, q ∈ (upto F sz E n).E → q ∈ E}
theorem NK (hm : Fw F) (hs : ∀ n, (upto F sz E n).sz = sz) : ∀ n {w x cs}, (upto F sz E n).K w x cs → (upto F sz E (n + 1)).K w x cs
  | 0, _, _, _, h => h.elim
  | n + 1, _, _, _, h => hm.K _ _ (by rw [hs n, hs (n + 1)]) (fun _ _ _ a => NK hm hs n a) _ _ _ h
theorem NL (hm : Fw F) (hs : ∀ n, (upto F sz E n).sz = sz) : ∀ n {w base ok x cs}, (upto F sz E n).M w base ok x cs → (upto F sz E (n + 1)).M w base ok x cs
  | 0, _, _, _, _, _, h => h.elim
  | n + 1, _, _, _, _, _, h => hm.M _ _ (by rw [hs n, hs (n + 1)]) (fun _ _ _ _ _ a => NL hm hs n a) _ _ _ _ _ h
theorem JN (hm : Fw F) (hs : ∀ n, (upto F sz E n).sz = sz) {n m : Nat} (a : n ≤ m) {w x cs} (h : (upto F sz E n).K w x cs) : (upto F sz E m).K w x cs := by
  obtain ⟨j, rfl⟩ := Nat.exists_eq_add_of_le a; induction j with
  | zero => exact h
  | succ j b => exact NK hm hs _ (b (by omega))
theorem JO (hm : Fw F) (hs : ∀ n, (upto F sz E n).sz = sz) {n m : Nat} (a : n ≤ m) {w base ok x cs} (h : (upto F sz E n).M w base ok x cs) : (upto F sz E m).M w base ok x cs := by
  obtain ⟨j, rfl⟩ := Nat.exists_eq_add_of_le a; induction j with
  | zero => exact h
  | succ j b => exact NL hm hs _ (b (by omega))
theorem PU {n : Nat} {w : World} {A : Option Addr} {m : Nat} {xs : List α} (h : (upto F sz E n).C w A m xs) : (fix F sz E hs hE).C w A m xs := NH (d' := fix F sz E hs hE) (hs n) (fun w x cs hp => (⟨n, hp⟩ : ∃ n, (upto F sz E n).K w x cs)) h
theorem QV {n : Nat} {e : Nat} {w : World} {base : Nat} {ok : Nat → Prop} {v : Value} {xs : List α} (h : (upto F sz E n).R e w base ok v xs) : (fix F sz E hs hE).R e w base ok v xs := NI (d' := fix F sz E hs hE) (hs n) (fun w base ok x cs hp => (⟨n, hp⟩ : ∃ n, (upto F sz E n).M w base ok x cs)) h
theorem bounded {P : Nat → Nat → Prop} (a : ∀ n m j, n ≤ m → P n j → P m j) : ∀ m, (∀ j, j < m → ∃ n, P n j) → ∃ N, ∀ j, j < m → P N j
  | 0, _ => ⟨0, fun j b => absurd b (Nat.not_lt_zero j)⟩
  | m + 1, h => by
    obtain ⟨N, c⟩ := bounded a m (fun j b => h j (by omega)); obtain ⟨n, hn⟩ := h m (by omega); refine ⟨max N n, fun j b => ?_⟩; rcases Nat.lt_or_ge j m with hj' | hj'
    · exact a N _ j (Nat.le_max_left _ _) (c j hj')
    · have : j = m := by omega
      subst this; exact a n _ j (Nat.le_max_right _ _) hn
theorem Jh {α : Type} {R : Nat → α → List Value → Prop} (i : ∀ n m p c, n ≤ m → R n p c → R m p c) {size : Nat} {ps : List α} {cs : List Value} (h : Cu (fun p c => ∃ n, R n p c) size ps cs) : ∃ N, Cu (R N) size ps cs := by
  obtain ⟨N, e⟩ := bounded (P := fun n j => ∀ p, ps[j]? = some p → R n p ((cs.drop (j * size)).take size)) (fun n m j b hp p a => i n m p _ b (hp p a)) ps.length
    (fun j a => by
      obtain ⟨n, hn⟩ := h.2 j _ (List.getElem?_eq_getElem a); refine ⟨n, fun p hp => ?_⟩; rw [List.getElem?_eq_getElem a] at hp; injection hp with hp; rw [← hp]; exact hn)
  exact ⟨N, h.1, fun j p a => e j (List.getElem?_eq_some_iff.1 a).1 p a⟩
theorem Kv (hm : Fw F) {e : Nat} {w : World} {base : Nat} {ok : Nat → Prop} {v : Value} {xs : List α} (h : (fix F sz E hs hE).R e w base ok v xs) : ∃ n, (upto F sz E n).R e w base ok v xs := by
  obtain ⟨b, inner, ho, hr⟩ := h; obtain ⟨N, i⟩ := Jh (R := fun n p c => (upto F sz E n).M w base (fun k => ok k ∧ some k ≠ v.ownBlock) p c) (fun n m p c a hp => JO hm hs a hp) hr; refine ⟨N, b, inner, ?_, ?_⟩
  · rw [hs N]; exact ho
  · rw [hs N]; exact i
theorem IZ (hm : Fw F) {w : World} {A : Option Addr} {m : Nat} {xs : List α} (h : (fix F sz E hs hE).C w A m xs) : ∃ n, (upto F sz E n).C w A m xs := by
  rcases Nat.eq_zero_or_pos m with hz | hpos
  · subst hz; exact ⟨0, h.1, h.2.1, fun hp => absurd hp (Nat.lt_irrefl 0)⟩
  · obtain ⟨ad, e, l⟩ := h.2.2 hpos; obtain ⟨N, k⟩ := bounded (P := fun n j => ∀ p, xs[j]? = some p → ∃ c, c.length = sz ∧ (upto F sz E n).K w p c ∧ ∀ i u, c[i]? = some u → w.cell? (ad.add (j * sz + i)) = some u)
      (fun n n' j b hp p a => by
        obtain ⟨c, h1, h2, h3⟩ := hp p a; exact ⟨c, h1, JN hm hs b h2, h3⟩) xs.length
      (fun j a => by
        obtain ⟨c, h1, ⟨n, h2⟩, h3⟩ := l j _ (List.getElem?_eq_getElem a); refine ⟨n, fun p hp => ?_⟩; rw [List.getElem?_eq_getElem a] at hp; injection hp with hp; rw [← hp]; exact ⟨c, h1, h2, h3⟩)
    refine ⟨N, h.1, h.2.1, fun _ => ⟨ad, e, fun j p a => ?_⟩⟩; rw [hs N]; exact k j (List.getElem?_eq_some_iff.1 a).1 p a
theorem MO (hm : Fw F) (hs : ∀ n, (upto F sz E n).sz = sz) {n m : Nat} (a : n ≤ m) {e : Nat} {w : World} {base : Nat} {ok : Nat → Prop} {v : Value} {xs : List α} (h : (upto F sz E n).R e w base ok v xs) : (upto F sz E m).R e w base ok v xs := NI (by rw [hs n, hs m]) (fun _ _ _ _ _ hp => JO hm hs a hp) h
theorem JP (hm : Fw F) (hs : ∀ n, (upto F sz E n).sz = sz) {n m : Nat} (a : n ≤ m) {w : World} {A : Option Addr} {l : Nat} {xs : List α} (h : (upto F sz E n).C w A l xs) : (upto F sz E m).C w A l xs := NH (by rw [hs n, hs m]) (fun _ _ _ hp => JN hm hs a hp) h
end
end Kd
namespace Kd
end Kd
namespace Kd
section
variable {α β : Type} {d : Kd α} {d' : Kd β} {e e' : Nat} {w w1 W : World} {base b b' : Nat} {ok ok' okv oku : Nat → Prop} {v u : Value} {xs : List α} {ys : List β}
theorem Lu (h : d.R e w base ok v xs) (o : Obj) : d.R e (w.alloc o) base ok v xs := Db h (AV (Below.refl _ _) o)
theorem GA (h : d.R e w base ok v xs) : d.R e w.drew base ok v xs := Db h (Fq (Below.refl _ _))
theorem Lv (h : d.R e w base ok v xs) (m : Nat) : d.R e (w.drewN m) base ok v xs := Db h (Ai (Below.refl _ _) m)
theorem CL {A : Option Addr} {n : Nat} (h : d.C w A n xs) (o : Obj) : d.C (w.alloc o) A n xs := Ak h (AV (Below.refl _ _) o)
theorem CR {A : Option Addr} {n : Nat} (h : d.C w A n xs) : d.C w.drew A n xs := Ak h (Fq (Below.refl _ _))
theorem CO {A : Option Addr} {n : Nat} (h : d.C w A n xs) (m : Nat) : d.C (w.drewN m) A n xs := Ak h (Ai (Below.refl _ _) m)
theorem GD (d : Kd α) (w : World) : d.C w none ([] : List α).length [] := ⟨rfl, by simp, fun h => absurd h (Nat.lt_irrefl 0)⟩
theorem KD {A : Option Addr} {n : Nat} (h : d.C w A n xs) : n ≤ 9223372036854775807 := h.2.1
theorem CE {A : Option Addr} {n c : Nat} (h : d.R e w base ok (.slice A n c) xs) : n = xs.length ∧ n ≤ c ∧ d.C w A xs.length xs := by
  obtain ⟨A', b, a, i, hr⟩ := Jg h; injection a with h1 h2 h3; subst h1; exact ⟨h2, by omega, hr⟩
theorem F9 (h : d.R e w base ok v xs) : ∀ k, v.ownBlock = some k → k < w.heap.size := by
  obtain ⟨inner, ho⟩ := Lp h; exact NC ho
theorem Bp (h : d.R e w base ok v xs) : ∀ k, v.ownBlock = some k → base ≤ k := by
  obtain ⟨inner, ho⟩ := Lp h; exact Fb ho
theorem Ia (h : d.R e w base ok v xs) {g : Nat} (a : ∀ k, ok k → k ≠ g) : some g ≠ v.ownBlock := fun e => a g (h.1 g e.symm) rfl
theorem Kw (h : d.R e w base ok v xs) (hp : 0 < xs.length) : ∃ g cap, v = .slice (some ⟨g, 0, none⟩) xs.length cap ∧ base ≤ g ∧ g < w.heap.size ∧ ∃ cells, w.heap[g]? = some (.cells cells e (0, 0)) := by
  obtain ⟨inner, ho⟩ := Lp h; obtain ⟨g, cap, a, b, i⟩ := ho.form hp; obtain ⟨cells, c⟩ := GV ho g (by rw [a]; simp [Value.ownBlock]); exact ⟨g, cap, a, b, i, cells, c⟩
end
section
variable {w W : World} {A : Option Addr} {n : Nat}
theorem DX {k : IntKind} {xs : List Int} (h : (Kd.int k).C w A n xs) (i : Int) (a : 0 ≤ i) (h1 : i < n) : ∃ ad, A = some ad ∧ w.cell? (ad.add i.toNat) = some (.int k (rd xs i)) :=
  EE.at_ (Fv (enc := Value.int k) (d := (0 : Int)) (h1 := fun _ => rfl) h) i a h1
theorem EK {xs : List ByteArray} (h : Kd.string.C w A n xs) (i : Int) (a : 0 ≤ i) (h1 : i < n) : ∃ ad, A = some ad ∧ w.cell? (ad.add i.toNat) = some (.string (Ec ByteArray.empty xs i)) :=
  EE.at_ (Fv (enc := Value.string) (d := ByteArray.empty) (h1 := fun _ => rfl) h) i a h1
variable {α : Type} {enc : α → Value} {h1 : ∀ x, (enc x).oneCell' = true} {e base g cap : Nat} {ok : Nat → Prop} {xs : List α}
end
section
variable {P : Program} {ops : Array Oper} {rest : List Oper} {o : Oper} {a : Act} {Q : Exit → Act → World → Prop}
theorem Hm {W w1 : World} {v : Value} (c : o.guard = none) (b : (execOp a.eval o).run P W = .ok (.value v) w1) (h : wpList P ops Q rest (a.put o.dst v) w1) : wpList P ops Q (o :: rest) a W := by
  refine wpList_plain c fun K e => ?_; unfold Oper.wp; rw [b]; exact e _ _ h
variable {α : Type}
theorem Ib (d : Kd α) {w0 W : World} (base e : Nat) (s : o.guard = none) {N : Tmp} (_hd : o.dst = some N) {xs : List α} {inner : List Value} {ok okp : Nat → Prop}
    (q : (execOp a.eval o).run P W = .ok (.value (.slice (some ⟨W.heap.size, 0, none⟩) xs.length xs.length)) (W.alloc (.cells inner.toArray e)))
    (l : Cu (d.M W base okp) d.sz xs inner) (u : ∀ k, okp k → ok k) (j : ok W.heap.size) (v : Below base w0 W) (i : base ≤ W.heap.size) (hm : xs.length ≤ 9223372036854775807)
    (h : ∀ v1 w1, d.R e w1 base ok v1 xs → Below base w0 w1 → W.grownBy w1 none → (∃ b, v1.ownBlock = some b ∧ W.heap.size ≤ b) → wpList P ops Q rest (a.put o.dst v1) w1) : wpList P ops Q (o :: rest) a W := by
  refine Hm s q (h _ _ ⟨fun k r => ?_, inner, ?_, ?_⟩ (v.alloc i _) (World.grownBy_alloc W _ none) ⟨W.heap.size, by simp [Value.ownBlock], Nat.le_refl _⟩)
  · have : W.heap.size = k := by simpa [Value.ownBlock] using r
    subst this; exact j
  · have h2 := World.ownsRow_lit (base := base) (e := e) (size := d.sz) W inner.toArray xs.length i (by simpa [maxLen] using hm) (by simpa using l.1); simpa using h2
  · refine l.FT (fun p c hp => d.M_mono (fun k r => ⟨u k r.1, fun w => ?_⟩) (Lm (d.M_bound hp) (AV (Below.refl _ _) _))); have h3 : k = W.heap.size := by simpa [Value.ownBlock] using w
    have := r.2.2.1; omega
end
end Kd
theorem NM {w : World} {base n m c size : Nat} {e : TypeId} {A : Option Addr} {xs : List Value} (h : w.ownsRow base e size (.slice A n c) n xs) (hm : m ≤ n) : w.ownsRow base e size (.slice A m c) m (xs.take (m * size)) := by
  obtain ⟨h1, h2⟩ := h; refine ⟨by rw [List.length_take, h1]; exact Nat.min_eq_left (Nat.mul_le_mul_right _ hm), ?_⟩; rcases h2 with ⟨he, h0⟩ | ⟨g, cap, cur, he, hb, hh, hnc, hcm, hcs, ht⟩
  · injection he with ha _ hc; subst ha; subst hc; exact .inl ⟨by rw [show m = 0 by omega], by omega⟩
  · injection he with ha _ hc; subst ha; subst hc; refine .inr ⟨g, c, cur, rfl, hb, hh, by omega, hcm, hcs, ?_⟩; rw [← ht, List.take_take, Nat.min_eq_left (Nat.mul_le_mul_right _ hm)]
section
variable {P : Program}
theorem NN (t e : TypeId) (k : IntKind) {i : TypeInfo} (h : P.underlying t = some (.slice e)) (hi : P.info? e = some i) (size : Nat) (b : i.size = size) (A : Option Addr) (n c : Nat) (j : Int) (l : 0 ≤ j) (hm : j ≤ n) :
    ∀ W : World, (Instr.slice t (.slice A n c) (some (.int k j)) none none).run P W = .ok (.slice (if c = j.toNat then A else A.map (·.add (j.toNat * size))) (n - j.toNat) (c - j.toNat)) W := by
  intro W; have a : P.elem t = e := by simp [Program.elem, h]
  have o : P.underlying t = some (.slice (P.elem t)) := by rw [a]; exact h
  rw [run_slice_l W t A n c o k j l hm, a]; simp [sizeOf, typeInfo, hi, b, sliced, Result.andThen]
end
def QW (w : World) (base : Nat) (e : TypeId) (size : Nat) (v : Value) (n : Nat) (xs : List Value) : Prop :=
  xs.length = n * size ∧
  ((n = 0 ∧ ∃ A, v = .slice A 0 0 ∧ ∀ a, A = some a → base ≤ a.block ∧ ∃ cur, w.heap[a.block]? = some (.cells cur e (0, 0))) ∨
   ∃ g off cap cur, v = .slice (some ⟨g, off * size, none⟩) n cap ∧ base ≤ g ∧ w.heap[g]? = some (.cells cur e (0, 0)) ∧ n ≤ cap ∧ off + cap ≤ maxLen ∧ cur.size = (off + cap) * size ∧ (cur.toList.drop (off * size)).take (n * size) = xs)
section
variable {w w1 : World} {base n size : Nat} {e : TypeId} {v : Value} {xs : List Value}
theorem NP (h : w.ownsRow base e size v n xs) : QW w base e size v n xs := by
  obtain ⟨h1, h2⟩ := h; refine ⟨h1, ?_⟩; rcases h2 with ⟨rfl, h0⟩ | ⟨g, cap, cur, rfl, hb, hh, hnc, hcm, hcs, ht⟩
  · exact .inl ⟨h0, none, rfl, fun a b => by cases b⟩
  · exact .inr ⟨g, 0, cap, cur, by rw [Nat.zero_mul], hb, hh, hnc, by rw [Nat.zero_add]; exact hcm, by rw [Nat.zero_add]; exact hcs, by rw [Nat.zero_mul, List.drop_zero]; exact ht⟩
theorem Ji (g o j : Nat) : (⟨g, o, none⟩ : Addr).add j = ⟨g, o + j, none⟩ := by unfold Addr.add; split <;> simp_all
end
section
variable {P : Program}
end
namespace Kd
def Q {α : Type} (d : Kd α) (e : Nat) (w : World) (base : Nat) (ok : Nat → Prop) (v : Value) (xs : List α) : Prop :=
  (∀ k, v.ownBlock = some k → ok k) ∧ ∃ inner, QW w base e d.sz v xs.length inner ∧ Cu (d.M w base (fun k => ok k ∧ some k ≠ v.ownBlock)) d.sz xs inner
section
variable {α : Type} {d : Kd α} {e : Nat} {w w1 W : World} {base : Nat} {ok ok' : Nat → Prop} {v : Value} {xs : List α}
theorem Ph (h : d.R e w base ok v xs) : d.Q e w base ok v xs := by
  obtain ⟨a, inner, ho, hr⟩ := h; exact ⟨a, inner, NP ho, hr⟩
theorem Du (d : Kd α) (e : Nat) (w : World) (base : Nat) (ok : Nat → Prop) : d.Q e w base ok (.slice none 0 0) [] := Ph (Da d e w base ok)
end
section
variable {P : Program} {ops : Array Oper} {rest : List Oper} {o : Oper} {a : Act} {Q' : Exit → Act → World → Prop} {Kc : Act → World → Prop} {α : Type}
end
end Kd
namespace Kd
section
variable {α : Type} {d : Kd α} {e e' : Nat} {w w1 W : World} {base : Nat} {ok : Nat → Prop} {u v : Value} {xs : List α}
theorem FI (h : d.R e w base ok v xs) : ∀ k, v.ownBlock = some k → ∃ cells, w.heap[k]? = some (.cells cells e (0, 0)) := by
  obtain ⟨inner, ho⟩ := Lp h; exact fun k a => GV ho k a
theorem IM (h : d.R e W base ok u xs) (i : ∀ k, v.ownBlock = some k → ∃ cells, W.heap[k]? = some (.cells cells e' (0, 0))) (r : ∀ q, q ∈ e :: d.E → q ≠ e') (hg : W.grownBy w1 v.ownBlock) : d.R e w1 base ok u xs := by
  refine BS (Jf (DW h) (fun k c => hg.block k c.2.2.1 (fun l => ?_))) (fun _ c => c.1); obtain ⟨_, _, _, q, o, cells, j⟩ := c; obtain ⟨b, a⟩ := i k l.symm; rw [j] at a; injection a with a; injection a with _ a; exact r q o a
theorem Dz (h : d.R e W base ok u xs) (c : ∀ k, v.ownBlock = some k → ∃ cells, W.heap[k]? = some (.cells cells e' (0, 0))) (r : ∀ q, q ∈ e :: d.E → q ≠ e') : d.R e W base (fun k => ok k ∧ some k ≠ v.ownBlock) u xs := by
  refine BS (DW h) (fun k i => ⟨i.1, fun l => ?_⟩); obtain ⟨_, _, _, q, o, cells, j⟩ := i; obtain ⟨b, a⟩ := c k l.symm; rw [j] at a; injection a with a; injection a with _ a; exact r q o a
theorem Fe (i : d.R e W base ok u xs) (a : ∀ k, v.ownBlock = some k → W.heap.size ≤ k) (c : Below W.heap.size W w1) : d.R e w1 base (fun k => ok k ∧ some k ≠ v.ownBlock) u xs :=
  BS (Jf (DW i) (fun k b => c.block k b.2.2.1)) (fun k b => ⟨b.1, fun h => by have := a k h.symm; have := b.2.2.1; omega⟩)
theorem Ed (h : d.R e w1 W.heap.size ok v xs) (a : ∀ k, u.ownBlock = some k → k < W.heap.size) : d.R e w1 W.heap.size (fun k => ok k ∧ some k ≠ u.ownBlock) v xs :=
  BS (DW h) (fun k b => ⟨b.1, fun c => by have := a k c.symm; have := b.2.1; omega⟩)
theorem fresh' (a : ∀ k, u.ownBlock = some k → k < W.heap.size) : ∀ k, W.heap.size ≤ k → some k ≠ u.ownBlock := fun k c b => by have := a k b.symm; omega
end
end Kd
namespace Kd
section
variable {α : Type} {d : Kd α} {e base g n cap : Nat} {ok okp : Nat → Prop} {W : World} {xs : List α}
theorem Pi (h : d.R e W base ok (.slice (some ⟨g, 0, none⟩) n cap) xs) (z : α) (i : Int) (w : 0 ≤ i) (h1 : i < n) :
    ∃ c, c.length = d.sz ∧ d.M W base (fun k => ok k ∧ k ≠ g) (xs.getD i.toNat z) c ∧ (∀ j u, c[j]? = some u → W.cell? ⟨g, i.toNat * d.sz + j, none⟩ = some u) ∧ ∀ j, W.frozen? ⟨g, i.toNat * d.sz + j, none⟩ = false := by
  obtain ⟨hn, v, B⟩ := CE h; obtain ⟨_, inner, ho, hr⟩ := h; have a : i.toNat < xs.length := by omega
  have o : i.toNat * d.sz + d.sz ≤ inner.length := by rw [hr.1, ← Nat.succ_mul]; exact Nat.mul_le_mul_right _ a
  have q := hr.2 i.toNat _ (List.getElem?_eq_getElem a); refine ⟨(inner.drop (i.toNat * d.sz)).take d.sz, by rw [List.length_take, List.length_drop]; omega, ?_, fun j u b => ?_, fun j => ?_⟩
  · rw [List.getD_eq_getElem?_getD, List.getElem?_eq_getElem a]; exact d.M_mono (fun k l => ⟨l.1, fun s => l.2 (by rw [s]; simp [Value.ownBlock])⟩) q
  · rw [List.getElem?_take] at b; split at b
    · rw [List.getElem?_drop] at b; have := ho.cells (g := g) (by simp [Value.ownBlock]) _ u b; rwa [add_plain] at this
    · cases b
  · obtain ⟨cells, r⟩ := GV ho g (by simp [Value.ownBlock]); exact AJ r _
end
end Kd
namespace Kd
section
variable {α : Type} {F : Kd α → Kd α} {sz : Nat} {E : List Nat} {hs : ∀ n, (upto F sz E n).sz = sz} {hE : ∀ n q, q ∈ (upto F sz E n).E → q ∈ E}
end
end Kd
namespace Kd
theorem H6 {α : Type} {R : α → List Value → Prop} {size : Nat} {ps e : List α} {cs ds : List Value} (h : Cu R size ps cs) (c : Cu R size e ds) : Cu R size (ps ++ e) (cs ++ ds) := by
  refine ⟨by rw [List.length_append, List.length_append, h.1, c.1, Nat.add_mul], fun j p b => ?_⟩; rcases Nat.lt_or_ge j ps.length with hlt | hge
  · rw [List.getElem?_append_left hlt] at b; have a : j * size + size ≤ cs.length := by rw [h.1, ← Nat.succ_mul]; exact Nat.mul_le_mul_right _ hlt
    rw [List.drop_append_of_le_length (by omega), List.take_append_of_le_length (by rw [List.length_drop]; omega)]; exact h.2 j p b
  · rw [List.getElem?_append_right hge] at b; have h2 := c.2 (j - ps.length) p b; have a : ps.length * size ≤ j * size := Nat.mul_le_mul_right _ hge; rw [List.drop_append, List.drop_eq_nil_of_le (by rw [h.1]; exact a), List.nil_append, h.1, ← Nat.sub_mul]; exact h2
section
variable {P : Program} {ops : Array Oper} {rest : List Oper} {o : Oper} {a : Act} {Q : Exit → Act → World → Prop} {α : Type}
theorem D5 (d : Kd α) {Rr : α → List Value → Prop} {w0 W : World} (base : Nat) (eB : o.guard = none) (s x : Operand) (t e : TypeId) (z : Value) (bytes : Nat)
    (ho : o.op = .call { callee := .builtin .append, args := #[s, x], argTypes := #[t, t] })
    (ht : P.underlying t = some (.slice e)) (L : (P.info? e).map (fun i => (i.zero, i.size, i.bytes)) = some (some z, d.sz, bytes)) (hz : z.cells.size = d.sz) (T : 0 < d.sz) (dB : 0 < bytes)
    (v : Value) (xs ys : List α) (A : Option Addr) (m c : Nat) (ok okp : Nat → Prop) (hs : a.eval s = v) (hx : a.eval x = .slice A m c)
    (HO : d.R e W base ok v xs) (HR : Ci Rr d.sz W A m ys) (cB : ∀ x cs, Rr x cs → d.M W base okp x cs) (Y : ∀ k, okp k → ok k ∧ some k ≠ v.ownBlock) (G : ∀ k, W.heap.size ≤ k → ok k)
    (HB : Below base w0 W) (B : base ≤ W.heap.size) (hl : (xs.length + m) * bytes ≤ 140737488355328)
    (h : ∀ v1 w1, d.R e w1 base ok v1 (xs ++ ys) → Below base w0 w1 → W.grownBy w1 v.ownBlock → (v1.ownBlock = v.ownBlock ∨ ∃ b, v1.ownBlock = some b ∧ W.heap.size ≤ b) → wpList P ops Q rest (a.put o.dst v1) w1) :
    wpList P ops Q (o :: rest) a W := by
  obtain ⟨i0, hi, aB⟩ := Option.map_eq_some_iff.1 L; simp only [Prod.mk.injEq] at aB; obtain ⟨lB, mB, qB⟩ := aB; have hm : ys.length = m := HR.1; have wB : xs.length + m ≤ 140737488355328 := Nat.le_trans (Nat.le_mul_of_pos_right _ dB) hl; obtain ⟨X, inner, r, hr⟩ := HO; have D : ∃ v1 w1, (Builtin.append_ #[t, t] o.type #[v, .slice A m c]).run P W = .ok v1 w1 ∧ d.R e w1 base ok v1 (xs ++ ys) ∧ W.grownBy w1 v.ownBlock ∧ (v1.ownBlock = v.ownBlock ∨ ∃ b, v1.ownBlock = some b ∧ W.heap.size ≤ b) := by
    rcases A with _ | ad
    · have U : m = 0 := by
        rcases Nat.eq_zero_or_pos m with U | U
        · exact U
        · obtain ⟨ad, h, _⟩ := HR.2.2 U; cases h
      subst U; obtain rfl : ys = [] := List.eq_nil_of_length_eq_zero hm; refine ⟨v, W, ?_, by rw [List.append_nil]; exact ⟨X, inner, r, hr⟩, World.grownBy.refl W _, .inl rfl⟩; rcases r.2 with ⟨rfl, hn⟩ | ⟨g, cap, cur, rfl, _, _, O, _⟩
      · simp [Builtin.append_, run_underlying ht, sizeOf, typeInfo, hi, Builtin.lenOf, Builtin.firstCells]
      · simp [Builtin.append_, run_underlying ht, sizeOf, typeInfo, hi, Builtin.lenOf, Builtin.firstCells, O, storeCells]
    · obtain ⟨news, gB, O⟩ := Ci.Kt HR; have I : Cu (d.M W base okp) d.sz ys news := gB.FT (fun p c hp => cB p c hp); have Z : ∀ u ∈ news, u.oneCell' = true := by
        intro u hu; obtain ⟨q, J, rfl⟩ := List.mem_iff_getElem.1 hu; have hB : q / d.sz < ys.length := by
          rw [Nat.div_lt_iff_lt_mul T]; rw [← I.1]; exact J
        have hc := I.2 (q / d.sz) _ (List.getElem?_eq_getElem hB); refine d.K_one (d.K_of_M hc) _ ?_; rw [List.mem_iff_getElem?]; refine ⟨q % d.sz, ?_⟩; rw [List.getElem?_take, if_pos (Nat.mod_lt _ T), List.getElem?_drop, Nat.mul_comm, Nat.div_add_mod, List.getElem?_eq_getElem J]
      obtain ⟨v1, w1, D, h2, hg, _, j⟩ := run_append_own_at (P := P) W base t o.type e i0 z d.sz bytes ht hi lB mB qB hz T v xs.length inner r ad m c news (by rw [I.1, hm]) O Z (by simp only [maxLen]; omega) hl B; have w : v1.ownBlock = v.ownBlock ∨ ∃ b, v1.ownBlock = some b ∧ W.heap.size ≤ b := by
        rcases j with j | j
        · exact .inl j
        · exact .inr ⟨_, j, Nat.le_refl _⟩
      have fB : ∀ k, some k ≠ v.ownBlock → k < W.heap.size → some k ≠ v1.ownBlock := by
        intro k l bC; rcases w with j | ⟨b, hb, hle⟩
        · rw [j]; exact l
        · rw [hb]; intro he; injection he with he; omega
      have step : ∀ {q : α} {c : List Value} {o : Nat → Prop}, d.M W base o q c → (∀ k, o k → ok k ∧ some k ≠ v.ownBlock) → d.M w1 base (fun k => ok k ∧ some k ≠ v1.ownBlock) q c := by
        intro q c o J ho; have h1 := d.M_move (w1 := w1) (fun k l => hg.block k l.2.2.1 (ho k l.1).2) (d.M_bound J); exact d.M_mono (fun k l => ⟨(ho k l.1).1, fB k (ho k l.1).2 l.2.2.1⟩) h1
      refine ⟨v1, w1, D, ⟨fun k l => ?_, inner ++ news, by rw [List.length_append, hm]; exact h2, H6 (hr.FT (fun _ _ J => step J (fun _ l => l))) (I.FT (fun _ _ J => step J Y))⟩, hg, w⟩; rcases w with j | ⟨b, hb, hle⟩
      · exact X k (j ▸ l)
      · rw [hb] at l; injection l with l; exact G k (by omega)
  obtain ⟨v1, w1, jB, h1, hg, j⟩ := D; refine wpList_plain eB fun K hK => ?_; unfold Oper.wp execOp; simp only [ho, resolve, invoke, builtin, Sem.run_bind, Sem.run_pure, Result.andThen_ok, List.map_toArray, List.map_cons, List.map_nil, hs, hx, jB]; exact hK _ _ (h v1 w1 h1 (HB.grown hg B (Fb r)) hg j)
end
end Kd
namespace Kd
section
variable {P : Program} {ops : Array Oper} {rest : List Oper} {o : Oper} {a : Act} {Q : Exit → Act → World → Prop} {α : Type}
end
end Kd
theorem add_add (a : Addr) (i j : Nat) : (a.add i).add j = a.add (i + j) := by
  unfold Addr.add; by_cases h1 : i = 0 <;> by_cases h2 : j = 0 <;> simp [h1, h2, Nat.add_assoc]
namespace Kd
section
variable {α : Type} {k : Kd α} {w : World} {A : Option Addr} {xs : List α} {m c : Nat}
theorem Pj (h : k.C w A xs.length xs) (hm : m ≤ xs.length) : k.C w A (xs.take m).length (xs.take m) := by
  have c : (xs.take m).length = m := by rw [List.length_take]; omega
  refine ⟨rfl, by rw [c]; have := h.2.1; omega, fun hp => ?_⟩; obtain ⟨ad, e, b⟩ := h.2.2 (by omega); refine ⟨ad, e, fun j p a => b j p ?_⟩; rw [List.getElem?_take] at a; split at a
  · exact a
  · cases a
theorem NQ (h : k.C w A xs.length xs) (hm : m ≤ xs.length) (o : xs.length ≤ c) : k.C w (if c = m then A else A.map (·.add (m * k.sz))) (xs.drop m).length (xs.drop m) := by
  have e : (xs.drop m).length = xs.length - m := List.length_drop; refine ⟨rfl, by rw [e]; have := h.2.1; omega, fun hp => ?_⟩; rw [e] at hp; obtain ⟨ad, rfl, a⟩ := h.2.2 (by omega); rw [if_neg (by omega)]; refine ⟨ad.add (m * k.sz), rfl, fun j p b => ?_⟩; rw [List.getElem?_drop] at b; obtain ⟨cs, h1, h2, h3⟩ := a (m + j) p b; refine ⟨cs, h1, h2, fun i u l => ?_⟩; rw [add_add, show m * k.sz + (j * k.sz + i) = (m + j) * k.sz + i by rw [Nat.add_mul]; omega]; exact h3 i u l
theorem QX {lo hi : Nat} (h : k.C w A xs.length xs) (h1 : lo ≤ hi) (h2 : hi ≤ xs.length) (a : xs.length ≤ c) : k.C w (if c = lo then A else A.map (·.add (lo * k.sz))) ((xs.take hi).drop lo).length ((xs.take hi).drop lo) := by
  have b : (xs.take hi).length = hi := by rw [List.length_take]; omega
  exact NQ (Pj h h2) (by omega) (by omega)
end
end Kd
section
variable {P : Program}
theorem Oq (t e : TypeId) (k kh : IntKind) {i : TypeInfo} (j : P.underlying t = some (.slice e)) (hi : P.info? e = some i) (size : Nat) (h : i.size = size) (A : Option Addr) (n c : Nat) (lo a : Int) (l : 0 ≤ lo) (h1 : lo ≤ a) (h2 : a ≤ n) (q : n ≤ c) :
    ∀ W : World, (Instr.slice t (.slice A n c) (some (.int k lo)) (some (.int kh a)) none).run P W = .ok (.slice (if c = lo.toNat then A else A.map (·.add (lo.toNat * size))) (a.toNat - lo.toNat) (c - lo.toNat)) W := by
  intro W; have b : P.elem t = e := by simp [Program.elem, j]
  have o : P.underlying t = some (.slice (P.elem t)) := by rw [b]; exact j
  rw [run_slice_lh W t A n c o k kh lo a l h1 (by omega), b]; simp [sizeOf, typeInfo, hi, h, sliced, Result.andThen]
end
theorem AX {w W : World} (h : Below w.heap.size w W) : w.heap.size ≤ W.heap.size := h.size
theorem AZ {w W a : World} (h : Below w.heap.size w W) (k : Below W.heap.size W a) : Below w.heap.size w a := Kq h h.size k
theorem Ah {w W : World} {g j : Nat} {v : Value} (h : Below w.heap.size w W) (hg : w.heap.size ≤ g) : Below w.heap.size w (W.setCell ⟨g, j, none⟩ v) := h.setCell hg _
theorem add_block (a : Addr) (i : Nat) : (a.add i).block = a.block := by unfold Addr.add; split <;> rfl
theorem cell_far {W : World} {p a : Addr} (h : a.block ≠ p.block) (u : Value) : (W.setCell p u).cell? a = W.cell? a := by
  have := Below.heap_setCell W p u a.block h; simp [World.cell?, this]
theorem CP {w : World} {g : Nat} {t : TypeId} {cs a : Array Value} (h : w.heap[g]? = some (.cells cs t (0, 0))) (i : Nat) (u : Value) (e : cs.setIfInBounds i u = a) : (w.setCell ⟨g, i, none⟩ u).heap[g]? = some (.cells a t (0, 0)) := e ▸ Oo h i u
theorem Al {W : World} {base n c : Nat} {e : TypeId} {size g : Nat} {ad : Addr} {xs : List Value} (_ : W.ownsRow base e size (.slice (some ad) n c) n xs) (a : some g ≠ (Value.slice (some ad) n c).ownBlock) : ad.block ≠ g := by
  rintro rfl; exact a (by simp [Value.ownBlock])
theorem Af {base : Nat} {w W : World} (h : Below base w W) : Below base w W.drew := h.drew
namespace Kd
section
variable {α β : Type} {d : Kd α} {d' : Kd β} {e e' base base' n : Nat} {ok ok' : Nat → Prop} {w W w1 W1 : World} {v u : Value} {xs : List α} {ys : List β} {A : Option Addr} {c : Nat}
theorem Al {ad : Addr} {g : Nat} (a : some g ≠ (Value.slice (some ad) n c).ownBlock) : ad.block ≠ g := by
  rintro rfl; exact a (by simp [Value.ownBlock])
end
section
variable {α : Type} {enc : α → Value} {h1 : ∀ x, (enc x).oneCell' = true} {w W : World} {A : Option Addr} {n g : Nat} {xs : List α}
end
end Kd
namespace Kd
section
variable {α : Type} {d : Kd α} {e base g : Nat} {ok : Nat → Prop} {w w1 : World} {v : Value} {xs : List α} {o : Obj}
theorem NR (h : d.R e w base ok v xs) (a : Nat) (c : w.heap.size ≤ a) : d.R e w base (fun k => ok k ∧ k ≠ a) v xs := BS (DW h) (fun k b => ⟨b.1, by have := b.2.2.1; omega⟩)
theorem Jj (h : d.R e w1 w.heap.size ok v xs) (b : w.heap[g]? = some o) : d.R e w1 w.heap.size (fun k => ok k ∧ k ≠ g) v xs := BS (DW h) (fun k a => ⟨a.1, by have := Dx b; have := a.2.1; omega⟩)
theorem Cw (a : w.heap[g]? = some o) : ∀ k, w.heap.size ≤ k → k ≠ g := fun k b => by have := Dx a; omega
end
end Kd
section
variable {P : Program} {ops : Array Oper} {rest : List Oper} {o : Oper} {a : Act} {Q : Exit → Act → World → Prop}
theorem AU {W : World} (c : o.guard = none) {N : Tmp} (_hd : o.dst = some N) {cs : Array Value} {t : TypeId}
    (b : (execOp a.eval o).run P W = .ok (.value (.pointer (some ⟨W.heap.size, 0, none⟩))) (W.alloc (.cells cs t (0, 0))))
    (h : ∀ g, g = W.heap.size → ∀ w1, w1.heap[g]? = some (.cells cs t (0, 0)) → Below W.heap.size W w1 → wpList P ops Q rest (a.put o.dst (.pointer (some ⟨g, 0, none⟩))) w1) : wpList P ops Q (o :: rest) a W :=
  Kd.Hm c b (h _ rfl _ (En W _) (AV (Below.refl _ _) _))
end
namespace Kd
section
variable {α : Type} {enc : α → Value} {h1 : ∀ x, (enc x).oneCell' = true} {e base g n cap : Nat} {ok : Nat → Prop} {W : World} {xs : List α}
end
end Kd
section
variable {P : Program} {ops : Array Oper} {rest : List Oper} {o : Oper} {a : Act} {Q : Exit → Act → World → Prop}
theorem KE {W w1 : World} (c : o.guard = none) {t : TypeId} {p : Tmp} {v : Operand} (_ho : o.op = .store t (.tmp p) v) (i : o.dst = none)
    (b : (execOp a.eval o).run P W = .ok .skip w1) (h : ∀ w', w' = w1 → wpList P ops Q rest a w') : wpList P ops Q (o :: rest) a W := by
  refine wpList_plain c fun K e => ?_; unfold Oper.wp; rw [b]; show K (a.put o.dst undef) w1; rw [i]; exact e _ _ (h _ rfl)
end
namespace Kd
section
variable {α : Type} {enc : α → Value} {h1 : ∀ x, (enc x).oneCell' = true} {e base g n cap : Nat} {ok : Nat → Prop} {W : World} {xs : List α}
end
end Kd
section
variable {P : Program} {ops : Array Oper} {rest : List Oper} {o : Oper} {a : Act} {Q : Exit → Act → World → Prop} {W : World}
theorem D6 {N : Tmp} (_hN : o.dst = some N) (h : wpList P ops Q (o :: rest) a W) : wpList P ops Q (o :: rest) a W := h
theorem Ky {t : TypeId} {p : Tmp} {v : Operand} (_ho : o.op = .store t (.tmp p) v) (h : wpList P ops Q (o :: rest) a W) : wpList P ops Q (o :: rest) a W := h
end
section
variable {P : Program} {ops : Array Oper} {o : Oper} {a : Act} {Q : Exit → Act → World → Prop} {Kc : Act → World → Prop}
theorem Ic {W w1 : World} {v : Value} (c : Region.wanted o (yielded ops a.tmps) = true) (b : (execOp a.eval o).run P W = .ok (.value v) w1) (h : Kc (a.put o.dst v) w1) : if Region.wanted o (yielded ops a.tmps) = true then Oper.wp P o a W Kc Q else Kc (a.put o.dst undef) W := by
  rw [if_pos c]; unfold Oper.wp; rw [b]; exact h
theorem D7 {W : World} (c : Region.wanted o (yielded ops a.tmps) = true) {N : Tmp} (_hd : o.dst = some N) {cs : Array Value} {t : TypeId}
    (b : (execOp a.eval o).run P W = .ok (.value (.pointer (some ⟨W.heap.size, 0, none⟩))) (W.alloc (.cells cs t (0, 0))))
    (h : ∀ g, g = W.heap.size → ∀ w1, w1.heap[g]? = some (.cells cs t (0, 0)) → Below W.heap.size W w1 → Kc (a.put o.dst (.pointer (some ⟨g, 0, none⟩))) w1) : if Region.wanted o (yielded ops a.tmps) = true then Oper.wp P o a W Kc Q else Kc (a.put o.dst undef) W :=
  Ic c b (h _ rfl _ (En W _) (AV (Below.refl _ _) _))
namespace Kd
variable {α : Type}
theorem Ie (d : Kd α) {w0 W : World} (base e : Nat) (w : Region.wanted o (yielded ops a.tmps) = true) {N : Tmp} (_hd : o.dst = some N) {xs : List α} {inner : List Value} {ok okp : Nat → Prop}
    (q : (execOp a.eval o).run P W = .ok (.value (.slice (some ⟨W.heap.size, 0, none⟩) xs.length xs.length)) (W.alloc (.cells inner.toArray e)))
    (l : Cu (d.M W base okp) d.sz xs inner) (s : ∀ k, okp k → ok k) (j : ok W.heap.size) (u : Below base w0 W) (i : base ≤ W.heap.size) (hm : xs.length ≤ 9223372036854775807)
    (h : ∀ v1 w1, d.R e w1 base ok v1 xs → Below base w0 w1 → W.grownBy w1 none → (∃ b, v1.ownBlock = some b ∧ W.heap.size ≤ b) → Kc (a.put o.dst v1) w1) : if Region.wanted o (yielded ops a.tmps) = true then Oper.wp P o a W Kc Q else Kc (a.put o.dst undef) W := by
  refine Ic w q (h _ _ ⟨fun k r => ?_, inner, ?_, ?_⟩ (u.alloc i _) (World.grownBy_alloc W _ none) ⟨W.heap.size, by simp [Value.ownBlock], Nat.le_refl _⟩)
  · have : W.heap.size = k := by simpa [Value.ownBlock] using r
    subst this; exact j
  · have h2 := World.ownsRow_lit (base := base) (e := e) (size := d.sz) W inner.toArray xs.length i (by simpa [maxLen] using hm) (by simpa using l.1); simpa using h2
  · refine l.FT (fun p c hp => d.M_mono (fun k r => ⟨s k r.1, fun v => ?_⟩) (Lm (d.M_bound hp) (AV (Below.refl _ _) _))); have h3 : k = W.heap.size := by simpa [Value.ownBlock] using v
    have := r.2.2.1; omega
theorem D9 (d : Kd α) {Rr : α → List Value → Prop} {w0 W : World} (base : Nat) (hw : Region.wanted o (yielded ops a.tmps) = true) (s x : Operand) (t e : TypeId) (z : Value) (bytes : Nat)
    (ho : o.op = .call { callee := .builtin .append, args := #[s, x], argTypes := #[t, t] })
    (ht : P.underlying t = some (.slice e)) (L : (P.info? e).map (fun i => (i.zero, i.size, i.bytes)) = some (some z, d.sz, bytes)) (hz : z.cells.size = d.sz) (T : 0 < d.sz) (dB : 0 < bytes)
    (v : Value) (xs ys : List α) (A : Option Addr) (m c : Nat) (ok okp : Nat → Prop) (hs : a.eval s = v) (hx : a.eval x = .slice A m c)
    (HO : d.R e W base ok v xs) (HR : Ci Rr d.sz W A m ys) (cB : ∀ x cs, Rr x cs → d.M W base okp x cs) (Y : ∀ k, okp k → ok k ∧ some k ≠ v.ownBlock) (G : ∀ k, W.heap.size ≤ k → ok k)
    (HB : Below base w0 W) (B : base ≤ W.heap.size) (hl : (xs.length + m) * bytes ≤ 140737488355328)
    (h : ∀ v1 w1, d.R e w1 base ok v1 (xs ++ ys) → Below base w0 w1 → W.grownBy w1 v.ownBlock → (v1.ownBlock = v.ownBlock ∨ ∃ b, v1.ownBlock = some b ∧ W.heap.size ≤ b) → Kc (a.put o.dst v1) w1) :
    if Region.wanted o (yielded ops a.tmps) = true then Oper.wp P o a W Kc Q else Kc (a.put o.dst undef) W := by
  obtain ⟨i0, hi, aB⟩ := Option.map_eq_some_iff.1 L; simp only [Prod.mk.injEq] at aB; obtain ⟨kB, lB, mB⟩ := aB; have hm : ys.length = m := HR.1; have uB : xs.length + m ≤ 140737488355328 := Nat.le_trans (Nat.le_mul_of_pos_right _ dB) hl; obtain ⟨X, inner, r, hr⟩ := HO; have D : ∃ v1 w1, (Builtin.append_ #[t, t] o.type #[v, .slice A m c]).run P W = .ok v1 w1 ∧ d.R e w1 base ok v1 (xs ++ ys) ∧ W.grownBy w1 v.ownBlock ∧ (v1.ownBlock = v.ownBlock ∨ ∃ b, v1.ownBlock = some b ∧ W.heap.size ≤ b) := by
    rcases A with _ | ad
    · have U : m = 0 := by
        rcases Nat.eq_zero_or_pos m with U | U
        · exact U
        · obtain ⟨ad, h, _⟩ := HR.2.2 U; cases h
      subst U; obtain rfl : ys = [] := List.eq_nil_of_length_eq_zero hm; refine ⟨v, W, ?_, by rw [List.append_nil]; exact ⟨X, inner, r, hr⟩, World.grownBy.refl W _, .inl rfl⟩; rcases r.2 with ⟨rfl, hn⟩ | ⟨g, cap, cur, rfl, _, _, O, _⟩
      · simp [Builtin.append_, run_underlying ht, sizeOf, typeInfo, hi, Builtin.lenOf, Builtin.firstCells]
      · simp [Builtin.append_, run_underlying ht, sizeOf, typeInfo, hi, Builtin.lenOf, Builtin.firstCells, O, storeCells]
    · obtain ⟨news, fB, O⟩ := Ci.Kt HR; have I : Cu (d.M W base okp) d.sz ys news := fB.FT (fun p c hp => cB p c hp); have Z : ∀ u ∈ news, u.oneCell' = true := by
        intro u hu; obtain ⟨q, J, rfl⟩ := List.mem_iff_getElem.1 hu; have gB : q / d.sz < ys.length := by
          rw [Nat.div_lt_iff_lt_mul T]; rw [← I.1]; exact J
        have hc := I.2 (q / d.sz) _ (List.getElem?_eq_getElem gB); refine d.K_one (d.K_of_M hc) _ ?_; rw [List.mem_iff_getElem?]; refine ⟨q % d.sz, ?_⟩; rw [List.getElem?_take, if_pos (Nat.mod_lt _ T), List.getElem?_drop, Nat.mul_comm, Nat.div_add_mod, List.getElem?_eq_getElem J]
      obtain ⟨v1, w1, D, h2, hg, _, j⟩ := run_append_own_at (P := P) W base t o.type e i0 z d.sz bytes ht hi kB lB mB hz T v xs.length inner r ad m c news (by rw [I.1, hm]) O Z (by simp only [maxLen]; omega) hl B; have w : v1.ownBlock = v.ownBlock ∨ ∃ b, v1.ownBlock = some b ∧ W.heap.size ≤ b := by
        rcases j with j | j
        · exact .inl j
        · exact .inr ⟨_, j, Nat.le_refl _⟩
      have eB : ∀ k, some k ≠ v.ownBlock → k < W.heap.size → some k ≠ v1.ownBlock := by
        intro k l zB; rcases w with j | ⟨b, hb, hle⟩
        · rw [j]; exact l
        · rw [hb]; intro he; injection he with he; omega
      have step : ∀ {q : α} {c : List Value} {o : Nat → Prop}, d.M W base o q c → (∀ k, o k → ok k ∧ some k ≠ v.ownBlock) → d.M w1 base (fun k => ok k ∧ some k ≠ v1.ownBlock) q c := by
        intro q c o J ho; have h1 := d.M_move (w1 := w1) (fun k l => hg.block k l.2.2.1 (ho k l.1).2) (d.M_bound J); exact d.M_mono (fun k l => ⟨(ho k l.1).1, eB k (ho k l.1).2 l.2.2.1⟩) h1
      refine ⟨v1, w1, D, ⟨fun k l => ?_, inner ++ news, by rw [List.length_append, hm]; exact h2, H6 (hr.FT (fun _ _ J => step J (fun _ l => l))) (I.FT (fun _ _ J => step J Y))⟩, hg, w⟩; rcases w with j | ⟨b, hb, hle⟩
      · exact X k (j ▸ l)
      · rw [hb] at l; injection l with l; exact G k (by omega)
  obtain ⟨v1, w1, hB, h1, hg, j⟩ := D; rw [if_pos hw]; unfold Oper.wp execOp; simp only [ho, resolve, invoke, builtin, Sem.run_bind, Sem.run_pure, Result.andThen_ok, List.map_toArray, List.map_cons, List.map_nil, hs, hx, hB]; exact h v1 w1 h1 (HB.grown hg B (Fb r)) hg j
end Kd
end
section
variable {P : Program} {tmps : Array Value} {w : World}
end
namespace Kd
section
variable {P : Program} {α : Type}
end
section
variable {P : Program} {ops : Array Oper} {rest : List Oper} {o : Oper} {a : Act} {Q : Exit → Act → World → Prop} {Kc : Act → World → Prop} {α : Type}
end
end Kd
end Go.Proofs.Ytojankgmedccdaa.Wo
end
section
namespace Go.Proofs.Ytojankgmedccdaa.Wo
section
variable {P : Program} {ops : Array Oper} {Q : Exit → Act → World → Prop} {md : Region.Mode} {S : World → Prop} {ds : List Nat}
def Region.Ee (md : Region.Mode) (ops : Array Oper) (i : Nat) : Nat → Nat → Bool
  | 0, _ => false
  | fuel + 1, d => match ops[d]? with
    | some o => o.after.any fun e => Region.binds md e && (e.on == i || Region.Ee md ops i fuel e.on)
    | none => false
def Region.G6 (md : Region.Mode) (ops : Array Oper) (listed : Array Bool) : Bool :=
  (List.range ops.size).all fun j => !listed.getD j false || match ops[j]? with
    | some o => o.after.all fun e => !Region.binds md e || listed.getD e.on false
    | none => true
def Region.lastB (md : Region.Mode) (ops : Array Oper) (listed : Array Bool) (ds : List Nat) (i : Nat) : Bool :=
  ds.all fun d => listed.getD d true || Region.Ee md ops i ops.size d
def Dc (md : Region.Mode) (ops : Array Oper) (listed : Array Bool) : Prop :=
  ∀ j a, ops[j]? = some a → listed.getD j false = true → ∀ e ∈ a.after, Region.binds md e = true → listed.getD e.on false = true
theorem Region.Jk {listed : Array Bool} (h : Region.G6 md ops listed = true) : Dc md ops listed := by
  intro j l b k e i c; have a : j < ops.size := (Array.getElem?_eq_some_iff.1 b).1; have h1 := List.all_eq_true.1 h j (List.mem_range.2 a); simp only [k, b, Bool.not_true, Bool.false_or] at h1; have h2 := Array.all_eq_true_iff_forall_mem.1 h1 e i; simpa [c] using h2
theorem Dc.set {listed : Array Bool} {i : Nat} (h : Dc md ops listed) (hi : i ∈ Region.ready md ops listed) : Dc md ops (listed.setIfInBounds i true) := by
  obtain ⟨_, r, b, a⟩ := mem_ready.1 hi; intro j q l o e k c; by_cases hij : i = j
  · subst hij; have : q = r := Option.some.inj (l.symm.trans b); subst this; exact getD_set_true (a e k c)
  · rw [getD_set_ne false hij] at o; exact getD_set_true (h j q l o e k c)
theorem Region.G7 {listed : Array Bool} {i : Nat} (b : Dc md ops listed) : ∀ (fuel d : Nat), Region.Ee md ops i fuel d = true → listed.getD d false = true → listed.getD i false = true
  | 0, _, h, _ => by simp [Region.Ee] at h
  | fuel + 1, d, h, hl => by
    unfold Region.Ee at h; cases ho : ops[d]? with
    | none => rw [ho] at h; simp at h
    | some o =>
      rw [ho] at h; obtain ⟨e, c, h1⟩ := Array.any_eq_true'.1 h; simp only [Bool.and_eq_true, Bool.or_eq_true, beq_iff_eq] at h1; have a := b d o ho hl e c h1.1; rcases h1.2 with h2 | h2
      · rw [← h2]; exact a
      · exact Region.G7 b fuel e.on h2 a
theorem Region.IJ {listed : Array Bool} {i d fuel : Nat} (h : Dc md ops listed) (hr : Region.Ee md ops i fuel d = true) (a : listed.getD i true = false) : d ∉ Region.ready md ops listed := by
  intro hd; obtain ⟨_, o, ho, b⟩ := mem_ready.1 hd; have hi : listed.getD i false = true := by
    cases fuel with
    | zero => simp [Region.Ee] at hr
    | succ n =>
      unfold Region.Ee at hr; rw [ho] at hr; obtain ⟨e, j, h1⟩ := Array.any_eq_true'.1 hr; simp only [Bool.and_eq_true, Bool.or_eq_true, beq_iff_eq] at h1; have c := b e j h1.1; rcases h1.2 with h2 | h2
      · rw [← h2]; exact c
      · exact Region.G7 h n e.on h2 c
  rcases Nat.lt_or_ge i listed.size with h' | h'
  · simp [h'] at a hi; rw [a] at hi; cases hi
  · simp [Array.getElem?_eq_none h'] at a
def Az (P : Program) (md : Region.Mode) (ops : Array Oper) (Q : Exit → Act → World → Prop) (S : World → Prop) (ds : List Nat) : Nat → Array Bool → Act → World → Prop
  | 0, listed, a, w => Region.ready md ops listed = [] ∧ Q .normal a w
  | fuel + 1, listed, a, w =>
    (Region.ready md ops listed = [] → Q .normal a w) ∧
    ∀ i ∈ Region.ready md ops listed, wpOp P ops Q i (fun a' w' => (i ∉ ds → S w → S w') ∧ Az P md ops Q S ds fuel (listed.setIfInBounds i true) a' w') a w
theorem Gi : ∀ (fuel : Nat) (listed : Array Bool) (a : Act) (w : World), Az P md ops Q S ds fuel listed a w → wpAny P md ops Q fuel listed a w
  | 0, _, _, _, h => h
  | fuel + 1, _, _, _, h => ⟨h.1, fun i hi => wpOp_mono (fun a' w' b => Gi fuel _ a' w' b.2) (h.2 i hi)⟩
theorem IK {i : Nat} {D : Oper} {v : Value} (hi : ops[i]? = some D) (z : ∀ (j : Nat) (o : Oper) cs b, ops[j]? = some o → o.op ≠ .select cs b)
    (hQ : ∀ c a w, Q (.panic c) (a.put D.dst v) w → Q (.panic c) a w) (n : Nat) :
    ∀ (fuel : Nat) (listed : Array Bool) (a : Act) (w : World),
      (∀ j G, ops[j]? = some G → j ≠ i → listed.getD j true = false → (∀ e ∈ G.after, Region.binds md e = true → e.on ≠ i) → D.apart ops G = true) →
      Dc md ops listed → (∀ d ∈ ds, listed.getD d true = false → Region.Ee md ops i n d = true) →
      i ∈ Region.ready md ops listed → YieldsIf P ops S D v a → S w →
      Az P md ops Q S ds fuel (listed.setIfInBounds i true) (a.put D.dst v) w → Az P md ops Q S ds (fuel + 1) listed a w := by
  intro fuel; induction fuel with
  | zero =>
    intro listed a w _ _ _ hr T O H; refine ⟨fun h => (by rw [h] at hr; cases hr), fun j I => ?_⟩; by_cases hji : j = i
    · subst hji; exact T.wpOp hi O ⟨fun _ h => h, H⟩
    · have := ready_mono I hji; rw [H.1] at this; cases this
  | succ fuel ih =>
    intro listed a w q hc hd hr T O H; refine ⟨fun h => (by rw [h] at hr; cases hr), fun j I => ?_⟩; by_cases hji : j = i
    · subst hji; exact T.wpOp hi O ⟨fun _ h => h, H⟩
    · have h1 := H.2 j (ready_mono I hji); obtain ⟨l, G, B, J⟩ := mem_ready.1 I; have r := (mem_ready.1 hr).1; have L : ∀ e ∈ G.after, Region.binds md e = true → e.on ≠ i := fun e he hb W => by
        have h1 := J e he hb; rw [W] at h1; rcases Nat.lt_or_ge i listed.size with h' | h'
        · simp [h'] at r h1; rw [r] at h1; cases h1
        · simp [Array.getElem?_eq_none h'] at h1
      have X : j ∉ ds := fun hm => Region.IJ hc (hd j hm l) r I; have h2 := wpOp_putIf B (q j G B hji l L) (fun cs b => z i D cs b hi) (fun cs b => z j G cs b B) hQ T h1; have u : ∀ k ok, ops[k]? = some ok → k ≠ i → (listed.setIfInBounds j true).getD k true = false →
          (∀ e ∈ ok.after, Region.binds md e = true → e.on ≠ i) → D.apart ops ok = true := fun k ok hk Y s Z => by
        refine q k ok hk Y ?_ Z
        by_cases hjk : j = k
        · subst hjk; exact l
        · rw [getD_set_ne true hjk] at s; exact s
      have U : ∀ d ∈ ds, (listed.setIfInBounds j true).getD d true = false → Region.Ee md ops i n d = true := fun d hm s => by
        refine hd d hm ?_; by_cases hjk : j = d
        · subst hjk; exact l
        · rw [getD_set_ne true hjk] at s; exact s
      refine wpOp_mono (fun a' w' h3 => ⟨h3.2.1, ih (listed.setIfInBounds j true) a' w' u (hc.set I) U (ready_mono hr (Ne.symm hji)) h3.1 (h3.2.1 X O) ?_⟩) h2; rw [Array.setIfInBounds_comm _ _ hji]; exact h3.2.2
theorem JH {i : Nat} {B : Oper} {v : Value} (hi : ops[i]? = some B) (u : ∀ (j : Nat) (o : Oper) cs b, ops[j]? = some o → o.op ≠ .select cs b)
    (X : ∀ c a w, Q (.panic c) (a.put B.dst v) w → Q (.panic c) a w) :
    ∀ (fuel : Nat) (listed : Array Bool) (a : Act) (w : World),
      (∀ j D, ops[j]? = some D → j ≠ i → listed.getD j true = false → (∀ e ∈ D.after, Region.binds md e = true → e.on ≠ i) → B.apart ops D = true) →
      i ∈ Region.ready md ops listed → Yields P ops B v a →
      Az P md ops Q S ds fuel (listed.setIfInBounds i true) (a.put B.dst v) w → Az P md ops Q S ds (fuel + 1) listed a w := by
  intro fuel; induction fuel with
  | zero =>
    intro listed a w _ hr O H; refine ⟨fun h => (by rw [h] at hr; cases hr), fun j L => ?_⟩; by_cases hji : j = i
    · subst hji; exact (O.yieldsIf (S := fun _ => True)).wpOp hi trivial ⟨fun _ h => h, H⟩
    · have := ready_mono L hji; rw [H.1] at this; cases this
  | succ fuel ih =>
    intro listed a w l hr O H; refine ⟨fun h => (by rw [h] at hr; cases hr), fun j L => ?_⟩; by_cases hji : j = i
    · subst hji; exact (O.yieldsIf (S := fun _ => True)).wpOp hi trivial ⟨fun _ h => h, H⟩
    · have h1 := H.2 j (ready_mono L hji); obtain ⟨s, D, z, G⟩ := mem_ready.1 L; have r := (mem_ready.1 hr).1; have I : ∀ e ∈ D.after, Region.binds md e = true → e.on ≠ i := fun e Z Y T => by
        have h1 := G e Z Y; rw [T] at h1; rcases Nat.lt_or_ge i listed.size with h' | h'
        · simp [h'] at r h1; rw [r] at h1; cases h1
        · simp [Array.getElem?_eq_none h'] at h1
      have h2 := wpOp_put z (l j D z hji s I) (fun cs b => u i B cs b hi) (fun cs b => u j D cs b z) X O h1; have q : ∀ k ok, ops[k]? = some ok → k ≠ i → (listed.setIfInBounds j true).getD k true = false →
          (∀ e ∈ ok.after, Region.binds md e = true → e.on ≠ i) → B.apart ops ok = true := fun k ok hk U J W => by
        refine l k ok hk U ?_ W
        by_cases hjk : j = k
        · subst hjk; exact s
        · rw [getD_set_ne true hjk] at J; exact J
      refine wpOp_mono (fun a' w' h3 => ⟨h3.2.1, ih (listed.setIfInBounds j true) a' w' q (ready_mono hr (Ne.symm hji)) h3.1 ?_⟩) h2; rw [Array.setIfInBounds_comm _ _ hji]; exact h3.2.2
theorem Ig {i : Nat} {b : Oper} {v : Value} {fuel : Nat} {listed : Array Bool} {a : Act} {w : World} (hi : ops[i]? = some b)
    (hs : Region.noSelect ops = true) (o : Region.free md ops listed i = true) (hr : (Region.ready md ops listed).contains i = true)
    (l : Region.G6 md ops listed = true) (q : Region.lastB md ops listed ds i = true)
    (j : ∀ c a w, Q (.panic c) (a.put b.dst v) w → Q (.panic c) a w) (r : YieldsIf P ops S b v a) (k : S w)
    (h : Az P md ops Q S ds fuel (listed.setIfInBounds i true) (a.put b.dst v) w) : Az P md ops Q S ds (fuel + 1) listed a w :=
  IK hi (Region.noSelect_spec hs) j ops.size fuel listed a w (Region.free_spec hi o) (Region.Jk l)
    (fun d hm e => by have := List.all_eq_true.1 q d hm; rw [e] at this; simpa using this) (by simpa using hr) r k h
theorem Gj {c : List Nat} {fuel : Nat} {listed : Array Bool} {a : Act} {w : World} (hr : Region.ready md ops listed = c) (b : c ≠ [])
    (h : ∀ i ∈ c, wpOp P ops Q i (fun a' w' => (i ∉ ds → S w → S w') ∧ Az P md ops Q S ds fuel (listed.setIfInBounds i true) a' w') a w) : Az P md ops Q S ds (fuel + 1) listed a w :=
  ⟨fun e => absurd (hr ▸ e) b, hr ▸ h⟩
theorem Ih {listed : Array Bool} {a : Act} {w : World} (hr : Region.ready md ops listed = []) (h : Q .normal a w) :
    ∀ fuel, Az P md ops Q S ds fuel listed a w
  | 0 => ⟨hr, h⟩
  | _ + 1 => ⟨fun _ => h, by rw [hr]; simp⟩
theorem Ii {id : Nat} {a : Act} {w : World} (hm : P.follows .mixedOrders = true)
    (h : Az P .any ops Q S ds ops.size (Array.replicate ops.size false) a { w with drawn := w.drawn + 1 }) : (Code.region id ops true).wp P Q a w :=
  wp_region_any hm (Gi _ _ _ _ h)
end
section
variable {P : Program} {ops : Array Oper} {Q : Exit → Act → World → Prop} {md : Region.Mode} {S : World → Prop} {ds : List Nat}
def Cr (P : Program) (md : Region.Mode) (ops : Array Oper) (Q : Exit → Act → World → Prop) (S : World → Prop) (ds : List Nat) (fuel : Nat) (listed : Array Bool) (a : Act) (w : World) (b : List Nat) : Prop :=
  ∀ i ∈ b, wpOp P ops Q i (fun a' w' => (i ∉ ds → S w → S w') ∧ Az P md ops Q S ds fuel (listed.setIfInBounds i true) a' w') a w
theorem Cr.nil {fuel : Nat} {listed : Array Bool} {a : Act} {w : World} : Cr P md ops Q S ds fuel listed a w [] := fun _ h => by cases h
theorem Cr.cons {fuel : Nat} {listed : Array Bool} {a : Act} {w : World} {i : Nat} {o : Oper} {k : List Nat} (ho : ops[i]? = some o) (hd : i ∉ ds)
    (h : ∀ b : Act → World → Prop, Shut (∀ a w, S w → (S w → Az P md ops Q S ds fuel (listed.setIfInBounds i true) a w) → b a w) → if Region.wanted o (yielded ops a.tmps) = true then Oper.wp P o a w b Q else b (a.put o.dst undef) w)
    (hs : Cr P md ops Q S ds fuel listed a w k) : Cr P md ops Q S ds fuel listed a w (i :: k) := fun j c => by
  rcases List.mem_cons.1 c with rfl | c
  · exact wpOp_step ho (fun b l => h b (fun a w e q => l a w ⟨fun _ _ => e, q e⟩))
  · exact hs j c
theorem Cr.MP {fuel : Nat} {listed : Array Bool} {a : Act} {w : World} {i : Nat} {o : Oper} {e : List Nat} (ho : ops[i]? = some o) (hd : i ∈ ds)
    (h : ∀ b : Act → World → Prop, Shut (∀ a w, Az P md ops Q S ds fuel (listed.setIfInBounds i true) a w → b a w) → if Region.wanted o (yielded ops a.tmps) = true then Oper.wp P o a w b Q else b (a.put o.dst undef) w)
    (hs : Cr P md ops Q S ds fuel listed a w e) : Cr P md ops Q S ds fuel listed a w (i :: e) := fun j c => by
  rcases List.mem_cons.1 c with rfl | c
  · exact wpOp_step ho (fun b k => h b (fun a w l => k a w ⟨fun hn => absurd hd hn, l⟩))
  · exact hs j c
theorem Ef {c : List Nat} {fuel : Nat} {listed : Array Bool} {a : Act} {w : World} (hr : Region.ready md ops listed = c) (b : c ≠ [])
    (h : Cr P md ops Q S ds fuel listed a w c) : Az P md ops Q S ds (fuel + 1) listed a w := Gj hr b h
theorem Cz {id n : Nat} {a : Act} {w : World} (l : Array Bool) (hm : P.follows .mixedOrders = true) (hn : ops.size = n) (c : Array.replicate n false = l) (b : S w.drew)
    (h : S w.drew → Az P .any ops Q S ds n l a w.drew) : (Code.region id ops true).wp P Q a w := by
  subst hn; subst c; exact Ii hm (h b)
def takeB (md : Region.Mode) (ops : Array Oper) (ds : List Nat) (l l' : Array Bool) (i : Nat) : Bool :=
  Region.noSelect ops && Region.free md ops l i && (Region.ready md ops l).contains i && Region.G6 md ops l && Region.lastB md ops l ds i && (l.setIfInBounds i true == l')
theorem Bn {i : Nat} {N : Option Tmp} {b : Oper} {v : Value} {fuel : Nat} {l : Array Bool} {a : Act} {w : World} (l' : Array Bool) (hi : ops[i]? = some b) (o : b.dst = N) (e : takeB md ops ds l l' i = true)
    (q : ∀ c a w, Q (.panic c) (a.put b.dst v) w → Q (.panic c) a w) (u : YieldsIf P ops S b v a) (r : S w) {a' : Act} (s : a.put N v = a')
    (h : Az P md ops Q S ds fuel l' a' w) : Az P md ops Q S ds (fuel + 1) l a w := by
  subst s; subst o; simp only [takeB, Bool.and_eq_true, beq_iff_eq] at e; obtain ⟨⟨⟨⟨⟨h1, h2⟩, h3⟩, h4⟩, j⟩, k⟩ := e; subst k; exact Ig hi h1 h2 h3 h4 j q u r h
def Ot (md : Region.Mode) (ops : Array Oper) (l l' : Array Bool) (i : Nat) : Bool :=
  Region.noSelect ops && Region.free md ops l i && (Region.ready md ops l).contains i && (l.setIfInBounds i true == l')
theorem F7 {i : Nat} {N : Option Tmp} {b : Oper} {v : Value} {fuel : Nat} {l : Array Bool} {a : Act} {w : World} (l' : Array Bool) (hi : ops[i]? = some b) (k : b.dst = N) (e : Ot md ops l l' i = true)
    (o : ∀ c a w, Q (.panic c) (a.put b.dst v) w → Q (.panic c) a w) (r : Yields P ops b v a) {a' : Act} (q : a.put N v = a')
    (h : Az P md ops Q S ds fuel l' a' w) : Az P md ops Q S ds (fuel + 1) l a w := by
  subst q; subst k; simp only [Ot, Bool.and_eq_true, beq_iff_eq] at e; obtain ⟨⟨⟨h1, h2⟩, h3⟩, j⟩ := e; subst j; exact JH hi (Region.noSelect_spec h1) o fuel l a w (Region.free_spec hi h2) (by simpa using h3) r h
def Ho (md : Region.Mode) (ops : Array Oper) (l l' : Array Bool) (i : Nat) : Bool := (Region.ready md ops l == [i]) && (l.setIfInBounds i true == l')
theorem Cx {i : Nat} {N : Option Tmp} {b : Oper} {fuel : Nat} {l : Array Bool} {a : Act} {w : World} (l' : Array Bool) (hi : ops[i]? = some b) (j : b.dst = N) (c : Ho md ops l l' i = true) (hd : i ∉ ds)
    (h : ∀ K : Act → World → Prop, Shut (∀ a' w', S w' → (S w' → Az P md ops Q S ds fuel l' a' w') → K a' w') → if Region.wanted b (yielded ops a.tmps) = true then Oper.wp P b a w K Q else K (a.put N undef) w) :
    Az P md ops Q S ds (fuel + 1) l a w := by
  subst j; simp only [Ho, Bool.and_eq_true, beq_iff_eq] at c; obtain ⟨h1, h2⟩ := c; subst h2; exact Ef h1 (by simp) (Cr.cons hi hd (fun K e => h K e) Cr.nil)
theorem NS {i : Nat} {N : Option Tmp} {b : Oper} {fuel : Nat} {l : Array Bool} {a : Act} {w : World} (l' : Array Bool) (hi : ops[i]? = some b) (j : b.dst = N) (c : Ho md ops l l' i = true) (hd : i ∈ ds)
    (h : ∀ K : Act → World → Prop, Shut (∀ a' w', Az P md ops Q S ds fuel l' a' w' → K a' w') → if Region.wanted b (yielded ops a.tmps) = true then Oper.wp P b a w K Q else K (a.put N undef) w) :
    Az P md ops Q S ds (fuel + 1) l a w := by
  subst j; simp only [Ho, Bool.and_eq_true, beq_iff_eq] at c; obtain ⟨h1, h2⟩ := c; subst h2; exact Ef h1 (by simp) (Cr.MP hi hd (fun K e => h K e) Cr.nil)
theorem EB {l : Array Bool} {a : Act} {w : World} {n : Nat} (hr : (Region.ready md ops l == []) = true) (h : Q .normal a w) : Az P md ops Q S ds n l a w := Ih (by simpa using hr) h n
theorem NT {i j : Nat} {Ni Nj : Option Tmp} {b c : Oper} {fuel : Nat} {l : Array Bool} {a : Act} {w : World} (li lj : Array Bool) (hi : ops[i]? = some b) (u : ops[j]? = some c) (h : b.dst = Ni) (k : c.dst = Nj)
    (r : (Region.ready md ops l == [i, j] && l.setIfInBounds i true == li && l.setIfInBounds j true == lj) = true) (o : i ∉ ds) (q : j ∉ ds)
    (h1 : ∀ K : Act → World → Prop, Shut (∀ a' w', S w' → (S w' → Az P md ops Q S ds fuel li a' w') → K a' w') → if Region.wanted b (yielded ops a.tmps) = true then Oper.wp P b a w K Q else K (a.put Ni undef) w)
    (h2 : ∀ K : Act → World → Prop, Shut (∀ a' w', S w' → (S w' → Az P md ops Q S ds fuel lj a' w') → K a' w') → if Region.wanted c (yielded ops a.tmps) = true then Oper.wp P c a w K Q else K (a.put Nj undef) w) :
    Az P md ops Q S ds (fuel + 1) l a w := by
  subst h; subst k; simp only [Bool.and_eq_true, beq_iff_eq] at r; obtain ⟨⟨h3, h4⟩, s⟩ := r; subst h4; subst s; exact Ef h3 (by simp) (Cr.cons hi o (fun K e => h1 K e) (Cr.cons u q (fun K e => h2 K e) Cr.nil))
def Dy : Act → List (Tmp × Value) → Act
  | a, [] => a
  | a, (n, v) :: r => Dy (a.put (some n) v) r
theorem NU {σ : Type} {fuel : Nat} {l : Array Bool} {a : Act} {w : World} (b : Nat) (l' : Array Bool) (e : σ → List (Tmp × Value)) (F : σ → World → Prop)
    (c : ∀ s w', F s w' → Az P md ops Q S ds b l' (Dy a (e s)) w')
    (h : (∀ s w', F s w' → Az P md ops Q S ds b l' (Dy a (e s)) w') → Az P md ops Q S ds fuel l a w) : Az P md ops Q S ds fuel l a w := h c
theorem ES {fuel : Nat} {l : Array Bool} {a a' : Act} {w : World} (b : a = a') (h : Az P md ops Q S ds fuel l a' w) : Az P md ops Q S ds fuel l a w := by
  subst b; exact h
theorem call_ {c : Oper} {N : Option Tmp} {a : Act} {w : World} {K : Act → World → Prop} (f : FuncId) (args : Array Value) (l : Region.wanted c (yielded ops a.tmps) = true) (i : c.dst = N) (b : (execOp a.eval c).run P w = .ok (.enter f args) w)
    (h : Calls P f args w fun e w' => ∃ v, e = .returned v ∧ K (a.put N v) w') : if Region.wanted c (yielded ops a.tmps) = true then Oper.wp P c a w K Q else K (a.put N undef) w := by
  rw [if_pos l]; subst i; unfold Oper.wp; rw [b, Oper.upon_enter]; refine h.mono fun e o j => ?_; obtain ⟨v, rfl, k⟩ := j; exact k
theorem Jl {f : FuncId} {b : Func} (i : P.funcs[f]? = some b) (a : (b.name == "runtime.NumGoroutine") = false) (e : b.body.isSome = true) (args : Array Value) (w : World) : (callFunc f args).run P w = .ok (.enter f args) w := by
  have h1 : b.name ≠ "runtime.NumGoroutine" := by simpa using a
  obtain ⟨c, h⟩ := Option.isSome_iff_exists.1 e; simp [callFunc, i, h1, h]
theorem Ct {i : Oper} {N : Option Tmp} {a : Act} {w : World} {K : Act → World → Prop} {f : FuncId} {j : Func} {as : Array Operand} {u : Array TypeId} (r : P.funcs[f]? = some j) (c : (j.name == "runtime.NumGoroutine") = false) (o : j.body.isSome = true) (args : Array Value)
    (s : Region.wanted i (yielded ops a.tmps) = true) (l : i.dst = N) (k : i.op = .call { callee := .value (.func f), args := as, argTypes := u }) (b : as.map a.eval = args)
    (h : Calls P f args w fun e w' => ∃ v, e = .returned v ∧ K (a.put N v) w') : if Region.wanted i (yielded ops a.tmps) = true then Oper.wp P i a w K Q else K (a.put N undef) w := by
  refine call_ f args s l ?_ h; have q := Jl r c o args w; unfold execOp; simp [k, resolve, Deferred.ofValue, invoke, Act.eval, b, q]
theorem Eg {rest : List Oper} {j : Oper} {a : Act} {w : World} (N : Option Tmp) (hd : j.dst = N) (hg : j.guard = none) {f : FuncId} {k : Func} {as : Array Operand} {B : Array TypeId} (s : P.funcs[f]? = some k) (c : (k.name == "runtime.NumGoroutine") = false) (q : k.body.isSome = true) (args : Array Value)
    (l : j.op = .call { callee := .value (.func f), args := as, argTypes := B }) (b : as.map a.eval = args)
    (h : Calls P f args w fun e w' => ∃ v, e = .returned v ∧ wpList P ops Q rest (a.put N v) w') : wpList P ops Q (j :: rest) a w := by
  refine wpList_plain hg fun K o => ?_; have r := Jl s c q args w; have i : (execOp a.eval j).run P w = .ok (.enter f args) w := by
    unfold execOp; simp [l, resolve, Deferred.ofValue, invoke, Act.eval, b, r]
  unfold Oper.wp; rw [i, Oper.upon_enter]; refine h.mono fun e D u => ?_; obtain ⟨v, rfl, z⟩ := u; subst hd; exact o _ _ z
theorem CJ {c : Oper} {N : Option Tmp} {a : Act} {w w1 : World} {v : Value} {K : Act → World → Prop} (i : Region.wanted c (yielded ops a.tmps) = true) (e : c.dst = N) (b : (execOp a.eval c).run P w = .ok (.value v) w1)
    (h : K (a.put N v) w1) : if Region.wanted c (yielded ops a.tmps) = true then Oper.wp P c a w K Q else K (a.put N undef) w := by
  rw [if_pos i]; subst e; unfold Oper.wp; rw [b]; exact h
theorem ET {b : Oper} {a : Act} {w w1 : World} {K : Act → World → Prop} (i : Region.wanted b (yielded ops a.tmps) = true) (e : b.dst = none) (c : (execOp a.eval b).run P w = .ok .skip w1)
    (h : K a w1) : if Region.wanted b (yielded ops a.tmps) = true then Oper.wp P b a w K Q else K (a.put none undef) w := by
  rw [if_pos i]; unfold Oper.wp; rw [c]; show K (a.put b.dst undef) w1; rw [e]; exact h
theorem CG (n : Int) : IntKind.i64.wrap n = Go.RowKit.wrap64 n := by unfold Go.RowKit.wrap64; exact IntKind.wrap_i64 n
theorem DK (n : Int) : IntKind.i32.wrap n = Go.RowKit.wrap32 n := by unfold Go.RowKit.wrap32; exact IntKind.wrap_i32 n
end
end Go.Proofs.Ytojankgmedccdaa.Wo
end
section
namespace Go.Proofs.Ytojankgmedccdaa.Wo
open Go.RowKit
namespace Kd
section
variable {α : Type} {d : Kd α} {e base g o n cap : Nat} {ok okp : Nat → Prop} {w W : World} {v : Value} {xs : List α}
end
section
variable {α : Type} {enc : α → Value} {h1 : ∀ x, (enc x).oneCell' = true} {e base g o n cap : Nat} {ok : Nat → Prop} {W : World} {xs : List α}
end
end Kd
end Go.Proofs.Ytojankgmedccdaa.Wo
end
section
namespace Go.Proofs.Ytojankgmedccdaa.Wo
open Go.RowKit
namespace Kd
def tag {α : Type} (f : Nat → Nat) (d : Kd α) : Kd (α × Nat) where
  sz := d.sz
  E := d.E
  K := fun w x cs => d.K w x.1 cs
  M := fun w base ok x cs => d.M w base (fun k => ok k ∧ f k = x.2) x.1 cs
  K_len := fun h => d.K_len h
  K_one := fun h => d.K_one h
  K_below := fun b h => d.K_below b h
  K_of_M := fun h => d.K_of_M h
  M_mono := fun c h => d.M_mono (fun k a => ⟨c k a.1, a.2⟩) h
  M_bound := fun h => d.M_mono (fun _ a => ⟨⟨a.1.1, a.2⟩, a.1.2⟩) (d.M_bound h)
  M_move := fun hm h => d.M_move (fun k a => hm k a.1) h
  M_lower := fun b h => d.M_lower b h
def raw (sz : Nat) : Kd (List Value) where
  sz := sz
  E := []
  K := fun _ x cs => cs = x ∧ cs.length = sz ∧ ∀ u ∈ cs, u.oneCell' = true
  M := fun _ _ _ x cs => cs = x ∧ cs.length = sz ∧ ∀ u ∈ cs, u.oneCell' = true
  K_len := fun h => h.2.1
  K_one := fun h => h.2.2
  K_below := fun _ h => h
  K_of_M := fun h => h
  M_mono := fun _ h => h
  M_bound := fun h => h
  M_move := fun _ h => h
  M_lower := fun _ h => h
def S {α : Type} (d : Kd α) (e : Nat) (w : World) (base : Nat) (ok : Nat → Prop) (v : Value) (xs : List α) : Prop := ∃ f, (tag f d).R e w base ok v xs.zipIdx
section
variable {α β : Type} {d : Kd α} {d' : Kd β} {e e' : Nat} {w w1 W : World} {base b : Nat} {ok ok' okv oku : Nat → Prop} {u v : Value} {xs : List α} {ys : List β}
theorem Pk {ad : Addr} {n cap : Nat} (h : d.R e w base ok (.slice (some ad) n cap) xs) : ∃ g, ad = ⟨g, 0, none⟩ := by
  obtain ⟨_, inner, ho, hr⟩ := h; rcases ho.2 with ⟨hv, _⟩ | ⟨g, cap', cur, hv, _⟩
  · cases hv
  · injection hv with ha _ _; injection ha with ha; exact ⟨g, ha⟩
theorem NV {ad : Addr} {n cap : Nat} (h : d.R e W base ok (.slice (some ad) n cap) xs) (z : α) (i : Int) (o : 0 ≤ i) (h1 : i < n) :
    ∃ c, c.length = d.sz ∧ d.M W base (fun k => ok k ∧ some k ≠ (Value.slice (some ad) n cap).ownBlock) (xs.getD i.toNat z) c ∧ ∀ j u, c[j]? = some u → W.cell? (ad.add (i.toNat * d.sz + j)) = some u := by
  obtain ⟨g, rfl⟩ := Pk h; obtain ⟨c, b, q, a, _⟩ := Pi h z i o h1; refine ⟨c, b, d.M_mono (fun k l => ⟨l.1, fun r => l.2 (by simpa [Value.ownBlock] using r)⟩) q, fun j u s => ?_⟩; rw [Ji, Nat.zero_add]; exact a j u s
theorem Ou (hE : d.E = []) (h : d.R e w base ok v xs) : d.R e w base (fun k => some k = v.ownBlock) v xs := by
  obtain ⟨i, inner, ho, hr⟩ := h; refine ⟨fun k a => a.symm, inner, ho, hr.FT (fun p c hp => d.M_mono (fun k a => ?_) (d.M_bound hp))⟩; obtain ⟨_, _, _, q, b, _⟩ := a; rw [hE] at b; cases b
theorem Dv (d : Kd α) (e : Nat) (w : World) (base : Nat) (ok : Nat → Prop) : S d e w base ok (.slice none 0 0) [] := ⟨fun _ => 0, Da _ _ _ _ _⟩
end
section
variable {α β : Type} {d : Kd α} {d' : Kd β} {e e' g : Nat} {w w1 W : World} {base b : Nat} {ok ok' okv oku : Nat → Prop} {u v : Value} {xs : List α} {ys : List β}
end
section
variable {P : Program} {ops : Array Oper} {rest : List Oper} {o : Oper} {a : Act} {Q : Exit → Act → World → Prop} {Kc : Act → World → Prop} {α : Type}
end
def gap {α : Type} (f : Nat → Nat) (d : Kd α) (i : Nat) (c : List Value) : Kd (α × Nat) where
  sz := d.sz
  E := d.E
  K := fun w x cs => (x.2 = i → cs = c ∧ cs.length = d.sz ∧ ∀ u ∈ cs, u.oneCell' = true) ∧ (x.2 ≠ i → d.K w x.1 cs)
  M := fun w base ok x cs => (x.2 = i → cs = c ∧ cs.length = d.sz ∧ ∀ u ∈ cs, u.oneCell' = true) ∧ (x.2 ≠ i → d.M w base (fun k => ok k ∧ f k = x.2) x.1 cs)
  K_len := fun {w x cs} h => by
    by_cases a : x.2 = i
    · exact (h.1 a).2.1
    · exact d.K_len (h.2 a)
  K_one := fun {w x cs} h => by
    by_cases a : x.2 = i
    · exact (h.1 a).2.2
    · exact d.K_one (h.2 a)
  K_below := fun e h => ⟨h.1, fun a => d.K_below e (h.2 a)⟩
  K_of_M := fun h => ⟨h.1, fun a => d.K_of_M (h.2 a)⟩
  M_mono := fun j h => ⟨h.1, fun a => d.M_mono (fun k b => ⟨j k b.1, b.2⟩) (h.2 a)⟩
  M_bound := fun h => ⟨h.1, fun a => d.M_mono (fun _ b => ⟨⟨b.1.1, b.2⟩, b.1.2⟩) (d.M_bound (h.2 a))⟩
  M_move := fun hm h => ⟨h.1, fun a => d.M_move (fun k b => hm k b.1) (h.2 a)⟩
  M_lower := fun e h => ⟨h.1, fun a => d.M_lower e (h.2 a)⟩
def H {α : Type} (d : Kd α) (e : Nat) (w : World) (base : Nat) (ok : Nat → Prop) (v : Value) (xs : List α) (i : Int) (oki : Nat → Prop) (c : List Value) : Prop :=
  (∀ k, oki k → ok k) ∧ ∃ f, (gap f d i.toNat c).R e w base (fun k => ok k ∧ ¬ oki k) v xs.zipIdx
section
variable {α β : Type} {d : Kd α} {e e' g n cap : Nat} {w w1 W : World} {base : Nat} {ok ok' oki okp : Nat → Prop} {u v : Value} {xs : List α} {i : Int} {c : List Value}
end
section
variable {P : Program} {ops : Array Oper} {rest : List Oper} {o : Oper} {a : Act} {Q : Exit → Act → World → Prop} {α : Type}
end
end Kd
end Go.Proofs.Ytojankgmedccdaa.Wo
end
section
namespace Go.Proofs.Ytojankgmedccdaa.Wo
open Go.RowKit
namespace Kd
section
variable {α : Type} {n : Nat} {d : Kd α} {hs : 0 < d.sz} {w : World} {base : Nat} {ok : Nat → Prop} {xs : List α} {cs : List Value}
end
section
variable {α : Type} {n : Nat} {enc : α → Value} {h1 : ∀ x, (enc x).oneCell' = true} {hs : 0 < (scalar enc h1).sz} {w : World} {base : Nat} {ok : Nat → Prop} {xs : List α} {cs : List Value}
end
end Kd
end Go.Proofs.Ytojankgmedccdaa.Wo
end
section
namespace Go.Proofs.Ytojankgmedccdaa.Wo
open Go.RowKit
section
variable {P : Program}
end
namespace Kd
section
variable {P : Program} {ops : Array Oper} {rest : List Oper} {o : Oper} {a : Act} {Q : Exit → Act → World → Prop} {Kc : Act → World → Prop} {α : Type}
end
section
variable {α : Type} {d : Kd α} {e : Nat} {w : World} {base : Nat} {ok : Nat → Prop} {v : Value} {xs : List α}
end
section
variable {P : Program} {ops : Array Oper} {rest : List Oper} {o : Oper} {a : Act} {Q : Exit → Act → World → Prop} {Kc : Act → World → Prop} {α : Type}
end
end Kd
end Go.Proofs.Ytojankgmedccdaa.Wo
end
section
namespace Go.Proofs.Ytojankgmedccdaa.Wo
open Go.RowKit
namespace Kd
structure Heap {α : Type} (d : Kd α) : Prop where
  K : ∀ {w w1 : World} {x : α} {cs : List Value}, (∀ k, k < w.heap.size → w1.heap[k]? = w.heap[k]?) → d.K w x cs → d.K w1 x cs
theorem MQ {w w1 : World} (b : ∀ k, k < w.heap.size → w1.heap[k]? = w.heap[k]?) {a : Addr} {v : Value} (h : w.cell? a = some v) : w1.cell? a = some v := by
  have := b a.block (World.block_lt_of_cell? w a h); simpa [World.cell?, this] using h
theorem Heap.C {α : Type} {d : Kd α} (hd : Heap d) {w w1 : World} {A : Option Addr} {n : Nat} {xs : List α} (b : ∀ k, k < w.heap.size → w1.heap[k]? = w.heap[k]?) (h : d.C w A n xs) : d.C w1 A n xs :=
  ⟨h.1, h.2.1, fun hn => by
    obtain ⟨ad, e, l⟩ := h.2.2 hn; refine ⟨ad, e, fun j p o => ?_⟩; obtain ⟨c, hs, hr, a⟩ := l j p o; exact ⟨c, hs, hd.K b hr, fun i u q => MQ b (a i u q)⟩⟩
theorem EU (k : IntKind) : Heap (Kd.int k) := ⟨fun _ h => h⟩
theorem Ij {α : Type} {d : Kd α} (e : Nat) (hd : Heap d) : Heap (slice e d) := ⟨by
  rintro w w1 x cs a ⟨A, c, rfl, b, hr⟩; exact ⟨A, c, rfl, b, hd.C a hr⟩⟩
theorem GY {α β : Type} {a : Kd α} {b : Kd β} (k : Heap a) (c : Heap b) : Heap (pair a b) := ⟨by
  rintro w w1 x cs e ⟨h, i, rfl, j, h1⟩; exact ⟨h, i, rfl, k.K e j, c.K e h1⟩⟩
theorem KF {α β : Type} {d : Kd α} (f : β → α) (hd : Heap d) : Heap (iso d f) := ⟨fun a h => hd.K a h⟩
theorem NW {α : Type} (sz : Nat) (E : List Nat) : Heap (bot sz E : Kd α) := ⟨fun _ h => h⟩
theorem JQ {α : Type} {F : Kd α → Kd α} {sz : Nat} {E : List Nat} (a : ∀ d, Heap d → Heap (F d)) : ∀ n, Heap (upto F sz E n)
  | 0 => NW sz E
  | n + 1 => a _ (JQ a n)
theorem NY {α : Type} {F : Kd α → Kd α} {sz : Nat} {E : List Nat} {hs : ∀ n, (upto F sz E n).sz = sz} {hE : ∀ n q, q ∈ (upto F sz E n).E → q ∈ E} (a : ∀ d, Heap d → Heap (F d)) : Heap (fix F sz E hs hE) := ⟨by
  rintro w w1 x cs b ⟨n, h⟩; exact ⟨n, (JQ a n).K b h⟩⟩
section
variable {α : Type} {d : Kd α} {e base g n c : Nat} {ok : Nat → Prop} {w w0 W : World} {A : Option Addr} {xs : List α}
end
end Kd
end Go.Proofs.Ytojankgmedccdaa.Wo
end
section
namespace Go.Proofs.Ytojankgmedccdaa.Wo
open Go.RowKit
section
variable {w W W2 : World} {S S2 S' : Nat → Prop}
end
namespace Kd
section
variable {α : Type} {d : Kd α} {e base n c : Nat} {ok oki S S2 : Nat → Prop} {w w0 W W1 W2 : World} {v : Value} {A : Option Addr} {xs : List α} {i : Int} {cs : List Value}
end
end Kd
end Go.Proofs.Ytojankgmedccdaa.Wo
end
section
namespace Go.Proofs.Ytojankgmedccdaa.Wo
open Go.RowKit
def Foot (P : World → Prop) (W : World) (ok : Nat → Prop) : Prop := ∀ a : World, (∀ k, ok k → k < W.heap.size → a.heap[k]? = W.heap[k]?) → P a
theorem Ov {W W1 : World} {k : Nat} (h : W1.heap[k]? = W.heap[k]?) (a : k < W.heap.size) : k < W1.heap.size := by
  rw [Array.getElem?_eq_getElem a] at h; exact (Array.getElem?_eq_some_iff.1 h).1
namespace Foot
variable {P Q : World → Prop} {W W1 : World} {ok ok' : Nat → Prop}
theorem now (h : Foot P W ok) : P W := h W (fun _ _ _ => rfl)
theorem mono (h : Foot P W ok) (b : ∀ k, ok k → ok' k) : Foot P W ok' := fun c e => h c (fun k i a => e k (b k i) a)
theorem bound (h : Foot P W ok) : Foot P W (fun k => ok k ∧ k < W.heap.size) := fun b c => h b (fun k e a => c k ⟨e, a⟩ a)
theorem step (h : Foot P W ok) (hm : ∀ k, ok k → k < W.heap.size → W1.heap[k]? = W.heap[k]?) : Foot P W1 ok := fun c e => h c (fun k b a => (e k b (Ov (hm k b a) a)).trans (hm k b a))
theorem imp (h : Foot P W ok) (hi : ∀ a, P a → Q a) : Foot Q W ok := fun a b => hi a (h a b)
theorem old (h : Foot P W ok) (b : Below W.heap.size W W1) : Foot P W1 (fun k => ok k ∧ k < W.heap.size) := (h.bound).step (fun k _ a => b.block k a)
end Foot
namespace Kd
def F {α : Type} (d : Kd α) (W : World) (ok : Nat → Prop) (A : Option Addr) (n : Nat) (xs : List α) : Prop := Foot (fun W => d.C W A n xs) W ok
def FK {α : Type} (d : Kd α) (W : World) (ok : Nat → Prop) (x : α) (c : List Value) : Prop := Foot (fun W => d.K W x c) W ok
section
variable {α β : Type} {d : Kd α} {e base n n' cc g N : Nat} {ok ok' okp S : Nat → Prop} {w w0 w1 W W1 : World} {A A' : Option Addr} {u v v1 : Value} {xs : List α} {xs' : List β} {d' : Kd β} {x : α} {c : List Value}
theorem El (h : F d W ok A n xs) : d.C W A n xs := Foot.now h
theorem Cn (h : F d W ok A n xs) (a : ∀ k, ok k → ok' k) : F d W ok' A n xs := Foot.mono h a
theorem DL (h : F d W ok A n xs) : F d W (fun k => ok k ∧ k < W.heap.size) A n xs := Foot.bound h
theorem Jm (h : F d W ok A n xs) (hm : ∀ k, ok k → k < W.heap.size → W1.heap[k]? = W.heap[k]?) : F d W1 ok A n xs := Foot.step h hm
theorem PV (h : F d W ok A n xs) (hi : ∀ a, d.C a A n xs → d'.C a A' n' xs') : F d' W ok A' n' xs' := Foot.imp h hi
theorem Cj (h : F d W ok A n xs) (b : Below W.heap.size W W1) : F d W1 ok A n xs := Jm h (fun k _ a => b.block k a)
theorem G8 (h : F d W ok A n xs) (o : Obj) : F d (W.alloc o) ok A n xs := Cj h (AV (Below.refl _ _) o)
theorem Pm (h : F d W ok A n xs) : F d W.drew ok A n xs := Cj h (Fq (Below.refl _ _))
theorem Ow (h : F d W ok A n xs) (m : Nat) : F d (W.drewN m) ok A n xs := Cj h (Ai (Below.refl _ _) m)
theorem JR (h : F d W ok A n xs) {p : Addr} (a : ∀ k, ok k → k ≠ p.block) (u : Value) : F d (W.setCell p u) ok A n xs := Jm h (fun k b _ => Below.heap_setCell W p u k (a k b))
theorem Lx (d : Kd α) (W : World) (ok : Nat → Prop) : F d W ok none ([] : List α).length [] := fun a _ => GD d a
theorem NZ (h : F d W ok A n xs) (a : ∀ k, v.ownBlock = some k → W.heap.size ≤ k) (c : Below W.heap.size W W1) : F d W1 (fun k => ok k ∧ some k ≠ v.ownBlock) A n xs :=
  Cn (Foot.old h c) (fun k b => ⟨b.1, fun e => by have := a k e.symm; have := b.2; omega⟩)
theorem Na (h : F d W ok A n xs) (a : Nat) (c : W.heap.size ≤ a) : F d W (fun k => ok k ∧ k ≠ a) A n xs := Cn (DL h) (fun k b => ⟨b.1, by have := b.2; omega⟩)
theorem Ox (h : F d W (fun k => ok k ∧ some k ≠ v.ownBlock) A n xs) (hg : W.grownBy W1 v.ownBlock) (a : v1.ownBlock = v.ownBlock ∨ ∃ b, v1.ownBlock = some b ∧ W.heap.size ≤ b) : F d W1 (fun k => ok k ∧ some k ≠ v1.ownBlock) A n xs := by
  refine Cn (Foot.step (DL h) (fun k c e => hg.block k e c.1.2)) (fun k c => ⟨c.1.1, ?_⟩); rcases a with a | ⟨b, hb, hle⟩
  · rw [a]; exact c.1.2
  · rw [hb]; intro i; injection i with i; have := c.2; omega
theorem C_F (hd : Heap d) (h : d.C w A n xs) : F d w (fun k => k < w.heap.size) A n xs := fun _ b => hd.C (fun k a => b k a a) h
theorem R_F (h : d.R e W base ok (.slice A n cc) xs) : F d W ok A n xs := fun b a => by
  have h2 := CE (IV h a); rw [h2.1]; exact h2.2.2
theorem Fx (h : FK d W ok x c) : d.K W x c := Foot.now h
theorem IP (h : FK d W ok x c) (a : ∀ k, ok k → ok' k) : FK d W ok' x c := Foot.mono h a
theorem Ik (h : FK d W ok x c) : FK d W (fun k => ok k ∧ k < W.heap.size) x c := Foot.bound h
theorem Jn (h : FK d W ok x c) (hm : ∀ k, ok k → k < W.heap.size → W1.heap[k]? = W.heap[k]?) : FK d W1 ok x c := Foot.step h hm
theorem Oy (h : d.M W base ok x c) : FK d W ok x c := fun _ a => d.K_of_M (NG h a)
theorem Oz (W : World) (g : Nat) : ∃ b : World, (∀ k, k ≠ g → b.heap[k]? = W.heap[k]?) ∧ ∀ a : Addr, a.block = g → b.cell? a = none := by
  refine ⟨{ W with heap := W.heap.setIfInBounds g (.cells #[] 0) }, fun k e => by simp [Ne.symm e], fun a c => ?_⟩; subst c; by_cases hlt : a.block < W.heap.size
  · simp [World.cell?, hlt]
  · simp [World.cell?, hlt]
end
end Kd
end Go.Proofs.Ytojankgmedccdaa.Wo
end
section
namespace Go.Proofs.Ytojankgmedccdaa.Wo
open Go.RowKit
namespace Kd
def chunks (sz : Nat) (n : Nat) (inner : List Value) : List (List Value) := (List.range n).map fun j => (inner.drop (j * sz)).take sz
theorem Cg (sz n : Nat) (inner : List Value) : (chunks sz n inner).length = n := by simp [chunks]
theorem MR {sz n : Nat} {inner : List Value} {j : Nat} (a : j < n) : (chunks sz n inner)[j]? = some ((inner.drop (j * sz)).take sz) := by simp [chunks, a]
theorem Eu {sz n : Nat} {inner : List Value} {j : Nat} {c : List Value} (h : (chunks sz n inner)[j]? = some c) : c = (inner.drop (j * sz)).take sz := by
  have a : j < n := by have := (List.getElem?_eq_some_iff.1 h).1; rwa [Cg] at this
  rw [MR a] at h; injection h with h; exact h.symm
theorem KG {α : Type} {b : α → List Value → Prop} {sz : Nat} {xs : List α} {inner : List Value} (h : Cu b sz xs inner) (i : ∀ x c, b x c → c.length = sz ∧ ∀ u ∈ c, u.oneCell' = true) : Cu (fun x cs => cs = x ∧ cs.length = sz ∧ ∀ u ∈ cs, u.oneCell' = true) sz (chunks sz xs.length inner) inner := by
  refine ⟨by rw [Cg]; exact h.1, fun j p e => ?_⟩; have a : j < xs.length := by have := (List.getElem?_eq_some_iff.1 e).1; rwa [Cg] at this
  have hp := Eu e; exact ⟨hp.symm, i _ _ (h.2 j _ (List.getElem?_eq_getElem a))⟩
section
variable {α : Type} {d : Kd α} {e base n cc g : Nat} {ok ok' okp S : Nat → Prop} {w w1 W W1 : World} {A : Option Addr} {u v v1 : Value} {xs : List α} {x : α} {c : List Value}
theorem PW (h : F d W ok A n xs) (z : α) (i : Int) (w : 0 ≤ i) (h1 : i < n) :
    ∃ ad c, A = some ad ∧ c.length = d.sz ∧ FK d W ok (xs.getD i.toNat z) c ∧ (∀ j u, c[j]? = some u → W.cell? (ad.add (i.toNat * d.sz + j)) = some u) ∧ (0 < d.sz → ok ad.block) := by
  obtain ⟨ad, c, rfl, G, X, b⟩ := JL (El h) z i w h1; have s : 0 < d.sz → ok ad.block := by
    intro hs; by_cases hk : ok ad.block
    · exact hk
    · obtain ⟨o, h2, h3⟩ := Oz W ad.block; obtain ⟨v, J, l, r, _, a⟩ := JL (h o (fun k I _ => h2 k (fun e => hk (e ▸ I)))) z i w h1; injection l with l; subst l; have h4 := a 0 _ (List.getElem?_eq_getElem (by omega)); rw [h3 _ (add_block _ _)] at h4; cases h4
  refine ⟨ad, c, rfl, G, fun o L => ?_, b, s⟩; obtain ⟨v, J, l, r, D, a⟩ := JL (h o L) z i w h1; injection l with l; subst l; have U : c = J := by
    apply List.ext_getElem?; intro j; by_cases hj : j < d.sz
    · have T : o.heap[ad.block]? = W.heap[ad.block]? := by
        have B := b j _ (List.getElem?_eq_getElem (by omega)); have q := World.block_lt_of_cell? W _ B; rw [add_block] at q; exact L _ (s (by omega)) q
      have B := b j _ (List.getElem?_eq_getElem (by omega)); have q := a j _ (List.getElem?_eq_getElem (by omega)); have O : o.cell? (ad.add (i.toNat * d.sz + j)) = W.cell? (ad.add (i.toNat * d.sz + j)) := by simp [World.cell?, add_block, T]
      rw [O, B] at q; rw [List.getElem?_eq_getElem (by omega), List.getElem?_eq_getElem (by omega)]; exact q
    · rw [List.getElem?_eq_none (by omega), List.getElem?_eq_none (by omega)]
  rw [U]; exact D
theorem Pn (h : F d W ok A n xs) : Ci (fun x c => FK d W ok x c) d.sz W A n xs := by
  obtain ⟨r, hm, hn⟩ := El h; refine ⟨r, hm, fun hp => ?_⟩; obtain ⟨ad, rfl, _⟩ := hn hp; refine ⟨ad, rfl, fun j p k => ?_⟩; obtain ⟨o, q⟩ := List.getElem?_eq_some_iff.1 k; obtain ⟨l, c, i, e, b, a, _⟩ := PW h p (j : Int) (by omega) (by omega); injection i with i; subst i; simp only [Int.toNat_natCast] at b a; rw [List.getD_eq_getElem?_getD, k] at b; exact ⟨c, e, b, a⟩
def N {α : Type} (d : Kd α) (e : Nat) (w : World) (base : Nat) (ok : Nat → Prop) (v : Value) (xs : List α) : Prop :=
  (∀ k, v.ownBlock = some k → ok k) ∧ ∃ rows : List (List Value), rows.length = xs.length ∧ (raw d.sz).R e w base (fun k => some k = v.ownBlock) v rows ∧ ∀ (j : Nat) (x : α) (c : List Value), xs[j]? = some x → rows[j]? = some c → FK d w (fun k => ok k ∧ some k ≠ v.ownBlock) x c
theorem JS {sz : Nat} {rows : List (List Value)} (h : (raw sz).R e w base ok v rows) : (raw sz).R e w base (fun k => some k = v.ownBlock) v rows := Ou rfl h
theorem Jo {sz : Nat} {rows : List (List Value)} (h : (raw sz).R e w base ok v rows) : (raw sz).R e w base (fun _ => True) v rows := BS h (fun _ _ => trivial)
theorem R_N (h : d.R e w base ok v xs) : N d e w base ok v xs := by
  obtain ⟨a, inner, ho, hr⟩ := h; refine ⟨a, chunks d.sz xs.length inner, Cg _ _ _, ⟨fun k i => i.symm, inner, by rw [Cg]; exact ho, KG hr (fun x c hp => ⟨d.K_len (d.K_of_M hp), d.K_one (d.K_of_M hp)⟩)⟩, fun j x c l b => ?_⟩; rw [Eu b]; exact Oy (hr.2 j x l)
theorem Dw (d : Kd α) (e : Nat) (w : World) (base : Nat) (ok : Nat → Prop) : N d e w base ok (.slice none 0 0) [] := R_N (Da _ _ _ _ _)
theorem CQ (h : N d e w base ok v xs) (a : ∀ k, ok k → ok' k) : N d e w base ok' v xs := by
  obtain ⟨i, rows, r, l, q⟩ := h; exact ⟨fun k b => a k (i k b), rows, r, l, fun j x c s o => IP (q j x c s o) (fun k b => ⟨a k b.1, b.2⟩)⟩
theorem QY (h : N d e w base ok v xs) : ∀ k, v.ownBlock = some k → k < w.heap.size := by
  obtain ⟨_, rows, _, a, _⟩ := h; exact F9 a
theorem Co (h : N d e w base ok v xs) : ∀ k, v.ownBlock = some k → base ≤ k := by
  obtain ⟨_, rows, _, a, _⟩ := h; exact Bp a
theorem Fy (h : N d e w base ok v xs) : ∀ k, v.ownBlock = some k → ∃ cells, w.heap[k]? = some (.cells cells e (0, 0)) := by
  obtain ⟨_, rows, _, a, _⟩ := h; exact FI a
theorem Gq (h : N d e w base ok v xs) {t : Nat} {cells : Array Value} (b : w.heap[g]? = some (.cells cells t (0, 0))) (c : e ≠ t) : some g ≠ v.ownBlock := by
  obtain ⟨_, rows, _, a, _⟩ := h; exact Fu a b c
theorem Nb (h : N d e w base ok v xs) (a : ∀ k, ok k → k ≠ g) : some g ≠ v.ownBlock := fun b => a g (h.1 g b.symm) rfl
theorem L6 (h : N d e w base ok v xs) : N d e w base (fun k => ok k ∧ k < w.heap.size) v xs := by
  have b := QY h; obtain ⟨i, rows, r, l, q⟩ := h; exact ⟨fun k a => ⟨i k a, b k a⟩, rows, r, l, fun j x c s o => IP (Ik (q j x c s o)) (fun k a => ⟨⟨a.1.1, a.2⟩, a.1.2⟩)⟩
theorem Fz {base' : Nat} (h : N d e w base ok v xs) (c : base' ≤ base) : N d e w base' ok v xs := by
  obtain ⟨a, rows, j, b, i⟩ := h; exact ⟨a, rows, j, Cc b c, i⟩
theorem Kz (h : N d e w base ok v xs) (hm : ∀ k, ok k → k < w.heap.size → w1.heap[k]? = w.heap[k]?) : N d e w1 base ok v xs := by
  obtain ⟨i, rows, r, l, q⟩ := h; exact ⟨i, rows, r, IV l (fun k b a => hm k (i k b.symm) a), fun j x c s o => Jn (q j x c s o) (fun k b a => hm k b.1 a)⟩
theorem EF (h : N d e w base ok v xs) (a : Below w.heap.size w w1) : N d e w1 base ok v xs := Kz h (fun k _ b => a.block k b)
theorem L8 (h : N d e w base ok v xs) (o : Obj) : N d e (w.alloc o) base ok v xs := EF h (AV (Below.refl _ _) o)
theorem Il (h : N d e w base ok v xs) : N d e w.drew base ok v xs := EF h (Fq (Below.refl _ _))
theorem L9 (h : N d e w base ok v xs) (m : Nat) : N d e (w.drewN m) base ok v xs := EF h (Ai (Below.refl _ _) m)
theorem Im (h : N d e W base ok v xs) (a : ∀ k, u.ownBlock = some k → W.heap.size ≤ k) (c : Below W.heap.size W w1) : N d e w1 base (fun k => ok k ∧ some k ≠ u.ownBlock) v xs :=
  CQ (EF (L6 h) c) (fun k b => ⟨b.1, fun i => by have := a k i.symm; have := b.2; omega⟩)
theorem KH (h : N d e w base ok v xs) (a : Nat) (c : w.heap.size ≤ a) : N d e w base (fun k => ok k ∧ k ≠ a) v xs := CQ (L6 h) (fun k b => ⟨b.1, by have := b.2; omega⟩)
theorem Dq (h : N d e w base ok v xs) : ∃ A c, v = .slice A xs.length c := by
  obtain ⟨_, rows, i, a, _⟩ := h; obtain ⟨A, c, b⟩ := Bo a; exact ⟨A, c, by rw [b, i]⟩
theorem Ff {n c : Nat} (h : N d e w base ok (.slice A n c) xs) : n = xs.length ∧ n ≤ c ∧ d.C w A xs.length xs := by
  obtain ⟨_, rows, D, s, z⟩ := h; obtain ⟨hn, u, i⟩ := CE s; refine ⟨by omega, u, ?_⟩; rw [D] at i; refine ⟨rfl, i.2.1, fun hp => ?_⟩; obtain ⟨ad, v, a⟩ := i.2.2 hp; refine ⟨ad, v, fun j p q => ?_⟩; have b : j < rows.length := by have := (List.getElem?_eq_some_iff.1 q).1; omega
  obtain ⟨o, l, r, k⟩ := a j _ (List.getElem?_eq_getElem b); have B := Fx (z j p _ q (List.getElem?_eq_getElem b)); refine ⟨o, l, ?_, k⟩; rw [show o = rows[j] from r.1]; exact B
theorem N_F {n : Nat} (h : N d e w base ok (.slice A n cc) xs) : F d w ok A n xs := fun b a => by
  have h2 := Ff (Kz h a); rw [h2.1]; exact h2.2.2
end
end Kd
end Go.Proofs.Ytojankgmedccdaa.Wo
end
section
namespace Go.Proofs.Ytojankgmedccdaa.Wo
open Go.RowKit
namespace Kd
section
variable {α : Type} {d : Kd α} {e base n cap g : Nat} {ok ok' okp : Nat → Prop} {w w1 W : World} {v v1 : Value} {xs ys : List α}
theorem Gr {rows news : List (List Value)} (G : ∀ k, v.ownBlock = some k → ok k) (D : rows.length = xs.length) (J : ∀ (j : Nat) (x : α) (c : List Value), xs[j]? = some x → rows[j]? = some c → FK d W (fun k => ok k ∧ some k ≠ v.ownBlock) x c)
    (w : news.length = ys.length) (u : ∀ (j : Nat) (x : α) (c : List Value), ys[j]? = some x → news[j]? = some c → FK d W okp x c) (q : ∀ k, okp k → ok k ∧ some k ≠ v.ownBlock) (i : ∀ k, W.heap.size ≤ k → ok k)
    (I : (raw d.sz).R e w1 base (fun _ => True) v1 (rows ++ news)) (hg : W.grownBy w1 v.ownBlock) (h : v1.ownBlock = v.ownBlock ∨ ∃ b, v1.ownBlock = some b ∧ W.heap.size ≤ b) : N d e w1 base ok v1 (xs ++ ys) := by
  have z : ∀ k, some k ≠ v.ownBlock → k < W.heap.size → some k ≠ v1.ownBlock := by
    intro k a l; rcases h with h | ⟨b, hb, hle⟩
    · rw [h]; exact a
    · rw [hb]; intro B; injection B with B; omega
  have step : ∀ {x : α} {c : List Value} {o : Nat → Prop}, FK d W o x c → (∀ k, o k → ok k ∧ some k ≠ v.ownBlock) → FK d w1 (fun k => ok k ∧ some k ≠ v1.ownBlock) x c := by
    intro x c o L ho; exact IP (Jn (Ik L) (fun k a l => hg.block k l (ho k a.1).2)) (fun k a => ⟨(ho k a.1).1, z k (ho k a.1).2 a.2⟩)
  refine ⟨fun k a => ?_, rows ++ news, by rw [List.length_append, List.length_append, D, w], JS I, fun j x c s r => ?_⟩
  · rcases h with h | ⟨b, hb, hle⟩
    · exact G k (h ▸ a)
    · rw [hb] at a; injection a with a; exact i k (by omega)
  · rcases Nat.lt_or_ge j xs.length with l | hge
    · rw [List.getElem?_append_left l] at s; rw [List.getElem?_append_left (by omega)] at r; exact step (J j x c s r) (fun _ a => a)
    · rw [List.getElem?_append_right hge] at s; rw [List.getElem?_append_right (by omega), D] at r; exact step (u _ x c s r) q
theorem LA {x : α} {c : List Value} (h : FK d W ok x c) : c = c ∧ c.length = d.sz ∧ ∀ u ∈ c, u.oneCell' = true := ⟨rfl, d.K_len (Fx h), d.K_one (Fx h)⟩
theorem Nc {rows : List (List Value)} (r : (raw d.sz).R e w1 base (fun k => k = W.heap.size) v1 rows) (hg : W.grownBy w1 none) (i : ∃ b, v1.ownBlock = some b ∧ W.heap.size ≤ b) (w : rows.length = xs.length) (v : ∀ (j : Nat) (x : α) (c : List Value), xs[j]? = some x → rows[j]? = some c → FK d W okp x c)
    (q : ∀ k, okp k → ok k) (a : ok W.heap.size) : N d e w1 base ok v1 xs := by
  obtain ⟨b, s, z⟩ := i; refine ⟨fun k h => by rw [r.1 k h]; exact a, rows, w, JS r, fun j x c B u => ?_⟩; refine IP (Jn (Ik (v j x c B u)) (fun k h o => hg.block k o (by simp))) (fun k h => ⟨q k h.1, fun l => ?_⟩); rw [s] at l; injection l with l; have := h.2; omega
theorem MS {e : α → List Value → Prop} {sz m : Nat} {A : Option Addr} (h : Ci e sz W A m ys) (v : ∀ x c, e x c → c.length = sz ∧ ∀ u ∈ c, u.oneCell' = true) :
    ∃ news : List (List Value), news.length = ys.length ∧ Ci (fun x cs => cs = x ∧ cs.length = sz ∧ ∀ u ∈ cs, u.oneCell' = true) sz W A m news ∧ ∀ (j : Nat) (x : α) (c : List Value), ys[j]? = some x → news[j]? = some c → e x c := by
  rcases Nat.eq_zero_or_pos m with h0 | hp
  · have z : ys = [] := List.eq_nil_of_length_eq_zero (h.1.trans h0); subst z; exact ⟨[], rfl, ⟨h0 ▸ rfl, h.2.1, fun hp => by omega⟩, fun j x c r => by simp at r⟩
  · obtain ⟨ad, rfl, _⟩ := h.2.2 hp; obtain ⟨inner, hr, w⟩ := Ci.Kt h; refine ⟨chunks sz ys.length inner, Cg _ _ _, ⟨by rw [Cg]; exact h.1, h.2.1, fun _ => ⟨ad, rfl, fun j p s => ?_⟩⟩, fun j x c r k => ?_⟩
    · have l : j < ys.length := by have := (List.getElem?_eq_some_iff.1 s).1; rwa [Cg] at this
      have a := Eu s; have o := v _ _ (hr.2 j _ (List.getElem?_eq_getElem l)); rw [← a] at o; refine ⟨p, o.1, ⟨rfl, o⟩, fun i u b => ?_⟩; have q : inner[j * sz + i]? = some u := by
        rw [a, List.getElem?_take] at b; split at b
        · rw [List.getElem?_drop] at b; exact b
        · cases b
      exact w _ u q
    · rw [Eu k]; exact hr.2 j x r
end
section
variable {P : Program} {ops : Array Oper} {rest : List Oper} {o : Oper} {a : Act} {Q : Exit → Act → World → Prop} {Kc : Act → World → Prop} {α : Type}
theorem Nf (d : Kd α) {w0 W : World} (base : Nat) (G : o.guard = none) (s x : Operand) (t e : TypeId) (z : Value) (bytes : Nat)
    (ho : o.op = .call { callee := .builtin .append, args := #[s, x], argTypes := #[t, t] })
    (ht : P.underlying t = some (.slice e)) (r : (P.info? e).map (fun i => (i.zero, i.size, i.bytes)) = some (some z, d.sz, bytes)) (hz : z.cells.size = d.sz) (I : 0 < d.sz) (D : 0 < bytes)
    (v : Value) (xs : List α) (p : α) (cs : List Value) (ok okp : Nat → Prop) (hs : a.eval s = v) (hx : a.eval x = .slice (some ⟨W.heap.size, 0, none⟩) 1 1) (hp : FK d W okp p cs) (B : ∀ k, okp k → ok k ∧ some k ≠ v.ownBlock) (l : ∀ k, W.heap.size ≤ k → ok k)
    (T : N d e W base ok v xs) (O : Below base w0 W) (q : base ≤ W.heap.size) (hl : (xs.length + 1) * bytes ≤ 140737488355328)
    (h : ∀ v1 w1, N d e w1 base ok v1 (xs ++ [p]) → Below base w0 w1 → W.grownBy w1 v.ownBlock → (v1.ownBlock = v.ownBlock ∨ ∃ b, v1.ownBlock = some b ∧ W.heap.size ≤ b) → wpList P ops Q rest (a.put o.dst v1) w1) :
    wpList P ops Q (o :: rest) a (W.alloc (.cells cs.toArray e)) := by
  obtain ⟨U, rows, w, X, Z⟩ := T; refine KA (raw d.sz) base G s x t e z bytes ho ht r hz I D v rows cs cs (fun _ => True) (fun _ => False) hs hx (LA hp) (fun _ hk => hk.elim) (fun _ _ => trivial) (Jo X) O q (by rw [w]; exact hl) ?_; intro v1 w1 hr Y hg u; exact h v1 w1 (Gr U w Z (ys := [p]) (news := [cs]) rfl (fun j y c J L => by
    rcases j with _ | j
    · simp only [List.getElem?_cons_zero, Option.some.injEq] at J L; rw [← J, ← L]; exact hp
    · simp at J) B l hr hg u) Y hg u
theorem FX (d : Kd α) {w0 W : World} (base : Nat) (hw : Region.wanted o (yielded ops a.tmps) = true) (s x : Operand) (t e : TypeId) (z : Value) (bytes : Nat)
    (ho : o.op = .call { callee := .builtin .append, args := #[s, x], argTypes := #[t, t] })
    (ht : P.underlying t = some (.slice e)) (r : (P.info? e).map (fun i => (i.zero, i.size, i.bytes)) = some (some z, d.sz, bytes)) (hz : z.cells.size = d.sz) (G : 0 < d.sz) (D : 0 < bytes)
    (v : Value) (xs : List α) (p : α) (cs : List Value) (ok okp : Nat → Prop) (hs : a.eval s = v) (hx : a.eval x = .slice (some ⟨W.heap.size, 0, none⟩) 1 1) (hp : FK d W okp p cs) (B : ∀ k, okp k → ok k ∧ some k ≠ v.ownBlock) (l : ∀ k, W.heap.size ≤ k → ok k)
    (O : N d e W base ok v xs) (L : Below base w0 W) (q : base ≤ W.heap.size) (hl : (xs.length + 1) * bytes ≤ 140737488355328)
    (h : ∀ v1 w1, N d e w1 base ok v1 (xs ++ [p]) → Below base w0 w1 → W.grownBy w1 v.ownBlock → (v1.ownBlock = v.ownBlock ∨ ∃ b, v1.ownBlock = some b ∧ W.heap.size ≤ b) → Kc (a.put o.dst v1) w1) :
    if Region.wanted o (yielded ops a.tmps) = true then Oper.wp P o a (W.alloc (.cells cs.toArray e)) Kc Q else Kc (a.put o.dst undef) (W.alloc (.cells cs.toArray e)) := by
  obtain ⟨T, rows, w, U, Y⟩ := O; refine FW (raw d.sz) base hw s x t e z bytes ho ht r hz G D v rows cs cs (fun _ => True) (fun _ => False) hs hx (LA hp) (fun _ Z => Z.elim) (fun _ _ => trivial) (Jo U) L q (by rw [w]; exact hl) ?_; intro v1 w1 hr X hg u; exact h v1 w1 (Gr T w Y (ys := [p]) (news := [cs]) rfl (fun j y c I J => by
    rcases j with _ | j
    · simp only [List.getElem?_cons_zero, Option.some.injEq] at I J; rw [← I, ← J]; exact hp
    · simp at I) B l hr hg u) X hg u
theorem JI (d : Kd α) {w0 W : World} (base : Nat) (G : o.guard = none) (s x : Operand) (t e : TypeId) (z : Value) (bytes : Nat)
    (ho : o.op = .call { callee := .builtin .append, args := #[s, x], argTypes := #[t, t] })
    (ht : P.underlying t = some (.slice e)) (q : (P.info? e).map (fun i => (i.zero, i.size, i.bytes)) = some (some z, d.sz, bytes)) (hz : z.cells.size = d.sz) (O : 0 < d.sz) (D : 0 < bytes)
    (v : Value) (xs ys : List α) (A : Option Addr) (m c : Nat) (ok okp : Nat → Prop) (hs : a.eval s = v) (hx : a.eval x = .slice A m c)
    (U : N d e W base ok v xs) (X : F d W okp A m ys) (B : ∀ k, okp k → ok k ∧ some k ≠ v.ownBlock) (j : ∀ k, W.heap.size ≤ k → ok k)
    (T : Below base w0 W) (l : base ≤ W.heap.size) (hl : (xs.length + m) * bytes ≤ 140737488355328)
    (h : ∀ v1 w1, N d e w1 base ok v1 (xs ++ ys) → Below base w0 w1 → W.grownBy w1 v.ownBlock → (v1.ownBlock = v.ownBlock ∨ ∃ b, v1.ownBlock = some b ∧ W.heap.size ≤ b) → wpList P ops Q rest (a.put o.dst v1) w1) :
    wpList P ops Q (o :: rest) a W := by
  obtain ⟨Y, rows, w, Z, hf⟩ := U; obtain ⟨news, J, L, I⟩ := MS (Pn X) (fun y c r => ⟨d.K_len (Fx r), d.K_one (Fx r)⟩); refine D5 (raw d.sz) base G s x t e z bytes ho ht q hz O D v rows news A m c (fun _ => True) (fun _ => False) hs hx (Jo Z) L (fun _ _ r => r) (fun _ r => r.elim) (fun _ _ => trivial) T l (by rw [w]; exact hl) ?_; intro v1 w1 hr hb hg u; exact h v1 w1 (Gr Y w hf J I B j hr hg u) hb hg u
theorem QZ (d : Kd α) {w0 W : World} (base e : Nat) (v : o.guard = none) {N' : Tmp} (_hd : o.dst = some N') {xs : List α} {inner : List Value} {ok okp : Nat → Prop}
    (s : (execOp a.eval o).run P W = .ok (.value (.slice (some ⟨W.heap.size, 0, none⟩) xs.length xs.length)) (W.alloc (.cells inner.toArray e)))
    (l : Cu (FK d W okp) d.sz xs inner) (w : ∀ k, okp k → ok k) (i : ok W.heap.size) (z : Below base w0 W) (q : base ≤ W.heap.size) (hm : xs.length ≤ 9223372036854775807)
    (h : ∀ v1 w1, N d e w1 base ok v1 xs → Below base w0 w1 → W.grownBy w1 none → (∃ b, v1.ownBlock = some b ∧ W.heap.size ≤ b) → wpList P ops Q rest (a.put o.dst v1) w1) :
    wpList P ops Q (o :: rest) a W := by
  refine Ib (raw d.sz) base e v _hd (xs := chunks d.sz xs.length inner) (inner := inner) (ok := fun k => k = W.heap.size) (okp := fun _ => False) (by rw [Cg]; exact s) (KG l (fun y c u => ⟨d.K_len (Fx u), d.K_one (Fx u)⟩)) (fun _ u => u.elim) rfl z q (by rw [Cg]; exact hm) ?_; intro v1 w1 hr B hg r; exact h v1 w1 (Nc hr hg r (Cg _ _ _) (fun j y c G D => by rw [Eu D]; exact l.2 j y G) w i) B hg r
end
end Kd
end Go.Proofs.Ytojankgmedccdaa.Wo
end
section
namespace Go.Proofs.Ytojankgmedccdaa.Wo
open Go.RowKit Go.Proofs.Ytojankgmedccdaa.Wo
namespace Kd
open Go.Proofs.Ytojankgmedccdaa.Wo.Kd
end Kd
namespace Kd
open Go.Proofs.Ytojankgmedccdaa.Wo.Kd
section
variable {α : Type} {d : Kd α} {e base g N : Nat} {ok : Nat → Prop} {W w1 : World} {u v : Value} {xs : List α}
theorem Ng (b : d.R e W base ok u xs) (a : Below W.heap.size W w1) : d.R e w1 base (fun k => ok k ∧ k < W.heap.size) u xs :=
  BS (Db (DW b) a) (fun _ h => ⟨h.1, h.2.2.1⟩)
theorem Hq (h : d.R e w1 base (fun k => ok k ∧ k < N) u xs) (a : ∀ k, v.ownBlock = some k → N ≤ k) : d.R e w1 base (fun k => (ok k ∧ some k ≠ v.ownBlock) ∧ k < N) u xs :=
  BS h (fun k b => ⟨⟨b.1, fun e => Nat.lt_irrefl _ (Nat.lt_of_lt_of_le b.2 (a k e.symm))⟩, b.2⟩)
end
end Kd
theorem BI (k a : IntKind) (x y : Int) : Builtin.max2 (.int k x) (.int a y) = pure (.int k (if x < y then y else x)) := by simp only [Builtin.max2, gt_iff_lt]
theorem BJ (k a : IntKind) (x y : Int) : Builtin.min2 (.int k x) (.int a y) = pure (.int k (if y < x then y else x)) := by simp only [Builtin.min2]
theorem Ba (c : Array TypeId) (e : TypeId) (a b : Value) : Builtin.max_ c e #[a, b] = (Builtin.max2 a b >>= fun s => pure s) := by simp only [Builtin.max_, List.foldlM_cons, List.foldlM_nil]
theorem Bc (c : Array TypeId) (e : TypeId) (a b : Value) : Builtin.min_ c e #[a, b] = (Builtin.min2 a b >>= fun s => pure s) := by simp only [Builtin.min_, List.foldlM_cons, List.foldlM_nil]
theorem Ao (e : Array TypeId) (h : TypeId) (a b c : Value) : Builtin.max_ e h #[a, b, c] = (Builtin.max2 a b >>= fun s => Builtin.max2 s c >>= fun s => pure s) := by simp only [Builtin.max_, List.foldlM_cons, List.foldlM_nil]
theorem Ap (e : Array TypeId) (h : TypeId) (a b c : Value) : Builtin.min_ e h #[a, b, c] = (Builtin.min2 a b >>= fun s => Builtin.min2 s c >>= fun s => pure s) := by simp only [Builtin.min_, List.foldlM_cons, List.foldlM_nil]
theorem BL (e : Array TypeId) (h : TypeId) (a b c d : Value) : Builtin.max_ e h #[a, b, c, d] = (Builtin.max2 a b >>= fun s => Builtin.max2 s c >>= fun s => Builtin.max2 s d >>= fun s => pure s) := by simp only [Builtin.max_, List.foldlM_cons, List.foldlM_nil]
theorem BM (e : Array TypeId) (h : TypeId) (a b c d : Value) : Builtin.min_ e h #[a, b, c, d] = (Builtin.min2 a b >>= fun s => Builtin.min2 s c >>= fun s => Builtin.min2 s d >>= fun s => pure s) := by simp only [Builtin.min_, List.foldlM_cons, List.foldlM_nil]
end Go.Proofs.Ytojankgmedccdaa.Wo
namespace Go.Proofs.Ytojankgmedccdaa.Wo
open Go.RowKit
section
variable {P : Program} {ops : Array Oper} {rest : List Oper} {o : Oper} {a : Act} {Q : Exit → Act → World → Prop} {W : World}
theorem AP {f : FuncId} {as : Array Operand} {b : Array TypeId} (_ho : o.op = .call { callee := .value (.func f), args := as, argTypes := b }) (h : wpList P ops Q (o :: rest) a W) : wpList P ops Q (o :: rest) a W := h
theorem De {b : Builtin} {xs : Array Operand} {c : Array TypeId} (_ho : o.op = .call { callee := .builtin b, args := xs, argTypes := c }) (h : wpList P ops Q (o :: rest) a W) : wpList P ops Q (o :: rest) a W := h
end
theorem Gl {P : Program} {f : FuncId} {args args' : Array Value} {w : World} {Q : Ending → World → Prop} (h : args = args') (a : Calls P f args' w Q) : Calls P f args w Q := h ▸ a
def mx (a b : Int) : Int := if a < b then b else a
def mn (a b : Int) : Int := if b < a then b else a
theorem Io (w : World) (n : Nat) : w.drewN n = w.drewN n := rfl
namespace Kd
section
variable {α : Type} {d : Kd α} {e base : Nat} {ok : Nat → Prop} {W w1 : World} {v : Value} {xs : List α}
end
section
variable {α : Type} {d : Kd α} {e base g n cap : Nat} {ok oki okp : Nat → Prop} {W : World} {xs : List α} {i : Int} {c : List Value}
end
section
variable {α : Type} {d : Kd α} {e base b b' g N : Nat} {ok ok1 : Nat → Prop} {W W2 w1 : World} {u v : Value} {xs ys : List α} {S : Nat → Prop}
end
end Kd
end Go.Proofs.Ytojankgmedccdaa.Wo
namespace Go.Proofs.Ytojankgmedccdaa.Wo
open Go.RowKit
namespace Kd
def V {α : Type} (d : Kd α) (_e : Nat) (W : World) (_base : Nat) (ok : Nat → Prop) (v : Value) (xs : List α) : Prop := ∃ A c, v = .slice A xs.length c ∧ xs.length ≤ c ∧ F d W ok A xs.length xs
section
variable {α β : Type} {d : Kd α} {e base base' n m c g N' lo hi : Nat} {ok ok' S : Nat → Prop} {w W w1 : World} {A : Option Addr} {ad : Addr} {u v v1 : Value} {xs : List α}
theorem GG (h : V d e W base ok v xs) (a : ∀ A, F d W ok A xs.length xs → F d w1 ok' A xs.length xs) : V d e w1 base' ok' v xs := by
  obtain ⟨A, c, j, i, b⟩ := h; exact ⟨A, c, j, i, a A b⟩
theorem Cs (b : xs.length ≤ c) (a : F d W ok A xs.length xs) : V d e W base ok (.slice A xs.length c) xs := ⟨A, c, rfl, b, a⟩
theorem DN (h : V d e W base ok v xs) : ∃ A c, v = .slice A xs.length c := by
  obtain ⟨A, c, a, _⟩ := h; exact ⟨A, c, a⟩
theorem LB (h : V d e W base ok (.slice A n c) xs) : n = xs.length ∧ n ≤ c ∧ F d W ok A xs.length xs := by
  obtain ⟨A', j, i, b, a⟩ := h; injection i with ha hn hc; subst ha; subst hc; exact ⟨hn, by rw [hn]; exact b, a⟩
theorem AQ (h : V d e W base ok (.slice A n c) xs) : n = xs.length ∧ n ≤ c ∧ d.C W A xs.length xs := ⟨(LB h).1, (LB h).2.1, El (LB h).2.2⟩
theorem V_F (h : V d e W base ok (.slice A n c) xs) : F d W ok A n xs := by
  obtain ⟨hn, _, a⟩ := LB h; rw [hn]; exact a
theorem C9 (d : Kd α) (e : Nat) (W : World) (base : Nat) (ok : Nat → Prop) : V d e W base ok (.slice none 0 0) [] := ⟨none, 0, rfl, Nat.le_refl _, Lx d W ok⟩
theorem R_V (h : d.R e W base ok v xs) : V d e W base' ok v xs := by
  obtain ⟨A, c, rfl⟩ := Bo h; exact ⟨A, c, rfl, (CE h).2.1, R_F h⟩
theorem N_V (h : N d e W base ok v xs) : V d e W base' ok v xs := by
  obtain ⟨A, c, rfl⟩ := Dq h; exact ⟨A, c, rfl, (Ff h).2.1, N_F h⟩
theorem AR (h : V d e W base ok v xs) (a : ∀ k, ok k → ok' k) : V d e W base ok' v xs := GG h (fun _ b => Cn b a)
theorem FJ (h : V d e W base ok v xs) (_ : base' ≤ base) : V d e W base' ok v xs := h
theorem Po (h : V d e W base ok v xs) (hm : ∀ k, ok k → k < W.heap.size → w1.heap[k]? = W.heap[k]?) : V d e w1 base ok v xs := GG h (fun _ a => Jm a hm)
theorem Bh (h : V d e W base ok v xs) (a : Below W.heap.size W w1) : V d e w1 base ok v xs := GG h (fun _ b => Cj b a)
theorem CV (h : V d e W base ok v xs) (o : Obj) : V d e (W.alloc o) base ok v xs := GG h (fun _ a => G8 a o)
theorem Bj (h : V d e W base ok v xs) : V d e W.drew base ok v xs := GG h (fun _ a => Pm a)
theorem CW (h : V d e W base ok v xs) (m : Nat) : V d e (W.drewN m) base ok v xs := GG h (fun _ a => Ow a m)
theorem Qa (h : V d e W base ok v xs) {p : Addr} (a : ∀ k, ok k → k ≠ p.block) (u : Value) : V d e (W.setCell p u) base ok v xs := GG h (fun _ b => JR b a u)
theorem O0 (h : V d e W base (fun k => ok k ∧ some k ≠ u.ownBlock) v xs) (hg : W.grownBy w1 u.ownBlock) (a : v1.ownBlock = u.ownBlock ∨ ∃ b, v1.ownBlock = some b ∧ W.heap.size ≤ b) : V d e w1 base (fun k => ok k ∧ some k ≠ v1.ownBlock) v xs := GG h (fun _ c => Ox c hg a)
theorem Bw (h : V d e W base (fun k => ok k ∧ some k ≠ v.ownBlock) u xs) (hg : W.grownBy w1 v.ownBlock) (a : v1.ownBlock = v.ownBlock ∨ ∃ b, v1.ownBlock = some b ∧ W.heap.size ≤ b) : V d e w1 base (fun k => ok k ∧ some k ≠ v1.ownBlock) u xs := O0 h hg a
theorem Au (h : V d e W base ok v xs) (a : ∀ k, u.ownBlock = some k → W.heap.size ≤ k) (b : Below W.heap.size W w1) : V d e w1 base (fun k => ok k ∧ some k ≠ u.ownBlock) v xs := GG h (fun _ c => NZ c a b)
theorem DF (h : V d e W base ok v xs) (a : Nat) (b : W.heap.size ≤ a) : V d e W base (fun k => ok k ∧ k ≠ a) v xs := GG h (fun _ c => Na c a b)
theorem EX (h : V d e W base ok (.slice (some ad) n c) xs) (z : α) (i : Int) (o : 0 ≤ i) (h1 : i < n) :
    ∃ cs, cs.length = d.sz ∧ FK d W ok (xs.getD i.toNat z) cs ∧ ∀ j u, cs[j]? = some u → W.cell? (ad.add (i.toNat * d.sz + j)) = some u := by
  obtain ⟨l, cs, k, b, q, a, _⟩ := PW (V_F h) z i o h1; injection k with k; subst k; exact ⟨cs, b, q, a⟩
theorem Qb (h : F d W ok A xs.length xs) (hm : m ≤ xs.length) (b : xs.length ≤ c) : F d W ok (if c = m then A else A.map (·.add (m * d.sz))) (xs.drop m).length (xs.drop m) := PV h (fun _ a => NQ a hm b)
theorem Qc (h : F d W ok A xs.length xs) (h1 : lo ≤ hi) (h2 : hi ≤ xs.length) (b : xs.length ≤ c) : F d W ok (if c = lo then A else A.map (·.add (lo * d.sz))) ((xs.take hi).drop lo).length ((xs.take hi).drop lo) := PV h (fun _ a => QX a h1 h2 b)
theorem EL {M : Nat → Prop} (h : d.R e w1 W.heap.size ok v xs) (a : w.heap.size ≤ W.heap.size) (c : ∀ k, w.heap.size ≤ k → M k) : d.R e w1 W.heap.size (fun k => M k ∧ ok k) v xs := BS (DW h) (fun k b => ⟨c k (Nat.le_trans a b.2.1), b.1⟩)
end
end Kd
end Go.Proofs.Ytojankgmedccdaa.Wo
end
section
namespace Go.Proofs.Ytojankgmedccdaa.Wo
open Go.Proofs.Ytojankgmedccdaa.Wo (Aside0)
def GZ (md : Region.Mode) (o : Oper) : List Nat := (o.after.toList.filter (fun e => Region.binds md e)).map (fun e => e.on)
def Jp (md : Region.Mode) (ops : Array Oper) (i : Nat) (b : Oper) : List Nat := (List.range ops.size).filter fun j => !(j == i) && match ops[j]? with
  | some a => !(a.after.any (fun e => Region.binds md e && e.on == i) || b.apart ops a)
  | none => false
def Cm (md : Region.Mode) (ops : Array Oper) : Bool × List (List Nat × List Nat) := (Region.noSelect ops, (List.range ops.size).map fun i => match ops[i]? with
  | some o => (GZ md o, Jp md ops i o)
  | none => ([], []))
def EQ (T : List (List Nat × List Nat)) (l : List Bool) (i : Nat) : Bool := !l.getD i true && match T[i]? with
  | some r => r.1.all (fun j => l.getD j false)
  | none => false
def Ew (T : List (List Nat × List Nat)) (l : List Bool) : List Nat := (List.range T.length).filter (EQ T l)
def KI (T : List (List Nat × List Nat)) (l : List Bool) (i : Nat) : Bool := match T[i]? with
  | some r => r.2.all (fun j => l.getD j true)
  | none => false
def IQ (T : List (List Nat × List Nat)) (l : List Bool) : Bool := (List.range T.length).all fun j => !l.getD j false || match T[j]? with
  | some r => r.1.all (fun k => l.getD k false)
  | none => true
def Hr (T : List (List Nat × List Nat)) (i : Nat) : Nat → Nat → Bool
  | 0, _ => false
  | fuel + 1, d => match T[d]? with
    | some r => r.1.any fun j => j == i || Hr T i fuel j
    | none => false
def lastT (T : List (List Nat × List Nat)) (l : List Bool) (ds : List Nat) (i : Nat) : Bool := ds.all fun d => l.getD d true || Hr T i T.length d
section
variable {md : Region.Mode} {ops : Array Oper} {T : Bool × List (List Nat × List Nat)} {l l' li lj lk : Array Bool} {ds : List Nat} {i j k : Nat}
theorem gd (l : Array Bool) (j : Nat) (b : Bool) : l.getD j b = l.toList.getD j b := by simp [Array.getD_eq_getD_getElem?, List.getD_eq_getElem?_getD]
theorem JU (o : Oper) (p : Nat → Bool) : o.after.all (fun e => !Region.binds md e || p e.on) = (GZ md o).all p := by
  unfold GZ; rw [← Array.all_toList]; induction o.after.toList with
  | nil => rfl
  | cons e r a =>
    rw [List.all_cons, a, List.filter_cons]; cases h : Region.binds md e <;> simp
theorem MU (o : Oper) (p : Nat → Bool) : o.after.any (fun e => Region.binds md e && p e.on) = (GZ md o).any p := by
  unfold GZ; rw [← Array.any_toList]; induction o.after.toList with
  | nil => rfl
  | cons e r a =>
    rw [List.any_cons, a, List.filter_cons]; cases h : Region.binds md e <;> simp
theorem FL : (Cm md ops).2.length = ops.size := by simp [Cm]
theorem Ga {o : Oper} (h : ops[i]? = some o) : (Cm md ops).2[i]? = some (GZ md o, Jp md ops i o) := by
  have hi := (Array.getElem?_eq_some_iff.1 h).1; unfold Cm; rw [List.getElem?_map, List.getElem?_range hi, Option.map_some, h]
theorem Gb (h : ops[i]? = none) : (Cm md ops).2[i]? = none := by
  have hi : ops.size ≤ i := Array.getElem?_eq_none_iff.1 h; exact List.getElem?_eq_none (by rw [FL]; exact hi)
theorem LC : EQ (Cm md ops).2 l.toList i = (!l.getD i true && ((ops[i]?).map (·.after.all fun e => !Region.binds md e || l.getD e.on false)).getD false) := by
  unfold EQ; rw [gd]; cases h : ops[i]? with
  | none => rw [Gb h]; rfl
  | some o =>
    rw [Ga h]; simp only [Option.map_some, Option.getD_some]; rw [← JU]; simp only [gd]
theorem ready_eq : Region.ready md ops l = Ew (Cm md ops).2 l.toList := by
  unfold Region.ready Ew; rw [FL]; refine List.filter_congr (fun i _ => ?_); rw [LC]
theorem free_eq : Region.free md ops l i = KI (Cm md ops).2 l.toList i := by
  unfold Region.free KI; cases h : ops[i]? with
  | none => rw [Gb h]
  | some b =>
    rw [Ga h]; simp only [Jp]; rw [List.all_filter]; congr 1; funext j; rw [gd]; cases hj : ops[j]? with
    | none => cases (j == i) <;> cases (l.toList.getD j true) <;> simp
    | some a =>
      cases (j == i) <;> cases (l.toList.getD j true) <;> cases (a.after.any (fun e => Region.binds md e && e.on == i) || b.apart ops a) <;> simp_all
theorem MV : Region.G6 md ops l = IQ (Cm md ops).2 l.toList := by
  unfold Region.G6 IQ; rw [FL]; congr 1; funext j; rw [gd]; cases h : ops[j]? with
  | none => rw [Gb h]
  | some o =>
    rw [Ga h]; simp only; rw [← JU]; simp only [gd]
theorem KJ : ∀ (fuel d : Nat), Region.Ee md ops i fuel d = Hr (Cm md ops).2 i fuel d
  | 0, _ => rfl
  | fuel + 1, d => by
    unfold Region.Ee Hr; cases h : ops[d]? with
    | none => rw [Gb h]
    | some o =>
      rw [Ga h]; simp only; rw [← MU]; congr 1; funext e; rw [KJ fuel]
theorem O1 : Region.lastB md ops l ds i = lastT (Cm md ops).2 l.toList ds i := by
  unfold Region.lastB lastT; rw [FL]; congr 1; funext d; rw [gd, KJ]
theorem H8 (h : EQ T.2 l.toList i = true) (a : Cm md ops = T) : (Region.ready md ops l).contains i = true := by
  subst a; rw [ready_eq]; unfold Ew; rw [List.contains_iff_mem, List.mem_filter, List.mem_range]; refine ⟨?_, h⟩; unfold EQ at h; rw [Bool.and_eq_true] at h; cases hq : (Cm md ops).2[i]? with
  | none => rw [hq] at h; simp at h
  | some r => exact (List.getElem?_eq_some_iff.1 hq).1
theorem Ip (h : (l.toList.set i true == l'.toList) = true) : (l.setIfInBounds i true == l') = true := by
  rw [beq_iff_eq] at h ⊢; apply Array.ext'; rw [Array.toList_setIfInBounds]; exact h
def Nh (T : Bool × List (List Nat × List Nat)) (l l' : List Bool) (i : Nat) : Bool := T.1 && KI T.2 l i && EQ T.2 l i && (l.set i true == l')
theorem Eh (a : Cm md ops = T) (h : Nh T l.toList l'.toList i = true) : Ot md ops l l' i = true := by
  simp only [Nh, Bool.and_eq_true] at h; obtain ⟨⟨⟨h1, h2⟩, h3⟩, h4⟩ := h; have b := H8 h3 a; have c := Ip h4; subst a; simp only [Ot, Bool.and_eq_true]; exact ⟨⟨⟨h1, by rw [free_eq]; exact h2⟩, b⟩, c⟩
def Nk (T : Bool × List (List Nat × List Nat)) (ds : List Nat) (l l' : List Bool) (i : Nat) : Bool := T.1 && KI T.2 l i && EQ T.2 l i && IQ T.2 l && lastT T.2 l ds i && (l.set i true == l')
theorem O3 (a : Cm md ops = T) (h : Nk T ds l.toList l'.toList i = true) : takeB md ops ds l l' i = true := by
  simp only [Nk, Bool.and_eq_true] at h; obtain ⟨⟨⟨⟨⟨h1, h2⟩, h3⟩, h4⟩, b⟩, c⟩ := h; have e := H8 h3 a; have j := Ip c; subst a; simp only [takeB, Bool.and_eq_true]; exact ⟨⟨⟨⟨⟨h1, by rw [free_eq]; exact h2⟩, e⟩, by rw [MV]; exact h4⟩, by rw [O1]; exact b⟩, j⟩
theorem Br (a : Cm md ops = T) (h : (Ew T.2 l.toList == [i] && l.toList.set i true == l'.toList) = true) : Ho md ops l l' i = true := by
  simp only [Bool.and_eq_true] at h; obtain ⟨h1, h2⟩ := h; subst a; simp only [Ho, Bool.and_eq_true]; exact ⟨by rw [ready_eq]; exact h1, Ip h2⟩
theorem Iq (a : Cm md ops = T) (h : (Ew T.2 l.toList == [i, j] && l.toList.set i true == li.toList && l.toList.set j true == lj.toList) = true) : (Region.ready md ops l == [i, j] && l.setIfInBounds i true == li && l.setIfInBounds j true == lj) = true := by
  simp only [Bool.and_eq_true] at h ⊢; obtain ⟨⟨h1, h2⟩, h3⟩ := h; subst a; exact ⟨⟨by rw [ready_eq]; exact h1, Ip h2⟩, Ip h3⟩
theorem Cv (a : Cm md ops = T) (h : (Ew T.2 l.toList == []) = true) : (Region.ready md ops l == []) = true := by
  subst a; rw [ready_eq]; exact h
def upM (B : List Nat) (d : Nat) : List Nat → Nat
  | [] => 0
  | n :: r => (2 ^ n ||| (if n < d then B.getD n 0 else 0)) ||| upM B d r
def CX (T : List (List Nat × List Nat)) (B : List Nat) : Bool := (List.range T.length).all fun d => match T[d]? with
  | some r => (B.getD d 0 ||| upM B d r.1) == upM B d r.1
  | none => false
theorem F3 {B : List Nat} {d i : Nat} : ∀ {a : List Nat}, (upM B d a).testBit i = true → ∃ n ∈ a, n = i ∨ (n < d ∧ (B.getD n 0).testBit i = true)
  | [], h => by simp [upM] at h
  | n :: r, h => by
    unfold upM at h; rw [Nat.testBit_or, Nat.testBit_or, Bool.or_eq_true, Bool.or_eq_true] at h; rcases h with (h | h) | h
    · rw [Nat.testBit_two_pow] at h; exact ⟨n, List.mem_cons_self, .inl (by simpa using h)⟩
    · by_cases hn : n < d
      · rw [if_pos hn] at h; exact ⟨n, List.mem_cons_self, .inr ⟨hn, h⟩⟩
      · rw [if_neg hn] at h; simp at h
    · obtain ⟨m, hm, h2⟩ := F3 h; exact ⟨m, List.mem_cons_of_mem _ hm, h2⟩
theorem JV {T : List (List Nat × List Nat)} {B : List Nat} (a : CX T B = true) : ∀ (fuel d : Nat), d < fuel → d < T.length → (B.getD d 0).testBit i = true → Hr T i fuel d = true
  | 0, d, h, _, _ => by omega
  | fuel + 1, d, h, hd, hb => by
    have h1 := List.all_eq_true.1 a d (List.mem_range.2 hd); cases hr : T[d]? with
    | none => rw [hr] at h1; simp at h1
    | some r =>
      rw [hr] at h1; simp only [beq_iff_eq] at h1; have h2 : (upM B d r.1).testBit i = true := by rw [← h1, Nat.testBit_or, hb, Bool.true_or]
      obtain ⟨n, hn, h3⟩ := F3 h2; unfold Hr; rw [hr]; simp only; rw [List.any_eq_true]; refine ⟨n, hn, ?_⟩; rcases h3 with rfl | ⟨h4, h5⟩
      · simp
      · rw [JV a fuel n (by omega) (by omega) h5, Bool.or_true]
def PX (T : List (List Nat × List Nat)) (B : List Nat) (l : List Bool) (ds : List Nat) (i : Nat) : Bool := ds.all fun d => l.getD d true || (decide (d < T.length) && (B.getD d 0).testBit i)
def PY (T : Bool × List (List Nat × List Nat)) (B : List Nat) (ds : List Nat) (l l' : List Bool) (i : Nat) : Bool := T.1 && KI T.2 l i && EQ T.2 l i && IQ T.2 l && PX T.2 B l ds i && (l.set i true == l')
theorem Am {B : List Nat} (j : Cm md ops = T) (e : CX T.2 B = true) (h : PY T B ds l.toList l'.toList i = true) : takeB md ops ds l l' i = true := by
  refine O3 j ?_; simp only [PY, Nk, Bool.and_eq_true] at h ⊢; obtain ⟨⟨⟨⟨⟨h1, h2⟩, h3⟩, h4⟩, b⟩, c⟩ := h; refine ⟨⟨⟨⟨⟨h1, h2⟩, h3⟩, h4⟩, ?_⟩, c⟩; unfold PX at b; unfold lastT; rw [List.all_eq_true] at b ⊢; intro d hd; have a := b d hd; rw [Bool.or_eq_true, Bool.and_eq_true, decide_eq_true_eq] at a; rcases a with a | ⟨h8, h9⟩
  · rw [a, Bool.true_or]
  · rw [JV e _ d h8 h8 h9, Bool.or_true]
theorem CB {P : Program} {Q : Exit → Act → World → Prop} {S : World → Prop} {n : Nat} {a : Act} {w : World} {B : List Nat} (c : Cm md ops = T) (b : CX T.2 B = true) (h : Aside0 (Cm md ops = T) → Aside0 (CX T.2 B = true) → Az P md ops Q S ds n l a w) : Az P md ops Q S ds n l a w := h ⟨c⟩ ⟨b⟩
end
def Gm : Code → Nat → Option (Array Oper)
  | .region id ops _, k => if id == k then some ops else none
  | .seq a b, k => match Gm a k with
    | some o => some o
    | none => Gm b k
  | .cond _ a b, k => match Gm a k with
    | some o => some o
    | none => Gm b k
  | .block _ c, k => Gm c k
  | .loop c, k => Gm c k
  | .scope c, k => Gm c k
  | .rangeFunc _ _ a b, k => match Gm a k with
    | some o => some o
    | none => Gm b k
  | _, _ => none
def opsOf (f : Func) (k : Nat) : Array Oper := ((f.body.bind fun c => Gm c k)).getD #[]
end Go.Proofs.Ytojankgmedccdaa.Wo
end
section
namespace Go.Proofs.Ytojankgmedccdaa.Wo
section
variable {P : Program} {ops : Array Oper} {Q : Exit → Act → World → Prop} {md : Region.Mode} {S : World → Prop} {ds : List Nat} {T : Bool × List (List Nat × List Nat)}
end
end Go.Proofs.Ytojankgmedccdaa.Wo
end
section
namespace Go.Proofs.Ytojankgmedccdaa.Wo
open Go.RowKit
namespace Kd
section
variable {α : Type} {d : Kd α} {W : World} {g n : Nat} {S ok : Nat → Prop} {A : Option Addr} {ad : Addr} {xs : List α}
end
end Kd
end Go.Proofs.Ytojankgmedccdaa.Wo
end
section
namespace Go.Proofs.Ytojankgmedccdaa.Wo
open Go.RowKit
section
variable {w w' u : World} {m B g : Nat} {o : Obj} {row : Option Nat} {S : Nat → Prop} {a : Addr} {v : Value}
end
namespace Kd
section
variable {α : Type} {d : Kd α} {e base n m : Nat} {ok : Nat → Prop} {w w' : World} {v : Value} {A : Option Addr} {xs : List α}
end
end Kd
end Go.Proofs.Ytojankgmedccdaa.Wo
end
section
namespace Go.Proofs.Ytojankgmedccdaa.Wo
open Go.RowKit
section
variable {P : Program} {d : Nat} {xs ys : Array Value} {f : Field} {fs : List Field} {a b : Value} {r s : Bool} {w : World}
end
end Go.Proofs.Ytojankgmedccdaa.Wo
end
section
namespace Go.Proofs.Ytojankgmedccdaa.Wo
theorem Cu.one {α : Type} {R : α → List Value → Prop} {ps : List α} {cs : List Value} {p : α} {v : Value} (hp : R p [v]) (h : Cu R 1 ps cs) : Cu R 1 (p :: ps) (v :: cs) := by
  refine ⟨by simp [h.1], fun j q a => ?_⟩; cases j with
  | zero =>
    simp only [List.getElem?_cons_zero, Option.some.injEq] at a; subst a; simpa using hp
  | succ j =>
    simp only [List.getElem?_cons_succ] at a; have h1 := h.2 j q a; simpa [Nat.mul_one] using h1
theorem Cu.front {α : Type} {R : α → List Value → Prop} {size : Nat} {ps : List α} {cs c all : List Value} {p : α} (hp : R p c) (b : c.length = size) (h : Cu R size ps cs) (e : c ++ cs = all) : Cu R size (p :: ps) all := by
  subst e; refine ⟨by rw [List.length_append, b, h.1, List.length_cons, Nat.succ_mul, Nat.add_comm], fun j q a => ?_⟩; cases j with
  | zero =>
    simp only [List.getElem?_cons_zero, Option.some.injEq] at a; subst a; rw [Nat.zero_mul, List.drop_zero, List.take_append_of_le_length (by omega), List.take_of_length_le (by omega)]; exact hp
  | succ j =>
    simp only [List.getElem?_cons_succ] at a; have h1 := h.2 j q a; rw [Nat.succ_mul, List.drop_append, List.drop_of_length_le (by rw [b]; exact Nat.le_add_left _ _), List.nil_append, b, Nat.add_sub_cancel]; exact h1
theorem Cu.c4 {α : Type} {R : α → List Value → Prop} {ps : List α} {cs : List Value} {p : α} {a vb b c : Value} (hp : R p [a, vb, b, c]) (h : Cu R 4 ps cs) : Cu R 4 (p :: ps) (a :: vb :: b :: c :: cs) := Cu.front hp rfl h rfl
end Go.Proofs.Ytojankgmedccdaa.Wo
end
section
namespace Go.Proofs.Ytojankgmedccdaa.Wo
def up (b : Nat → Bool) (i : Nat) : Nat → Bool := fun j => if j = i then true else b j
theorem CY (b : Nat → Bool) (i : Nat) : up b i i = true := by simp [up]
theorem Ir {b : Nat → Bool} {i j : Nat} (h : j ≠ i) : up b i j = b j := by simp [up, h]
def lof (n : Nat) (O : List Nat) (b : Nat → Bool) : List Bool := (List.range n).map fun j => if O.contains j then b j else true
def Ch (a : Act) (b : Nat → Bool) : List (Nat × Tmp × Value) → Act
  | [] => a
  | e :: r => Ch (if b e.1 = true then a.put (some e.2.1) e.2.2 else a) b r
section
variable {P : Program} {ops : Array Oper} {Q : Exit → Act → World → Prop} {md : Region.Mode} {T : Bool × List (List Nat × List Nat)} {B : List Nat} {O : List Nat} {b : Nat → Bool} {i j n : Nat}
theorem LD : (lof n O b).length = n := by simp [lof]
theorem IR {d : Bool} (a : j < n) : (lof n O b).getD j d = if O.contains j then b j else true := by
  simp [lof, List.getD_eq_getElem?_getD, a]
theorem Pp (hi : O.contains i = true) : (lof n O b).set i true = lof n O (up b i) := by
  apply List.ext_getElem?; intro j; by_cases hj : j < n
  · by_cases hij : i = j
    · subst hij; have a : i < (lof n O b).length := by rw [LD]; exact hj
      rw [List.getElem?_set_self a]; simp only [lof, List.getElem?_map, List.getElem?_range hj, Option.map_some, hi, if_true, CY]
    · rw [List.getElem?_set_ne hij]; simp only [lof, List.getElem?_map, List.getElem?_range hj, Option.map_some]; rw [Ir (Ne.symm hij)]
  · rw [List.getElem?_eq_none (by simp [lof]; omega), List.getElem?_eq_none (by simp [lof]; omega)]
def Gs (P : Program) (ops : Array Oper) (Q : Exit → Act → World → Prop) (B : List Nat) (O : List Nat) (I : (Nat → Bool) → Act → World → Prop) (i : Nat) : Prop :=
  ∀ b a w, I b a w → b i = false → (∀ j, (O.contains j && (B.getD i 0).testBit j) = true → b j = true) → (∀ d, (O.contains d && (B.getD d 0).testBit i) = true → b d = false) →
    ∃ c, ops[i]? = some c ∧ ∀ K : Act → World → Prop, Shut (∀ a' w', I (up b i) a' w' → K a' w') → if Region.wanted c (yielded ops a.tmps) = true then Oper.wp P c a w K Q else K (a.put c.dst undef) w
theorem Gc {I : (Nat → Bool) → Act → World → Prop} : ∀ i ∈ ([] : List Nat), Gs P ops Q B O I i := fun _ h => by cases h
theorem BC {I : (Nat → Bool) → Act → World → Prop} {b : List Nat} (h : Gs P ops Q B O I i) (hs : ∀ j ∈ b, Gs P ops Q B O I j) : ∀ j ∈ i :: b, Gs P ops Q B O I j := fun j a => by
  rcases List.mem_cons.1 a with rfl | a
  · exact h
  · exact hs j a
def Ey (T : List (List Nat × List Nat)) (O : List Nat) : Bool :=
  (List.range T.length).all (fun d => match T[d]? with
    | some r => (O.contains d || r.1.all fun n => !O.contains n) && r.1.all fun n => decide (n < d)
    | none => false) && O.all (fun i => decide (i < T.length)) && decide O.Nodup
theorem EM {T : List (List Nat × List Nat)} (h : Ey T O = true) {d : Nat} {r : List Nat × List Nat} (hr : T[d]? = some r) : (O.contains d = false → ∀ n ∈ r.1, O.contains n = false) ∧ ∀ n ∈ r.1, n < d := by
  simp only [Ey, Bool.and_eq_true] at h; have h1 := List.all_eq_true.1 h.1.1 d (List.mem_range.2 (List.getElem?_eq_some_iff.1 hr).1); rw [hr] at h1; simp only [Bool.and_eq_true, Bool.or_eq_true, List.all_eq_true, decide_eq_true_eq] at h1; refine ⟨fun hd n hn => ?_, h1.2⟩; rcases h1.1 with h2 | h2
  · rw [hd] at h2; cases h2
  · simpa using h2 n hn
theorem JW {T : List (List Nat × List Nat)} (h : Ey T O = true) {i : Nat} (hi : i ∈ O) : i < T.length := by
  simp only [Ey, Bool.and_eq_true] at h; simpa using List.all_eq_true.1 h.1.2 i hi
theorem Jq {T : List (List Nat × List Nat)} (h : Ey T O = true) : O.Nodup := by
  simp only [Ey, Bool.and_eq_true] at h; exact of_decide_eq_true h.2
def Closed (T : List (List Nat × List Nat)) (O : List Nat) (b : Nat → Bool) : Prop := ∀ d r, T[d]? = some r → O.contains d = true → b d = true → ∀ n ∈ r.1, O.contains n = true → b n = true
theorem KL {T : List (List Nat × List Nat)} (k : CX T B = true) (i : Ey T O = true) : ∀ (m d : Nat), d ≤ m → d < T.length → O.contains d = false → ∀ j, (B.getD d 0).testBit j = true → O.contains j = false := by
  intro m; induction m with
  | zero =>
    intro d hd b h j e; have c : d = 0 := by omega
    subst c; have hr : T[0]? = some T[0] := List.getElem?_eq_getElem b; have h1 := List.all_eq_true.1 k 0 (List.mem_range.2 b); rw [hr] at h1; simp only [beq_iff_eq] at h1; have h2 : (upM B 0 T[0].1).testBit j = true := by rw [← h1, Nat.testBit_or, e, Bool.true_or]
    obtain ⟨n, hn, h3⟩ := F3 h2; have := (EM i hr).2 n hn; omega
  | succ m l =>
    intro d hd b h j e; have hr : T[d]? = some T[d] := List.getElem?_eq_getElem b; have h1 := List.all_eq_true.1 k d (List.mem_range.2 b); rw [hr] at h1; simp only [beq_iff_eq] at h1; have h2 : (upM B d T[d].1).testBit j = true := by rw [← h1, Nat.testBit_or, e, Bool.true_or]
    obtain ⟨n, hn, h3⟩ := F3 h2; have a := (EM i hr).1 h n hn; rcases h3 with rfl | ⟨h4, h5⟩
    · exact a
    · exact l n (by omega) (by omega) a j h5
theorem H9 {T : List (List Nat × List Nat)} (l : CX T B = true) (q : Ey T O = true) (o : Closed T O b) : ∀ (m d : Nat), d ≤ m → d < T.length → O.contains d = true → b d = true → ∀ j, O.contains j = true → (B.getD d 0).testBit j = true → b j = true := by
  intro m; induction m with
  | zero =>
    intro d hd c e h j a k; have i : d = 0 := by omega
    subst i; have hr : T[0]? = some T[0] := List.getElem?_eq_getElem c; have h1 := List.all_eq_true.1 l 0 (List.mem_range.2 c); rw [hr] at h1; simp only [beq_iff_eq] at h1; have h2 : (upM B 0 T[0].1).testBit j = true := by rw [← h1, Nat.testBit_or, k, Bool.true_or]
    obtain ⟨n, hn, h3⟩ := F3 h2; have := (EM q hr).2 n hn; omega
  | succ m r =>
    intro d hd c e h j a k; have hr : T[d]? = some T[d] := List.getElem?_eq_getElem c; have h1 := List.all_eq_true.1 l d (List.mem_range.2 c); rw [hr] at h1; simp only [beq_iff_eq] at h1; have h2 : (upM B d T[d].1).testBit j = true := by rw [← h1, Nat.testBit_or, k, Bool.true_or]
    obtain ⟨n, hn, h3⟩ := F3 h2; rcases h3 with rfl | ⟨h4, h5⟩
    · exact o d _ hr e h n hn a
    · cases hO2 : O.contains n with
      | true => exact r n (by omega) (by omega) hO2 (o d _ hr e h n hn hO2) j a h5
      | false =>
        have := KL l q n n (Nat.le_refl _) (by omega) hO2 j h5; rw [a] at this; cases this
theorem KM : ∀ {O : List Nat}, O.Nodup → i ∈ O → b i = false → (O.filter fun j => !up b i j).length + 1 = (O.filter fun j => !b j).length
  | [], _, hi, _ => by cases hi
  | x :: r, hn, hi, hb => by
    rw [List.nodup_cons] at hn; rcases List.mem_cons.1 hi with rfl | hi
    · have h1 : (r.filter fun j => !up b i j) = r.filter fun j => !b j := by
        refine List.filter_congr (fun j c => ?_); rw [Ir (fun e => hn.1 (by rw [← e]; exact c))]
      rw [List.filter_cons, List.filter_cons]; simp [CY, hb, h1]
    · have a : x ≠ i := fun e => hn.1 (e ▸ hi); have h1 := KM hn.2 hi hb; rw [List.filter_cons, List.filter_cons, Ir a]; cases hbx : b x
      · simp only [Bool.not_false, if_true, List.length_cons]; omega
      · simpa using h1
theorem O4 (hT : Cm md ops = T) (hw : CX T.2 B = true) (G : Ey T.2 O = true) (I : (Nat → Bool) → Act → World → Prop) (hs : ∀ i ∈ O, Gs P ops Q B O I i)
    (W : ∀ b a w, (∀ j, O.contains j = true → b j = true) → I b a w → Q .normal a w) :
    ∀ (m : Nat) (b : Nat → Bool) (a : Act) (w : World), (O.filter fun j => !b j).length = m → Closed T.2 O b → I b a w → Az P md ops Q (fun _ => True) [] m (lof T.2.length O b).toArray a w := by
  subst hT; have c : ∀ {b : Nat → Bool} {i : Nat}, i ∈ Region.ready md ops (lof (Cm md ops).2.length O b).toArray → i < (Cm md ops).2.length ∧ O.contains i = true ∧ b i = false ∧ ∀ r, (Cm md ops).2[i]? = some r → ∀ n ∈ r.1, n < (Cm md ops).2.length → O.contains n = true → b n = true := by
    intro b i hi; rw [ready_eq] at hi; unfold Ew at hi; rw [List.mem_filter, List.mem_range] at hi; obtain ⟨J, h1⟩ := hi; unfold EQ at h1; rw [Bool.and_eq_true, IR J] at h1; obtain ⟨h2, h3⟩ := h1; have h4 : O.contains i = true := by
      cases h : O.contains i with
      | true => rfl
      | false => rw [h] at h2; simp at h2
    rw [h4] at h2; refine ⟨J, h4, by simpa using h2, fun r hr n hn jB q => ?_⟩; rw [hr] at h3; simp only [List.all_eq_true] at h3; have U := h3 n hn; rw [IR jB, q] at U; simpa using U
  intro m; induction m with
  | zero =>
    intro b a w hm hc hI; have L : ∀ j, O.contains j = true → b j = true := by
      intro j D; cases v : b j with
      | true => rfl
      | false =>
        have : j ∈ O.filter fun j => !b j := List.mem_filter.2 ⟨List.contains_iff_mem.1 D, by simp [v]⟩; rw [List.eq_nil_of_length_eq_zero hm] at this; cases this
    refine ⟨?_, W b a w L hI⟩; refine List.eq_nil_iff_forall_not_mem.2 (fun i hi => ?_); obtain ⟨_, h1, h2, _⟩ := c hi; rw [L i h1] at h2; cases h2
  | succ m ih =>
    intro b a w hm hc hI; refine ⟨fun hr => ?_, fun i hi => ?_⟩
    · exfalso; have hex : ∃ i, O.contains i = true ∧ b i = false := by
        cases hf : O.filter (fun j => !b j) with
        | nil => rw [hf] at hm; simp at hm
        | cons x r =>
          have hx : x ∈ O.filter (fun j => !b j) := by rw [hf]; exact List.mem_cons_self
          rw [List.mem_filter] at hx; exact ⟨x, List.contains_iff_mem.2 hx.1, by simpa using hx.2⟩
      have Y : ∀ k, (∃ i, i ≤ k ∧ O.contains i = true ∧ b i = false) → ∃ i, O.contains i = true ∧ b i = false ∧ ∀ j, j < i → O.contains j = true → b j = true := by
        intro k; induction k with
        | zero =>
          rintro ⟨i, hi, h1, h2⟩; exact ⟨i, h1, h2, fun j D => by omega⟩
        | succ k qB =>
          rintro ⟨i, hi, h1, h2⟩; by_cases o : ∃ j, j ≤ k ∧ O.contains j = true ∧ b j = false
          · exact qB o
          · refine ⟨i, h1, h2, fun j D q => ?_⟩; cases v : b j with
            | true => rfl
            | false => exact absurd ⟨j, by omega, q, v⟩ o
      obtain ⟨i0, h1, h2⟩ := hex; obtain ⟨i, q, v, o⟩ := Y i0 ⟨i0, Nat.le_refl _, h1, h2⟩; have J := JW G (List.contains_iff_mem.1 q); have X : i ∈ Region.ready md ops (lof (Cm md ops).2.length O b).toArray := by
        rw [ready_eq]; unfold Ew; rw [List.mem_filter, List.mem_range]; refine ⟨J, ?_⟩; unfold EQ; rw [IR J, q, v]; have l : (Cm md ops).2[i]? = some (Cm md ops).2[i] := List.getElem?_eq_getElem J; rw [l]; simp only [if_true, Bool.not_false, Bool.true_and, List.all_eq_true]; intro n hn; have s := (EM G l).2 n hn; rw [IR (by omega)]; cases u : O.contains n with
        | true => simpa using o n s u
        | false => simp
      rw [hr] at X; cases X
    · obtain ⟨J, q, v, e⟩ := c hi; have lB : ∀ j, (O.contains j && (B.getD i 0).testBit j) = true → b j = true := by
        intro j D; rw [Bool.and_eq_true] at D; have l : (Cm md ops).2[i]? = some (Cm md ops).2[i] := List.getElem?_eq_getElem J; have h1 := List.all_eq_true.1 hw i (List.mem_range.2 J); rw [l] at h1; simp only [beq_iff_eq] at h1; have h2 : (upM B i (Cm md ops).2[i].1).testBit j = true := by rw [← h1, Nat.testBit_or, D.2, Bool.true_or]
        obtain ⟨n, hn, h3⟩ := F3 h2; have s := (EM G l).2 n hn; rcases h3 with rfl | ⟨h4, U⟩
        · exact e _ l n hn (by omega) D.1
        · cases hO2 : O.contains n with
          | true => exact H9 hw G hc n n (Nat.le_refl _) (by omega) hO2 (e _ l n hn (by omega) hO2) j D.1 U
          | false =>
            have := KL hw G n n (Nat.le_refl _) (by omega) hO2 j U; rw [D.1] at this; cases this
      have Z : ∀ d, (O.contains d && (B.getD d 0).testBit i) = true → b d = false := by
        intro d hd; rw [Bool.and_eq_true] at hd; cases z : b d with
        | false => rfl
        | true =>
          have hB := JW G (List.contains_iff_mem.1 hd.1); have := H9 hw G hc d d (Nat.le_refl _) hB hd.1 z i q hd.2; rw [v] at this; cases this
      obtain ⟨oi, kB, hK⟩ := hs i (List.contains_iff_mem.1 q) b a w hI v lB Z; refine wpOp_step kB (fun K' fB => hK K' (fun a' w' eB => fB a' w' ⟨fun _ _ => trivial, ?_⟩)); have aB : (lof (Cm md ops).2.length O b).toArray.setIfInBounds i true = (lof (Cm md ops).2.length O (up b i)).toArray := by
        apply Array.ext'; rw [Array.toList_setIfInBounds]; exact Pp q
      rw [aB]; refine ih (up b i) a' w' ?_ ?_ eB
      · have := KM (Jq G) (List.contains_iff_mem.1 q) v; omega
      · intro d r hr gB z n hn u; by_cases s : n = i
        · rw [s, CY]
        · rw [Ir s]; by_cases hdi : d = i
          · subst hdi; exact e r hr n hn (by have := (EM G hr).2 n hn; omega) u
          · rw [Ir hdi] at z; exact hc d r hr gB z n hn u
theorem DU {b : Nat → Bool} {t : Tmp} : ∀ {L : List (Nat × Tmp × Value)} {a : Act}, (L.all fun e => !(e.2.1 == t)) = true → (Ch a b L).tmps[t]? = a.tmps[t]?
  | [], _, _ => rfl
  | e :: r, a, h => by
    rw [List.all_cons, Bool.and_eq_true] at h; have c : e.2.1 ≠ t := by simpa using h.1
    unfold Ch; by_cases hb : b e.1 = true
    · rw [if_pos hb, DU h.2]; simp [Act.put, Array.getElem?_setIfInBounds_ne c]
    · rw [if_neg hb]; exact DU h.2
theorem BZ {b : Nat → Bool} {e : Nat × Tmp × Value} : ∀ {L : List (Nat × Tmp × Value)} {a : Act} (k : Nat), L[k]? = some e → ((L.drop (k + 1)).all fun x => !(x.2.1 == e.2.1)) = true → b e.1 = true → Nat.ble (e.2.1 + 1) a.tmps.size = true → (Ch a b L).tmps[e.2.1]? = some e.2.2
  | [], _, _, h, _, _, _ => by cases h
  | x :: r, a, 0, h, hd, hb, ht => by
    simp only [List.getElem?_cons_zero, Option.some.injEq] at h; subst h; unfold Ch; rw [if_pos hb, DU (by simpa using hd)]; have c : x.2.1 < a.tmps.size := Nat.le_of_ble_eq_true ht; simp [Act.put, c]
  | x :: r, a, k + 1, h, hd, hb, ht => by
    unfold Ch; refine BZ k (by simpa using h) (by simpa using hd) hb ?_; by_cases hx : b x.1 = true
    · rw [if_pos hx]; simpa [Act.put] using ht
    · rw [if_neg hx]; exact ht
theorem put_comm {a : Act} {s t : Tmp} {u v : Value} (h : s ≠ t) : (a.put (some s) u).put (some t) v = (a.put (some t) v).put (some s) u := by
  simp only [Act.put]; rw [Array.setIfInBounds_comm _ _ h]
theorem Gt {b : Nat → Bool} {t : Tmp} {v : Value} : ∀ {L : List (Nat × Tmp × Value)} {a : Act}, (L.all fun e => !(e.2.1 == t)) = true → (Ch a b L).put (some t) v = Ch (a.put (some t) v) b L
  | [], _, _ => rfl
  | e :: r, a, h => by
    rw [List.all_cons, Bool.and_eq_true] at h; have c : e.2.1 ≠ t := by simpa using h.1
    unfold Ch; by_cases hb : b e.1 = true
    · rw [if_pos hb, if_pos hb, Gt h.2, put_comm c]
    · rw [if_neg hb, if_neg hb]; exact Gt h.2
theorem GH {b : Nat → Bool} {i : Nat} : ∀ {L : List (Nat × Tmp × Value)} {a : Act}, (L.all fun e => !(e.1 == i)) = true → Ch a (up b i) L = Ch a b L
  | [], _, _ => rfl
  | e :: r, a, h => by
    rw [List.all_cons, Bool.and_eq_true] at h; have c : e.1 ≠ i := by simpa using h.1
    unfold Ch; rw [Ir c]; exact GH h.2
theorem JX {b : Nat → Bool} {i : Nat} {t : Tmp} {v0 v : Value} : ∀ {k c : List (Nat × Tmp × Value)} {a : Act}, b i = false → ((k ++ c).all fun e => !(e.1 == i) && !(e.2.1 == t)) = true →
    (Ch a b (k ++ (i, t, v0) :: c)).put (some t) v = Ch a (up b i) (k ++ (i, t, v) :: c)
  | [], c, a, hb, h => by
    simp only [List.nil_append] at h ⊢; have h1 : (c.all fun e => !(e.1 == i)) = true := List.all_eq_true.2 (fun e j => by have := List.all_eq_true.1 h e j; simp only [Bool.and_eq_true] at this; exact this.1); have h2 : (c.all fun e => !(e.2.1 == t)) = true := List.all_eq_true.2 (fun e j => by have := List.all_eq_true.1 h e j; simp only [Bool.and_eq_true] at this; exact this.2); unfold Ch; rw [if_neg (by rw [hb]; decide), if_pos (CY b i), Gt h2, GH h1]
  | e :: r, c, a, hb, h => by
    simp only [List.cons_append, List.all_cons, Bool.and_eq_true] at h; have j : e.1 ≠ i := by simpa using h.1.1
    simp only [List.cons_append]; unfold Ch; rw [Ir j]; exact JX hb h.2
theorem BO {b : Nat → Bool} {i : Nat} {t : Tmp} {v0 v : Value} {a : Act} {L c : List (Nat × Tmp × Value)} (k : Nat) (l : b i = false) (j : L[k]? = some (i, t, v0)) (h : L.set k (i, t, v) = c) (hd : ((L.take k ++ L.drop (k + 1)).all fun e => !(e.1 == i) && !(e.2.1 == t)) = true) :
    (Ch a b L).put (some t) v = Ch a (up b i) c := by
  have o := (List.getElem?_eq_some_iff.1 j).1; have h1 : L = L.take k ++ (i, t, v0) :: L.drop (k + 1) := by
    have h2 : L[k] = (i, t, v0) := (List.getElem?_eq_some_iff.1 j).2; rw [← h2, List.getElem_cons_drop, List.take_append_drop]
  have h3 : c = L.take k ++ (i, t, v) :: L.drop (k + 1) := by rw [← h, List.set_eq_take_append_cons_drop, if_pos o]
  rw [h3]; conv => lhs; rw [h1]
  exact JX l hd
theorem FM {b : Nat → Bool} {i : Nat} {L : List (Nat × Tmp × Value)} {a : Act} {v : Value} (h : (L.all fun e => !(e.1 == i)) = true) : (Ch a b L).put none v = Ch a (up b i) L := (GH h).symm
theorem RJ {l : Array Bool} {fuel : Nat} {a : Act} {w : World} (O : List Nat) (I : (Nat → Bool) → Act → World → Prop) (k : Cm md ops = T) (s : CX T.2 B = true) (q : Ey T.2 O = true)
    (e : (lof T.2.length O (fun _ => false) == l.toList && O.length == fuel) = true) (h : I (fun _ => false) a w) (hs : ∀ i ∈ O, Gs P ops Q B O I i)
    (c : ∀ b a w, (∀ j, O.contains j = true → b j = true) → I b a w → Q .normal a w) : Az P md ops Q (fun _ => True) [] fuel l a w := by
  rw [Bool.and_eq_true, beq_iff_eq, beq_iff_eq] at e; have h1 := O4 k s q I hs c fuel (fun _ => false) a w (by rw [← e.2]; simp) (fun d r _ _ o => by cases o) h; have h2 : (lof T.2.length O (fun _ => false)).toArray = l := by apply Array.ext'; exact e.1
  rw [h2] at h1; exact h1
theorem Jr {l : Array Bool} {fuel : Nat} {a : Act} {w : World} (O : List Nat) (I : Act → (Nat → Bool) → Act → World → Prop) (h : Cm md ops = T) (q : CX T.2 B = true) (k : Ey T.2 O = true)
    (o : (lof T.2.length O (fun _ => false) == l.toList && O.length == fuel) = true) (e : I a (fun _ => false) a w) (hs : ∀ i ∈ O, Gs P ops Q B O (I a) i)
    (c : ∀ b a' w, (∀ j, O.contains j = true → b j = true) → I a b a' w → Q .normal a' w) : Az P md ops Q (fun _ => True) [] fuel l a w := RJ O (I a) h q k o e hs c
end
end Go.Proofs.Ytojankgmedccdaa.Wo
end
section
namespace Go.Proofs.Ytojankgmedccdaa.Wo
open Go.RowKit
end Go.Proofs.Ytojankgmedccdaa.Wo
namespace Go.Proofs.Ytojankgmedccdaa.Wo
section
variable {ops : Array Oper} {a : Act} {o og : Oper} {g : Nat} {t : Tmp} {u : Bool}
end
end Go.Proofs.Ytojankgmedccdaa.Wo
end
section
namespace Go.Proofs.Ytojankgmedccdaa.Wo
open Go.RowKit
section
variable {P : Program} {ops : Array Oper} {rest : List Oper} {o : Oper} {a : Act} {Q : Exit → Act → World → Prop} {W : World}
theorem Df (b : Region.wanted o (yielded ops a.tmps) = true) (h : wpList P ops Q ({ o with guard := none } :: rest) a W) : wpList P ops Q (o :: rest) a W := by
  have h1 : Region.wanted { o with guard := none } (yielded ops a.tmps) = true := rfl; unfold wpList at h ⊢; rw [if_pos h1] at h; rw [if_pos b]; exact h
end
end Go.Proofs.Ytojankgmedccdaa.Wo
end
