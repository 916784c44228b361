/- Lemmas. -/
import Derived.Below
import Derived.Deep.Draws
import Derived.Deep.AppendLies
import Derived.Maps.AppendAt
import Derived.OwnWalk
import Derived.Laws.BytesArg
import Derived.Laws.MakeOwn
import Derived.Laws.OwnMore
import Derived.Deep.OwnRows
import Derived.Tactics
import Derived.Lib.ConvBytes
import Derived.Laws.Slices
import Derived.WalkKit
import Derived.KernelRfl
import Derived.RowKit3
import Derived.Deep.LoopGhost
import Derived.Deep.QuietTactic
import Derived.BigQuiet
import Derived.WideLaws
import Derived.Deep.DeepCutAuto
import Derived.Deep.CutBlock
import Derived.Deep.RegionHeld3
import Derived.Laws.Rows
import Derived.Lib.AppendStr
import Derived.ArgAppend
import Derived.Laws.IdiomCopy
import Derived.RowKit
import Derived.OrdersHeld
import Derived.Laws.BitsLemmas
import Derived.Laws.StructEq
section
set_option linter.unusedVariables false
set_option linter.unusedSimpArgs false
namespace Go.Proofs.Ytojankgmedccdaa.Wo
open Go.RowKit
structure Aside0 (p : Prop) : Prop where mk :: (out : p)
structure Ar (w w' : World) : Prop where mk :: (out : ∃ n, w' = w.drewN n)
theorem Ar.refl (w : World) : Ar w w := ⟨⟨0, rfl⟩⟩
theorem Ar.step {w w' : World} (h : Ar w w') (n : Nat) : Ar w (w'.drewN n) := by
  obtain ⟨m, rfl⟩ := h; exact ⟨⟨m + n, World.drewN_drewN ..⟩⟩
def rd (xs : List Int) (i : Int) : Int := xs.getD i.toNat 0
def bt (s : ByteArray) (i : Int) : Int := if h : i.toNat < s.size then ((s[i.toNat]'h).toNat : Int) else 0
theorem DD (s : ByteArray) (i : Int) : ∀ h : i.toNat < s.size, ((s[i.toNat]'h).toNat : Int) = bt s i := fun h => by simp [bt, h]
theorem AR {w W : World} (h : Below w.heap.size w W) (o : Obj) : Below w.heap.size w (W.alloc o) := h.alloc h.size o
theorem GI {B : Nat} {w W : World} (h : Below B w W) : Below B w W.drew := ⟨h.os, h.tape, h.output, h.size, h.block⟩
theorem Ag {B : Nat} {w W : World} (h : Below B w W) (n : Nat) : Below B w (W.drewN n) := ⟨h.os, h.tape, h.output, h.size, h.block⟩
theorem Ky {B : Nat} {w w1 a : World} (h : Below B w w1) (b : B ≤ w1.heap.size) (k : Below w1.heap.size w1 a) : Below B w a :=
  h.trans ⟨k.os, k.tape, k.output, k.size, fun i hi => k.block i (Nat.lt_of_lt_of_le hi b)⟩
theorem JX {w w1 : World} (h : Below w.heap.size w w1) {a : Addr} {v : Value} (b : w.cell? a = some v) : w1.cell? a = some v := (h.cell (World.block_lt_of_cell? w a b)).trans b
theorem OU (W : World) (base : Nat) (e : TypeId) (size : Nat) : W.ownsRow base e size (.slice none 0 0) 0 [] := ⟨by simp, .inl ⟨rfl, rfl⟩⟩
theorem F6 {w : World} {base : Nat} {e : TypeId} {size n : Nat} {v : Value} {xs : List Value} (h : w.ownsRow base e size v n xs) (k : Nat) (a : v.ownBlock = some k) : base ≤ k := by
  rcases h.2 with ⟨rfl, _⟩ | ⟨g, cap, cur, rfl, hb, _⟩
  · simp [Value.ownBlock] at a
  · have : g = k := by simpa [Value.ownBlock] using a
    omega
theorem Mq {w : World} {base : Nat} {e : TypeId} {size n : Nat} {v : Value} {xs : List Value} (h : w.ownsRow base e size v n xs) (k : Nat) (a : v.ownBlock = some k) : k < w.heap.size := by
  rcases h.2 with ⟨rfl, _⟩ | ⟨g, cap, cur, rfl, hb, hh, _⟩
  · simp [Value.ownBlock] at a
  · have : g = k := by simpa [Value.ownBlock] using a
    subst this; exact (Array.getElem?_eq_some_iff.1 hh).1
section
variable {P : Program} {ops : Array Oper} {rest : List Oper} {o : Oper} {a : Act} {Q : Exit → Act → World → Prop}
end
section
variable {P : Program}
end
section
variable {P : Program} {ops : Array Oper} {rest : List Oper} {o : Oper} {a : Act} {Q : Exit → Act → World → Prop}
end
def CK {α : Type} (R : α → List Value → Prop) (size : Nat) (ps : List α) (cs : List Value) : Prop :=
  cs.length = ps.length * size ∧ ∀ j p, ps[j]? = some p → R p ((cs.drop (j * size)).take size)
theorem CK.none {α : Type} (R : α → List Value → Prop) (size : Nat) : CK R size [] [] := ⟨by simp, fun j p h => by simp at h⟩
theorem CK.snoc {α : Type} {R : α → List Value → Prop} {size : Nat} {ps : List α} {cs c : List Value} {p : α} (h : CK R size ps cs) (hp : R p c) (e : c.length = size) : CK R size (ps ++ [p]) (cs ++ c) := by
  refine ⟨by rw [List.length_append, h.1, e, List.length_append, List.length_singleton, Nat.add_mul, Nat.one_mul], fun j q a => ?_⟩; rcases Nat.lt_or_ge j ps.length with hj | hj
  · rw [List.getElem?_append_left hj] at a; have h1 : j * size + size ≤ cs.length := by rw [h.1, ← Nat.succ_mul]; exact Nat.mul_le_mul_right _ hj
    have g := h.2 j q a; rw [List.drop_append_of_le_length (by omega), List.take_append_of_le_length (by rw [List.length_drop]; omega)]; exact g
  · have b : j = ps.length := by
      have := (List.getElem?_eq_some_iff.1 a).1; rw [List.length_append, List.length_singleton] at this; omega
    subst b; have d : p = q := by simpa using a
    subst d; rw [← h.1, List.drop_left, ← e, List.take_length]; exact hp
theorem CK.Fv {α : Type} {R R' : α → List Value → Prop} {size : Nat} {ps : List α} {cs : List Value} (h : CK R size ps cs) (a : ∀ p c, R p c → R' p c) : CK R' size ps cs := ⟨h.1, fun j p b => a _ _ (h.2 j p b)⟩
def DC {α : Type} (R : α → List Value → Prop) (size : Nat) (w : World) (A : Option Addr) (n : Nat) (ps : List α) : Prop :=
  ps.length = n ∧ n ≤ 9223372036854775807 ∧ (0 < n → ∃ ad, A = some ad ∧ ∀ j p, ps[j]? = some p → ∃ c, c.length = size ∧ R p c ∧ ∀ i u, c[i]? = some u → w.cell? (ad.add (j * size + i)) = some u)
theorem DC.Qb {α : Type} {R : α → List Value → Prop} {size : Nat} {w : World} {A : Option Addr} {n : Nat} {ps : List α} (h : DC R size w A n ps) (d : α) (i : Int) (k : 0 ≤ i) (h1 : i < n) :
    ∃ ad c, A = some ad ∧ c.length = size ∧ R (ps.getD i.toNat d) c ∧ ∀ j u, c[j]? = some u → w.cell? (ad.add (i.toNat * size + j)) = some u := by
  obtain ⟨ad, e, g⟩ := h.2.2 (by omega); have b : i.toNat < ps.length := by have := h.1; omega
  obtain ⟨c, hs, hr, a⟩ := g i.toNat _ (List.getElem?_eq_getElem b); refine ⟨ad, c, e, hs, ?_, a⟩; rw [List.getD_eq_getElem?_getD, List.getElem?_eq_getElem b]; exact hr
theorem DC.Fv {α : Type} {R R' : α → List Value → Prop} {size : Nat} {w w1 : World} {A : Option Addr} {n : Nat} {ps : List α} (h : DC R size w A n ps) (d : Below w.heap.size w w1) (b : ∀ p c, R p c → R' p c) : DC R' size w1 A n ps :=
  ⟨h.1, h.2.1, fun hn => by
    obtain ⟨ad, e, g⟩ := h.2.2 hn; refine ⟨ad, e, fun j p k => ?_⟩; obtain ⟨c, hs, hr, a⟩ := g j p k; exact ⟨c, hs, b _ _ hr, fun i u l => JX d (a i u l)⟩⟩
theorem JY {α : Type} {R : α → List Value → Prop} {w : World} {base n size : Nat} {e : TypeId} {v : Value} {ps : List α} {cs : List Value} (h : w.ownsRow base e size v n cs) (d : CK R size ps cs) (hn : ps.length = n) :
    ∃ A c, v = .slice A n c ∧ DC R size w A n ps := by
  rcases Nat.eq_zero_or_pos n with h0 | h0
  · rcases h.2 with ⟨rfl, rfl⟩ | ⟨g, cap, cur, rfl, _⟩
    · exact ⟨none, 0, rfl, hn, by omega, fun hp => absurd hp (by omega)⟩
    · exact ⟨_, cap, rfl, hn, by omega, fun hp => absurd hp (by omega)⟩
  · obtain ⟨g, cap, rfl, _, _⟩ := h.form h0; have hm : n ≤ 9223372036854775807 := by
      rcases h.2 with ⟨_, h1⟩ | ⟨g', cap', cur, he, _, _, h1, h2, _⟩
      · omega
      · simp only [maxLen] at h2; omega
    refine ⟨_, cap, rfl, hn, hm, fun _ => ⟨_, rfl, fun j p k => ⟨(cs.drop (j * size)).take size, ?_, d.2 j p k, fun i u a => ?_⟩⟩⟩
    · have b := (List.getElem?_eq_some_iff.1 k).1; have h1 : j * size + size ≤ cs.length := by rw [d.1, ← Nat.succ_mul]; exact Nat.mul_le_mul_right _ b
      rw [List.length_take, List.length_drop]; omega
    · refine h.cells (g := g) rfl _ u ?_; rw [List.getElem?_take] at a; split at a
      · rw [List.getElem?_drop] at a; exact a
      · cases a
theorem Bh (ad : Addr) (m j : Nat) (a : 0 < j) : ad.add (m + j) = ⟨(ad.add m).block, (ad.add m).off + j, none⟩ := by
  unfold Addr.add; by_cases hm : m = 0
  · subst hm; simp [Nat.ne_of_gt a]
  · simp [hm, Nat.add_assoc]
section
variable {P : Program} {ops : Array Oper} {rest : List Oper} {o : Oper} {a : Act} {Q : Exit → Act → World → Prop}
theorem Hg {w0 W : World} (base : Nat) (m : o.guard = none) (s x : Operand) (t e : TypeId) (z : Value) (size bytes : Nat)
    (ho : o.op = .call { callee := .builtin .append, args := #[s, x], argTypes := #[t, t] })
    (J : P.underlying t = some (.slice e)) (g : (P.info? e).map (fun i => (i.zero, i.size, i.bytes)) = some (some z, size, bytes)) (O : z.cells.size = size) (p : 0 < size) (l : 0 < bytes)
    (v : Value) (n : Nat) (xs ys : List Value) (hs : a.eval s = v) (L : a.eval x = .slice (some ⟨W.heap.size, 0, none⟩) 1 1) (q : ys.length = size) (h1 : ∀ u ∈ ys, u.oneCell' = true)
    (B : W.ownsRow base e size v n xs) (I : Below base w0 W) (d : base ≤ W.heap.size) (D : (n + 1) * bytes ≤ 140737488355328)
    (h : ∀ v1 w1, w1.ownsRow base e size v1 (n + 1) (xs ++ ys) → Below base w0 w1 → W.grownBy w1 v.ownBlock → (v1.ownBlock = v.ownBlock ∨ ∃ b, v1.ownBlock = some b ∧ W.heap.size ≤ b) → wpList P ops Q rest (a.put o.dst v1) w1) :
    wpList P ops Q (o :: rest) a (W.alloc (.cells ys.toArray e)) := by
  obtain ⟨i0, hi, k⟩ := Option.map_eq_some_iff.1 g; simp only [Prod.mk.injEq] at k; obtain ⟨r, w, y⟩ := k; have G : n + 1 ≤ 140737488355328 := Nat.le_trans (Nat.le_mul_of_pos_right _ l) D; refine wpList_append_own_at (W.alloc (.cells ys.toArray e)) m s x t ho base e i0 z size bytes J hi r w y O p v n xs hs (B.alloc _) ⟨W.heap.size, 0, none⟩ 1 1 ys L (by rw [q]; simp)
    (by simpa using World.news_of_block (cs := ys.toArray) (t := e) (fr := (0, 0)) (heap_alloc_new W (.cells ys.toArray e))) h1 (by simp only [maxLen]; omega) D (by simp; omega) ?_
  intro v1 w1 j hg _ c; refine h v1 w1 j ((I.alloc d _).grown hg (by simp; omega) (F6 B)) (World.grownBy.trans (World.grownBy_alloc W _ _) hg) ?_; rcases c with c | c
  · exact .inl c
  · exact .inr ⟨_, c, by simp⟩
end
theorem own_ne {w : World} {base : Nat} {e t : TypeId} {size n g : Nat} {v : Value} {xs : List Value} {cs : Array Value} (h : w.ownsRow base e size v n xs) (hg : w.heap[g]? = some (.cells cs t (0, 0))) (a : e ≠ t) : some g ≠ v.ownBlock := by
  rcases h.2 with ⟨rfl, _⟩ | ⟨b, cap, cur, rfl, _, hh, _⟩
  · simp [Value.ownBlock]
  · intro c; have : g = b := by simpa [Value.ownBlock] using c
    subst this; rw [hg] at hh; injection hh with hh; injection hh with _ ht; exact a ht.symm
theorem OV {w : World} {g : Nat} {t : TypeId} {cs : Array Value} (h : w.heap[g]? = some (.cells cs t (0, 0))) (i : Nat) (u : Value) : (w.setCell ⟨g, i, none⟩ u).heap[g]? = some (.cells (cs.setIfInBounds i u) t (0, 0)) := by
  simp [World.setCell, Array.getElem?_modify, h]
theorem Ea {w : World} {g : Nat} {t : TypeId} {cs : Array Value} (h : w.heap[g]? = some (.cells cs t (0, 0))) {p : Addr} (hp : g ≠ p.block) (u : Value) : (w.setCell p u).heap[g]? = some (.cells cs t (0, 0)) := (Below.heap_setCell w p u g hp).trans h
theorem Eb {w : World} {g : Nat} {o : Obj} (h : w.heap[g]? = some o) : g < w.heap.size := (Array.getElem?_eq_some_iff.1 h).1
theorem Af {w : World} {g : Nat} {t : TypeId} {cs : Array Value} (h : w.heap[g]? = some (.cells cs t (0, 0))) (i : Nat) : w.cell? ⟨g, i, none⟩ = cs[i]? := cell_of_row w g i cs t (0, 0) h
theorem AY {w : World} {g : Nat} {t : TypeId} {cs : Array Value} (h : w.heap[g]? = some (.cells cs t (0, 0))) (i : Nat) : w.frozen? ⟨g, i, none⟩ = false := by simp [World.frozen?, h]
theorem BR {w w1 : World} {g : Nat} {o : Obj} {row : Option Nat} (h : w.heap[g]? = some o) (hg : w.grownBy w1 row) (a : some g ≠ row) : w1.heap[g]? = some o := (hg.block g (Eb h) a).trans h
def Ev {α : Type} (g : Nat → Option α) (r : α) : Prop := ∃ K, ∀ k, K ≤ k → g k = some r
theorem Ev.now {α : Type} (r : α) : Ev (fun _ => some r) r := ⟨0, fun _ _ => rfl⟩
theorem Ev.rounds {α : Type} {g : Nat → Option α} {r : α} (h : Ev g r) : ∃ k, g k = some r := by
  obtain ⟨K, h⟩ := h; exact ⟨K, h K (Nat.le_refl _)⟩
theorem Ev.bind {α β : Type} {g : Nat → Option α} {f : Nat → α → Option β} {a : α} {r : β} (h : Ev g a) (k : Ev (fun n => f n a) r) : Ev (fun n => (g n).bind (f n)) r := by
  obtain ⟨K, h⟩ := h; obtain ⟨b, k⟩ := k; refine ⟨max K b, fun n hn => ?_⟩; have h1 := h n (by omega); have c := k n (by omega); simp only [h1, Option.bind_some]; exact c
theorem Ev.step {α : Type} {g f : Nat → Option α} {r : α} (h : ∀ k, g (k + 1) = f k) (k : Ev f r) : Ev g r := by
  obtain ⟨K, k⟩ := k; refine ⟨K + 1, fun n hn => ?_⟩; obtain ⟨m, rfl⟩ : ∃ m, n = m + 1 := ⟨n - 1, by omega⟩; rw [h]; exact k m (by omega)
theorem Ev.congr {α : Type} {g f : Nat → Option α} {r : α} (h : ∀ k, g k = f k) (k : Ev f r) : Ev g r := by
  obtain ⟨K, k⟩ := k; exact ⟨K, fun n hn => (h n).trans (k n hn)⟩
section
variable {P : Program} {ops : Array Oper} {o : Oper} {a : Act} {Q : Exit → Act → World → Prop} {K : Act → World → Prop}
theorem Ht {w0 W : World} (base : Nat) (J : Region.wanted o (yielded ops a.tmps) = true) (s x : Operand) (t e : TypeId) (z : Value) (size bytes : Nat)
    (ho : o.op = .call { callee := .builtin .append, args := #[s, x], argTypes := #[t, t] })
    (I : P.underlying t = some (.slice e)) (g : (P.info? e).map (fun i => (i.zero, i.size, i.bytes)) = some (some z, size, bytes)) (O : z.cells.size = size) (m : 0 < size) (l : 0 < bytes)
    (v : Value) (n : Nat) (xs ys : List Value) (hs : a.eval s = v) (L : a.eval x = .slice (some ⟨W.heap.size, 0, none⟩) 1 1) (p : ys.length = size) (h1 : ∀ u ∈ ys, u.oneCell' = true)
    (y : W.ownsRow base e size v n xs) (G : Below base w0 W) (d : base ≤ W.heap.size) (B : (n + 1) * bytes ≤ 140737488355328)
    (h : ∀ v1 w1, w1.ownsRow base e size v1 (n + 1) (xs ++ ys) → Below base w0 w1 → W.grownBy w1 v.ownBlock → (v1.ownBlock = v.ownBlock ∨ ∃ b, v1.ownBlock = some b ∧ W.heap.size ≤ b) → K (a.put o.dst v1) w1) :
    if Region.wanted o (yielded ops a.tmps) = true then Oper.wp P o a (W.alloc (.cells ys.toArray e)) K Q else K (a.put o.dst undef) (W.alloc (.cells ys.toArray e)) := by
  obtain ⟨i0, hi, k⟩ := Option.map_eq_some_iff.1 g; simp only [Prod.mk.injEq] at k; obtain ⟨q, r, w⟩ := k; have D : n + 1 ≤ 140737488355328 := Nat.le_trans (Nat.le_mul_of_pos_right _ l) B; rw [if_pos J]; obtain ⟨v1, w1, hr, j, hg, _, c⟩ := run_append_own_at (P := P) (W.alloc (.cells ys.toArray e)) base t o.type e i0 z size bytes I hi q r w O m v n xs (y.alloc _) ⟨W.heap.size, 0, none⟩ 1 1 ys (by rw [p]; simp)
    (by simpa using World.news_of_block (cs := ys.toArray) (t := e) (fr := (0, 0)) (heap_alloc_new W (.cells ys.toArray e))) h1 (by simp only [maxLen]; omega) B (by simp; omega)
  unfold Oper.wp execOp; simp only [ho, resolve, invoke, builtin, Sem.run_bind, Sem.run_pure, Result.andThen_ok, List.map_toArray, List.map_cons, List.map_nil, hs, L, hr]; refine h v1 w1 j ((G.alloc d _).grown hg (by simp; omega) (F6 y)) (World.grownBy.trans (World.grownBy_alloc W _ _) hg) ?_; rcases c with c | c
  · exact .inl c
  · exact .inr ⟨_, c, by simp⟩
end
theorem Kz {w : World} {base base' : Nat} {e : TypeId} {size n : Nat} {v : Value} {xs : List Value} (h : w.ownsRow base e size v n xs) (b : base' ≤ base) : w.ownsRow base' e size v n xs := by
  obtain ⟨h1, a⟩ := h; refine ⟨h1, ?_⟩; rcases a with a | ⟨g, cap, cur, rfl, hg, r⟩
  · exact .inl a
  · exact .inr ⟨g, cap, cur, rfl, Nat.le_trans b hg, r⟩
section
variable {α : Type} {enc : α → Value} {d : α}
def EI (d : α) (xs : List α) (i : Int) : α := xs.getD i.toNat d
def Ec (enc : α → Value) (d : α) (w : World) (A : Option Addr) (n : Nat) (xs : List α) : Prop :=
  xs.length = n ∧ n ≤ 9223372036854775807 ∧ (0 < n → ∃ ad, A = some ad ∧ ∀ j, j < n → w.cell? (ad.add j) = some (enc (xs.getD j d)))
theorem Ec.at_ {w : World} {A : Option Addr} {n : Nat} {xs : List α} (h : Ec enc d w A n xs) (i : Int) (b : 0 ≤ i) (h1 : i < n) : ∃ ad, A = some ad ∧ w.cell? (ad.add i.toNat) = some (enc (EI d xs i)) := by
  obtain ⟨ad, e, a⟩ := h.2.2 (by omega); exact ⟨ad, e, a _ (by omega)⟩
theorem Ec.Br {w : World} {A : Option Addr} {n : Nat} {xs : List α} (h : Ec enc d w A n xs) (i : Nat) (hi : i ≤ n) : Ec enc d w A i (xs.take i) := by
  refine ⟨by rw [List.length_take, h.1]; omega, by have := h.2.1; omega, fun hp => ?_⟩; obtain ⟨ad, e, a⟩ := h.2.2 (by omega); refine ⟨ad, e, fun j b => ?_⟩; rw [a j (by omega)]; simp [List.getD_eq_getElem?_getD, b]
end
section
variable {α : Type} {P : Program} {ops : Array Oper} {rest : List Oper} {o : Oper} {a : Act} {Q : Exit → Act → World → Prop}
end
theorem Ac {w : World} {g : Nat} {o : Obj} (h : w.heap[g]? = some o) (a : Obj) : (w.alloc a).heap[g]? = some o := (Below.heap_alloc w a g (Eb h)).trans h
theorem AZ {w : World} {g : Nat} {o : Obj} (h : w.heap[g]? = some o) : w.drew.heap[g]? = some o := h
theorem BO {w : World} {g : Nat} {o : Obj} (h : w.heap[g]? = some o) (n : Nat) : (w.drewN n).heap[g]? = some o := h
theorem AX {w w1 : World} {g : Nat} {o : Obj} (h : w.heap[g]? = some o) (a : Below w.heap.size w w1) : w1.heap[g]? = some o := (a.block g (Eb h)).trans h
theorem Et (w : World) (o : Obj) : (w.alloc o).heap[w.heap.size]? = some o := heap_alloc_new w o
section
variable {P : Program}
theorem Ej {c : Func} {p u : Tmp} {a : TypeId} (h : c.results = #[.cell p a, .tmp u]) (tmps : Array Value) (w : World) (g : Nat) (t : TypeId) (cs : Array Value) (fr : Nat × Nat) (d : TypeDesc)
    (hp : tmps.getD p undef = .pointer (some ⟨g, 0, none⟩)) (hg : w.heap[g]? = some (.cells cs t fr))
    (e : P.underlying a = some d) (hd : (match d with | .struct _ | .array _ _ => true | _ => false) = true) (hi : (P.info? a).map (·.size) = some cs.size) :
    (results c tmps).run P w = .ok (.tuple #[.agg cs, tmps.getD u undef]) w := by
  have b : tmps[p]?.getD undef = .pointer (some ⟨g, 0, none⟩) := by simpa using hp
  simp [results, h, b, asAddr, run_loadVar_row w g t a cs fr d hg e hd hi]
theorem Fg {c : Func} {p u v : Tmp} {a : TypeId} (h : c.results = #[.cell p a, .tmp u, .tmp v]) (tmps : Array Value) (w : World) (g : Nat) (t : TypeId) (cs : Array Value) (fr : Nat × Nat) (d : TypeDesc)
    (hp : tmps.getD p undef = .pointer (some ⟨g, 0, none⟩)) (hg : w.heap[g]? = some (.cells cs t fr))
    (e : P.underlying a = some d) (hd : (match d with | .struct _ | .array _ _ => true | _ => false) = true) (hi : (P.info? a).map (·.size) = some cs.size) :
    (results c tmps).run P w = .ok (.tuple #[.agg cs, tmps.getD u undef, tmps.getD v undef]) w := by
  have b : tmps[p]?.getD undef = .pointer (some ⟨g, 0, none⟩) := by simpa using hp
  simp [results, h, b, asAddr, run_loadVar_row w g t a cs fr d hg e hd hi]
end
theorem PO {w : World} {base n m c size : Nat} {e : TypeId} {A : Option Addr} {xs : List Value} (h : w.ownsRow base e size (.slice A m c) n xs) : m ≤ c := by
  rcases h.2 with ⟨he, _⟩ | ⟨g, cap, cur, he, _, _, hnc, _⟩
  · injection he with _ h2 h3; omega
  · injection he with _ h2 h3; omega
def El {α : Type} (R : α → List Value → Prop) (e : TypeId) (size : Nat) (w : World) (base : Nat) (v : Value) (ps : List α) : Prop :=
  ∃ inner, w.ownsRow base e size v ps.length inner ∧ CK R size ps inner
section
variable {α : Type} {R R' : α → List Value → Prop} {e : TypeId} {size : Nat} {w w1 : World} {base : Nat} {v : Value} {ps : List α}
theorem El.none_ (R : α → List Value → Prop) (e : TypeId) (size : Nat) (w : World) (base : Nat) : El R e size w base (.slice none 0 0) [] := ⟨[], OU _ _ _ _, CK.none _ _⟩
theorem El.Fv (h : El R e size w base v ps) (a : ∀ p c, R p c → R' p c) : El R' e size w base v ps := by
  obtain ⟨inner, ho, hr⟩ := h; exact ⟨inner, ho, hr.Fv a⟩
theorem El.reads (h : El R e size w base v ps) : ∃ A c, v = .slice A ps.length c ∧ ps.length ≤ c ∧ DC R size w A ps.length ps := by
  obtain ⟨inner, ho, hr⟩ := h; obtain ⟨A, c, rfl, a⟩ := JY ho hr rfl; exact ⟨A, c, rfl, PO ho, a⟩
theorem El.Mr (h : El R e size w base v ps) {g : Nat} {t : TypeId} {cells : Array Value} (a : w.heap[g]? = some (.cells cells t (0, 0))) (b : e ≠ t) : some g ≠ v.ownBlock := by
  obtain ⟨inner, ho, hr⟩ := h; exact own_ne ho a b
end
section
variable {P : Program} {ops : Array Oper} {rest : List Oper} {o : Oper} {a : Act} {Q : Exit → Act → World → Prop} {α : Type} {R : α → List Value → Prop}
end
section
variable {P : Program} {ops : Array Oper} {o : Oper} {a : Act} {Q : Exit → Act → World → Prop} {K : Act → World → Prop} {α : Type} {R : α → List Value → Prop}
end
theorem DC.K3 {α : Type} {R : α → List Value → Prop} {size : Nat} {w : World} {ad : Addr} {n : Nat} {ps : List α} (h : DC R size w (some ad) n ps) :
    ∃ inner, CK R size ps inner ∧ ∀ j u, inner[j]? = some u → w.cell? (ad.add j) = some u := by
  have key : ∀ m, m ≤ ps.length → ∃ inner, CK R size (ps.take m) inner ∧ ∀ j u, inner[j]? = some u → w.cell? (ad.add j) = some u := by
    intro m; induction m with
    | zero => exact fun _ => ⟨[], CK.none _ _, fun j u b => by simp at b⟩
    | succ m o =>
      intro hm; obtain ⟨inner, hr, d⟩ := o (by omega); obtain ⟨l, i, a⟩ := h.2.2 (by have := h.1; omega); injection i with i; subst i; obtain ⟨c, g, hp, e⟩ := a m _ (List.getElem?_eq_getElem (show m < ps.length by omega)); refine ⟨inner ++ c, ?_, fun j u b => ?_⟩
      · rw [List.take_succ_eq_append_getElem (show m < ps.length by omega)]; exact hr.snoc hp g
      · have k : inner.length = m * size := by rw [hr.1, List.length_take, Nat.min_eq_left (by omega)]
        rcases Nat.lt_or_ge j inner.length with hj | hj
        · rw [List.getElem?_append_left hj] at b; exact d j u b
        · rw [List.getElem?_append_right hj] at b; have := e (j - inner.length) u b; rwa [k, Nat.add_sub_cancel' (by omega)] at this
  obtain ⟨inner, hr, d⟩ := key ps.length (Nat.le_refl _); rw [List.take_length] at hr; exact ⟨inner, hr, d⟩
section
variable {α : Type} {P : Program}
theorem G9 (enc : α → Value) (d : α) (t e : TypeId) (l : IntKind) {i : TypeInfo} (k : P.underlying t = some (.slice e)) (hi : P.info? e = some i) (g : i.size = 1) (A : Option Addr) (c : Nat) (xs : List α) (j : Int) (m : 0 ≤ j) (hm : j ≤ xs.length) (p : xs.length ≤ c) :
    (∀ W : World, (Instr.slice t (.slice A xs.length c) none (some (.int l j)) none).run P W = .ok (.slice A (xs.take j.toNat).length c) W) ∧
      (∀ w : World, Ec enc d w A xs.length xs → Ec enc d w A (xs.take j.toNat).length (xs.take j.toNat)) ∧ (xs.take j.toNat).length ≤ c := by
  have b : (xs.take j.toNat).length = j.toNat := by rw [List.length_take]; omega
  refine ⟨fun W => ?_, fun w h => by rw [b]; exact h.Br j.toNat (by omega), by rw [b]; omega⟩; have a : P.elem t = e := by simp [Program.elem, k]
  have o : P.underlying t = some (.slice (P.elem t)) := by rw [a]; exact k
  have n : (A.map fun x => x.add 0) = A := by cases A <;> simp [Addr.add]
  rw [run_slice_h W t A xs.length c o l j m (by omega), a, b]; simp [sizeOf, typeInfo, hi, g, sliced, Result.andThen, n]
end
section
variable {P : Program} {ops : Array Oper} {rest : List Oper} {o : Oper} {a : Act} {Q : Exit → Act → World → Prop}
end
structure Kd (α : Type) where
  sz : Nat
  E : List Nat
  K : World → α → List Value → Prop
  M : World → Nat → (Nat → Prop) → α → List Value → Prop
  K_len : ∀ {w x cs}, K w x cs → cs.length = sz
  K_one : ∀ {w x cs}, K w x cs → ∀ u ∈ cs, u.oneCell' = true
  K_below : ∀ {w w1 : World} {x cs}, Below w.heap.size w w1 → K w x cs → K w1 x cs
  K_of_M : ∀ {w base ok x cs}, M w base ok x cs → K w x cs
  M_mono : ∀ {w base ok ok' x cs}, (∀ k, ok k → ok' k) → M w base ok x cs → M w base ok' x cs
  M_bound : ∀ {w : World} {base ok x cs}, M w base ok x cs → M w base (fun k => ok k ∧ base ≤ k ∧ k < w.heap.size ∧ ∃ q, q ∈ E ∧ ∃ cells, w.heap[k]? = some (.cells cells q (0, 0))) x cs
  M_move : ∀ {w w1 : World} {base ok x cs}, (∀ k, ok k → w1.heap[k]? = w.heap[k]?) → M w base ok x cs → M w1 base ok x cs
  M_lower : ∀ {w base base' ok x cs}, base' ≤ base → M w base ok x cs → M w base' ok x cs
theorem Ms {w w1 : World} {base : Nat} {e : TypeId} {size n : Nat} {v : Value} {xs : List Value} (h : w.ownsRow base e size v n xs) (hm : ∀ k, v.ownBlock = some k → w1.heap[k]? = w.heap[k]?) : w1.ownsRow base e size v n xs := by
  obtain ⟨h1, a⟩ := h; refine ⟨h1, ?_⟩; rcases a with a | ⟨g, cap, cur, rfl, hg, hh, r⟩
  · exact .inl a
  · exact .inr ⟨g, cap, cur, rfl, hg, (hm g (by simp [Value.ownBlock])).trans hh, r⟩
theorem Jc {w : World} {base : Nat} {e : TypeId} {size n : Nat} {v : Value} {xs : List Value} (h : w.ownsRow base e size v n xs) (k : Nat) (a : v.ownBlock = some k) : ∃ cells, w.heap[k]? = some (.cells cells e (0, 0)) := by
  rcases h.2 with ⟨rfl, _⟩ | ⟨g, cap, cur, rfl, hg, hh, r⟩
  · simp [Value.ownBlock] at a
  · have : g = k := by simpa [Value.ownBlock] using a
    subst this; exact ⟨cur, hh⟩
namespace Kd
def C {α : Type} (d : Kd α) (w : World) (A : Option Addr) (n : Nat) (xs : List α) : Prop := DC (d.K w) d.sz w A n xs
def R {α : Type} (d : Kd α) (e : Nat) (w : World) (base : Nat) (ok : Nat → Prop) (v : Value) (xs : List α) : Prop :=
  (∀ k, v.ownBlock = some k → ok k) ∧ El (d.M w base (fun k => ok k ∧ some k ≠ v.ownBlock)) e d.sz w base v xs
section
variable {α : Type} {d : Kd α} {e : Nat} {w w1 : World} {base : Nat} {ok ok' : Nat → Prop} {v : Value} {xs : List α}
theorem Ap {A : Option Addr} {n : Nat} (h : d.C w A n xs) (a : Below w.heap.size w w1) : d.C w1 A n xs := DC.Fv h a (fun _ _ hp => d.K_below a hp)
theorem Dq (d : Kd α) (e : Nat) (w : World) (base : Nat) (ok : Nat → Prop) : d.R e w base ok (.slice none 0 0) [] := ⟨fun k a => by simp [Value.ownBlock] at a, El.none_ _ _ _ _ _⟩
theorem BK (h : d.R e w base ok v xs) (a : ∀ k, ok k → ok' k) : d.R e w base ok' v xs := ⟨fun k b => a k (h.1 k b), h.2.Fv (fun _ _ hp => d.M_mono (fun k b => ⟨a k b.1, b.2⟩) hp)⟩
theorem Dz (h : d.R e w base ok v xs) : d.R e w base (fun k => ok k ∧ base ≤ k ∧ k < w.heap.size ∧ ∃ q, q ∈ e :: d.E ∧ ∃ cells, w.heap[k]? = some (.cells cells q (0, 0))) v xs := by
  obtain ⟨c, inner, ho, hr⟩ := h; refine ⟨fun k a => ?_, inner, ho, hr.Fv (fun _ _ hp => d.M_mono (fun k a => ?_) (d.M_bound hp))⟩
  · obtain ⟨cells, b⟩ := Jc ho k a; exact ⟨c k a, F6 ho k a, Mq ho k a, e, List.mem_cons_self, cells, b⟩
  · obtain ⟨⟨h1, g⟩, i, j, q, l, b⟩ := a; exact ⟨⟨h1, i, j, q, List.mem_cons_of_mem _ l, b⟩, g⟩
theorem Ju (h : d.R e w base ok v xs) (hm : ∀ k, ok k → w1.heap[k]? = w.heap[k]?) : d.R e w1 base ok v xs := by
  obtain ⟨b, inner, ho, hr⟩ := h; exact ⟨b, inner, Ms ho (fun k a => hm k (b k a)), hr.Fv (fun _ _ hp => d.M_move (fun k a => hm k a.1) hp)⟩
theorem Cb {base' : Nat} (h : d.R e w base ok v xs) (a : base' ≤ base) : d.R e w base' ok v xs := by
  obtain ⟨b, inner, ho, hr⟩ := h; exact ⟨b, inner, Kz ho a, hr.Fv (fun _ _ hp => d.M_lower a hp)⟩
theorem Ga (h : d.R e w base ok v xs) (hm : ∀ k, ok k → k < w.heap.size → w1.heap[k]? = w.heap[k]?) : d.R e w1 base ok v xs :=
  BK (Ju (Dz h) (fun k a => hm k a.1 a.2.2.1)) (fun _ a => a.1)
theorem Mt {x : α} {cs : List Value} (h : d.M w base ok x cs) (hm : ∀ k, ok k → k < w.heap.size → w1.heap[k]? = w.heap[k]?) : d.M w1 base ok x cs :=
  d.M_mono (fun _ a => a.1) (d.M_move (fun k a => hm k a.1 a.2.2.1) (d.M_bound h))
theorem ET (h : d.R e w base ok v xs) (a : Below w.heap.size w w1) : d.R e w1 base ok v xs := Ga h (fun k _ b => a.block k b)
theorem LZ {x : α} {cs : List Value} (h : d.M w base ok x cs) (a : Below w.heap.size w w1) : d.M w1 base ok x cs := Mt h (fun k _ b => a.block k b)
theorem OW (h : d.R e w base ok v xs) {row : Option Nat} (hg : w.grownBy w1 row) (a : ∀ k, ok k → some k ≠ row) : d.R e w1 base ok v xs := Ga h (fun k ho b => hg.block k b (a k ho))
theorem Pw (h : d.R e w base ok v xs) {p : Addr} (a : ∀ k, ok k → k ≠ p.block) (u : Value) : d.R e (w.setCell p u) base ok v xs := Ga h (fun k ho _ => Below.heap_setCell w p u k (a k ho))
theorem Ai (h : d.R e w base ok v xs) {g t : Nat} {cells : Array Value} (a : w.heap[g]? = some (.cells cells t (0, 0))) (l : ∀ q, q ∈ e :: d.E → q ≠ t) : d.R e w base (fun k => ok k ∧ k ≠ g) v xs :=
  BK (Dz h) (fun k c => ⟨c.1, by
    obtain ⟨_, _, _, q, j, b, i⟩ := c; rintro rfl; rw [i] at a; injection a with a; injection a with _ a; exact l q j a⟩)
theorem Jv (h : d.R e w base ok v xs) : ∃ A c, v = .slice A xs.length c ∧ xs.length ≤ c ∧ d.C w A xs.length xs := by
  obtain ⟨A, c, a, b, hr⟩ := El.reads h.2; exact ⟨A, c, a, b, hr.Fv (Below.refl _ _) (fun _ _ hp => d.K_of_M hp)⟩
theorem Bt (h : d.R e w base ok v xs) : ∃ A c, v = .slice A xs.length c := by
  obtain ⟨A, c, a, _⟩ := Jv h; exact ⟨A, c, a⟩
theorem Mv (h : d.R e w base ok v xs) : ∃ inner, w.ownsRow base e d.sz v xs.length inner := by
  obtain ⟨_, inner, ho, _⟩ := h; exact ⟨inner, ho⟩
theorem Hl (h : d.R e w base ok v xs) {g t : Nat} {cells : Array Value} (a : w.heap[g]? = some (.cells cells t (0, 0))) (b : e ≠ t) : some g ≠ v.ownBlock := El.Mr h.2 a b
end
def scalar {α : Type} (enc : α → Value) (h1 : ∀ x, (enc x).oneCell' = true) : Kd α where
  sz := 1
  E := []
  K := fun _ x cs => cs = [enc x]
  M := fun _ _ _ x cs => cs = [enc x]
  K_len := fun h => by rw [h]; rfl
  K_one := fun h u a => by
    rw [h] at a; rw [List.mem_singleton.1 a]; exact h1 _
  K_below := fun _ h => h
  K_of_M := fun h => h
  M_mono := fun _ h => h
  M_bound := fun h => h
  M_move := fun _ h => h
  M_lower := fun _ h => h
def int (k : IntKind) : Kd Int := scalar (Value.int k) (fun _ => rfl)
def bool : Kd Bool := scalar Value.bool (fun _ => rfl)
def string : Kd ByteArray := scalar Value.string (fun _ => rfl)
def slice {α : Type} (e : Nat) (d : Kd α) : Kd (List α) where
  sz := 1
  E := e :: d.E
  K := fun w xs cs => ∃ A c, cs = [.slice A xs.length c] ∧ xs.length ≤ c ∧ d.C w A xs.length xs
  M := fun w base ok xs cs => ∃ v, cs = [v] ∧ d.R e w base ok v xs
  K_len := by
    rintro w x cs ⟨A, c, rfl, _⟩; rfl
  K_one := by
    rintro w x cs ⟨A, c, rfl, _⟩ u i; rw [List.mem_singleton.1 i]; rfl
  K_below := by
    rintro w w1 x cs a ⟨A, c, rfl, b, hr⟩; exact ⟨A, c, rfl, b, Ap hr a⟩
  K_of_M := by
    rintro w base ok x cs ⟨v, rfl, h⟩; obtain ⟨A, c, rfl, b, hr⟩ := Jv h; exact ⟨A, c, rfl, b, hr⟩
  M_mono := by
    rintro w base ok ok' x cs g ⟨v, rfl, h⟩; exact ⟨v, rfl, BK h g⟩
  M_bound := by
    rintro w base ok x cs ⟨v, rfl, h⟩; exact ⟨v, rfl, Dz h⟩
  M_move := by
    rintro w w1 base ok x cs hm ⟨v, rfl, h⟩; exact ⟨v, rfl, Ju h hm⟩
  M_lower := by
    rintro w base base' ok x cs a ⟨v, rfl, h⟩; exact ⟨v, rfl, Cb h a⟩
def pair {α β : Type} (a : Kd α) (b : Kd β) : Kd (α × β) where
  sz := a.sz + b.sz
  E := a.E ++ b.E
  K := fun w x cs => ∃ c d, cs = c ++ d ∧ a.K w x.1 c ∧ b.K w x.2 d
  M := fun w base ok x cs => ∃ c d, cs = c ++ d ∧ a.M w base ok x.1 c ∧ b.M w base ok x.2 d
  K_len := by
    rintro w x cs ⟨c, d, rfl, e, h1⟩; rw [List.length_append, a.K_len e, b.K_len h1]
  K_one := by
    rintro w x cs ⟨c, d, rfl, e, h1⟩ u i; rcases List.mem_append.1 i with i | i
    · exact a.K_one e u i
    · exact b.K_one h1 u i
  K_below := by
    rintro w w1 x cs g ⟨c, d, rfl, e, h1⟩; exact ⟨c, d, rfl, a.K_below g e, b.K_below g h1⟩
  K_of_M := by
    rintro w base ok x cs ⟨c, d, rfl, e, h1⟩; exact ⟨c, d, rfl, a.K_of_M e, b.K_of_M h1⟩
  M_mono := by
    rintro w base ok ok' x cs h ⟨c, d, rfl, e, h1⟩; exact ⟨c, d, rfl, a.M_mono h e, b.M_mono h h1⟩
  M_bound := by
    rintro w base ok x cs ⟨c, d, rfl, e, h1⟩; refine ⟨c, d, rfl, a.M_mono ?_ (a.M_bound e), b.M_mono ?_ (b.M_bound h1)⟩
    · rintro k ⟨j, l, m, q, o, n⟩; exact ⟨j, l, m, q, List.mem_append_left _ o, n⟩
    · rintro k ⟨j, l, m, q, o, n⟩; exact ⟨j, l, m, q, List.mem_append_right _ o, n⟩
  M_move := by
    rintro w w1 base ok x cs hm ⟨c, d, rfl, e, h1⟩; exact ⟨c, d, rfl, a.M_move hm e, b.M_move hm h1⟩
  M_lower := by
    rintro w base base' ok x cs g ⟨c, d, rfl, e, h1⟩; exact ⟨c, d, rfl, a.M_lower g e, b.M_lower g h1⟩
def iso {α β : Type} (d : Kd α) (f : β → α) : Kd β where
  sz := d.sz
  E := d.E
  K := fun w x cs => d.K w (f x) cs
  M := fun w base ok x cs => d.M w base ok (f x) cs
  K_len := d.K_len
  K_one := d.K_one
  K_below := d.K_below
  K_of_M := d.K_of_M
  M_mono := d.M_mono
  M_bound := d.M_bound
  M_move := d.M_move
  M_lower := d.M_lower
def bot {α : Type} (sz : Nat) (E : List Nat) : Kd α where
  sz := sz
  E := E
  K := fun _ _ _ => False
  M := fun _ _ _ _ _ => False
  K_len := fun h => h.elim
  K_one := fun h => h.elim
  K_below := fun _ h => h
  K_of_M := fun h => h
  M_mono := fun _ h => h
  M_bound := fun h => h
  M_move := fun _ h => h
  M_lower := fun _ h => h
def upto {α : Type} (F : Kd α → Kd α) (sz : Nat) (E : List Nat) : Nat → Kd α
  | 0 => bot sz E
  | n + 1 => F (upto F sz E n)
def fix {α : Type} (F : Kd α → Kd α) (sz : Nat) (E : List Nat) (hs : ∀ n, (upto F sz E n).sz = sz) (hE : ∀ n q, q ∈ (upto F sz E n).E → q ∈ E) : Kd α where
  sz := sz
  E := E
  K := fun w x cs => ∃ n, (upto F sz E n).K w x cs
  M := fun w base ok x cs => ∃ n, (upto F sz E n).M w base ok x cs
  K_len := by
    rintro w x cs ⟨n, h⟩; rw [(upto F sz E n).K_len h, hs n]
  K_one := by
    rintro w x cs ⟨n, h⟩; exact (upto F sz E n).K_one h
  K_below := by
    rintro w w1 x cs a ⟨n, h⟩; exact ⟨n, (upto F sz E n).K_below a h⟩
  K_of_M := by
    rintro w base ok x cs ⟨n, h⟩; exact ⟨n, (upto F sz E n).K_of_M h⟩
  M_mono := by
    rintro w base ok ok' x cs b ⟨n, h⟩; exact ⟨n, (upto F sz E n).M_mono b h⟩
  M_bound := by
    rintro w base ok x cs ⟨n, h⟩; refine ⟨n, (upto F sz E n).M_mono ?_ ((upto F sz E n).M_bound h)⟩; rintro k ⟨c, d, e, q, i, g⟩; exact ⟨c, d, e, q, hE n q i, g⟩
  M_move := by
    rintro w w1 base ok x cs hm ⟨n, h⟩; exact ⟨n, (upto F sz E n).M_move hm h⟩
  M_lower := by
    rintro w base base' ok x cs a ⟨n, h⟩; exact ⟨n, (upto F sz E n).M_lower a h⟩
theorem Jd {α : Type} {d : Kd α} {w : World} {A : Option Addr} {n : Nat} {xs : List α} (h : d.C w A n xs) (z : α) (i : Int) (a : 0 ≤ i) (h1 : i < n) :
    ∃ ad c, A = some ad ∧ c.length = d.sz ∧ d.K w (xs.getD i.toNat z) c ∧ ∀ j u, c[j]? = some u → w.cell? (ad.add (i.toNat * d.sz + j)) = some u := DC.Qb h z i a h1
theorem I4 {α : Type} {d : Kd α} {e base : Nat} {ok okp : Nat → Prop} {W w1 : World} {v v1 : Value} {xs : List α} {p : α} {inner cs : List Value} (r : ∀ k, v.ownBlock = some k → ok k) (hr : CK (d.M W base (fun k => ok k ∧ some k ≠ v.ownBlock)) d.sz xs inner) (hp : d.M W base okp p cs) (i : ∀ k, okp k → ok k ∧ some k ≠ v.ownBlock) (h : ∀ k, W.heap.size ≤ k → ok k)
    (j : w1.ownsRow base e d.sz v1 (xs.length + 1) (inner ++ cs)) (hg : W.grownBy w1 v.ownBlock) (g : v1.ownBlock = v.ownBlock ∨ ∃ b, v1.ownBlock = some b ∧ W.heap.size ≤ b) : d.R e w1 base ok v1 (xs ++ [p]) := by
  have l : ∀ k, some k ≠ v.ownBlock → k < W.heap.size → some k ≠ v1.ownBlock := by
    intro k a s; rcases g with g | ⟨b, hb, hle⟩
    · rw [g]; exact a
    · rw [hb]; intro n; injection n with n; omega
  have step : ∀ {q : α} {c : List Value} {o : Nat → Prop}, d.M W base o q c → (∀ k, o k → ok k ∧ some k ≠ v.ownBlock) → d.M w1 base (fun k => ok k ∧ some k ≠ v1.ownBlock) q c := by
    intro q c o m ho; have h1 := d.M_move (w1 := w1) (fun k a => hg.block k a.2.2.1 (ho k a.1).2) (d.M_bound m); exact d.M_mono (fun k a => ⟨(ho k a.1).1, l k (ho k a.1).2 a.2.2.1⟩) h1
  refine ⟨fun k a => ?_, inner ++ cs, by rw [List.length_append, List.length_singleton]; exact j, ?_⟩
  · rcases g with g | ⟨b, hb, hle⟩
    · exact r k (g ▸ a)
    · rw [hb] at a; injection a with a; exact h k (by omega)
  · exact (hr.Fv (fun _ _ m => step m (fun _ a => a))).snoc (step hp i) (d.K_len (d.K_of_M hp))
section
variable {P : Program} {ops : Array Oper} {rest : List Oper} {o : Oper} {a : Act} {Q : Exit → Act → World → Prop} {α : Type}
theorem Mw (d : Kd α) {w0 W : World} (base : Nat) (y : o.guard = none) (s x : Operand) (t e : TypeId) (z : Value) (bytes : Nat)
    (ho : o.op = .call { callee := .builtin .append, args := #[s, x], argTypes := #[t, t] })
    (L : P.underlying t = some (.slice e)) (l : (P.info? e).map (fun i => (i.zero, i.size, i.bytes)) = some (some z, d.sz, bytes)) (T : z.cells.size = d.sz) (B : 0 < d.sz) (u : 0 < bytes)
    (v : Value) (xs : List α) (p : α) (cs : List Value) (ok okp : Nat → Prop) (hs : a.eval s = v) (O : a.eval x = .slice (some ⟨W.heap.size, 0, none⟩) 1 1) (hp : d.M W base okp p cs) (q : ∀ k, okp k → ok k ∧ some k ≠ v.ownBlock) (c : ∀ k, W.heap.size ≤ k → ok k)
    (G : d.R e W base ok v xs) (D : Below base w0 W) (j : base ≤ W.heap.size) (J : (xs.length + 1) * bytes ≤ 140737488355328)
    (h : ∀ v1 w1, d.R e w1 base ok v1 (xs ++ [p]) → Below base w0 w1 → W.grownBy w1 v.ownBlock → (v1.ownBlock = v.ownBlock ∨ ∃ b, v1.ownBlock = some b ∧ W.heap.size ≤ b) → wpList P ops Q rest (a.put o.dst v1) w1) :
    wpList P ops Q (o :: rest) a (W.alloc (.cells cs.toArray e)) := by
  obtain ⟨I, inner, r, hr⟩ := G; refine Hg base y s x t e z d.sz bytes ho L l T B u v xs.length inner cs hs O (d.K_len (d.K_of_M hp)) (d.K_one (d.K_of_M hp)) r D j J ?_; intro v1 w1 m w n g; exact h v1 w1 (I4 I hr hp q c m n g) w n g
end
section
variable {P : Program} {ops : Array Oper} {o : Oper} {a : Act} {Q : Exit → Act → World → Prop} {Kc : Act → World → Prop} {α : Type}
theorem Fw (d : Kd α) {w0 W : World} (base : Nat) (L : Region.wanted o (yielded ops a.tmps) = true) (s x : Operand) (t e : TypeId) (z : Value) (bytes : Nat)
    (ho : o.op = .call { callee := .builtin .append, args := #[s, x], argTypes := #[t, t] })
    (J : P.underlying t = some (.slice e)) (l : (P.info? e).map (fun i => (i.zero, i.size, i.bytes)) = some (some z, d.sz, bytes)) (T : z.cells.size = d.sz) (y : 0 < d.sz) (u : 0 < bytes)
    (v : Value) (xs : List α) (p : α) (cs : List Value) (ok okp : Nat → Prop) (hs : a.eval s = v) (O : a.eval x = .slice (some ⟨W.heap.size, 0, none⟩) 1 1) (hp : d.M W base okp p cs) (q : ∀ k, okp k → ok k ∧ some k ≠ v.ownBlock) (c : ∀ k, W.heap.size ≤ k → ok k)
    (D : d.R e W base ok v xs) (B : Below base w0 W) (j : base ≤ W.heap.size) (I : (xs.length + 1) * bytes ≤ 140737488355328)
    (h : ∀ v1 w1, d.R e w1 base ok v1 (xs ++ [p]) → Below base w0 w1 → W.grownBy w1 v.ownBlock → (v1.ownBlock = v.ownBlock ∨ ∃ b, v1.ownBlock = some b ∧ W.heap.size ≤ b) → Kc (a.put o.dst v1) w1) :
    if Region.wanted o (yielded ops a.tmps) = true then Oper.wp P o a (W.alloc (.cells cs.toArray e)) Kc Q else Kc (a.put o.dst undef) (W.alloc (.cells cs.toArray e)) := by
  obtain ⟨G, inner, r, hr⟩ := D; refine Ht base L s x t e z d.sz bytes ho J l T y u v xs.length inner cs hs O (d.K_len (d.K_of_M hp)) (d.K_one (d.K_of_M hp)) r B j I ?_; intro v1 w1 m w n g; exact h v1 w1 (I4 G hr hp q c m n g) w n g
end
theorem I5 {α : Type} {enc : α → Value} {d : α} {h1 : ∀ x, (enc x).oneCell' = true} {w : World} {A : Option Addr} {n : Nat} {xs : List α} (h : Ec enc d w A n xs) : (scalar enc h1).C w A n xs := by
  refine ⟨h.1, h.2.1, fun hn => ?_⟩; obtain ⟨ad, e, g⟩ := h.2.2 hn; refine ⟨ad, e, fun j p b => ⟨[enc p], rfl, rfl, fun i u c => ?_⟩⟩; obtain ⟨k, hp⟩ := List.getElem?_eq_some_iff.1 b; have a := g j (by have := h.1; omega); rw [List.getD_eq_getElem?_getD, b] at a; cases i with
  | zero =>
    have : enc p = u := by simpa using c
    subst this; simpa [scalar] using a
  | succ i => simp at c
theorem GJ {α : Type} {enc : α → Value} {d : α} {h1 : ∀ x, (enc x).oneCell' = true} {w : World} {A : Option Addr} {n : Nat} {xs : List α} (h : (scalar enc h1).C w A n xs) : Ec enc d w A n xs := by
  refine ⟨h.1, h.2.1, fun hn => ?_⟩; obtain ⟨ad, e, k⟩ := h.2.2 hn; refine ⟨ad, e, fun j l => ?_⟩; have g : j < xs.length := by have := h.1; omega
  obtain ⟨c, _, i, a⟩ := k j _ (List.getElem?_eq_getElem g); have b : c = [enc xs[j]] := i; subst b; have := a 0 _ rfl; simpa [scalar, List.getD_eq_getElem?_getD, List.getElem?_eq_getElem g] using this
end Kd
namespace Kd
structure GK {α β : Type} (F : Kd α → Kd β) : Prop where
  sz : ∀ d d' : Kd α, d.sz = d'.sz → (F d).sz = (F d').sz
  K : ∀ d d' : Kd α, d.sz = d'.sz → (∀ w x cs, d.K w x cs → d'.K w x cs) → ∀ w x cs, (F d).K w x cs → (F d').K w x cs
  M : ∀ d d' : Kd α, d.sz = d'.sz → (∀ w base ok x cs, d.M w base ok x cs → d'.M w base ok x cs) → ∀ w base ok x cs, (F d).M w base ok x cs → (F d').M w base ok x cs
theorem EU {α β : Type} (k : Kd β) : GK (fun _ : Kd α => k) := ⟨fun _ _ _ => rfl, fun _ _ _ _ _ _ _ h => h, fun _ _ _ _ _ _ _ _ _ h => h⟩
theorem La {α : Type} : GK (fun d : Kd α => d) := ⟨fun _ _ h => h, fun _ _ _ h => h, fun _ _ _ h => h⟩
theorem Mx {α : Type} {d d' : Kd α} (hs : d.sz = d'.sz) (h : ∀ w x cs, d.K w x cs → d'.K w x cs) {w : World} {A : Option Addr} {n : Nat} {xs : List α} (a : d.C w A n xs) : d'.C w A n xs := by
  unfold C at a ⊢; rw [← hs]; exact a.Fv (Below.refl _ _) (fun _ _ hp => h _ _ _ hp)
theorem O8 {α : Type} {d d' : Kd α} (hs : d.sz = d'.sz) (h : ∀ w base ok x cs, d.M w base ok x cs → d'.M w base ok x cs) {e : Nat} {w : World} {base : Nat} {ok : Nat → Prop} {v : Value} {xs : List α} (hr : d.R e w base ok v xs) : d'.R e w base ok v xs := by
  unfold R at hr ⊢; rw [← hs]; exact ⟨hr.1, hr.2.Fv (fun _ _ hp => h _ _ _ _ _ hp)⟩
theorem I6 {α β : Type} (e : Nat) {G : Kd α → Kd β} (a : GK G) : GK (fun d => slice e (G d)) := by
  refine ⟨fun _ _ _ => rfl, ?_, ?_⟩
  · rintro d d' hs h w x cs ⟨A, c, rfl, b, hr⟩; exact ⟨A, c, rfl, b, Mx (a.sz d d' hs) (a.K d d' hs h) hr⟩
  · rintro d d' hs h w base ok x cs ⟨v, rfl, hr⟩; exact ⟨v, rfl, O8 (a.sz d d' hs) (a.M d d' hs h) hr⟩
theorem Em {α β γ : Type} {G : Kd α → Kd β} {H : Kd α → Kd γ} (e : GK G) (g : GK H) : GK (fun d => pair (G d) (H d)) := by
  refine ⟨fun d d' hs => ?_, ?_, ?_⟩
  · show (G d).sz + (H d).sz = (G d').sz + (H d').sz; rw [e.sz d d' hs, g.sz d d' hs]
  · rintro d d' hs h w x cs ⟨a, b, rfl, c, h1⟩; exact ⟨a, b, rfl, e.K d d' hs h _ _ _ c, g.K d d' hs h _ _ _ h1⟩
  · rintro d d' hs h w base ok x cs ⟨a, b, rfl, c, h1⟩; exact ⟨a, b, rfl, e.M d d' hs h _ _ _ _ _ c, g.M d d' hs h _ _ _ _ _ h1⟩
theorem KL {α β γ : Type} {G : Kd α → Kd β} (f : γ → β) (a : GK G) : GK (fun d => iso (G d) f) :=
  ⟨a.sz, fun d d' hs h w x cs => a.K d d' hs h w (f x) cs, fun d d' hs h w base ok x cs => a.M d d' hs h w base ok (f x) cs⟩
def Sub {α β : Type} (F : Kd α → Kd β) (E : List Nat) : Prop := ∀ d : Kd α, (∀ q, q ∈ d.E → q ∈ E) → ∀ q, q ∈ (F d).E → q ∈ E
theorem En {α β : Type} {E : List Nat} (k : Kd β) (h : ∀ q, q ∈ k.E → q ∈ E) : Sub (fun _ : Kd α => k) E := fun _ _ => h
theorem M0 {α : Type} {E : List Nat} : Sub (fun d : Kd α => d) E := fun _ h => h
theorem Je {α β : Type} {E : List Nat} (e : Nat) {G : Kd α → Kd β} (c : e ∈ E) (b : Sub G E) : Sub (fun d => slice e (G d)) E := fun d h q a => by
  rcases List.mem_cons.1 a with rfl | a
  · exact c
  · exact b d h q a
theorem FT {α β γ : Type} {E : List Nat} {G : Kd α → Kd β} {H : Kd α → Kd γ} (b : Sub G E) (c : Sub H E) : Sub (fun d => pair (G d) (H d)) E := fun d h q a => by
  rcases List.mem_append.1 a with a | a
  · exact b d h q a
  · exact c d h q a
theorem Lb {α β γ : Type} {E : List Nat} {G : Kd α → Kd β} (f : γ → β) (a : Sub G E) : Sub (fun d => iso (G d) f) E := a
theorem K4 {α : Type} {F : Kd α → Kd α} {sz : Nat} {E : List Nat} (h : Sub F E) : ∀ n q, q ∈ (upto F sz E n).E → q ∈ E
  | 0, _, hq => hq
  | n + 1, q, hq => h _ (K4 h n) q hq
theorem Lc {α : Type} {F : Kd α → Kd α} {sz : Nat} {E : List Nat} (h : ∀ d : Kd α, (F d).sz = sz) : ∀ n, (upto F sz E n).sz = sz
  | 0 => rfl
  | _ + 1 => h _
section
variable {α : Type} {F : Kd α → Kd α} {sz : Nat} {E : List Nat} {hs : ∀ n, (upto F sz E n).sz = sz} {hE : ∀ n q, q ∈ (upto F sz E n).E → q ∈ E}
theorem M3 (hm : GK F) (hs : ∀ n, (upto F sz E n).sz = sz) : ∀ n {w x cs}, (upto F sz E n).K w x cs → (upto F sz E (n + 1)).K w x cs
  | 0, _, _, _, h => h.elim
  | n + 1, _, _, _, h => hm.K _ _ (by rw [hs n, hs (n + 1)]) (fun _ _ _ a => M3 hm hs n a) _ _ _ h
theorem M4 (hm : GK F) (hs : ∀ n, (upto F sz E n).sz = sz) : ∀ n {w base ok x cs}, (upto F sz E n).M w base ok x cs → (upto F sz E (n + 1)).M w base ok x cs
  | 0, _, _, _, _, _, h => h.elim
  | n + 1, _, _, _, _, _, h => hm.M _ _ (by rw [hs n, hs (n + 1)]) (fun _ _ _ _ _ a => M4 hm hs n a) _ _ _ _ _ h
theorem Jf (hm : GK F) (hs : ∀ n, (upto F sz E n).sz = sz) {n m : Nat} (a : n ≤ m) {w x cs} (h : (upto F sz E n).K w x cs) : (upto F sz E m).K w x cs := by
  obtain ⟨j, rfl⟩ := Nat.exists_eq_add_of_le a; induction j with
  | zero => exact h
  | succ j b => exact M3 hm hs _ (b (by omega))
theorem Jg (hm : GK F) (hs : ∀ n, (upto F sz E n).sz = sz) {n m : Nat} (a : n ≤ m) {w base ok x cs} (h : (upto F sz E n).M w base ok x cs) : (upto F sz E m).M w base ok x cs := by
  obtain ⟨j, rfl⟩ := Nat.exists_eq_add_of_le a; induction j with
  | zero => exact h
  | succ j b => exact M4 hm hs _ (b (by omega))
theorem O9 {n : Nat} {w : World} {A : Option Addr} {m : Nat} {xs : List α} (h : (upto F sz E n).C w A m xs) : (fix F sz E hs hE).C w A m xs := Mx (d' := fix F sz E hs hE) (hs n) (fun w x cs hp => (⟨n, hp⟩ : ∃ n, (upto F sz E n).K w x cs)) h
theorem bounded {P : Nat → Nat → Prop} (a : ∀ n m j, n ≤ m → P n j → P m j) : ∀ m, (∀ j, j < m → ∃ n, P n j) → ∃ N, ∀ j, j < m → P N j
  | 0, _ => ⟨0, fun j b => absurd b (Nat.not_lt_zero j)⟩
  | m + 1, h => by
    obtain ⟨N, c⟩ := bounded a m (fun j b => h j (by omega)); obtain ⟨n, hn⟩ := h m (by omega); refine ⟨max N n, fun j b => ?_⟩; rcases Nat.lt_or_ge j m with hj' | hj'
    · exact a N _ j (Nat.le_max_left _ _) (c j hj')
    · have : j = m := by omega
      subst this; exact a n _ j (Nat.le_max_right _ _) hn
theorem Jw {α : Type} {R : Nat → α → List Value → Prop} (e : ∀ n m p c, n ≤ m → R n p c → R m p c) {size : Nat} {ps : List α} {cs : List Value} (h : CK (fun p c => ∃ n, R n p c) size ps cs) : ∃ N, CK (R N) size ps cs := by
  obtain ⟨N, d⟩ := bounded (P := fun n j => ∀ p, ps[j]? = some p → R n p ((cs.drop (j * size)).take size)) (fun n m j b hp p a => e n m p _ b (hp p a)) ps.length
    (fun j a => by
      obtain ⟨n, hn⟩ := h.2 j _ (List.getElem?_eq_getElem a); refine ⟨n, fun p hp => ?_⟩; rw [List.getElem?_eq_getElem a] at hp; injection hp with hp; rw [← hp]; exact hn)
  exact ⟨N, h.1, fun j p a => d j (List.getElem?_eq_some_iff.1 a).1 p a⟩
theorem K5 (hm : GK F) {e : Nat} {w : World} {base : Nat} {ok : Nat → Prop} {v : Value} {xs : List α} (h : (fix F sz E hs hE).R e w base ok v xs) : ∃ n, (upto F sz E n).R e w base ok v xs := by
  obtain ⟨b, inner, ho, hr⟩ := h; obtain ⟨N, d⟩ := Jw (R := fun n p c => (upto F sz E n).M w base (fun k => ok k ∧ some k ≠ v.ownBlock) p c) (fun n m p c a hp => Jg hm hs a hp) hr; refine ⟨N, b, inner, ?_, ?_⟩
  · rw [hs N]; exact ho
  · rw [hs N]; exact d
theorem I7 (hm : GK F) {w : World} {A : Option Addr} {m : Nat} {xs : List α} (h : (fix F sz E hs hE).C w A m xs) : ∃ n, (upto F sz E n).C w A m xs := by
  rcases Nat.eq_zero_or_pos m with hz | hpos
  · subst hz; exact ⟨0, h.1, h.2.1, fun hp => absurd hp (Nat.lt_irrefl 0)⟩
  · obtain ⟨ad, e, l⟩ := h.2.2 hpos; obtain ⟨N, k⟩ := bounded (P := fun n j => ∀ p, xs[j]? = some p → ∃ c, c.length = sz ∧ (upto F sz E n).K w p c ∧ ∀ i u, c[i]? = some u → w.cell? (ad.add (j * sz + i)) = some u)
      (fun n n' j g hp p a => by
        obtain ⟨c, h1, b, d⟩ := hp p a; exact ⟨c, h1, Jf hm hs g b, d⟩) xs.length
      (fun j a => by
        obtain ⟨c, h1, ⟨n, b⟩, d⟩ := l j _ (List.getElem?_eq_getElem a); refine ⟨n, fun p hp => ?_⟩; rw [List.getElem?_eq_getElem a] at hp; injection hp with hp; rw [← hp]; exact ⟨c, h1, b, d⟩)
    refine ⟨N, h.1, h.2.1, fun _ => ⟨ad, e, fun j p a => ?_⟩⟩; rw [hs N]; exact k j (List.getElem?_eq_some_iff.1 a).1 p a
theorem L6 (hm : GK F) (hs : ∀ n, (upto F sz E n).sz = sz) {n m : Nat} (a : n ≤ m) {e : Nat} {w : World} {base : Nat} {ok : Nat → Prop} {v : Value} {xs : List α} (h : (upto F sz E n).R e w base ok v xs) : (upto F sz E m).R e w base ok v xs := O8 (by rw [hs n, hs m]) (fun _ _ _ _ _ hp => Jg hm hs a hp) h
theorem Jh (hm : GK F) (hs : ∀ n, (upto F sz E n).sz = sz) {n m : Nat} (a : n ≤ m) {w : World} {A : Option Addr} {l : Nat} {xs : List α} (h : (upto F sz E n).C w A l xs) : (upto F sz E m).C w A l xs := Mx (by rw [hs n, hs m]) (fun _ _ _ hp => Jf hm hs a hp) h
end
end Kd
namespace Kd
end Kd
namespace Kd
section
variable {α β : Type} {d : Kd α} {d' : Kd β} {e e' : Nat} {w w1 W : World} {base b b' : Nat} {ok ok' okv oku : Nat → Prop} {v u : Value} {xs : List α} {ys : List β}
theorem Ld (h : d.R e w base ok v xs) (o : Obj) : d.R e (w.alloc o) base ok v xs := ET h (AR (Below.refl _ _) o)
theorem GL (h : d.R e w base ok v xs) : d.R e w.drew base ok v xs := ET h (GI (Below.refl _ _))
theorem Le (h : d.R e w base ok v xs) (m : Nat) : d.R e (w.drewN m) base ok v xs := ET h (Ag (Below.refl _ _) m)
theorem Ce {A : Option Addr} {n : Nat} (h : d.C w A n xs) (o : Obj) : d.C (w.alloc o) A n xs := Ap h (AR (Below.refl _ _) o)
theorem Cq {A : Option Addr} {n : Nat} (h : d.C w A n xs) : d.C w.drew A n xs := Ap h (GI (Below.refl _ _))
theorem Cf {A : Option Addr} {n : Nat} (h : d.C w A n xs) (m : Nat) : d.C (w.drewN m) A n xs := Ap h (Ag (Below.refl _ _) m)
theorem GY (d : Kd α) (w : World) : d.C w none ([] : List α).length [] := ⟨rfl, by simp, fun h => absurd h (Nat.lt_irrefl 0)⟩
theorem M5 {A : Option Addr} {n : Nat} (h : d.C w A n xs) : n ≤ 9223372036854775807 := h.2.1
theorem Cg {A : Option Addr} {n c : Nat} (h : d.R e w base ok (.slice A n c) xs) : n = xs.length ∧ n ≤ c ∧ d.C w A xs.length xs := by
  obtain ⟨A', b, a, g, hr⟩ := Jv h; injection a with h1 h2 h3; subst h1; exact ⟨h2, by omega, hr⟩
theorem G8 (h : d.R e w base ok v xs) : ∀ k, v.ownBlock = some k → k < w.heap.size := by
  obtain ⟨inner, ho⟩ := Mv h; exact Mq ho
theorem Az (h : d.R e w base ok v xs) : ∀ k, v.ownBlock = some k → base ≤ k := by
  obtain ⟨inner, ho⟩ := Mv h; exact F6 ho
theorem I8 (h : d.R e w base ok v xs) {g : Nat} (a : ∀ k, ok k → k ≠ g) : some g ≠ v.ownBlock := fun e => a g (h.1 g e.symm) rfl
end
section
variable {w W : World} {A : Option Addr} {n : Nat}
theorem D5 {k : IntKind} {xs : List Int} (h : (Kd.int k).C w A n xs) (i : Int) (a : 0 ≤ i) (h1 : i < n) : ∃ ad, A = some ad ∧ w.cell? (ad.add i.toNat) = some (.int k (rd xs i)) :=
  Ec.at_ (GJ (enc := Value.int k) (d := (0 : Int)) (h1 := fun _ => rfl) h) i a h1
theorem Dh {xs : List ByteArray} (h : Kd.string.C w A n xs) (i : Int) (a : 0 ≤ i) (h1 : i < n) : ∃ ad, A = some ad ∧ w.cell? (ad.add i.toNat) = some (.string (EI ByteArray.empty xs i)) :=
  Ec.at_ (GJ (enc := Value.string) (d := ByteArray.empty) (h1 := fun _ => rfl) h) i a h1
variable {α : Type} {enc : α → Value} {h1 : ∀ x, (enc x).oneCell' = true} {e base g cap : Nat} {ok : Nat → Prop} {xs : List α}
end
section
variable {P : Program} {ops : Array Oper} {rest : List Oper} {o : Oper} {a : Act} {Q : Exit → Act → World → Prop}
theorem IP {W w1 : World} {v : Value} (c : o.guard = none) (b : (execOp a.eval o).run P W = .ok (.value v) w1) (h : wpList P ops Q rest (a.put o.dst v) w1) : wpList P ops Q (o :: rest) a W := by
  refine wpList_plain c fun K d => ?_; unfold Oper.wp; rw [b]; exact d _ _ h
variable {α : Type}
theorem KM (d : Kd α) {w0 W : World} (base e : Nat) (n : o.guard = none) {N : Tmp} (_hd : o.dst = some N) {xs : List α} {inner : List Value} {ok okp : Nat → Prop}
    (l : (execOp a.eval o).run P W = .ok (.value (.slice (some ⟨W.heap.size, 0, none⟩) xs.length xs.length)) (W.alloc (.cells inner.toArray e)))
    (j : CK (d.M W base okp) d.sz xs inner) (q : ∀ k, okp k → ok k) (i : ok W.heap.size) (r : Below base w0 W) (g : base ≤ W.heap.size) (hm : xs.length ≤ 9223372036854775807)
    (h : ∀ v1 w1, d.R e w1 base ok v1 xs → Below base w0 w1 → W.grownBy w1 none → (∃ b, v1.ownBlock = some b ∧ W.heap.size ≤ b) → wpList P ops Q rest (a.put o.dst v1) w1) : wpList P ops Q (o :: rest) a W := by
  refine IP n l (h _ _ ⟨fun k m => ?_, inner, ?_, ?_⟩ (r.alloc g _) (World.grownBy_alloc W _ none) ⟨W.heap.size, by simp [Value.ownBlock], Nat.le_refl _⟩)
  · have : W.heap.size = k := by simpa [Value.ownBlock] using m
    subst this; exact i
  · have s := World.ownsRow_lit (base := base) (e := e) (size := d.sz) W inner.toArray xs.length g (by simpa [maxLen] using hm) (by simpa using j.1); simpa using s
  · refine j.Fv (fun p c hp => d.M_mono (fun k m => ⟨q k m.1, fun u => ?_⟩) (LZ (d.M_bound hp) (AR (Below.refl _ _) _))); have v : k = W.heap.size := by simpa [Value.ownBlock] using u
    have := m.2.2.1; omega
end
end Kd
theorem M6 {w : World} {base n m c size : Nat} {e : TypeId} {A : Option Addr} {xs : List Value} (h : w.ownsRow base e size (.slice A n c) n xs) (hm : m ≤ n) : w.ownsRow base e size (.slice A m c) m (xs.take (m * size)) := by
  obtain ⟨h1, a⟩ := h; refine ⟨by rw [List.length_take, h1]; exact Nat.min_eq_left (Nat.mul_le_mul_right _ hm), ?_⟩; rcases a with ⟨he, h0⟩ | ⟨g, cap, cur, he, hb, hh, hnc, hcm, hcs, ht⟩
  · injection he with ha _ hc; subst ha; subst hc; exact .inl ⟨by rw [show m = 0 by omega], by omega⟩
  · injection he with ha _ hc; subst ha; subst hc; refine .inr ⟨g, c, cur, rfl, hb, hh, by omega, hcm, hcs, ?_⟩; rw [← ht, List.take_take, Nat.min_eq_left (Nat.mul_le_mul_right _ hm)]
section
variable {P : Program}
theorem M7 (t e : TypeId) (g : IntKind) {i : TypeInfo} (d : P.underlying t = some (.slice e)) (hi : P.info? e = some i) (size : Nat) (b : i.size = size) (A : Option Addr) (n c : Nat) (j : Int) (h : 0 ≤ j) (hm : j ≤ n) :
    ∀ W : World, (Instr.slice t (.slice A n c) (some (.int g j)) none none).run P W = .ok (.slice (if c = j.toNat then A else A.map (·.add (j.toNat * size))) (n - j.toNat) (c - j.toNat)) W := by
  intro W; have a : P.elem t = e := by simp [Program.elem, d]
  have k : P.underlying t = some (.slice (P.elem t)) := by rw [a]; exact d
  rw [run_slice_l W t A n c k g j h hm, a]; simp [sizeOf, typeInfo, hi, b, sliced, Result.andThen]
end
def Px (w : World) (base : Nat) (e : TypeId) (size : Nat) (v : Value) (n : Nat) (xs : List Value) : Prop :=
  xs.length = n * size ∧
  ((n = 0 ∧ ∃ A, v = .slice A 0 0 ∧ ∀ a, A = some a → base ≤ a.block ∧ ∃ cur, w.heap[a.block]? = some (.cells cur e (0, 0))) ∨
   ∃ g off cap cur, v = .slice (some ⟨g, off * size, none⟩) n cap ∧ base ≤ g ∧ w.heap[g]? = some (.cells cur e (0, 0)) ∧ n ≤ cap ∧ off + cap ≤ maxLen ∧ cur.size = (off + cap) * size ∧ (cur.toList.drop (off * size)).take (n * size) = xs)
section
variable {w w1 : World} {base n size : Nat} {e : TypeId} {v : Value} {xs : List Value}
theorem M8 (h : w.ownsRow base e size v n xs) : Px w base e size v n xs := by
  obtain ⟨h1, b⟩ := h; refine ⟨h1, ?_⟩; rcases b with ⟨rfl, h0⟩ | ⟨g, cap, cur, rfl, hb, hh, hnc, hcm, hcs, ht⟩
  · exact .inl ⟨h0, none, rfl, fun a c => by cases c⟩
  · exact .inr ⟨g, 0, cap, cur, by rw [Nat.zero_mul], hb, hh, hnc, by rw [Nat.zero_add]; exact hcm, by rw [Nat.zero_add]; exact hcs, by rw [Nat.zero_mul, List.drop_zero]; exact ht⟩
end
section
variable {P : Program}
end
namespace Kd
def Q {α : Type} (d : Kd α) (e : Nat) (w : World) (base : Nat) (ok : Nat → Prop) (v : Value) (xs : List α) : Prop :=
  (∀ k, v.ownBlock = some k → ok k) ∧ ∃ inner, Px w base e d.sz v xs.length inner ∧ CK (d.M w base (fun k => ok k ∧ some k ≠ v.ownBlock)) d.sz xs inner
section
variable {α : Type} {d : Kd α} {e : Nat} {w w1 W : World} {base : Nat} {ok ok' : Nat → Prop} {v : Value} {xs : List α}
theorem PP (h : d.R e w base ok v xs) : d.Q e w base ok v xs := by
  obtain ⟨a, inner, ho, hr⟩ := h; exact ⟨a, inner, M8 ho, hr⟩
theorem EB (d : Kd α) (e : Nat) (w : World) (base : Nat) (ok : Nat → Prop) : d.Q e w base ok (.slice none 0 0) [] := PP (Dq d e w base ok)
end
section
variable {P : Program} {ops : Array Oper} {rest : List Oper} {o : Oper} {a : Act} {Q' : Exit → Act → World → Prop} {Kc : Act → World → Prop} {α : Type}
end
end Kd
namespace Kd
section
variable {α : Type} {d : Kd α} {e e' : Nat} {w w1 W : World} {base : Nat} {ok : Nat → Prop} {u v : Value} {xs : List α}
theorem FL (h : d.R e w base ok v xs) : ∀ k, v.ownBlock = some k → ∃ cells, w.heap[k]? = some (.cells cells e (0, 0)) := by
  obtain ⟨inner, ho⟩ := Mv h; exact fun k a => Jc ho k a
theorem Fh (h : d.R e W base ok u xs) (g : ∀ k, v.ownBlock = some k → ∃ cells, W.heap[k]? = some (.cells cells e' (0, 0))) (m : ∀ q, q ∈ e :: d.E → q ≠ e') (hg : W.grownBy w1 v.ownBlock) : d.R e w1 base ok u xs := by
  refine BK (Ju (Dz h) (fun k c => hg.block k c.2.2.1 (fun j => ?_))) (fun _ c => c.1); obtain ⟨_, _, _, q, l, cells, i⟩ := c; obtain ⟨b, a⟩ := g k j.symm; rw [i] at a; injection a with a; injection a with _ a; exact m q l a
theorem Bo (h : d.R e W base ok u xs) (c : ∀ k, v.ownBlock = some k → ∃ cells, W.heap[k]? = some (.cells cells e' (0, 0))) (m : ∀ q, q ∈ e :: d.E → q ≠ e') : d.R e W base (fun k => ok k ∧ some k ≠ v.ownBlock) u xs := by
  refine BK (Dz h) (fun k g => ⟨g.1, fun j => ?_⟩); obtain ⟨_, _, _, q, l, cells, i⟩ := g; obtain ⟨b, a⟩ := c k j.symm; rw [i] at a; injection a with a; injection a with _ a; exact m q l a
theorem Gb (h : d.R e W base ok u xs) (a : ∀ k, v.ownBlock = some k → W.heap.size ≤ k) (c : Below W.heap.size W w1) : d.R e w1 base (fun k => ok k ∧ some k ≠ v.ownBlock) u xs :=
  BK (Ju (Dz h) (fun k b => c.block k b.2.2.1)) (fun k b => ⟨b.1, fun g => by have := a k g.symm; have := b.2.2.1; omega⟩)
theorem GM (h : d.R e w1 W.heap.size ok v xs) (a : ∀ k, u.ownBlock = some k → k < W.heap.size) : d.R e w1 W.heap.size (fun k => ok k ∧ some k ≠ u.ownBlock) v xs :=
  BK (Dz h) (fun k b => ⟨b.1, fun c => by have := a k c.symm; have := b.2.1; omega⟩)
theorem fresh' (a : ∀ k, u.ownBlock = some k → k < W.heap.size) : ∀ k, W.heap.size ≤ k → some k ≠ u.ownBlock := fun k c b => by have := a k b.symm; omega
end
end Kd
namespace Kd
section
variable {α : Type} {d : Kd α} {e base g n cap : Nat} {ok okp : Nat → Prop} {W : World} {xs : List α}
end
end Kd
namespace Kd
section
variable {α : Type} {F : Kd α → Kd α} {sz : Nat} {E : List Nat} {hs : ∀ n, (upto F sz E n).sz = sz} {hE : ∀ n q, q ∈ (upto F sz E n).E → q ∈ E}
end
end Kd
namespace Kd
theorem Ie {α : Type} {R : α → List Value → Prop} {size : Nat} {ps d : List α} {cs ds : List Value} (h : CK R size ps cs) (c : CK R size d ds) : CK R size (ps ++ d) (cs ++ ds) := by
  refine ⟨by rw [List.length_append, List.length_append, h.1, c.1, Nat.add_mul], fun j p b => ?_⟩; rcases Nat.lt_or_ge j ps.length with hlt | hge
  · rw [List.getElem?_append_left hlt] at b; have a : j * size + size ≤ cs.length := by rw [h.1, ← Nat.succ_mul]; exact Nat.mul_le_mul_right _ hlt
    rw [List.drop_append_of_le_length (by omega), List.take_append_of_le_length (by rw [List.length_drop]; omega)]; exact h.2 j p b
  · rw [List.getElem?_append_right hge] at b; have e := c.2 (j - ps.length) p b; have a : ps.length * size ≤ j * size := Nat.mul_le_mul_right _ hge; rw [List.drop_append, List.drop_eq_nil_of_le (by rw [h.1]; exact a), List.nil_append, h.1, ← Nat.sub_mul]; exact e
section
variable {P : Program} {ops : Array Oper} {rest : List Oper} {o : Oper} {a : Act} {Q : Exit → Act → World → Prop} {α : Type}
theorem Fx (d : Kd α) {Rr : α → List Value → Prop} {w0 W : World} (base : Nat) (cB : o.guard = none) (s x : Operand) (t e : TypeId) (z : Value) (bytes : Nat)
    (ho : o.op = .call { callee := .builtin .append, args := #[s, x], argTypes := #[t, t] })
    (ht : P.underlying t = some (.slice e)) (I : (P.info? e).map (fun i => (i.zero, i.size, i.bytes)) = some (some z, d.sz, bytes)) (hz : z.cells.size = d.sz) (L : 0 < d.sz) (bB : 0 < bytes)
    (v : Value) (xs ys : List α) (A : Option Addr) (m c : Nat) (ok okp : Nat → Prop) (hs : a.eval s = v) (hx : a.eval x = .slice A m c)
    (HO : d.R e W base ok v xs) (Z : DC Rr d.sz W A m ys) (aB : ∀ x cs, Rr x cs → d.M W base okp x cs) (U : ∀ k, okp k → ok k ∧ some k ≠ v.ownBlock) (B : ∀ k, W.heap.size ≤ k → ok k)
    (HB : Below base w0 W) (w : base ≤ W.heap.size) (hl : (xs.length + m) * bytes ≤ 140737488355328)
    (h : ∀ v1 w1, d.R e w1 base ok v1 (xs ++ ys) → Below base w0 w1 → W.grownBy w1 v.ownBlock → (v1.ownBlock = v.ownBlock ∨ ∃ b, v1.ownBlock = some b ∧ W.heap.size ≤ b) → wpList P ops Q rest (a.put o.dst v1) w1) :
    wpList P ops Q (o :: rest) a W := by
  obtain ⟨i0, hi, Y⟩ := Option.map_eq_some_iff.1 I; simp only [Prod.mk.injEq] at Y; obtain ⟨jB, kB, lB⟩ := Y; have hm : ys.length = m := Z.1; have tB : xs.length + m ≤ 140737488355328 := Nat.le_trans (Nat.le_mul_of_pos_right _ bB) hl; obtain ⟨T, inner, n, hr⟩ := HO; have y : ∃ v1 w1, (Builtin.append_ #[t, t] o.type #[v, .slice A m c]).run P W = .ok v1 w1 ∧ d.R e w1 base ok v1 (xs ++ ys) ∧ W.grownBy w1 v.ownBlock ∧ (v1.ownBlock = v.ownBlock ∨ ∃ b, v1.ownBlock = some b ∧ W.heap.size ≤ b) := by
    rcases A with _ | ad
    · have O : m = 0 := by
        rcases Nat.eq_zero_or_pos m with O | O
        · exact O
        · obtain ⟨ad, h, _⟩ := Z.2.2 O; cases h
      subst O; obtain rfl : ys = [] := List.eq_nil_of_length_eq_zero hm; refine ⟨v, W, ?_, by rw [List.append_nil]; exact ⟨T, inner, n, hr⟩, World.grownBy.refl W _, .inl rfl⟩; rcases n.2 with ⟨rfl, hn⟩ | ⟨g, cap, cur, rfl, _, _, J, _⟩
      · simp [Builtin.append_, run_underlying ht, sizeOf, typeInfo, hi, Builtin.lenOf, Builtin.firstCells]
      · simp [Builtin.append_, run_underlying ht, sizeOf, typeInfo, hi, Builtin.lenOf, Builtin.firstCells, J, storeCells]
    · obtain ⟨news, eB, J⟩ := DC.K3 Z; have D : CK (d.M W base okp) d.sz ys news := eB.Fv (fun p c hp => aB p c hp); have X : ∀ u ∈ news, u.oneCell' = true := by
        intro u hu; obtain ⟨q, G, rfl⟩ := List.mem_iff_getElem.1 hu; have fB : q / d.sz < ys.length := by
          rw [Nat.div_lt_iff_lt_mul L]; rw [← D.1]; exact G
        have hc := D.2 (q / d.sz) _ (List.getElem?_eq_getElem fB); refine d.K_one (d.K_of_M hc) _ ?_; rw [List.mem_iff_getElem?]; refine ⟨q % d.sz, ?_⟩; rw [List.getElem?_take, if_pos (Nat.mod_lt _ L), List.getElem?_drop, Nat.mul_comm, Nat.div_add_mod, List.getElem?_eq_getElem G]
      obtain ⟨v1, w1, y, h2, hg, _, j⟩ := run_append_own_at (P := P) W base t o.type e i0 z d.sz bytes ht hi jB kB lB hz L v xs.length inner n ad m c news (by rw [D.1, hm]) J X (by simp only [maxLen]; omega) hl w; have r : v1.ownBlock = v.ownBlock ∨ ∃ b, v1.ownBlock = some b ∧ W.heap.size ≤ b := by
        rcases j with j | j
        · exact .inl j
        · exact .inr ⟨_, j, Nat.le_refl _⟩
      have dB : ∀ k, some k ≠ v.ownBlock → k < W.heap.size → some k ≠ v1.ownBlock := by
        intro k l aC; rcases r with j | ⟨b, hb, hle⟩
        · rw [j]; exact l
        · rw [hb]; intro he; injection he with he; omega
      have step : ∀ {q : α} {c : List Value} {o : Nat → Prop}, d.M W base o q c → (∀ k, o k → ok k ∧ some k ≠ v.ownBlock) → d.M w1 base (fun k => ok k ∧ some k ≠ v1.ownBlock) q c := by
        intro q c o G ho; have h1 := d.M_move (w1 := w1) (fun k l => hg.block k l.2.2.1 (ho k l.1).2) (d.M_bound G); exact d.M_mono (fun k l => ⟨(ho k l.1).1, dB k (ho k l.1).2 l.2.2.1⟩) h1
      refine ⟨v1, w1, y, ⟨fun k l => ?_, inner ++ news, by rw [List.length_append, hm]; exact h2, Ie (hr.Fv (fun _ _ G => step G (fun _ l => l))) (D.Fv (fun _ _ G => step G U))⟩, hg, r⟩; rcases r with j | ⟨b, hb, hle⟩
      · exact T k (j ▸ l)
      · rw [hb] at l; injection l with l; exact B k (by omega)
  obtain ⟨v1, w1, gB, h1, hg, j⟩ := y; refine wpList_plain cB fun K hK => ?_; unfold Oper.wp execOp; simp only [ho, resolve, invoke, builtin, Sem.run_bind, Sem.run_pure, Result.andThen_ok, List.map_toArray, List.map_cons, List.map_nil, hs, hx, gB]; exact hK _ _ (h v1 w1 h1 (HB.grown hg w (F6 n)) hg j)
end
end Kd
namespace Kd
section
variable {P : Program} {ops : Array Oper} {rest : List Oper} {o : Oper} {a : Act} {Q : Exit → Act → World → Prop} {α : Type}
end
end Kd
theorem add_add (a : Addr) (i j : Nat) : (a.add i).add j = a.add (i + j) := by
  unfold Addr.add; by_cases h1 : i = 0 <;> by_cases h2 : j = 0 <;> simp [h1, h2, Nat.add_assoc]
namespace Kd
section
variable {α : Type} {k : Kd α} {w : World} {A : Option Addr} {xs : List α} {m c : Nat}
theorem PQ (h : k.C w A xs.length xs) (hm : m ≤ xs.length) : k.C w A (xs.take m).length (xs.take m) := by
  have c : (xs.take m).length = m := by rw [List.length_take]; omega
  refine ⟨rfl, by rw [c]; have := h.2.1; omega, fun hp => ?_⟩; obtain ⟨ad, e, b⟩ := h.2.2 (by omega); refine ⟨ad, e, fun j p a => b j p ?_⟩; rw [List.getElem?_take] at a; split at a
  · exact a
  · cases a
theorem M9 (h : k.C w A xs.length xs) (hm : m ≤ xs.length) (n : xs.length ≤ c) : k.C w (if c = m then A else A.map (·.add (m * k.sz))) (xs.drop m).length (xs.drop m) := by
  have d : (xs.drop m).length = xs.length - m := List.length_drop; refine ⟨rfl, by rw [d]; have := h.2.1; omega, fun hp => ?_⟩; rw [d] at hp; obtain ⟨ad, rfl, a⟩ := h.2.2 (by omega); rw [if_neg (by omega)]; refine ⟨ad.add (m * k.sz), rfl, fun j p b => ?_⟩; rw [List.getElem?_drop] at b; obtain ⟨cs, h1, e, g⟩ := a (m + j) p b; refine ⟨cs, h1, e, fun i u l => ?_⟩; rw [add_add, show m * k.sz + (j * k.sz + i) = (m + j) * k.sz + i by rw [Nat.add_mul]; omega]; exact g i u l
theorem Py {lo hi : Nat} (h : k.C w A xs.length xs) (h1 : lo ≤ hi) (a : hi ≤ xs.length) (b : xs.length ≤ c) : k.C w (if c = lo then A else A.map (·.add (lo * k.sz))) ((xs.take hi).drop lo).length ((xs.take hi).drop lo) := by
  have d : (xs.take hi).length = hi := by rw [List.length_take]; omega
  exact M9 (PQ h a) (by omega) (by omega)
end
end Kd
section
variable {P : Program}
theorem OX (t e : TypeId) (h kh : IntKind) {i : TypeInfo} (g : P.underlying t = some (.slice e)) (hi : P.info? e = some i) (size : Nat) (d : i.size = size) (A : Option Addr) (n c : Nat) (lo a : Int) (j : 0 ≤ lo) (h1 : lo ≤ a) (l : a ≤ n) (m : n ≤ c) :
    ∀ W : World, (Instr.slice t (.slice A n c) (some (.int h lo)) (some (.int kh a)) none).run P W = .ok (.slice (if c = lo.toNat then A else A.map (·.add (lo.toNat * size))) (a.toNat - lo.toNat) (c - lo.toNat)) W := by
  intro W; have b : P.elem t = e := by simp [Program.elem, g]
  have k : P.underlying t = some (.slice (P.elem t)) := by rw [b]; exact g
  rw [run_slice_lh W t A n c k h kh lo a j h1 (by omega), b]; simp [sizeOf, typeInfo, hi, d, sliced, Result.andThen]
end
theorem AU {w W : World} (h : Below w.heap.size w W) : w.heap.size ≤ W.heap.size := h.size
theorem Aj {w W a : World} (h : Below w.heap.size w W) (k : Below W.heap.size W a) : Below w.heap.size w a := Ky h h.size k
theorem Ae {w W : World} {g j : Nat} {v : Value} (h : Below w.heap.size w W) (hg : w.heap.size ≤ g) : Below w.heap.size w (W.setCell ⟨g, j, none⟩ v) := h.setCell hg _
theorem add_block (a : Addr) (i : Nat) : (a.add i).block = a.block := by unfold Addr.add; split <;> rfl
theorem cell_far {W : World} {p a : Addr} (h : a.block ≠ p.block) (u : Value) : (W.setCell p u).cell? a = W.cell? a := by
  have := Below.heap_setCell W p u a.block h; simp [World.cell?, this]
theorem CU {w : World} {g : Nat} {t : TypeId} {cs a : Array Value} (h : w.heap[g]? = some (.cells cs t (0, 0))) (i : Nat) (u : Value) (e : cs.setIfInBounds i u = a) : (w.setCell ⟨g, i, none⟩ u).heap[g]? = some (.cells a t (0, 0)) := e ▸ OV h i u
theorem Am {W : World} {base n c : Nat} {e : TypeId} {size g : Nat} {ad : Addr} {xs : List Value} (_ : W.ownsRow base e size (.slice (some ad) n c) n xs) (a : some g ≠ (Value.slice (some ad) n c).ownBlock) : ad.block ≠ g := by
  rintro rfl; exact a (by simp [Value.ownBlock])
theorem Ad {base : Nat} {w W : World} (h : Below base w W) : Below base w W.drew := h.drew
namespace Kd
section
variable {α β : Type} {d : Kd α} {d' : Kd β} {e e' base base' n : Nat} {ok ok' : Nat → Prop} {w W w1 W1 : World} {v u : Value} {xs : List α} {ys : List β} {A : Option Addr} {c : Nat}
theorem Am {ad : Addr} {g : Nat} (a : some g ≠ (Value.slice (some ad) n c).ownBlock) : ad.block ≠ g := by
  rintro rfl; exact a (by simp [Value.ownBlock])
end
section
variable {α : Type} {enc : α → Value} {h1 : ∀ x, (enc x).oneCell' = true} {w W : World} {A : Option Addr} {n g : Nat} {xs : List α}
end
end Kd
namespace Kd
section
variable {α : Type} {d : Kd α} {e base g : Nat} {ok : Nat → Prop} {w w1 : World} {v : Value} {xs : List α} {o : Obj}
theorem NA (h : d.R e w base ok v xs) (a : Nat) (c : w.heap.size ≤ a) : d.R e w base (fun k => ok k ∧ k ≠ a) v xs := BK (Dz h) (fun k b => ⟨b.1, by have := b.2.2.1; omega⟩)
theorem Jy (h : d.R e w1 w.heap.size ok v xs) (b : w.heap[g]? = some o) : d.R e w1 w.heap.size (fun k => ok k ∧ k ≠ g) v xs := BK (Dz h) (fun k a => ⟨a.1, by have := Eb b; have := a.2.1; omega⟩)
theorem CJ (a : w.heap[g]? = some o) : ∀ k, w.heap.size ≤ k → k ≠ g := fun k b => by have := Eb a; omega
end
end Kd
section
variable {P : Program} {ops : Array Oper} {rest : List Oper} {o : Oper} {a : Act} {Q : Exit → Act → World → Prop}
theorem AQ {W : World} (c : o.guard = none) {N : Tmp} (_hd : o.dst = some N) {cs : Array Value} {t : TypeId}
    (b : (execOp a.eval o).run P W = .ok (.value (.pointer (some ⟨W.heap.size, 0, none⟩))) (W.alloc (.cells cs t (0, 0))))
    (h : ∀ g, g = W.heap.size → ∀ w1, w1.heap[g]? = some (.cells cs t (0, 0)) → Below W.heap.size W w1 → wpList P ops Q rest (a.put o.dst (.pointer (some ⟨g, 0, none⟩))) w1) : wpList P ops Q (o :: rest) a W :=
  Kd.IP c b (h _ rfl _ (Et W _) (AR (Below.refl _ _) _))
end
namespace Kd
section
variable {α : Type} {enc : α → Value} {h1 : ∀ x, (enc x).oneCell' = true} {e base g n cap : Nat} {ok : Nat → Prop} {W : World} {xs : List α}
end
end Kd
section
variable {P : Program} {ops : Array Oper} {rest : List Oper} {o : Oper} {a : Act} {Q : Exit → Act → World → Prop}
theorem Fj {W w1 : World} (c : o.guard = none) {t : TypeId} {p : Tmp} {v : Operand} (_ho : o.op = .store t (.tmp p) v) (e : o.dst = none)
    (b : (execOp a.eval o).run P W = .ok .skip w1) (h : ∀ w', w' = w1 → wpList P ops Q rest a w') : wpList P ops Q (o :: rest) a W := by
  refine wpList_plain c fun K d => ?_; unfold Oper.wp; rw [b]; show K (a.put o.dst undef) w1; rw [e]; exact d _ _ (h _ rfl)
end
namespace Kd
section
variable {α : Type} {enc : α → Value} {h1 : ∀ x, (enc x).oneCell' = true} {e base g n cap : Nat} {ok : Nat → Prop} {W : World} {xs : List α}
end
end Kd
section
variable {P : Program} {ops : Array Oper} {rest : List Oper} {o : Oper} {a : Act} {Q : Exit → Act → World → Prop} {W : World}
theorem FW {N : Tmp} (_hN : o.dst = some N) (h : wpList P ops Q (o :: rest) a W) : wpList P ops Q (o :: rest) a W := h
theorem GN {t : TypeId} {p : Tmp} {v : Operand} (_ho : o.op = .store t (.tmp p) v) (h : wpList P ops Q (o :: rest) a W) : wpList P ops Q (o :: rest) a W := h
end
section
variable {P : Program} {ops : Array Oper} {o : Oper} {a : Act} {Q : Exit → Act → World → Prop} {Kc : Act → World → Prop}
theorem I9 {W w1 : World} {v : Value} (c : Region.wanted o (yielded ops a.tmps) = true) (b : (execOp a.eval o).run P W = .ok (.value v) w1) (h : Kc (a.put o.dst v) w1) : if Region.wanted o (yielded ops a.tmps) = true then Oper.wp P o a W Kc Q else Kc (a.put o.dst undef) W := by
  rw [if_pos c]; unfold Oper.wp; rw [b]; exact h
theorem FX {W : World} (c : Region.wanted o (yielded ops a.tmps) = true) {N : Tmp} (_hd : o.dst = some N) {cs : Array Value} {t : TypeId}
    (b : (execOp a.eval o).run P W = .ok (.value (.pointer (some ⟨W.heap.size, 0, none⟩))) (W.alloc (.cells cs t (0, 0))))
    (h : ∀ g, g = W.heap.size → ∀ w1, w1.heap[g]? = some (.cells cs t (0, 0)) → Below W.heap.size W w1 → Kc (a.put o.dst (.pointer (some ⟨g, 0, none⟩))) w1) : if Region.wanted o (yielded ops a.tmps) = true then Oper.wp P o a W Kc Q else Kc (a.put o.dst undef) W :=
  I9 c b (h _ rfl _ (Et W _) (AR (Below.refl _ _) _))
namespace Kd
variable {α : Type}
theorem JA (d : Kd α) {w0 W : World} (base e : Nat) (u : Region.wanted o (yielded ops a.tmps) = true) {N : Tmp} (_hd : o.dst = some N) {xs : List α} {inner : List Value} {ok okp : Nat → Prop}
    (l : (execOp a.eval o).run P W = .ok (.value (.slice (some ⟨W.heap.size, 0, none⟩) xs.length xs.length)) (W.alloc (.cells inner.toArray e)))
    (j : CK (d.M W base okp) d.sz xs inner) (n : ∀ k, okp k → ok k) (i : ok W.heap.size) (q : Below base w0 W) (g : base ≤ W.heap.size) (hm : xs.length ≤ 9223372036854775807)
    (h : ∀ v1 w1, d.R e w1 base ok v1 xs → Below base w0 w1 → W.grownBy w1 none → (∃ b, v1.ownBlock = some b ∧ W.heap.size ≤ b) → Kc (a.put o.dst v1) w1) : if Region.wanted o (yielded ops a.tmps) = true then Oper.wp P o a W Kc Q else Kc (a.put o.dst undef) W := by
  refine I9 u l (h _ _ ⟨fun k m => ?_, inner, ?_, ?_⟩ (q.alloc g _) (World.grownBy_alloc W _ none) ⟨W.heap.size, by simp [Value.ownBlock], Nat.le_refl _⟩)
  · have : W.heap.size = k := by simpa [Value.ownBlock] using m
    subst this; exact i
  · have r := World.ownsRow_lit (base := base) (e := e) (size := d.sz) W inner.toArray xs.length g (by simpa [maxLen] using hm) (by simpa using j.1); simpa using r
  · refine j.Fv (fun p c hp => d.M_mono (fun k m => ⟨n k m.1, fun s => ?_⟩) (LZ (d.M_bound hp) (AR (Below.refl _ _) _))); have v : k = W.heap.size := by simpa [Value.ownBlock] using s
    have := m.2.2.1; omega
theorem EW (d : Kd α) {Rr : α → List Value → Prop} {w0 W : World} (base : Nat) (hw : Region.wanted o (yielded ops a.tmps) = true) (s x : Operand) (t e : TypeId) (z : Value) (bytes : Nat)
    (ho : o.op = .call { callee := .builtin .append, args := #[s, x], argTypes := #[t, t] })
    (ht : P.underlying t = some (.slice e)) (I : (P.info? e).map (fun i => (i.zero, i.size, i.bytes)) = some (some z, d.sz, bytes)) (hz : z.cells.size = d.sz) (L : 0 < d.sz) (bB : 0 < bytes)
    (v : Value) (xs ys : List α) (A : Option Addr) (m c : Nat) (ok okp : Nat → Prop) (hs : a.eval s = v) (hx : a.eval x = .slice A m c)
    (HO : d.R e W base ok v xs) (Z : DC Rr d.sz W A m ys) (aB : ∀ x cs, Rr x cs → d.M W base okp x cs) (U : ∀ k, okp k → ok k ∧ some k ≠ v.ownBlock) (B : ∀ k, W.heap.size ≤ k → ok k)
    (HB : Below base w0 W) (w : base ≤ W.heap.size) (hl : (xs.length + m) * bytes ≤ 140737488355328)
    (h : ∀ v1 w1, d.R e w1 base ok v1 (xs ++ ys) → Below base w0 w1 → W.grownBy w1 v.ownBlock → (v1.ownBlock = v.ownBlock ∨ ∃ b, v1.ownBlock = some b ∧ W.heap.size ≤ b) → Kc (a.put o.dst v1) w1) :
    if Region.wanted o (yielded ops a.tmps) = true then Oper.wp P o a W Kc Q else Kc (a.put o.dst undef) W := by
  obtain ⟨i0, hi, Y⟩ := Option.map_eq_some_iff.1 I; simp only [Prod.mk.injEq] at Y; obtain ⟨hB, jB, kB⟩ := Y; have hm : ys.length = m := Z.1; have sB : xs.length + m ≤ 140737488355328 := Nat.le_trans (Nat.le_mul_of_pos_right _ bB) hl; obtain ⟨T, inner, n, hr⟩ := HO; have y : ∃ v1 w1, (Builtin.append_ #[t, t] o.type #[v, .slice A m c]).run P W = .ok v1 w1 ∧ d.R e w1 base ok v1 (xs ++ ys) ∧ W.grownBy w1 v.ownBlock ∧ (v1.ownBlock = v.ownBlock ∨ ∃ b, v1.ownBlock = some b ∧ W.heap.size ≤ b) := by
    rcases A with _ | ad
    · have O : m = 0 := by
        rcases Nat.eq_zero_or_pos m with O | O
        · exact O
        · obtain ⟨ad, h, _⟩ := Z.2.2 O; cases h
      subst O; obtain rfl : ys = [] := List.eq_nil_of_length_eq_zero hm; refine ⟨v, W, ?_, by rw [List.append_nil]; exact ⟨T, inner, n, hr⟩, World.grownBy.refl W _, .inl rfl⟩; rcases n.2 with ⟨rfl, hn⟩ | ⟨g, cap, cur, rfl, _, _, J, _⟩
      · simp [Builtin.append_, run_underlying ht, sizeOf, typeInfo, hi, Builtin.lenOf, Builtin.firstCells]
      · simp [Builtin.append_, run_underlying ht, sizeOf, typeInfo, hi, Builtin.lenOf, Builtin.firstCells, J, storeCells]
    · obtain ⟨news, dB, J⟩ := DC.K3 Z; have D : CK (d.M W base okp) d.sz ys news := dB.Fv (fun p c hp => aB p c hp); have X : ∀ u ∈ news, u.oneCell' = true := by
        intro u hu; obtain ⟨q, G, rfl⟩ := List.mem_iff_getElem.1 hu; have eB : q / d.sz < ys.length := by
          rw [Nat.div_lt_iff_lt_mul L]; rw [← D.1]; exact G
        have hc := D.2 (q / d.sz) _ (List.getElem?_eq_getElem eB); refine d.K_one (d.K_of_M hc) _ ?_; rw [List.mem_iff_getElem?]; refine ⟨q % d.sz, ?_⟩; rw [List.getElem?_take, if_pos (Nat.mod_lt _ L), List.getElem?_drop, Nat.mul_comm, Nat.div_add_mod, List.getElem?_eq_getElem G]
      obtain ⟨v1, w1, y, h2, hg, _, j⟩ := run_append_own_at (P := P) W base t o.type e i0 z d.sz bytes ht hi hB jB kB hz L v xs.length inner n ad m c news (by rw [D.1, hm]) J X (by simp only [maxLen]; omega) hl w; have r : v1.ownBlock = v.ownBlock ∨ ∃ b, v1.ownBlock = some b ∧ W.heap.size ≤ b := by
        rcases j with j | j
        · exact .inl j
        · exact .inr ⟨_, j, Nat.le_refl _⟩
      have cB : ∀ k, some k ≠ v.ownBlock → k < W.heap.size → some k ≠ v1.ownBlock := by
        intro k l yB; rcases r with j | ⟨b, hb, hle⟩
        · rw [j]; exact l
        · rw [hb]; intro he; injection he with he; omega
      have step : ∀ {q : α} {c : List Value} {o : Nat → Prop}, d.M W base o q c → (∀ k, o k → ok k ∧ some k ≠ v.ownBlock) → d.M w1 base (fun k => ok k ∧ some k ≠ v1.ownBlock) q c := by
        intro q c o G ho; have h1 := d.M_move (w1 := w1) (fun k l => hg.block k l.2.2.1 (ho k l.1).2) (d.M_bound G); exact d.M_mono (fun k l => ⟨(ho k l.1).1, cB k (ho k l.1).2 l.2.2.1⟩) h1
      refine ⟨v1, w1, y, ⟨fun k l => ?_, inner ++ news, by rw [List.length_append, hm]; exact h2, Ie (hr.Fv (fun _ _ G => step G (fun _ l => l))) (D.Fv (fun _ _ G => step G U))⟩, hg, r⟩; rcases r with j | ⟨b, hb, hle⟩
      · exact T k (j ▸ l)
      · rw [hb] at l; injection l with l; exact B k (by omega)
  obtain ⟨v1, w1, fB, h1, hg, j⟩ := y; rw [if_pos hw]; unfold Oper.wp execOp; simp only [ho, resolve, invoke, builtin, Sem.run_bind, Sem.run_pure, Result.andThen_ok, List.map_toArray, List.map_cons, List.map_nil, hs, hx, fB]; exact h v1 w1 h1 (HB.grown hg w (F6 n)) hg j
end Kd
end
section
variable {P : Program} {tmps : Array Value} {w : World}
end
namespace Kd
section
variable {P : Program} {α : Type}
end
section
variable {P : Program} {ops : Array Oper} {rest : List Oper} {o : Oper} {a : Act} {Q : Exit → Act → World → Prop} {Kc : Act → World → Prop} {α : Type}
end
end Kd
end Go.Proofs.Ytojankgmedccdaa.Wo
end
section
namespace Go.Proofs.Ytojankgmedccdaa.Wo
section
variable {P : Program} {ops : Array Oper} {Q : Exit → Act → World → Prop} {md : Region.Mode} {S : World → Prop} {ds : List Nat}
def Region.FI (md : Region.Mode) (ops : Array Oper) (i : Nat) : Nat → Nat → Bool
  | 0, _ => false
  | fuel + 1, d => match ops[d]? with
    | some o => o.after.any fun e => Region.binds md e && (e.on == i || Region.FI md ops i fuel e.on)
    | none => false
def Region.Hu (md : Region.Mode) (ops : Array Oper) (listed : Array Bool) : Bool :=
  (List.range ops.size).all fun j => !listed.getD j false || match ops[j]? with
    | some o => o.after.all fun e => !Region.binds md e || listed.getD e.on false
    | none => true
def Region.lastB (md : Region.Mode) (ops : Array Oper) (listed : Array Bool) (ds : List Nat) (i : Nat) : Bool :=
  ds.all fun d => listed.getD d true || Region.FI md ops i ops.size d
def D6 (md : Region.Mode) (ops : Array Oper) (listed : Array Bool) : Prop :=
  ∀ j a, ops[j]? = some a → listed.getD j false = true → ∀ e ∈ a.after, Region.binds md e = true → listed.getD e.on false = true
theorem Region.Jz {listed : Array Bool} (h : Region.Hu md ops listed = true) : D6 md ops listed := by
  intro j k b i e g d; have a : j < ops.size := (Array.getElem?_eq_some_iff.1 b).1; have h1 := List.all_eq_true.1 h j (List.mem_range.2 a); simp only [i, b, Bool.not_true, Bool.false_or] at h1; have c := Array.all_eq_true_iff_forall_mem.1 h1 e g; simpa [d] using c
theorem D6.set {listed : Array Bool} {i : Nat} (h : D6 md ops listed) (hi : i ∈ Region.ready md ops listed) : D6 md ops (listed.setIfInBounds i true) := by
  obtain ⟨_, m, b, a⟩ := mem_ready.1 hi; intro j l g k e d c; by_cases hij : i = j
  · subst hij; have : l = m := Option.some.inj (g.symm.trans b); subst this; exact getD_set_true (a e d c)
  · rw [getD_set_ne false hij] at k; exact getD_set_true (h j l g k e d c)
theorem Region.Hw {listed : Array Bool} {i : Nat} (b : D6 md ops listed) : ∀ (fuel d : Nat), Region.FI md ops i fuel d = true → listed.getD d false = true → listed.getD i false = true
  | 0, _, h, _ => by simp [Region.FI] at h
  | fuel + 1, d, h, hl => by
    unfold Region.FI at h; cases ho : ops[d]? with
    | none => rw [ho] at h; simp at h
    | some o =>
      rw [ho] at h; obtain ⟨e, c, h1⟩ := Array.any_eq_true'.1 h; simp only [Bool.and_eq_true, Bool.or_eq_true, beq_iff_eq] at h1; have a := b d o ho hl e c h1.1; rcases h1.2 with h2 | h2
      · rw [← h2]; exact a
      · exact Region.Hw b fuel e.on h2 a
theorem Region.Im {listed : Array Bool} {i d fuel : Nat} (g : D6 md ops listed) (hr : Region.FI md ops i fuel d = true) (a : listed.getD i true = false) : d ∉ Region.ready md ops listed := by
  intro hd; obtain ⟨_, o, ho, b⟩ := mem_ready.1 hd; have hi : listed.getD i false = true := by
    cases fuel with
    | zero => simp [Region.FI] at hr
    | succ n =>
      unfold Region.FI at hr; rw [ho] at hr; obtain ⟨e, h, h1⟩ := Array.any_eq_true'.1 hr; simp only [Bool.and_eq_true, Bool.or_eq_true, beq_iff_eq] at h1; have c := b e h h1.1; rcases h1.2 with h2 | h2
      · rw [← h2]; exact c
      · exact Region.Hw g n e.on h2 c
  rcases Nat.lt_or_ge i listed.size with h' | h'
  · simp [h'] at a hi; rw [a] at hi; cases hi
  · simp [Array.getElem?_eq_none h'] at a
def Ba (P : Program) (md : Region.Mode) (ops : Array Oper) (Q : Exit → Act → World → Prop) (S : World → Prop) (ds : List Nat) : Nat → Array Bool → Act → World → Prop
  | 0, listed, a, w => Region.ready md ops listed = [] ∧ Q .normal a w
  | fuel + 1, listed, a, w =>
    (Region.ready md ops listed = [] → Q .normal a w) ∧
    ∀ i ∈ Region.ready md ops listed, wpOp P ops Q i (fun a' w' => (i ∉ ds → S w → S w') ∧ Ba P md ops Q S ds fuel (listed.setIfInBounds i true) a' w') a w
theorem HY : ∀ (fuel : Nat) (listed : Array Bool) (a : Act) (w : World), Ba P md ops Q S ds fuel listed a w → wpAny P md ops Q fuel listed a w
  | 0, _, _, _, h => h
  | fuel + 1, _, _, _, h => ⟨h.1, fun i hi => wpOp_mono (fun a' w' b => HY fuel _ a' w' b.2) (h.2 i hi)⟩
theorem Io {i : Nat} {u : Oper} {v : Value} (hi : ops[i]? = some u) (r : ∀ (j : Nat) (o : Oper) cs b, ops[j]? = some o → o.op ≠ .select cs b)
    (Y : ∀ c a w, Q (.panic c) (a.put u.dst v) w → Q (.panic c) a w) (n : Nat) :
    ∀ (fuel : Nat) (listed : Array Bool) (a : Act) (w : World),
      (∀ j x, ops[j]? = some x → j ≠ i → listed.getD j true = false → (∀ e ∈ x.after, Region.binds md e = true → e.on ≠ i) → u.apart ops x = true) →
      D6 md ops listed → (∀ d ∈ ds, listed.getD d true = false → Region.FI md ops i n d = true) →
      i ∈ Region.ready md ops listed → YieldsIf P ops S u v a → S w →
      Ba P md ops Q S ds fuel (listed.setIfInBounds i true) (a.put u.dst v) w → Ba P md ops Q S ds (fuel + 1) listed a w := by
  intro fuel; induction fuel with
  | zero =>
    intro listed a w _ _ _ hr I G H; refine ⟨fun h => (by rw [h] at hr; cases hr), fun j y => ?_⟩; by_cases hji : j = i
    · subst hji; exact I.wpOp hi G ⟨fun _ h => h, H⟩
    · have := ready_mono y hji; rw [H.1] at this; cases this
  | succ fuel ih =>
    intro listed a w l W hd hr I G H; refine ⟨fun h => (by rw [h] at hr; cases hr), fun j y => ?_⟩; by_cases hji : j = i
    · subst hji; exact I.wpOp hi G ⟨fun _ h => h, H⟩
    · have h1 := H.2 j (ready_mono y hji); obtain ⟨g, x, s, z⟩ := mem_ready.1 y; have m := (mem_ready.1 hr).1; have B : ∀ e ∈ x.after, Region.binds md e = true → e.on ≠ i := fun e he Z L => by
        have h1 := z e he Z; rw [L] at h1; rcases Nat.lt_or_ge i listed.size with h' | h'
        · simp [h'] at m h1; rw [m] at h1; cases h1
        · simp [Array.getElem?_eq_none h'] at h1
      have O : j ∉ ds := fun hm => Region.Im W (hd j hm g) m y; have X := wpOp_putIf s (l j x s hji g B) (fun cs b => r i u cs b hi) (fun cs b => r j x cs b s) Y I h1; have q : ∀ k ok, ops[k]? = some ok → k ≠ i → (listed.setIfInBounds j true).getD k true = false →
          (∀ e ∈ ok.after, Region.binds md e = true → e.on ≠ i) → u.apart ops ok = true := fun k ok hk T p U => by
        refine l k ok hk T ?_ U
        by_cases hjk : j = k
        · subst hjk; exact g
        · rw [getD_set_ne true hjk] at p; exact p
      have J : ∀ d ∈ ds, (listed.setIfInBounds j true).getD d true = false → Region.FI md ops i n d = true := fun d hm p => by
        refine hd d hm ?_; by_cases hjk : j = d
        · subst hjk; exact g
        · rw [getD_set_ne true hjk] at p; exact p
      refine wpOp_mono (fun a' w' D => ⟨D.2.1, ih (listed.setIfInBounds j true) a' w' q (W.set y) J (ready_mono hr (Ne.symm hji)) D.1 (D.2.1 O G) ?_⟩) X; rw [Array.setIfInBounds_comm _ _ hji]; exact D.2.2
theorem JZ {i : Nat} {q : Oper} {v : Value} (hi : ops[i]? = some q) (n : ∀ (j : Nat) (o : Oper) cs b, ops[j]? = some o → o.op ≠ .select cs b)
    (L : ∀ c a w, Q (.panic c) (a.put q.dst v) w → Q (.panic c) a w) :
    ∀ (fuel : Nat) (listed : Array Bool) (a : Act) (w : World),
      (∀ j r, ops[j]? = some r → j ≠ i → listed.getD j true = false → (∀ e ∈ r.after, Region.binds md e = true → e.on ≠ i) → q.apart ops r = true) →
      i ∈ Region.ready md ops listed → Yields P ops q v a →
      Ba P md ops Q S ds fuel (listed.setIfInBounds i true) (a.put q.dst v) w → Ba P md ops Q S ds (fuel + 1) listed a w := by
  intro fuel; induction fuel with
  | zero =>
    intro listed a w _ hr z H; refine ⟨fun h => (by rw [h] at hr; cases hr), fun j y => ?_⟩; by_cases hji : j = i
    · subst hji; exact (z.yieldsIf (S := fun _ => True)).wpOp hi trivial ⟨fun _ h => h, H⟩
    · have := ready_mono y hji; rw [H.1] at this; cases this
  | succ fuel W =>
    intro listed a w d hr z H; refine ⟨fun h => (by rw [h] at hr; cases hr), fun j y => ?_⟩; by_cases hji : j = i
    · subst hji; exact (z.yieldsIf (S := fun _ => True)).wpOp hi trivial ⟨fun _ h => h, H⟩
    · have h1 := H.2 j (ready_mono y hji); obtain ⟨m, r, p, s⟩ := mem_ready.1 y; have l := (mem_ready.1 hr).1; have u : ∀ e ∈ r.after, Region.binds md e = true → e.on ≠ i := fun e T O D => by
        have h1 := s e T O; rw [D] at h1; rcases Nat.lt_or_ge i listed.size with h' | h'
        · simp [h'] at l h1; rw [l] at h1; cases h1
        · simp [Array.getElem?_eq_none h'] at h1
      have J := wpOp_put p (d j r p hji m u) (fun cs b => n i q cs b hi) (fun cs b => n j r cs b p) L z h1; have g : ∀ k ok, ops[k]? = some ok → k ≠ i → (listed.setIfInBounds j true).getD k true = false →
          (∀ e ∈ ok.after, Region.binds md e = true → e.on ≠ i) → q.apart ops ok = true := fun k ok U G x I => by
        refine d k ok U G ?_ I
        by_cases hjk : j = k
        · subst hjk; exact m
        · rw [getD_set_ne true hjk] at x; exact x
      refine wpOp_mono (fun a' w' B => ⟨B.2.1, W (listed.setIfInBounds j true) a' w' g (ready_mono hr (Ne.symm hji)) B.1 ?_⟩) J; rw [Array.setIfInBounds_comm _ _ hji]; exact B.2.2
theorem JB {i : Nat} {b : Oper} {v : Value} {fuel : Nat} {listed : Array Bool} {a : Act} {w : World} (hi : ops[i]? = some b)
    (hs : Region.noSelect ops = true) (l : Region.free md ops listed i = true) (hr : (Region.ready md ops listed).contains i = true)
    (k : Region.Hu md ops listed = true) (m : Region.lastB md ops listed ds i = true)
    (g : ∀ c a w, Q (.panic c) (a.put b.dst v) w → Q (.panic c) a w) (n : YieldsIf P ops S b v a) (j : S w)
    (h : Ba P md ops Q S ds fuel (listed.setIfInBounds i true) (a.put b.dst v) w) : Ba P md ops Q S ds (fuel + 1) listed a w :=
  Io hi (Region.noSelect_spec hs) g ops.size fuel listed a w (Region.free_spec hi l) (Region.Jz k)
    (fun d hm e => by have := List.all_eq_true.1 m d hm; rw [e] at this; simpa using this) (by simpa using hr) n j h
theorem Ja {c : List Nat} {fuel : Nat} {listed : Array Bool} {a : Act} {w : World} (hr : Region.ready md ops listed = c) (b : c ≠ [])
    (h : ∀ i ∈ c, wpOp P ops Q i (fun a' w' => (i ∉ ds → S w → S w') ∧ Ba P md ops Q S ds fuel (listed.setIfInBounds i true) a' w') a w) : Ba P md ops Q S ds (fuel + 1) listed a w :=
  ⟨fun d => absurd (hr ▸ d) b, hr ▸ h⟩
theorem JC {listed : Array Bool} {a : Act} {w : World} (hr : Region.ready md ops listed = []) (h : Q .normal a w) :
    ∀ fuel, Ba P md ops Q S ds fuel listed a w
  | 0 => ⟨hr, h⟩
  | _ + 1 => ⟨fun _ => h, by rw [hr]; simp⟩
theorem JD {id : Nat} {a : Act} {w : World} (hm : P.follows .mixedOrders = true)
    (h : Ba P .any ops Q S ds ops.size (Array.replicate ops.size false) a { w with drawn := w.drawn + 1 }) : (Code.region id ops true).wp P Q a w :=
  wp_region_any hm (HY _ _ _ _ h)
end
section
variable {P : Program} {ops : Array Oper} {Q : Exit → Act → World → Prop} {md : Region.Mode} {S : World → Prop} {ds : List Nat}
def DL (P : Program) (md : Region.Mode) (ops : Array Oper) (Q : Exit → Act → World → Prop) (S : World → Prop) (ds : List Nat) (fuel : Nat) (listed : Array Bool) (a : Act) (w : World) (b : List Nat) : Prop :=
  ∀ i ∈ b, wpOp P ops Q i (fun a' w' => (i ∉ ds → S w → S w') ∧ Ba P md ops Q S ds fuel (listed.setIfInBounds i true) a' w') a w
theorem DL.nil {fuel : Nat} {listed : Array Bool} {a : Act} {w : World} : DL P md ops Q S ds fuel listed a w [] := fun _ h => by cases h
theorem DL.cons {fuel : Nat} {listed : Array Bool} {a : Act} {w : World} {i : Nat} {o : Oper} {e : List Nat} (ho : ops[i]? = some o) (hd : i ∉ ds)
    (h : ∀ b : Act → World → Prop, Shut (∀ a w, S w → (S w → Ba P md ops Q S ds fuel (listed.setIfInBounds i true) a w) → b a w) → if Region.wanted o (yielded ops a.tmps) = true then Oper.wp P o a w b Q else b (a.put o.dst undef) w)
    (hs : DL P md ops Q S ds fuel listed a w e) : DL P md ops Q S ds fuel listed a w (i :: e) := fun j c => by
  rcases List.mem_cons.1 c with rfl | c
  · exact wpOp_step ho (fun b g => h b (fun a w d k => g a w ⟨fun _ _ => d, k d⟩))
  · exact hs j c
theorem DL.L8 {fuel : Nat} {listed : Array Bool} {a : Act} {w : World} {i : Nat} {o : Oper} {d : List Nat} (ho : ops[i]? = some o) (hd : i ∈ ds)
    (h : ∀ b : Act → World → Prop, Shut (∀ a w, Ba P md ops Q S ds fuel (listed.setIfInBounds i true) a w → b a w) → if Region.wanted o (yielded ops a.tmps) = true then Oper.wp P o a w b Q else b (a.put o.dst undef) w)
    (hs : DL P md ops Q S ds fuel listed a w d) : DL P md ops Q S ds fuel listed a w (i :: d) := fun j c => by
  rcases List.mem_cons.1 c with rfl | c
  · exact wpOp_step ho (fun b e => h b (fun a w g => e a w ⟨fun hn => absurd hd hn, g⟩))
  · exact hs j c
theorem FJ {c : List Nat} {fuel : Nat} {listed : Array Bool} {a : Act} {w : World} (hr : Region.ready md ops listed = c) (b : c ≠ [])
    (h : DL P md ops Q S ds fuel listed a w c) : Ba P md ops Q S ds (fuel + 1) listed a w := Ja hr b h
theorem DV {id n : Nat} {a : Act} {w : World} (l : Array Bool) (hm : P.follows .mixedOrders = true) (hn : ops.size = n) (c : Array.replicate n false = l) (b : S w.drew)
    (h : S w.drew → Ba P .any ops Q S ds n l a w.drew) : (Code.region id ops true).wp P Q a w := by
  subst hn; subst c; exact JD hm (h b)
def takeB (md : Region.Mode) (ops : Array Oper) (ds : List Nat) (l l' : Array Bool) (i : Nat) : Bool :=
  Region.noSelect ops && Region.free md ops l i && (Region.ready md ops l).contains i && Region.Hu md ops l && Region.lastB md ops l ds i && (l.setIfInBounds i true == l')
theorem Br {i : Nat} {N : Option Tmp} {b : Oper} {v : Value} {fuel : Nat} {l : Array Bool} {a : Act} {w : World} (l' : Array Bool) (hi : ops[i]? = some b) (n : b.dst = N) (d : takeB md ops ds l l' i = true)
    (o : ∀ c a w, Q (.panic c) (a.put b.dst v) w → Q (.panic c) a w) (r : YieldsIf P ops S b v a) (p : S w) {a' : Act} (q : a.put N v = a')
    (h : Ba P md ops Q S ds fuel l' a' w) : Ba P md ops Q S ds (fuel + 1) l a w := by
  subst q; subst n; simp only [takeB, Bool.and_eq_true, beq_iff_eq] at d; obtain ⟨⟨⟨⟨⟨h1, e⟩, g⟩, j⟩, k⟩, m⟩ := d; subst m; exact JB hi h1 e g j k o r p h
def OY (md : Region.Mode) (ops : Array Oper) (l l' : Array Bool) (i : Nat) : Bool :=
  Region.noSelect ops && Region.free md ops l i && (Region.ready md ops l).contains i && (l.setIfInBounds i true == l')
theorem Gc {i : Nat} {N : Option Tmp} {b : Oper} {v : Value} {fuel : Nat} {l : Array Bool} {a : Act} {w : World} (l' : Array Bool) (hi : ops[i]? = some b) (k : b.dst = N) (d : OY md ops l l' i = true)
    (m : ∀ c a w, Q (.panic c) (a.put b.dst v) w → Q (.panic c) a w) (o : Yields P ops b v a) {a' : Act} (n : a.put N v = a')
    (h : Ba P md ops Q S ds fuel l' a' w) : Ba P md ops Q S ds (fuel + 1) l a w := by
  subst n; subst k; simp only [OY, Bool.and_eq_true, beq_iff_eq] at d; obtain ⟨⟨⟨h1, e⟩, g⟩, j⟩ := d; subst j; exact JZ hi (Region.noSelect_spec h1) m fuel l a w (Region.free_spec hi e) (by simpa using g) o h
def IQ (md : Region.Mode) (ops : Array Oper) (l l' : Array Bool) (i : Nat) : Bool := (Region.ready md ops l == [i]) && (l.setIfInBounds i true == l')
theorem Dj {i : Nat} {N : Option Tmp} {b : Oper} {fuel : Nat} {l : Array Bool} {a : Act} {w : World} (l' : Array Bool) (hi : ops[i]? = some b) (g : b.dst = N) (c : IQ md ops l l' i = true) (hd : i ∉ ds)
    (h : ∀ K : Act → World → Prop, Shut (∀ a' w', S w' → (S w' → Ba P md ops Q S ds fuel l' a' w') → K a' w') → if Region.wanted b (yielded ops a.tmps) = true then Oper.wp P b a w K Q else K (a.put N undef) w) :
    Ba P md ops Q S ds (fuel + 1) l a w := by
  subst g; simp only [IQ, Bool.and_eq_true, beq_iff_eq] at c; obtain ⟨h1, d⟩ := c; subst d; exact FJ h1 (by simp) (DL.cons hi hd (fun K e => h K e) DL.nil)
theorem NB {i : Nat} {N : Option Tmp} {b : Oper} {fuel : Nat} {l : Array Bool} {a : Act} {w : World} (l' : Array Bool) (hi : ops[i]? = some b) (g : b.dst = N) (c : IQ md ops l l' i = true) (hd : i ∈ ds)
    (h : ∀ K : Act → World → Prop, Shut (∀ a' w', Ba P md ops Q S ds fuel l' a' w' → K a' w') → if Region.wanted b (yielded ops a.tmps) = true then Oper.wp P b a w K Q else K (a.put N undef) w) :
    Ba P md ops Q S ds (fuel + 1) l a w := by
  subst g; simp only [IQ, Bool.and_eq_true, beq_iff_eq] at c; obtain ⟨h1, d⟩ := c; subst d; exact FJ h1 (by simp) (DL.L8 hi hd (fun K e => h K e) DL.nil)
theorem EQ {l : Array Bool} {a : Act} {w : World} {n : Nat} (hr : (Region.ready md ops l == []) = true) (h : Q .normal a w) : Ba P md ops Q S ds n l a w := JC (by simpa using hr) h n
theorem OZ {i j : Nat} {Ni Nj : Option Tmp} {b c : Oper} {fuel : Nat} {l : Array Bool} {a : Act} {w : World} (li lj : Array Bool) (hi : ops[i]? = some b) (r : ops[j]? = some c) (e : b.dst = Ni) (g : c.dst = Nj)
    (m : (Region.ready md ops l == [i, j] && l.setIfInBounds i true == li && l.setIfInBounds j true == lj) = true) (h : i ∉ ds) (k : j ∉ ds)
    (h1 : ∀ K : Act → World → Prop, Shut (∀ a' w', S w' → (S w' → Ba P md ops Q S ds fuel li a' w') → K a' w') → if Region.wanted b (yielded ops a.tmps) = true then Oper.wp P b a w K Q else K (a.put Ni undef) w)
    (n : ∀ K : Act → World → Prop, Shut (∀ a' w', S w' → (S w' → Ba P md ops Q S ds fuel lj a' w') → K a' w') → if Region.wanted c (yielded ops a.tmps) = true then Oper.wp P c a w K Q else K (a.put Nj undef) w) :
    Ba P md ops Q S ds (fuel + 1) l a w := by
  subst e; subst g; simp only [Bool.and_eq_true, beq_iff_eq] at m; obtain ⟨⟨o, p⟩, q⟩ := m; subst p; subst q; exact FJ o (by simp) (DL.cons hi h (fun K d => h1 K d) (DL.cons r k (fun K d => n K d) DL.nil))
def FY : Act → List (Tmp × Value) → Act
  | a, [] => a
  | a, (n, v) :: r => FY (a.put (some n) v) r
theorem PD {σ : Type} {fuel : Nat} {l : Array Bool} {a : Act} {w : World} (b : Nat) (l' : Array Bool) (d : σ → List (Tmp × Value)) (F : σ → World → Prop)
    (c : ∀ s w', F s w' → Ba P md ops Q S ds b l' (FY a (d s)) w')
    (h : (∀ s w', F s w' → Ba P md ops Q S ds b l' (FY a (d s)) w') → Ba P md ops Q S ds fuel l a w) : Ba P md ops Q S ds fuel l a w := h c
theorem Hy {fuel : Nat} {l : Array Bool} {a a' : Act} {w : World} (b : a = a') (h : Ba P md ops Q S ds fuel l a' w) : Ba P md ops Q S ds fuel l a w := by
  subst b; exact h
theorem call_ {c : Oper} {N : Option Tmp} {a : Act} {w : World} {K : Act → World → Prop} (f : FuncId) (args : Array Value) (j : Region.wanted c (yielded ops a.tmps) = true) (d : c.dst = N) (b : (execOp a.eval c).run P w = .ok (.enter f args) w)
    (h : Calls P f args w fun e w' => ∃ v, e = .returned v ∧ K (a.put N v) w') : if Region.wanted c (yielded ops a.tmps) = true then Oper.wp P c a w K Q else K (a.put N undef) w := by
  rw [if_pos j]; subst d; unfold Oper.wp; rw [b, Oper.upon_enter]; refine h.mono fun e k g => ?_; obtain ⟨v, rfl, i⟩ := g; exact i
theorem Lf {f : FuncId} {b : Func} (g : P.funcs[f]? = some b) (a : (b.name == "runtime.NumGoroutine") = false) (d : b.body.isSome = true) (args : Array Value) (w : World) : (callFunc f args).run P w = .ok (.enter f args) w := by
  have h1 : b.name ≠ "runtime.NumGoroutine" := by simpa using a
  obtain ⟨c, e⟩ := Option.isSome_iff_exists.1 d; simp [callFunc, g, h1, e]
theorem DF {d : Oper} {N : Option Tmp} {a : Act} {w : World} {K : Act → World → Prop} {f : FuncId} {g : Func} {as : Array Operand} {o : Array TypeId} (m : P.funcs[f]? = some g) (c : (g.name == "runtime.NumGoroutine") = false) (k : g.body.isSome = true) (args : Array Value)
    (n : Region.wanted d (yielded ops a.tmps) = true) (j : d.dst = N) (i : d.op = .call { callee := .value (.func f), args := as, argTypes := o }) (b : as.map a.eval = args)
    (h : Calls P f args w fun e w' => ∃ v, e = .returned v ∧ K (a.put N v) w') : if Region.wanted d (yielded ops a.tmps) = true then Oper.wp P d a w K Q else K (a.put N undef) w := by
  refine call_ f args n j ?_ h; have l := Lf m c k args w; unfold execOp; simp [i, resolve, Deferred.ofValue, invoke, Act.eval, b, l]
theorem K6 {rest : List Oper} {g : Oper} {a : Act} {w : World} (N : Option Tmp) (hd : g.dst = N) (hg : g.guard = none) {f : FuncId} {i : Func} {as : Array Operand} {q : Array TypeId} (n : P.funcs[f]? = some i) (c : (i.name == "runtime.NumGoroutine") = false) (l : i.body.isSome = true) (args : Array Value)
    (j : g.op = .call { callee := .value (.func f), args := as, argTypes := q }) (b : as.map a.eval = args)
    (h : Calls P f args w fun e w' => ∃ v, e = .returned v ∧ wpList P ops Q rest (a.put N v) w') : wpList P ops Q (g :: rest) a w := by
  refine wpList_plain hg fun K k => ?_; have m := Lf n c l args w; have d : (execOp a.eval g).run P w = .ok (.enter f args) w := by
    unfold execOp; simp [j, resolve, Deferred.ofValue, invoke, Act.eval, b, m]
  unfold Oper.wp; rw [d, Oper.upon_enter]; refine h.mono fun e r o => ?_; obtain ⟨v, rfl, p⟩ := o; subst hd; exact k _ _ p
theorem CG {c : Oper} {N : Option Tmp} {a : Act} {w w1 : World} {v : Value} {K : Act → World → Prop} (e : Region.wanted c (yielded ops a.tmps) = true) (d : c.dst = N) (b : (execOp a.eval c).run P w = .ok (.value v) w1)
    (h : K (a.put N v) w1) : if Region.wanted c (yielded ops a.tmps) = true then Oper.wp P c a w K Q else K (a.put N undef) w := by
  rw [if_pos e]; subst d; unfold Oper.wp; rw [b]; exact h
theorem F7 {b : Oper} {a : Act} {w w1 : World} {K : Act → World → Prop} (e : Region.wanted b (yielded ops a.tmps) = true) (d : b.dst = none) (c : (execOp a.eval b).run P w = .ok .skip w1)
    (h : K a w1) : if Region.wanted b (yielded ops a.tmps) = true then Oper.wp P b a w K Q else K (a.put none undef) w := by
  rw [if_pos e]; unfold Oper.wp; rw [c]; show K (a.put b.dst undef) w1; rw [d]; exact h
theorem Bw (n : Int) : IntKind.i64.wrap n = Go.RowKit.wrap64 n := by unfold Go.RowKit.wrap64; exact IntKind.wrap_i64 n
theorem DI (n : Int) : IntKind.i32.wrap n = Go.RowKit.wrap32 n := by unfold Go.RowKit.wrap32; exact IntKind.wrap_i32 n
end
end Go.Proofs.Ytojankgmedccdaa.Wo
end
section
namespace Go.Proofs.Ytojankgmedccdaa.Wo
open Go.RowKit
namespace Kd
section
variable {α : Type} {d : Kd α} {e base g o n cap : Nat} {ok okp : Nat → Prop} {w W : World} {v : Value} {xs : List α}
end
section
variable {α : Type} {enc : α → Value} {h1 : ∀ x, (enc x).oneCell' = true} {e base g o n cap : Nat} {ok : Nat → Prop} {W : World} {xs : List α}
end
end Kd
end Go.Proofs.Ytojankgmedccdaa.Wo
end
section
namespace Go.Proofs.Ytojankgmedccdaa.Wo
open Go.RowKit
namespace Kd
def tag {α : Type} (f : Nat → Nat) (d : Kd α) : Kd (α × Nat) where
  sz := d.sz
  E := d.E
  K := fun w x cs => d.K w x.1 cs
  M := fun w base ok x cs => d.M w base (fun k => ok k ∧ f k = x.2) x.1 cs
  K_len := fun h => d.K_len h
  K_one := fun h => d.K_one h
  K_below := fun b h => d.K_below b h
  K_of_M := fun h => d.K_of_M h
  M_mono := fun c h => d.M_mono (fun k a => ⟨c k a.1, a.2⟩) h
  M_bound := fun h => d.M_mono (fun _ a => ⟨⟨a.1.1, a.2⟩, a.1.2⟩) (d.M_bound h)
  M_move := fun hm h => d.M_move (fun k a => hm k a.1) h
  M_lower := fun b h => d.M_lower b h
def raw (sz : Nat) : Kd (List Value) where
  sz := sz
  E := []
  K := fun _ x cs => cs = x ∧ cs.length = sz ∧ ∀ u ∈ cs, u.oneCell' = true
  M := fun _ _ _ x cs => cs = x ∧ cs.length = sz ∧ ∀ u ∈ cs, u.oneCell' = true
  K_len := fun h => h.2.1
  K_one := fun h => h.2.2
  K_below := fun _ h => h
  K_of_M := fun h => h
  M_mono := fun _ h => h
  M_bound := fun h => h
  M_move := fun _ h => h
  M_lower := fun _ h => h
def S {α : Type} (d : Kd α) (e : Nat) (w : World) (base : Nat) (ok : Nat → Prop) (v : Value) (xs : List α) : Prop := ∃ f, (tag f d).R e w base ok v xs.zipIdx
section
variable {α β : Type} {d : Kd α} {d' : Kd β} {e e' : Nat} {w w1 W : World} {base b : Nat} {ok ok' okv oku : Nat → Prop} {u v : Value} {xs : List α} {ys : List β}
theorem Lg (hE : d.E = []) (h : d.R e w base ok v xs) : d.R e w base (fun k => some k = v.ownBlock) v xs := by
  obtain ⟨g, inner, ho, hr⟩ := h; refine ⟨fun k a => a.symm, inner, ho, hr.Fv (fun p c hp => d.M_mono (fun k a => ?_) (d.M_bound hp))⟩; obtain ⟨_, _, _, q, b, _⟩ := a; rw [hE] at b; cases b
theorem EC (d : Kd α) (e : Nat) (w : World) (base : Nat) (ok : Nat → Prop) : S d e w base ok (.slice none 0 0) [] := ⟨fun _ => 0, Dq _ _ _ _ _⟩
end
section
variable {α β : Type} {d : Kd α} {d' : Kd β} {e e' g : Nat} {w w1 W : World} {base b : Nat} {ok ok' okv oku : Nat → Prop} {u v : Value} {xs : List α} {ys : List β}
end
section
variable {P : Program} {ops : Array Oper} {rest : List Oper} {o : Oper} {a : Act} {Q : Exit → Act → World → Prop} {Kc : Act → World → Prop} {α : Type}
end
def gap {α : Type} (f : Nat → Nat) (d : Kd α) (i : Nat) (c : List Value) : Kd (α × Nat) where
  sz := d.sz
  E := d.E
  K := fun w x cs => (x.2 = i → cs = c ∧ cs.length = d.sz ∧ ∀ u ∈ cs, u.oneCell' = true) ∧ (x.2 ≠ i → d.K w x.1 cs)
  M := fun w base ok x cs => (x.2 = i → cs = c ∧ cs.length = d.sz ∧ ∀ u ∈ cs, u.oneCell' = true) ∧ (x.2 ≠ i → d.M w base (fun k => ok k ∧ f k = x.2) x.1 cs)
  K_len := fun {w x cs} h => by
    by_cases a : x.2 = i
    · exact (h.1 a).2.1
    · exact d.K_len (h.2 a)
  K_one := fun {w x cs} h => by
    by_cases a : x.2 = i
    · exact (h.1 a).2.2
    · exact d.K_one (h.2 a)
  K_below := fun e h => ⟨h.1, fun a => d.K_below e (h.2 a)⟩
  K_of_M := fun h => ⟨h.1, fun a => d.K_of_M (h.2 a)⟩
  M_mono := fun g h => ⟨h.1, fun a => d.M_mono (fun k b => ⟨g k b.1, b.2⟩) (h.2 a)⟩
  M_bound := fun h => ⟨h.1, fun a => d.M_mono (fun _ b => ⟨⟨b.1.1, b.2⟩, b.1.2⟩) (d.M_bound (h.2 a))⟩
  M_move := fun hm h => ⟨h.1, fun a => d.M_move (fun k b => hm k b.1) (h.2 a)⟩
  M_lower := fun e h => ⟨h.1, fun a => d.M_lower e (h.2 a)⟩
def H {α : Type} (d : Kd α) (e : Nat) (w : World) (base : Nat) (ok : Nat → Prop) (v : Value) (xs : List α) (i : Int) (oki : Nat → Prop) (c : List Value) : Prop :=
  (∀ k, oki k → ok k) ∧ ∃ f, (gap f d i.toNat c).R e w base (fun k => ok k ∧ ¬ oki k) v xs.zipIdx
section
variable {α β : Type} {d : Kd α} {e e' g n cap : Nat} {w w1 W : World} {base : Nat} {ok ok' oki okp : Nat → Prop} {u v : Value} {xs : List α} {i : Int} {c : List Value}
end
section
variable {P : Program} {ops : Array Oper} {rest : List Oper} {o : Oper} {a : Act} {Q : Exit → Act → World → Prop} {α : Type}
end
end Kd
end Go.Proofs.Ytojankgmedccdaa.Wo
end
section
namespace Go.Proofs.Ytojankgmedccdaa.Wo
open Go.RowKit
namespace Kd
section
variable {α : Type} {n : Nat} {d : Kd α} {hs : 0 < d.sz} {w : World} {base : Nat} {ok : Nat → Prop} {xs : List α} {cs : List Value}
end
section
variable {α : Type} {n : Nat} {enc : α → Value} {h1 : ∀ x, (enc x).oneCell' = true} {hs : 0 < (scalar enc h1).sz} {w : World} {base : Nat} {ok : Nat → Prop} {xs : List α} {cs : List Value}
end
end Kd
end Go.Proofs.Ytojankgmedccdaa.Wo
end
section
namespace Go.Proofs.Ytojankgmedccdaa.Wo
open Go.RowKit
section
variable {P : Program}
end
namespace Kd
section
variable {P : Program} {ops : Array Oper} {rest : List Oper} {o : Oper} {a : Act} {Q : Exit → Act → World → Prop} {Kc : Act → World → Prop} {α : Type}
end
section
variable {α : Type} {d : Kd α} {e : Nat} {w : World} {base : Nat} {ok : Nat → Prop} {v : Value} {xs : List α}
end
section
variable {P : Program} {ops : Array Oper} {rest : List Oper} {o : Oper} {a : Act} {Q : Exit → Act → World → Prop} {Kc : Act → World → Prop} {α : Type}
end
end Kd
end Go.Proofs.Ytojankgmedccdaa.Wo
end
section
namespace Go.Proofs.Ytojankgmedccdaa.Wo
open Go.RowKit
namespace Kd
structure Heap {α : Type} (d : Kd α) : Prop where
  K : ∀ {w w1 : World} {x : α} {cs : List Value}, (∀ k, k < w.heap.size → w1.heap[k]? = w.heap[k]?) → d.K w x cs → d.K w1 x cs
theorem L9 {w w1 : World} (b : ∀ k, k < w.heap.size → w1.heap[k]? = w.heap[k]?) {a : Addr} {v : Value} (h : w.cell? a = some v) : w1.cell? a = some v := by
  have := b a.block (World.block_lt_of_cell? w a h); simpa [World.cell?, this] using h
theorem Heap.C {α : Type} {d : Kd α} (hd : Heap d) {w w1 : World} {A : Option Addr} {n : Nat} {xs : List α} (b : ∀ k, k < w.heap.size → w1.heap[k]? = w.heap[k]?) (h : d.C w A n xs) : d.C w1 A n xs :=
  ⟨h.1, h.2.1, fun hn => by
    obtain ⟨ad, e, g⟩ := h.2.2 hn; refine ⟨ad, e, fun j p l => ?_⟩; obtain ⟨c, hs, hr, a⟩ := g j p l; exact ⟨c, hs, hd.K b hr, fun i u m => L9 b (a i u m)⟩⟩
theorem F8 (k : IntKind) : Heap (Kd.int k) := ⟨fun _ h => h⟩
theorem JE {α : Type} {d : Kd α} (e : Nat) (hd : Heap d) : Heap (slice e d) := ⟨by
  rintro w w1 x cs a ⟨A, c, rfl, b, hr⟩; exact ⟨A, c, rfl, b, hd.C a hr⟩⟩
theorem IR {α β : Type} {a : Kd α} {b : Kd β} (i : Heap a) (c : Heap b) : Heap (pair a b) := ⟨by
  rintro w w1 x cs d ⟨e, g, rfl, h, h1⟩; exact ⟨e, g, rfl, i.K d h, c.K d h1⟩⟩
theorem NC {α β : Type} {d : Kd α} (f : β → α) (hd : Heap d) : Heap (iso d f) := ⟨fun a h => hd.K a h⟩
theorem ND {α : Type} (sz : Nat) (E : List Nat) : Heap (bot sz E : Kd α) := ⟨fun _ h => h⟩
theorem Ji {α : Type} {F : Kd α → Kd α} {sz : Nat} {E : List Nat} (a : ∀ d, Heap d → Heap (F d)) : ∀ n, Heap (upto F sz E n)
  | 0 => ND sz E
  | n + 1 => a _ (Ji a n)
theorem NE {α : Type} {F : Kd α → Kd α} {sz : Nat} {E : List Nat} {hs : ∀ n, (upto F sz E n).sz = sz} {hE : ∀ n q, q ∈ (upto F sz E n).E → q ∈ E} (a : ∀ d, Heap d → Heap (F d)) : Heap (fix F sz E hs hE) := ⟨by
  rintro w w1 x cs b ⟨n, h⟩; exact ⟨n, (Ji a n).K b h⟩⟩
section
variable {α : Type} {d : Kd α} {e base g n c : Nat} {ok : Nat → Prop} {w w0 W : World} {A : Option Addr} {xs : List α}
end
end Kd
end Go.Proofs.Ytojankgmedccdaa.Wo
end
section
namespace Go.Proofs.Ytojankgmedccdaa.Wo
open Go.RowKit
section
variable {w W W2 : World} {S S2 S' : Nat → Prop}
end
namespace Kd
section
variable {α : Type} {d : Kd α} {e base n c : Nat} {ok oki S S2 : Nat → Prop} {w w0 W W1 W2 : World} {v : Value} {A : Option Addr} {xs : List α} {i : Int} {cs : List Value}
end
end Kd
end Go.Proofs.Ytojankgmedccdaa.Wo
end
section
namespace Go.Proofs.Ytojankgmedccdaa.Wo
open Go.RowKit
def Foot (P : World → Prop) (W : World) (ok : Nat → Prop) : Prop := ∀ a : World, (∀ k, ok k → k < W.heap.size → a.heap[k]? = W.heap[k]?) → P a
theorem Oa {W W1 : World} {k : Nat} (h : W1.heap[k]? = W.heap[k]?) (a : k < W.heap.size) : k < W1.heap.size := by
  rw [Array.getElem?_eq_getElem a] at h; exact (Array.getElem?_eq_some_iff.1 h).1
namespace Foot
variable {P Q : World → Prop} {W W1 : World} {ok ok' : Nat → Prop}
theorem now (h : Foot P W ok) : P W := h W (fun _ _ _ => rfl)
theorem mono (h : Foot P W ok) (b : ∀ k, ok k → ok' k) : Foot P W ok' := fun c d => h c (fun k e a => d k (b k e) a)
theorem bound (h : Foot P W ok) : Foot P W (fun k => ok k ∧ k < W.heap.size) := fun b c => h b (fun k d a => c k ⟨d, a⟩ a)
theorem step (h : Foot P W ok) (hm : ∀ k, ok k → k < W.heap.size → W1.heap[k]? = W.heap[k]?) : Foot P W1 ok := fun c d => h c (fun k b a => (d k b (Oa (hm k b a) a)).trans (hm k b a))
theorem imp (h : Foot P W ok) (hi : ∀ a, P a → Q a) : Foot Q W ok := fun a b => hi a (h a b)
theorem old (h : Foot P W ok) (b : Below W.heap.size W W1) : Foot P W1 (fun k => ok k ∧ k < W.heap.size) := (h.bound).step (fun k _ a => b.block k a)
end Foot
namespace Kd
def F {α : Type} (d : Kd α) (W : World) (ok : Nat → Prop) (A : Option Addr) (n : Nat) (xs : List α) : Prop := Foot (fun W => d.C W A n xs) W ok
def FK {α : Type} (d : Kd α) (W : World) (ok : Nat → Prop) (x : α) (c : List Value) : Prop := Foot (fun W => d.K W x c) W ok
section
variable {α β : Type} {d : Kd α} {e base n n' cc g N : Nat} {ok ok' okp S : Nat → Prop} {w w0 w1 W W1 : World} {A A' : Option Addr} {u v v1 : Value} {xs : List α} {xs' : List β} {d' : Kd β} {x : α} {c : List Value}
theorem Ew (h : F d W ok A n xs) : d.C W A n xs := Foot.now h
theorem Cw (h : F d W ok A n xs) (a : ∀ k, ok k → ok' k) : F d W ok' A n xs := Foot.mono h a
theorem DX (h : F d W ok A n xs) : F d W (fun k => ok k ∧ k < W.heap.size) A n xs := Foot.bound h
theorem J2 (h : F d W ok A n xs) (hm : ∀ k, ok k → k < W.heap.size → W1.heap[k]? = W.heap[k]?) : F d W1 ok A n xs := Foot.step h hm
theorem PE (h : F d W ok A n xs) (hi : ∀ a, d.C a A n xs → d'.C a A' n' xs') : F d' W ok A' n' xs' := Foot.imp h hi
theorem Cs (h : F d W ok A n xs) (b : Below W.heap.size W W1) : F d W1 ok A n xs := J2 h (fun k _ a => b.block k a)
theorem Gv (h : F d W ok A n xs) (o : Obj) : F d (W.alloc o) ok A n xs := Cs h (AR (Below.refl _ _) o)
theorem PR (h : F d W ok A n xs) : F d W.drew ok A n xs := Cs h (GI (Below.refl _ _))
theorem Ob (h : F d W ok A n xs) (m : Nat) : F d (W.drewN m) ok A n xs := Cs h (Ag (Below.refl _ _) m)
theorem Jj (h : F d W ok A n xs) {p : Addr} (a : ∀ k, ok k → k ≠ p.block) (u : Value) : F d (W.setCell p u) ok A n xs := J2 h (fun k b _ => Below.heap_setCell W p u k (a k b))
theorem Lh (d : Kd α) (W : World) (ok : Nat → Prop) : F d W ok none ([] : List α).length [] := fun a _ => GY d a
theorem NF (h : F d W ok A n xs) (a : ∀ k, v.ownBlock = some k → W.heap.size ≤ k) (c : Below W.heap.size W W1) : F d W1 (fun k => ok k ∧ some k ≠ v.ownBlock) A n xs :=
  Cw (Foot.old h c) (fun k b => ⟨b.1, fun e => by have := a k e.symm; have := b.2; omega⟩)
theorem NG (h : F d W ok A n xs) (a : Nat) (c : W.heap.size ≤ a) : F d W (fun k => ok k ∧ k ≠ a) A n xs := Cw (DX h) (fun k b => ⟨b.1, by have := b.2; omega⟩)
theorem Oc (h : F d W (fun k => ok k ∧ some k ≠ v.ownBlock) A n xs) (hg : W.grownBy W1 v.ownBlock) (a : v1.ownBlock = v.ownBlock ∨ ∃ b, v1.ownBlock = some b ∧ W.heap.size ≤ b) : F d W1 (fun k => ok k ∧ some k ≠ v1.ownBlock) A n xs := by
  refine Cw (Foot.step (DX h) (fun k c e => hg.block k e c.1.2)) (fun k c => ⟨c.1.1, ?_⟩); rcases a with a | ⟨b, hb, hle⟩
  · rw [a]; exact c.1.2
  · rw [hb]; intro g; injection g with g; have := c.2; omega
theorem Pz (h : F d W ok A n xs) (a : Below W.heap.size W W1) : F d W1 (fun k => ok k ∧ k < W.heap.size) A n xs := Foot.old h a
theorem PS (h : F d W1 (fun k => ok k ∧ k < N) A n xs) (a : ∀ k, v.ownBlock = some k → N ≤ k) : F d W1 (fun k => (ok k ∧ some k ≠ v.ownBlock) ∧ k < N) A n xs :=
  Cw h (fun k b => ⟨⟨b.1, fun c => Nat.lt_irrefl _ (Nat.lt_of_lt_of_le b.2 (a k c.symm))⟩, b.2⟩)
theorem C_F (hd : Heap d) (h : d.C w A n xs) : F d w (fun k => k < w.heap.size) A n xs := fun _ b => hd.C (fun k a => b k a a) h
theorem R_F (h : d.R e W base ok (.slice A n cc) xs) : F d W ok A n xs := fun c b => by
  have a := Cg (Ga h b); rw [a.1]; exact a.2.2
theorem GQ (h : FK d W ok x c) : d.K W x c := Foot.now h
theorem Iq (h : FK d W ok x c) (a : ∀ k, ok k → ok' k) : FK d W ok' x c := Foot.mono h a
theorem JF (h : FK d W ok x c) : FK d W (fun k => ok k ∧ k < W.heap.size) x c := Foot.bound h
theorem J3 (h : FK d W ok x c) (hm : ∀ k, ok k → k < W.heap.size → W1.heap[k]? = W.heap[k]?) : FK d W1 ok x c := Foot.step h hm
theorem Od (h : d.M W base ok x c) : FK d W ok x c := fun _ a => d.K_of_M (Mt h a)
theorem Oe (W : World) (g : Nat) : ∃ b : World, (∀ k, k ≠ g → b.heap[k]? = W.heap[k]?) ∧ ∀ a : Addr, a.block = g → b.cell? a = none := by
  refine ⟨{ W with heap := W.heap.setIfInBounds g (.cells #[] 0) }, fun k d => by simp [Ne.symm d], fun a c => ?_⟩; subst c; by_cases hlt : a.block < W.heap.size
  · simp [World.cell?, hlt]
  · simp [World.cell?, hlt]
end
end Kd
end Go.Proofs.Ytojankgmedccdaa.Wo
end
section
namespace Go.Proofs.Ytojankgmedccdaa.Wo
open Go.RowKit
namespace Kd
def chunks (sz : Nat) (n : Nat) (inner : List Value) : List (List Value) := (List.range n).map fun j => (inner.drop (j * sz)).take sz
theorem Cx (sz n : Nat) (inner : List Value) : (chunks sz n inner).length = n := by simp [chunks]
theorem MB {sz n : Nat} {inner : List Value} {j : Nat} (a : j < n) : (chunks sz n inner)[j]? = some ((inner.drop (j * sz)).take sz) := by simp [chunks, a]
theorem FZ {sz n : Nat} {inner : List Value} {j : Nat} {c : List Value} (h : (chunks sz n inner)[j]? = some c) : c = (inner.drop (j * sz)).take sz := by
  have a : j < n := by have := (List.getElem?_eq_some_iff.1 h).1; rwa [Cx] at this
  rw [MB a] at h; injection h with h; exact h.symm
theorem KN {α : Type} {b : α → List Value → Prop} {sz : Nat} {xs : List α} {inner : List Value} (h : CK b sz xs inner) (e : ∀ x c, b x c → c.length = sz ∧ ∀ u ∈ c, u.oneCell' = true) : CK (fun x cs => cs = x ∧ cs.length = sz ∧ ∀ u ∈ cs, u.oneCell' = true) sz (chunks sz xs.length inner) inner := by
  refine ⟨by rw [Cx]; exact h.1, fun j p d => ?_⟩; have a : j < xs.length := by have := (List.getElem?_eq_some_iff.1 d).1; rwa [Cx] at this
  have hp := FZ d; exact ⟨hp.symm, e _ _ (h.2 j _ (List.getElem?_eq_getElem a))⟩
section
variable {α : Type} {d : Kd α} {e base n cc g : Nat} {ok ok' okp S : Nat → Prop} {w w1 W W1 : World} {A : Option Addr} {u v v1 : Value} {xs : List α} {x : α} {c : List Value}
theorem PG (h : F d W ok A n xs) (z : α) (i : Int) (r : 0 ≤ i) (h1 : i < n) :
    ∃ ad c, A = some ad ∧ c.length = d.sz ∧ FK d W ok (xs.getD i.toNat z) c ∧ (∀ j u, c[j]? = some u → W.cell? (ad.add (i.toNat * d.sz + j)) = some u) ∧ (0 < d.sz → ok ad.block) := by
  obtain ⟨ad, c, rfl, w, T, b⟩ := Jd (Ew h) z i r h1; have p : 0 < d.sz → ok ad.block := by
    intro hs; by_cases hk : ok ad.block
    · exact hk
    · obtain ⟨l, G, I⟩ := Oe W ad.block; obtain ⟨q, y, g, o, _, a⟩ := Jd (h l (fun k x _ => G k (fun e => hk (e ▸ x)))) z i r h1; injection g with g; subst g; have B := a 0 _ (List.getElem?_eq_getElem (by omega)); rw [I _ (add_block _ _)] at B; cases B
  refine ⟨ad, c, rfl, w, fun l D => ?_, b, p⟩; obtain ⟨q, y, g, o, v, a⟩ := Jd (h l D) z i r h1; injection g with g; subst g; have O : c = y := by
    apply List.ext_getElem?; intro j; by_cases hj : j < d.sz
    · have L : l.heap[ad.block]? = W.heap[ad.block]? := by
        have s := b j _ (List.getElem?_eq_getElem (by omega)); have m := World.block_lt_of_cell? W _ s; rw [add_block] at m; exact D _ (p (by omega)) m
      have s := b j _ (List.getElem?_eq_getElem (by omega)); have m := a j _ (List.getElem?_eq_getElem (by omega)); have J : l.cell? (ad.add (i.toNat * d.sz + j)) = W.cell? (ad.add (i.toNat * d.sz + j)) := by simp [World.cell?, add_block, L]
      rw [J, s] at m; rw [List.getElem?_eq_getElem (by omega), List.getElem?_eq_getElem (by omega)]; exact m
    · rw [List.getElem?_eq_none (by omega), List.getElem?_eq_none (by omega)]
  rw [O]; exact v
theorem PT (h : F d W ok A n xs) : DC (fun x c => FK d W ok x c) d.sz W A n xs := by
  obtain ⟨o, hm, hn⟩ := Ew h; refine ⟨o, hm, fun hp => ?_⟩; obtain ⟨ad, rfl, _⟩ := hn hp; refine ⟨ad, rfl, fun j p i => ?_⟩; obtain ⟨l, m⟩ := List.getElem?_eq_some_iff.1 i; obtain ⟨k, c, g, e, b, a, _⟩ := PG h p (j : Int) (by omega) (by omega); injection g with g; subst g; simp only [Int.toNat_natCast] at b a; rw [List.getD_eq_getElem?_getD, i] at b; exact ⟨c, e, b, a⟩
def N {α : Type} (d : Kd α) (e : Nat) (w : World) (base : Nat) (ok : Nat → Prop) (v : Value) (xs : List α) : Prop :=
  (∀ k, v.ownBlock = some k → ok k) ∧ ∃ rows : List (List Value), rows.length = xs.length ∧ (raw d.sz).R e w base (fun k => some k = v.ownBlock) v rows ∧ ∀ (j : Nat) (x : α) (c : List Value), xs[j]? = some x → rows[j]? = some c → FK d w (fun k => ok k ∧ some k ≠ v.ownBlock) x c
theorem Jk {sz : Nat} {rows : List (List Value)} (h : (raw sz).R e w base ok v rows) : (raw sz).R e w base (fun k => some k = v.ownBlock) v rows := Lg rfl h
theorem J4 {sz : Nat} {rows : List (List Value)} (h : (raw sz).R e w base ok v rows) : (raw sz).R e w base (fun _ => True) v rows := BK h (fun _ _ => trivial)
theorem R_N (h : d.R e w base ok v xs) : N d e w base ok v xs := by
  obtain ⟨a, inner, ho, hr⟩ := h; refine ⟨a, chunks d.sz xs.length inner, Cx _ _ _, ⟨fun k g => g.symm, inner, by rw [Cx]; exact ho, KN hr (fun x c hp => ⟨d.K_len (d.K_of_M hp), d.K_one (d.K_of_M hp)⟩)⟩, fun j x c i b => ?_⟩; rw [FZ b]; exact Od (hr.2 j x i)
theorem ED (d : Kd α) (e : Nat) (w : World) (base : Nat) (ok : Nat → Prop) : N d e w base ok (.slice none 0 0) [] := R_N (Dq _ _ _ _ _)
theorem BF (h : N d e w base ok v xs) (a : ∀ k, ok k → ok' k) : N d e w base ok' v xs := by
  obtain ⟨g, rows, n, i, m⟩ := h; exact ⟨fun k b => a k (g k b), rows, n, i, fun j x c o l => Iq (m j x c o l) (fun k b => ⟨a k b.1, b.2⟩)⟩
theorem Jb (h : N d e w base ok v xs) : ∀ k, v.ownBlock = some k → k < w.heap.size := by
  obtain ⟨_, rows, _, a, _⟩ := h; exact G8 a
theorem Bp (h : N d e w base ok v xs) : ∀ k, v.ownBlock = some k → base ≤ k := by
  obtain ⟨_, rows, _, a, _⟩ := h; exact Az a
theorem Bz (h : N d e w base ok v xs) : ∀ k, v.ownBlock = some k → ∃ cells, w.heap[k]? = some (.cells cells e (0, 0)) := by
  obtain ⟨_, rows, _, a, _⟩ := h; exact FL a
theorem Ed (h : N d e w base ok v xs) {t : Nat} {cells : Array Value} (b : w.heap[g]? = some (.cells cells t (0, 0))) (c : e ≠ t) : some g ≠ v.ownBlock := by
  obtain ⟨_, rows, _, a, _⟩ := h; exact Hl a b c
theorem NH (h : N d e w base ok v xs) (a : ∀ k, ok k → k ≠ g) : some g ≠ v.ownBlock := fun b => a g (h.1 g b.symm) rfl
theorem Gw (h : N d e w base ok v xs) : N d e w base (fun k => ok k ∧ k < w.heap.size) v xs := by
  have b := Jb h; obtain ⟨g, rows, n, i, m⟩ := h; exact ⟨fun k a => ⟨g k a, b k a⟩, rows, n, i, fun j x c o l => Iq (JF (m j x c o l)) (fun k a => ⟨⟨a.1.1, a.2⟩, a.1.2⟩)⟩
theorem Dr {base' : Nat} (h : N d e w base ok v xs) (c : base' ≤ base) : N d e w base' ok v xs := by
  obtain ⟨a, rows, i, b, g⟩ := h; exact ⟨a, rows, i, Cb b c, g⟩
theorem Gd (h : N d e w base ok v xs) (hm : ∀ k, ok k → k < w.heap.size → w1.heap[k]? = w.heap[k]?) : N d e w1 base ok v xs := by
  obtain ⟨g, rows, n, i, m⟩ := h; exact ⟨g, rows, n, Ga i (fun k b a => hm k (g k b.symm) a), fun j x c o l => J3 (m j x c o l) (fun k b a => hm k b.1 a)⟩
theorem DY (h : N d e w base ok v xs) (a : Below w.heap.size w w1) : N d e w1 base ok v xs := Gd h (fun k _ b => a.block k b)
theorem Li (h : N d e w base ok v xs) (o : Obj) : N d e (w.alloc o) base ok v xs := DY h (AR (Below.refl _ _) o)
theorem Gf (h : N d e w base ok v xs) : N d e w.drew base ok v xs := DY h (GI (Below.refl _ _))
theorem Lj (h : N d e w base ok v xs) (m : Nat) : N d e (w.drewN m) base ok v xs := DY h (Ag (Below.refl _ _) m)
theorem F9 (h : N d e W base ok v xs) (a : ∀ k, u.ownBlock = some k → W.heap.size ≤ k) (c : Below W.heap.size W w1) : N d e w1 base (fun k => ok k ∧ some k ≠ u.ownBlock) v xs :=
  BF (DY (Gw h) c) (fun k b => ⟨b.1, fun g => by have := a k g.symm; have := b.2; omega⟩)
theorem KO (h : N d e w base ok v xs) (a : Nat) (c : w.heap.size ≤ a) : N d e w base (fun k => ok k ∧ k ≠ a) v xs := BF (Gw h) (fun k b => ⟨b.1, by have := b.2; omega⟩)
theorem Og (h : N d e W base (fun k => ok k ∧ some k ≠ u.ownBlock) v xs) {u1 : Value} (hg : W.grownBy w1 u.ownBlock) (a : u1.ownBlock = u.ownBlock ∨ ∃ b, u1.ownBlock = some b ∧ W.heap.size ≤ b) : N d e w1 base (fun k => ok k ∧ some k ≠ u1.ownBlock) v xs := by
  refine BF (Gd (Gw h) (fun k c g => hg.block k g c.1.2)) (fun k c => ⟨c.1.1, ?_⟩); rcases a with a | ⟨b, hb, hle⟩
  · rw [a]; exact c.1.2
  · rw [hb]; intro i; injection i with i; have := c.2; omega
theorem Hz (h : N d e W base ok v xs) (a : Below W.heap.size W w1) : N d e w1 base (fun k => ok k ∧ k < W.heap.size) v xs := DY (Gw h) a
theorem Ee {b : Nat} (h : N d e w1 base (fun k => ok k ∧ k < b) v xs) (a : ∀ k, u.ownBlock = some k → b ≤ k) : N d e w1 base (fun k => (ok k ∧ some k ≠ u.ownBlock) ∧ k < b) v xs :=
  BF h (fun k c => ⟨⟨c.1, fun e => Nat.lt_irrefl _ (Nat.lt_of_lt_of_le c.2 (a k e.symm))⟩, c.2⟩)
theorem Ct (h : N d e w base ok v xs) : ∃ A c, v = .slice A xs.length c := by
  obtain ⟨_, rows, g, a, _⟩ := h; obtain ⟨A, c, b⟩ := Bt a; exact ⟨A, c, by rw [b, g]⟩
theorem EE {n c : Nat} (h : N d e w base ok (.slice A n c) xs) : n = xs.length ∧ n ≤ c ∧ d.C w A xs.length xs := by
  obtain ⟨_, rows, x, q, u⟩ := h; obtain ⟨hn, r, g⟩ := Cg q; refine ⟨by omega, r, ?_⟩; rw [x] at g; refine ⟨rfl, g.2.1, fun hp => ?_⟩; obtain ⟨ad, s, a⟩ := g.2.2 hp; refine ⟨ad, s, fun j p m => ?_⟩; have b : j < rows.length := by have := (List.getElem?_eq_some_iff.1 m).1; omega
  obtain ⟨l, k, o, i⟩ := a j _ (List.getElem?_eq_getElem b); have v := GQ (u j p _ m (List.getElem?_eq_getElem b)); refine ⟨l, k, ?_, i⟩; rw [show l = rows[j] from o.1]; exact v
theorem N_F {n : Nat} (h : N d e w base ok (.slice A n cc) xs) : F d w ok A n xs := fun c b => by
  have a := EE (Gd h b); rw [a.1]; exact a.2.2
end
end Kd
end Go.Proofs.Ytojankgmedccdaa.Wo
end
section
namespace Go.Proofs.Ytojankgmedccdaa.Wo
open Go.RowKit
namespace Kd
section
variable {α : Type} {d : Kd α} {e base n cap g : Nat} {ok ok' okp : Nat → Prop} {w w1 W : World} {v v1 : Value} {xs ys : List α}
theorem Hm {rows news : List (List Value)} (w : ∀ k, v.ownBlock = some k → ok k) (u : rows.length = xs.length) (z : ∀ (j : Nat) (x : α) (c : List Value), xs[j]? = some x → rows[j]? = some c → FK d W (fun k => ok k ∧ some k ≠ v.ownBlock) x c)
    (q : news.length = ys.length) (p : ∀ (j : Nat) (x : α) (c : List Value), ys[j]? = some x → news[j]? = some c → FK d W okp x c) (l : ∀ k, okp k → ok k ∧ some k ≠ v.ownBlock) (h : ∀ k, W.heap.size ≤ k → ok k)
    (y : (raw d.sz).R e w1 base (fun _ => True) v1 (rows ++ news)) (hg : W.grownBy w1 v.ownBlock) (g : v1.ownBlock = v.ownBlock ∨ ∃ b, v1.ownBlock = some b ∧ W.heap.size ≤ b) : N d e w1 base ok v1 (xs ++ ys) := by
  have r : ∀ k, some k ≠ v.ownBlock → k < W.heap.size → some k ≠ v1.ownBlock := by
    intro k a i; rcases g with g | ⟨b, hb, hle⟩
    · rw [g]; exact a
    · rw [hb]; intro s; injection s with s; omega
  have step : ∀ {x : α} {c : List Value} {o : Nat → Prop}, FK d W o x c → (∀ k, o k → ok k ∧ some k ≠ v.ownBlock) → FK d w1 (fun k => ok k ∧ some k ≠ v1.ownBlock) x c := by
    intro x c o B ho; exact Iq (J3 (JF B) (fun k a i => hg.block k i (ho k a.1).2)) (fun k a => ⟨(ho k a.1).1, r k (ho k a.1).2 a.2⟩)
  refine ⟨fun k a => ?_, rows ++ news, by rw [List.length_append, List.length_append, u, q], Jk y, fun j x c n m => ?_⟩
  · rcases g with g | ⟨b, hb, hle⟩
    · exact w k (g ▸ a)
    · rw [hb] at a; injection a with a; exact h k (by omega)
  · rcases Nat.lt_or_ge j xs.length with i | hge
    · rw [List.getElem?_append_left i] at n; rw [List.getElem?_append_left (by omega)] at m; exact step (z j x c n m) (fun _ a => a)
    · rw [List.getElem?_append_right hge] at n; rw [List.getElem?_append_right (by omega), u] at m; exact step (p _ x c n m) l
theorem K7 {x : α} {c : List Value} (h : FK d W ok x c) : c = c ∧ c.length = d.sz ∧ ∀ u ∈ c, u.oneCell' = true := ⟨rfl, d.K_len (GQ h), d.K_one (GQ h)⟩
theorem NI {rows : List (List Value)} (n : (raw d.sz).R e w1 base (fun k => k = W.heap.size) v1 rows) (hg : W.grownBy w1 none) (h : ∃ b, v1.ownBlock = some b ∧ W.heap.size ≤ b) (r : rows.length = xs.length) (q : ∀ (j : Nat) (x : α) (c : List Value), xs[j]? = some x → rows[j]? = some c → FK d W okp x c)
    (m : ∀ k, okp k → ok k) (a : ok W.heap.size) : N d e w1 base ok v1 xs := by
  obtain ⟨b, o, s⟩ := h; refine ⟨fun k g => by rw [n.1 k g]; exact a, rows, r, Jk n, fun j x c u p => ?_⟩; refine Iq (J3 (JF (q j x c u p)) (fun k g l => hg.block k l (by simp))) (fun k g => ⟨m k g.1, fun i => ?_⟩); rw [o] at i; injection i with i; have := g.2; omega
theorem MC {d : α → List Value → Prop} {sz m : Nat} {A : Option Addr} (h : DC d sz W A m ys) (q : ∀ x c, d x c → c.length = sz ∧ ∀ u ∈ c, u.oneCell' = true) :
    ∃ news : List (List Value), news.length = ys.length ∧ DC (fun x cs => cs = x ∧ cs.length = sz ∧ ∀ u ∈ cs, u.oneCell' = true) sz W A m news ∧ ∀ (j : Nat) (x : α) (c : List Value), ys[j]? = some x → news[j]? = some c → d x c := by
  rcases Nat.eq_zero_or_pos m with h0 | hp
  · have s : ys = [] := List.eq_nil_of_length_eq_zero (h.1.trans h0); subst s; exact ⟨[], rfl, ⟨h0 ▸ rfl, h.2.1, fun hp => by omega⟩, fun j x c n => by simp at n⟩
  · obtain ⟨ad, rfl, _⟩ := h.2.2 hp; obtain ⟨inner, hr, r⟩ := DC.K3 h; refine ⟨chunks sz ys.length inner, Cx _ _ _, ⟨by rw [Cx]; exact h.1, h.2.1, fun _ => ⟨ad, rfl, fun j p o => ?_⟩⟩, fun j x c n e => ?_⟩
    · have g : j < ys.length := by have := (List.getElem?_eq_some_iff.1 o).1; rwa [Cx] at this
      have a := FZ o; have k := q _ _ (hr.2 j _ (List.getElem?_eq_getElem g)); rw [← a] at k; refine ⟨p, k.1, ⟨rfl, k⟩, fun i u b => ?_⟩; have l : inner[j * sz + i]? = some u := by
        rw [a, List.getElem?_take] at b; split at b
        · rw [List.getElem?_drop] at b; exact b
        · cases b
      exact r _ u l
    · rw [FZ e]; exact hr.2 j x n
end
section
variable {P : Program} {ops : Array Oper} {rest : List Oper} {o : Oper} {a : Act} {Q : Exit → Act → World → Prop} {Kc : Act → World → Prop} {α : Type}
theorem H5 (d : Kd α) {w0 W : World} (base : Nat) (w : o.guard = none) (s x : Operand) (t e : TypeId) (z : Value) (bytes : Nat)
    (ho : o.op = .call { callee := .builtin .append, args := #[s, x], argTypes := #[t, t] })
    (Z : P.underlying t = some (.slice e)) (m : (P.info? e).map (fun i => (i.zero, i.size, i.bytes)) = some (some z, d.sz, bytes)) (hz : z.cells.size = d.sz) (B : 0 < d.sz) (u : 0 < bytes)
    (v : Value) (xs : List α) (p : α) (cs : List Value) (ok okp : Nat → Prop) (hs : a.eval s = v) (hx : a.eval x = .slice (some ⟨W.heap.size, 0, none⟩) 1 1) (hp : FK d W okp p cs) (r : ∀ k, okp k → ok k ∧ some k ≠ v.ownBlock) (g : ∀ k, W.heap.size ≤ k → ok k)
    (J : N d e W base ok v xs) (I : Below base w0 W) (l : base ≤ W.heap.size) (Y : (xs.length + 1) * bytes ≤ 140737488355328)
    (h : ∀ v1 w1, N d e w1 base ok v1 (xs ++ [p]) → Below base w0 w1 → W.grownBy w1 v.ownBlock → (v1.ownBlock = v.ownBlock ∨ ∃ b, v1.ownBlock = some b ∧ W.heap.size ≤ b) → wpList P ops Q rest (a.put o.dst v1) w1) :
    wpList P ops Q (o :: rest) a (W.alloc (.cells cs.toArray e)) := by
  obtain ⟨L, rows, q, O, U⟩ := J; refine Mw (raw d.sz) base w s x t e z bytes ho Z m hz B u v rows cs cs (fun _ => True) (fun _ => False) hs hx (K7 hp) (fun _ X => X.elim) (fun _ _ => trivial) (J4 O) I l (by rw [q]; exact Y) ?_; intro v1 w1 hr T hg n; exact h v1 w1 (Hm L q U (ys := [p]) (news := [cs]) rfl (fun j y c D G => by
    rcases j with _ | j
    · simp only [List.getElem?_cons_zero, Option.some.injEq] at D G; rw [← D, ← G]; exact hp
    · simp at D) r g hr hg n) T hg n
theorem Fy (d : Kd α) {w0 W : World} (base : Nat) (Z : Region.wanted o (yielded ops a.tmps) = true) (s x : Operand) (t e : TypeId) (z : Value) (bytes : Nat)
    (ho : o.op = .call { callee := .builtin .append, args := #[s, x], argTypes := #[t, t] })
    (Y : P.underlying t = some (.slice e)) (m : (P.info? e).map (fun i => (i.zero, i.size, i.bytes)) = some (some z, d.sz, bytes)) (hz : z.cells.size = d.sz) (w : 0 < d.sz) (u : 0 < bytes)
    (v : Value) (xs : List α) (p : α) (cs : List Value) (ok okp : Nat → Prop) (hs : a.eval s = v) (hx : a.eval x = .slice (some ⟨W.heap.size, 0, none⟩) 1 1) (hp : FK d W okp p cs) (r : ∀ k, okp k → ok k ∧ some k ≠ v.ownBlock) (g : ∀ k, W.heap.size ≤ k → ok k)
    (I : N d e W base ok v xs) (G : Below base w0 W) (l : base ≤ W.heap.size) (X : (xs.length + 1) * bytes ≤ 140737488355328)
    (h : ∀ v1 w1, N d e w1 base ok v1 (xs ++ [p]) → Below base w0 w1 → W.grownBy w1 v.ownBlock → (v1.ownBlock = v.ownBlock ∨ ∃ b, v1.ownBlock = some b ∧ W.heap.size ≤ b) → Kc (a.put o.dst v1) w1) :
    if Region.wanted o (yielded ops a.tmps) = true then Oper.wp P o a (W.alloc (.cells cs.toArray e)) Kc Q else Kc (a.put o.dst undef) (W.alloc (.cells cs.toArray e)) := by
  obtain ⟨J, rows, q, L, T⟩ := I; refine Fw (raw d.sz) base Z s x t e z bytes ho Y m hz w u v rows cs cs (fun _ => True) (fun _ => False) hs hx (K7 hp) (fun _ U => U.elim) (fun _ _ => trivial) (J4 L) G l (by rw [q]; exact X) ?_; intro v1 w1 hr O hg n; exact h v1 w1 (Hm J q T (ys := [p]) (news := [cs]) rfl (fun j y c B D => by
    rcases j with _ | j
    · simp only [List.getElem?_cons_zero, Option.some.injEq] at B D; rw [← B, ← D]; exact hp
    · simp at B) r g hr hg n) O hg n
theorem Ha (d : Kd α) {w0 W : World} (base : Nat) (w : o.guard = none) (s x : Operand) (t e : TypeId) (z : Value) (bytes : Nat)
    (ho : o.op = .call { callee := .builtin .append, args := #[s, x], argTypes := #[t, t] })
    (ht : P.underlying t = some (.slice e)) (l : (P.info? e).map (fun i => (i.zero, i.size, i.bytes)) = some (some z, d.sz, bytes)) (hz : z.cells.size = d.sz) (I : 0 < d.sz) (u : 0 < bytes)
    (v : Value) (xs ys : List α) (A : Option Addr) (m c : Nat) (ok okp : Nat → Prop) (hs : a.eval s = v) (hx : a.eval x = .slice A m c)
    (L : N d e W base ok v xs) (O : F d W okp A m ys) (r : ∀ k, okp k → ok k ∧ some k ≠ v.ownBlock) (g : ∀ k, W.heap.size ≤ k → ok k)
    (J : Below base w0 W) (j : base ≤ W.heap.size) (Z : (xs.length + m) * bytes ≤ 140737488355328)
    (h : ∀ v1 w1, N d e w1 base ok v1 (xs ++ ys) → Below base w0 w1 → W.grownBy w1 v.ownBlock → (v1.ownBlock = v.ownBlock ∨ ∃ b, v1.ownBlock = some b ∧ W.heap.size ≤ b) → wpList P ops Q rest (a.put o.dst v1) w1) :
    wpList P ops Q (o :: rest) a W := by
  obtain ⟨T, rows, q, U, Y⟩ := L; obtain ⟨news, D, G, B⟩ := MC (PT O) (fun y c n => ⟨d.K_len (GQ n), d.K_one (GQ n)⟩); refine Fx (raw d.sz) base w s x t e z bytes ho ht l hz I u v rows news A m c (fun _ => True) (fun _ => False) hs hx (J4 U) G (fun _ _ n => n) (fun _ n => n.elim) (fun _ _ => trivial) J j (by rw [q]; exact Z) ?_; intro v1 w1 hr X hg p; exact h v1 w1 (Hm T q Y D B r g hr hg p) X hg p
theorem P5 (d : Kd α) {w0 W : World} (base e : Nat) (q : o.guard = none) {N' : Tmp} (_hd : o.dst = some N') {xs : List α} {inner : List Value} {ok okp : Nat → Prop}
    (n : (execOp a.eval o).run P W = .ok (.value (.slice (some ⟨W.heap.size, 0, none⟩) xs.length xs.length)) (W.alloc (.cells inner.toArray e)))
    (i : CK (FK d W okp) d.sz xs inner) (r : ∀ k, okp k → ok k) (g : ok W.heap.size) (s : Below base w0 W) (l : base ≤ W.heap.size) (hm : xs.length ≤ 9223372036854775807)
    (h : ∀ v1 w1, N d e w1 base ok v1 xs → Below base w0 w1 → W.grownBy w1 none → (∃ b, v1.ownBlock = some b ∧ W.heap.size ≤ b) → wpList P ops Q rest (a.put o.dst v1) w1) :
    wpList P ops Q (o :: rest) a W := by
  refine KM (raw d.sz) base e q _hd (xs := chunks d.sz xs.length inner) (inner := inner) (ok := fun k => k = W.heap.size) (okp := fun _ => False) (by rw [Cx]; exact n) (KN i (fun y c p => ⟨d.K_len (GQ p), d.K_one (GQ p)⟩)) (fun _ p => p.elim) rfl s l (by rw [Cx]; exact hm) ?_; intro v1 w1 hr u hg m; exact h v1 w1 (NI hr hg m (Cx _ _ _) (fun j y c w v => by rw [FZ v]; exact i.2 j y w) r g) u hg m
end
end Kd
end Go.Proofs.Ytojankgmedccdaa.Wo
end
section
namespace Go.Proofs.Ytojankgmedccdaa.Wo
open Go.RowKit Go.Proofs.Ytojankgmedccdaa.Wo
namespace Kd
open Go.Proofs.Ytojankgmedccdaa.Wo.Kd
end Kd
namespace Kd
open Go.Proofs.Ytojankgmedccdaa.Wo.Kd
section
variable {α : Type} {d : Kd α} {e base g N : Nat} {ok : Nat → Prop} {W w1 : World} {u v : Value} {xs : List α}
theorem NJ (b : d.R e W base ok u xs) (a : Below W.heap.size W w1) : d.R e w1 base (fun k => ok k ∧ k < W.heap.size) u xs :=
  BK (ET (Dz b) a) (fun _ h => ⟨h.1, h.2.2.1⟩)
theorem IU (h : d.R e w1 base (fun k => ok k ∧ k < N) u xs) (a : ∀ k, v.ownBlock = some k → N ≤ k) : d.R e w1 base (fun k => (ok k ∧ some k ≠ v.ownBlock) ∧ k < N) u xs :=
  BK h (fun k b => ⟨⟨b.1, fun e => Nat.lt_irrefl _ (Nat.lt_of_lt_of_le b.2 (a k e.symm))⟩, b.2⟩)
end
end Kd
theorem BS (k a : IntKind) (x y : Int) : Builtin.max2 (.int k x) (.int a y) = pure (.int k (if x < y then y else x)) := by simp only [Builtin.max2, gt_iff_lt]
theorem BU (k a : IntKind) (x y : Int) : Builtin.min2 (.int k x) (.int a y) = pure (.int k (if y < x then y else x)) := by simp only [Builtin.min2]
theorem Bf (c : Array TypeId) (d : TypeId) (a b : Value) : Builtin.max_ c d #[a, b] = (Builtin.max2 a b >>= fun s => pure s) := by simp only [Builtin.max_, List.foldlM_cons, List.foldlM_nil]
theorem Bg (c : Array TypeId) (d : TypeId) (a b : Value) : Builtin.min_ c d #[a, b] = (Builtin.min2 a b >>= fun s => pure s) := by simp only [Builtin.min_, List.foldlM_cons, List.foldlM_nil]
theorem BC (d : Array TypeId) (e : TypeId) (a b c : Value) : Builtin.max_ d e #[a, b, c] = (Builtin.max2 a b >>= fun s => Builtin.max2 s c >>= fun s => pure s) := by simp only [Builtin.max_, List.foldlM_cons, List.foldlM_nil]
theorem BD (d : Array TypeId) (e : TypeId) (a b c : Value) : Builtin.min_ d e #[a, b, c] = (Builtin.min2 a b >>= fun s => Builtin.min2 s c >>= fun s => pure s) := by simp only [Builtin.min_, List.foldlM_cons, List.foldlM_nil]
theorem BX (e : Array TypeId) (g : TypeId) (a b c d : Value) : Builtin.max_ e g #[a, b, c, d] = (Builtin.max2 a b >>= fun s => Builtin.max2 s c >>= fun s => Builtin.max2 s d >>= fun s => pure s) := by simp only [Builtin.max_, List.foldlM_cons, List.foldlM_nil]
theorem BZ (e : Array TypeId) (g : TypeId) (a b c d : Value) : Builtin.min_ e g #[a, b, c, d] = (Builtin.min2 a b >>= fun s => Builtin.min2 s c >>= fun s => Builtin.min2 s d >>= fun s => pure s) := by simp only [Builtin.min_, List.foldlM_cons, List.foldlM_nil]
end Go.Proofs.Ytojankgmedccdaa.Wo
namespace Go.Proofs.Ytojankgmedccdaa.Wo
open Go.RowKit
section
variable {P : Program} {ops : Array Oper} {rest : List Oper} {o : Oper} {a : Act} {Q : Exit → Act → World → Prop} {W : World}
theorem AJ {f : FuncId} {as : Array Operand} {b : Array TypeId} (_ho : o.op = .call { callee := .value (.func f), args := as, argTypes := b }) (h : wpList P ops Q (o :: rest) a W) : wpList P ops Q (o :: rest) a W := h
theorem Dt {b : Builtin} {xs : Array Operand} {c : Array TypeId} (_ho : o.op = .call { callee := .builtin b, args := xs, argTypes := c }) (h : wpList P ops Q (o :: rest) a W) : wpList P ops Q (o :: rest) a W := h
end
theorem Hd {P : Program} {f : FuncId} {args args' : Array Value} {w : World} {Q : Ending → World → Prop} (h : args = args') (a : Calls P f args' w Q) : Calls P f args w Q := h ▸ a
def mx (a b : Int) : Int := if a < b then b else a
def mn (a b : Int) : Int := if b < a then b else a
theorem K8 (w : World) (n : Nat) : w.drewN n = w.drewN n := rfl
namespace Kd
section
variable {α : Type} {d : Kd α} {e base : Nat} {ok : Nat → Prop} {W w1 : World} {v : Value} {xs : List α}
end
section
variable {α : Type} {d : Kd α} {e base g n cap : Nat} {ok oki okp : Nat → Prop} {W : World} {xs : List α} {i : Int} {c : List Value}
end
section
variable {α : Type} {d : Kd α} {e base b b' g N : Nat} {ok ok1 : Nat → Prop} {W W2 w1 : World} {u v : Value} {xs ys : List α} {S : Nat → Prop}
end
end Kd
end Go.Proofs.Ytojankgmedccdaa.Wo
namespace Go.Proofs.Ytojankgmedccdaa.Wo
open Go.RowKit
namespace Kd
def V {α : Type} (d : Kd α) (_e : Nat) (W : World) (_base : Nat) (ok : Nat → Prop) (v : Value) (xs : List α) : Prop := ∃ A c, v = .slice A xs.length c ∧ xs.length ≤ c ∧ F d W ok A xs.length xs
section
variable {α β : Type} {d : Kd α} {e base base' n m c g N' lo hi : Nat} {ok ok' S : Nat → Prop} {w W w1 : World} {A : Option Addr} {ad : Addr} {u v v1 : Value} {xs : List α}
theorem Fp (h : V d e W base ok v xs) (a : ∀ A, F d W ok A xs.length xs → F d w1 ok' A xs.length xs) : V d e w1 base' ok' v xs := by
  obtain ⟨A, c, i, g, b⟩ := h; exact ⟨A, c, i, g, a A b⟩
theorem Di (b : xs.length ≤ c) (a : F d W ok A xs.length xs) : V d e W base ok (.slice A xs.length c) xs := ⟨A, c, rfl, b, a⟩
theorem CL (h : V d e W base ok v xs) : ∃ A c, v = .slice A xs.length c := by
  obtain ⟨A, c, a, _⟩ := h; exact ⟨A, c, a⟩
theorem K9 (h : V d e W base ok (.slice A n c) xs) : n = xs.length ∧ n ≤ c ∧ F d W ok A xs.length xs := by
  obtain ⟨A', i, g, b, a⟩ := h; injection g with ha hn hc; subst ha; subst hc; exact ⟨hn, by rw [hn]; exact b, a⟩
theorem AO (h : V d e W base ok (.slice A n c) xs) : n = xs.length ∧ n ≤ c ∧ d.C W A xs.length xs := ⟨(K9 h).1, (K9 h).2.1, Ew (K9 h).2.2⟩
theorem V_F (h : V d e W base ok (.slice A n c) xs) : F d W ok A n xs := by
  obtain ⟨hn, _, a⟩ := K9 h; rw [hn]; exact a
theorem DZ (d : Kd α) (e : Nat) (W : World) (base : Nat) (ok : Nat → Prop) : V d e W base ok (.slice none 0 0) [] := ⟨none, 0, rfl, Nat.le_refl _, Lh d W ok⟩
theorem R_V (h : d.R e W base ok v xs) : V d e W base' ok v xs := by
  obtain ⟨A, c, rfl⟩ := Bt h; exact ⟨A, c, rfl, (Cg h).2.1, R_F h⟩
theorem N_V (h : N d e W base ok v xs) : V d e W base' ok v xs := by
  obtain ⟨A, c, rfl⟩ := Ct h; exact ⟨A, c, rfl, (EE h).2.1, N_F h⟩
theorem AL (h : V d e W base ok v xs) (a : ∀ k, ok k → ok' k) : V d e W base ok' v xs := Fp h (fun _ b => Cw b a)
theorem H6 (h : V d e W base ok v xs) : V d e W base (fun k => ok k ∧ k < W.heap.size) v xs := Fp h (fun _ a => DX a)
theorem EM (h : V d e W base ok v xs) (_ : base' ≤ base) : V d e W base' ok v xs := h
theorem JG (h : V d e W base ok v xs) (hm : ∀ k, ok k → k < W.heap.size → w1.heap[k]? = W.heap[k]?) : V d e w1 base ok v xs := Fp h (fun _ a => J2 a hm)
theorem Bl (h : V d e W base ok v xs) (a : Below W.heap.size W w1) : V d e w1 base ok v xs := Fp h (fun _ b => Cs b a)
theorem Ch (h : V d e W base ok v xs) (o : Obj) : V d e (W.alloc o) base ok v xs := Fp h (fun _ a => Gv a o)
theorem Bn (h : V d e W base ok v xs) : V d e W.drew base ok v xs := Fp h (fun _ a => PR a)
theorem Ci (h : V d e W base ok v xs) (m : Nat) : V d e (W.drewN m) base ok v xs := Fp h (fun _ a => Ob a m)
theorem P6 (h : V d e W base ok v xs) {p : Addr} (a : ∀ k, ok k → k ≠ p.block) (u : Value) : V d e (W.setCell p u) base ok v xs := Fp h (fun _ b => Jj b a u)
theorem Oh (h : V d e W base (fun k => ok k ∧ some k ≠ u.ownBlock) v xs) (hg : W.grownBy w1 u.ownBlock) (a : v1.ownBlock = u.ownBlock ∨ ∃ b, v1.ownBlock = some b ∧ W.heap.size ≤ b) : V d e w1 base (fun k => ok k ∧ some k ≠ v1.ownBlock) v xs := Fp h (fun _ c => Oc c hg a)
theorem Bj (h : V d e W base (fun k => ok k ∧ some k ≠ v.ownBlock) u xs) (hg : W.grownBy w1 v.ownBlock) (a : v1.ownBlock = v.ownBlock ∨ ∃ b, v1.ownBlock = some b ∧ W.heap.size ≤ b) : V d e w1 base (fun k => ok k ∧ some k ≠ v1.ownBlock) u xs := Oh h hg a
theorem Ef (h : N d e W base (fun k => ok k ∧ some k ≠ v.ownBlock) u xs) (hg : W.grownBy w1 v.ownBlock) (a : v1.ownBlock = v.ownBlock ∨ ∃ b, v1.ownBlock = some b ∧ W.heap.size ≤ b) : N d e w1 base (fun k => ok k ∧ some k ≠ v1.ownBlock) u xs := Og h hg a
theorem BJ (h : V d e W base ok v xs) (a : ∀ k, u.ownBlock = some k → W.heap.size ≤ k) (b : Below W.heap.size W w1) : V d e w1 base (fun k => ok k ∧ some k ≠ u.ownBlock) v xs := Fp h (fun _ c => NF c a b)
theorem Dk (h : V d e W base ok v xs) (a : Nat) (b : W.heap.size ≤ a) : V d e W base (fun k => ok k ∧ k ≠ a) v xs := Fp h (fun _ c => NG c a b)
theorem EO (h : V d e W base ok v xs) (a : Below W.heap.size W w1) : V d e w1 base (fun k => ok k ∧ k < W.heap.size) v xs := Fp h (fun _ b => Pz b a)
theorem Cc (h : V d e w1 base (fun k => ok k ∧ k < N') v xs) (a : ∀ k, u.ownBlock = some k → N' ≤ k) : V d e w1 base (fun k => (ok k ∧ some k ≠ u.ownBlock) ∧ k < N') v xs := Fp h (fun _ b => PS b a)
theorem Fa (h : V d e W base ok (.slice (some ad) n c) xs) (z : α) (i : Int) (l : 0 ≤ i) (h1 : i < n) :
    ∃ cs, cs.length = d.sz ∧ FK d W ok (xs.getD i.toNat z) cs ∧ ∀ j u, cs[j]? = some u → W.cell? (ad.add (i.toNat * d.sz + j)) = some u := by
  obtain ⟨k, cs, g, b, m, a, _⟩ := PG (V_F h) z i l h1; injection g with g; subst g; exact ⟨cs, b, m, a⟩
theorem P7 (h : F d W ok A xs.length xs) (hm : m ≤ xs.length) (b : xs.length ≤ c) : F d W ok (if c = m then A else A.map (·.add (m * d.sz))) (xs.drop m).length (xs.drop m) := PE h (fun _ a => M9 a hm b)
theorem P8 (h : F d W ok A xs.length xs) (h1 : lo ≤ hi) (a : hi ≤ xs.length) (e : xs.length ≤ c) : F d W ok (if c = lo then A else A.map (·.add (lo * d.sz))) ((xs.take hi).drop lo).length ((xs.take hi).drop lo) := PE h (fun _ b => Py b h1 a e)
theorem Dv {M : Nat → Prop} (h : d.R e w1 W.heap.size ok v xs) (a : w.heap.size ≤ W.heap.size) (c : ∀ k, w.heap.size ≤ k → M k) : d.R e w1 W.heap.size (fun k => M k ∧ ok k) v xs := BK (Dz h) (fun k b => ⟨c k (Nat.le_trans a b.2.1), b.1⟩)
end
end Kd
end Go.Proofs.Ytojankgmedccdaa.Wo
end
section
namespace Go.Proofs.Ytojankgmedccdaa.Wo
open Go.Proofs.Ytojankgmedccdaa.Wo (Aside0)
def Gx (md : Region.Mode) (o : Oper) : List Nat := (o.after.toList.filter (fun e => Region.binds md e)).map (fun e => e.on)
def J5 (md : Region.Mode) (ops : Array Oper) (i : Nat) (b : Oper) : List Nat := (List.range ops.size).filter fun j => !(j == i) && match ops[j]? with
  | some a => !(a.after.any (fun e => Region.binds md e && e.on == i) || b.apart ops a)
  | none => false
def DT (md : Region.Mode) (ops : Array Oper) : Bool × List (List Nat × List Nat) := (Region.noSelect ops, (List.range ops.size).map fun i => match ops[i]? with
  | some o => (Gx md o, J5 md ops i o)
  | none => ([], []))
def Eu (T : List (List Nat × List Nat)) (l : List Bool) (i : Nat) : Bool := !l.getD i true && match T[i]? with
  | some r => r.1.all (fun j => l.getD j false)
  | none => false
def Gg (T : List (List Nat × List Nat)) (l : List Bool) : List Nat := (List.range T.length).filter (Eu T l)
def KP (T : List (List Nat × List Nat)) (l : List Bool) (i : Nat) : Bool := match T[i]? with
  | some r => r.2.all (fun j => l.getD j true)
  | none => false
def Ir (T : List (List Nat × List Nat)) (l : List Bool) : Bool := (List.range T.length).all fun j => !l.getD j false || match T[j]? with
  | some r => r.1.all (fun k => l.getD k false)
  | none => true
def IV (T : List (List Nat × List Nat)) (i : Nat) : Nat → Nat → Bool
  | 0, _ => false
  | fuel + 1, d => match T[d]? with
    | some r => r.1.any fun j => j == i || IV T i fuel j
    | none => false
def lastT (T : List (List Nat × List Nat)) (l : List Bool) (ds : List Nat) (i : Nat) : Bool := ds.all fun d => l.getD d true || IV T i T.length d
section
variable {md : Region.Mode} {ops : Array Oper} {T : Bool × List (List Nat × List Nat)} {l l' li lj lk : Array Bool} {ds : List Nat} {i j k : Nat}
theorem gd (l : Array Bool) (j : Nat) (b : Bool) : l.getD j b = l.toList.getD j b := by simp [Array.getD_eq_getD_getElem?, List.getD_eq_getElem?_getD]
theorem Jl (o : Oper) (p : Nat → Bool) : o.after.all (fun e => !Region.binds md e || p e.on) = (Gx md o).all p := by
  unfold Gx; rw [← Array.all_toList]; induction o.after.toList with
  | nil => rfl
  | cons e r a =>
    rw [List.all_cons, a, List.filter_cons]; cases h : Region.binds md e <;> simp
theorem ME (o : Oper) (p : Nat → Bool) : o.after.any (fun e => Region.binds md e && p e.on) = (Gx md o).any p := by
  unfold Gx; rw [← Array.any_toList]; induction o.after.toList with
  | nil => rfl
  | cons e r a =>
    rw [List.any_cons, a, List.filter_cons]; cases h : Region.binds md e <;> simp
theorem Fq : (DT md ops).2.length = ops.size := by simp [DT]
theorem Gy {o : Oper} (h : ops[i]? = some o) : (DT md ops).2[i]? = some (Gx md o, J5 md ops i o) := by
  have hi := (Array.getElem?_eq_some_iff.1 h).1; unfold DT; rw [List.getElem?_map, List.getElem?_range hi, Option.map_some, h]
theorem Gz (h : ops[i]? = none) : (DT md ops).2[i]? = none := by
  have hi : ops.size ≤ i := Array.getElem?_eq_none_iff.1 h; exact List.getElem?_eq_none (by rw [Fq]; exact hi)
theorem LA : Eu (DT md ops).2 l.toList i = (!l.getD i true && ((ops[i]?).map (·.after.all fun e => !Region.binds md e || l.getD e.on false)).getD false) := by
  unfold Eu; rw [gd]; cases h : ops[i]? with
  | none => rw [Gz h]; rfl
  | some o =>
    rw [Gy h]; simp only [Option.map_some, Option.getD_some]; rw [← Jl]; simp only [gd]
theorem ready_eq : Region.ready md ops l = Gg (DT md ops).2 l.toList := by
  unfold Region.ready Gg; rw [Fq]; refine List.filter_congr (fun i _ => ?_); rw [LA]
theorem free_eq : Region.free md ops l i = KP (DT md ops).2 l.toList i := by
  unfold Region.free KP; cases h : ops[i]? with
  | none => rw [Gz h]
  | some b =>
    rw [Gy h]; simp only [J5]; rw [List.all_filter]; congr 1; funext j; rw [gd]; cases hj : ops[j]? with
    | none => cases (j == i) <;> cases (l.toList.getD j true) <;> simp
    | some a =>
      cases (j == i) <;> cases (l.toList.getD j true) <;> cases (a.after.any (fun e => Region.binds md e && e.on == i) || b.apart ops a) <;> simp_all
theorem MF : Region.Hu md ops l = Ir (DT md ops).2 l.toList := by
  unfold Region.Hu Ir; rw [Fq]; congr 1; funext j; rw [gd]; cases h : ops[j]? with
  | none => rw [Gz h]
  | some o =>
    rw [Gy h]; simp only; rw [← Jl]; simp only [gd]
theorem KQ : ∀ (fuel d : Nat), Region.FI md ops i fuel d = IV (DT md ops).2 i fuel d
  | 0, _ => rfl
  | fuel + 1, d => by
    unfold Region.FI IV; cases h : ops[d]? with
    | none => rw [Gz h]
    | some o =>
      rw [Gy h]; simp only; rw [← ME]; congr 1; funext e; rw [KQ fuel]
theorem Oi : Region.lastB md ops l ds i = lastT (DT md ops).2 l.toList ds i := by
  unfold Region.lastB lastT; rw [Fq]; congr 1; funext d; rw [gd, KQ]
theorem Ig (h : Eu T.2 l.toList i = true) (a : DT md ops = T) : (Region.ready md ops l).contains i = true := by
  subst a; rw [ready_eq]; unfold Gg; rw [List.contains_iff_mem, List.mem_filter, List.mem_range]; refine ⟨?_, h⟩; unfold Eu at h; rw [Bool.and_eq_true] at h; cases hq : (DT md ops).2[i]? with
  | none => rw [hq] at h; simp at h
  | some r => exact (List.getElem?_eq_some_iff.1 hq).1
theorem JH (h : (l.toList.set i true == l'.toList) = true) : (l.setIfInBounds i true == l') = true := by
  rw [beq_iff_eq] at h ⊢; apply Array.ext'; rw [Array.toList_setIfInBounds]; exact h
def NK (T : Bool × List (List Nat × List Nat)) (l l' : List Bool) (i : Nat) : Bool := T.1 && KP T.2 l i && Eu T.2 l i && (l.set i true == l')
theorem NL (a : DT md ops = T) (h : NK T l.toList l'.toList i = true) : OY md ops l l' i = true := by
  simp only [NK, Bool.and_eq_true] at h; obtain ⟨⟨⟨h1, b⟩, c⟩, d⟩ := h; have e := Ig c a; have g := JH d; subst a; simp only [OY, Bool.and_eq_true]; exact ⟨⟨⟨h1, by rw [free_eq]; exact b⟩, e⟩, g⟩
def NM (T : Bool × List (List Nat × List Nat)) (ds : List Nat) (l l' : List Bool) (i : Nat) : Bool := T.1 && KP T.2 l i && Eu T.2 l i && Ir T.2 l && lastT T.2 l ds i && (l.set i true == l')
theorem Oj (a : DT md ops = T) (h : NM T ds l.toList l'.toList i = true) : takeB md ops ds l l' i = true := by
  simp only [NM, Bool.and_eq_true] at h; obtain ⟨⟨⟨⟨⟨h1, b⟩, c⟩, d⟩, e⟩, g⟩ := h; have j := Ig c a; have k := JH g; subst a; simp only [takeB, Bool.and_eq_true]; exact ⟨⟨⟨⟨⟨h1, by rw [free_eq]; exact b⟩, j⟩, by rw [MF]; exact d⟩, by rw [Oi]; exact e⟩, k⟩
theorem CQ (b : DT md ops = T) (h : (Gg T.2 l.toList == [i] && l.toList.set i true == l'.toList) = true) : IQ md ops l l' i = true := by
  simp only [Bool.and_eq_true] at h; obtain ⟨h1, a⟩ := h; subst b; simp only [IQ, Bool.and_eq_true]; exact ⟨by rw [ready_eq]; exact h1, JH a⟩
theorem J6 (c : DT md ops = T) (h : (Gg T.2 l.toList == [i, j] && l.toList.set i true == li.toList && l.toList.set j true == lj.toList) = true) : (Region.ready md ops l == [i, j] && l.setIfInBounds i true == li && l.setIfInBounds j true == lj) = true := by
  simp only [Bool.and_eq_true] at h ⊢; obtain ⟨⟨h1, a⟩, b⟩ := h; subst c; exact ⟨⟨by rw [ready_eq]; exact h1, JH a⟩, JH b⟩
theorem Dm (a : DT md ops = T) (h : (Gg T.2 l.toList == []) = true) : (Region.ready md ops l == []) = true := by
  subst a; rw [ready_eq]; exact h
def upM (B : List Nat) (d : Nat) : List Nat → Nat
  | [] => 0
  | n :: r => (2 ^ n ||| (if n < d then B.getD n 0 else 0)) ||| upM B d r
def Cn (T : List (List Nat × List Nat)) (B : List Nat) : Bool := (List.range T.length).all fun d => match T[d]? with
  | some r => (B.getD d 0 ||| upM B d r.1) == upM B d r.1
  | none => false
theorem GR {B : List Nat} {d i : Nat} : ∀ {a : List Nat}, (upM B d a).testBit i = true → ∃ n ∈ a, n = i ∨ (n < d ∧ (B.getD n 0).testBit i = true)
  | [], h => by simp [upM] at h
  | n :: r, h => by
    unfold upM at h; rw [Nat.testBit_or, Nat.testBit_or, Bool.or_eq_true, Bool.or_eq_true] at h; rcases h with (h | h) | h
    · rw [Nat.testBit_two_pow] at h; exact ⟨n, List.mem_cons_self, .inl (by simpa using h)⟩
    · by_cases hn : n < d
      · rw [if_pos hn] at h; exact ⟨n, List.mem_cons_self, .inr ⟨hn, h⟩⟩
      · rw [if_neg hn] at h; simp at h
    · obtain ⟨m, hm, b⟩ := GR h; exact ⟨m, List.mem_cons_of_mem _ hm, b⟩
theorem Jm {T : List (List Nat × List Nat)} {B : List Nat} (a : Cn T B = true) : ∀ (fuel d : Nat), d < fuel → d < T.length → (B.getD d 0).testBit i = true → IV T i fuel d = true
  | 0, d, h, _, _ => by omega
  | fuel + 1, d, h, hd, hb => by
    have h1 := List.all_eq_true.1 a d (List.mem_range.2 hd); cases hr : T[d]? with
    | none => rw [hr] at h1; simp at h1
    | some r =>
      rw [hr] at h1; simp only [beq_iff_eq] at h1; have b : (upM B d r.1).testBit i = true := by rw [← h1, Nat.testBit_or, hb, Bool.true_or]
      obtain ⟨n, hn, c⟩ := GR b; unfold IV; rw [hr]; simp only; rw [List.any_eq_true]; refine ⟨n, hn, ?_⟩; rcases c with rfl | ⟨h4, h5⟩
      · simp
      · rw [Jm a fuel n (by omega) (by omega) h5, Bool.or_true]
def PH (T : List (List Nat × List Nat)) (B : List Nat) (l : List Bool) (ds : List Nat) (i : Nat) : Bool := ds.all fun d => l.getD d true || (decide (d < T.length) && (B.getD d 0).testBit i)
def PI (T : Bool × List (List Nat × List Nat)) (B : List Nat) (ds : List Nat) (l l' : List Bool) (i : Nat) : Bool := T.1 && KP T.2 l i && Eu T.2 l i && Ir T.2 l && PH T.2 B l ds i && (l.set i true == l')
theorem BA {B : List Nat} (m : DT md ops = T) (k : Cn T.2 B = true) (h : PI T B ds l.toList l'.toList i = true) : takeB md ops ds l l' i = true := by
  refine Oj m ?_; simp only [PI, NM, Bool.and_eq_true] at h ⊢; obtain ⟨⟨⟨⟨⟨h1, c⟩, e⟩, g⟩, b⟩, j⟩ := h; refine ⟨⟨⟨⟨⟨h1, c⟩, e⟩, g⟩, ?_⟩, j⟩; unfold PH at b; unfold lastT; rw [List.all_eq_true] at b ⊢; intro d hd; have a := b d hd; rw [Bool.or_eq_true, Bool.and_eq_true, decide_eq_true_eq] at a; rcases a with a | ⟨h8, h9⟩
  · rw [a, Bool.true_or]
  · rw [Jm k _ d h8 h8 h9, Bool.or_true]
theorem CY {P : Program} {Q : Exit → Act → World → Prop} {S : World → Prop} {n : Nat} {a : Act} {w : World} {B : List Nat} (c : DT md ops = T) (b : Cn T.2 B = true) (h : Aside0 (DT md ops = T) → Aside0 (Cn T.2 B = true) → Ba P md ops Q S ds n l a w) : Ba P md ops Q S ds n l a w := h ⟨c⟩ ⟨b⟩
end
def He : Code → Nat → Option (Array Oper)
  | .region id ops _, k => if id == k then some ops else none
  | .seq a b, k => match He a k with
    | some o => some o
    | none => He b k
  | .cond _ a b, k => match He a k with
    | some o => some o
    | none => He b k
  | .block _ c, k => He c k
  | .loop c, k => He c k
  | .scope c, k => He c k
  | .rangeFunc _ _ a b, k => match He a k with
    | some o => some o
    | none => He b k
  | _, _ => none
def opsOf (f : Func) (k : Nat) : Array Oper := ((f.body.bind fun c => He c k)).getD #[]
end Go.Proofs.Ytojankgmedccdaa.Wo
end
section
namespace Go.Proofs.Ytojankgmedccdaa.Wo
section
variable {P : Program} {ops : Array Oper} {Q : Exit → Act → World → Prop} {md : Region.Mode} {S : World → Prop} {ds : List Nat} {T : Bool × List (List Nat × List Nat)}
end
end Go.Proofs.Ytojankgmedccdaa.Wo
end
section
namespace Go.Proofs.Ytojankgmedccdaa.Wo
open Go.RowKit
namespace Kd
section
variable {α : Type} {d : Kd α} {W : World} {g n : Nat} {S ok : Nat → Prop} {A : Option Addr} {ad : Addr} {xs : List α}
end
end Kd
end Go.Proofs.Ytojankgmedccdaa.Wo
end
section
namespace Go.Proofs.Ytojankgmedccdaa.Wo
open Go.RowKit
section
variable {w w' u : World} {m B g : Nat} {o : Obj} {row : Option Nat} {S : Nat → Prop} {a : Addr} {v : Value}
end
namespace Kd
section
variable {α : Type} {d : Kd α} {e base n m : Nat} {ok : Nat → Prop} {w w' : World} {v : Value} {A : Option Addr} {xs : List α}
end
end Kd
end Go.Proofs.Ytojankgmedccdaa.Wo
end
section
namespace Go.Proofs.Ytojankgmedccdaa.Wo
open Go.RowKit
section
variable {P : Program} {d : Nat} {xs ys : Array Value} {f : Field} {fs : List Field} {a b : Value} {r s : Bool} {w : World}
end
end Go.Proofs.Ytojankgmedccdaa.Wo
end
section
namespace Go.Proofs.Ytojankgmedccdaa.Wo
theorem CK.one {α : Type} {R : α → List Value → Prop} {ps : List α} {cs : List Value} {p : α} {v : Value} (hp : R p [v]) (h : CK R 1 ps cs) : CK R 1 (p :: ps) (v :: cs) := by
  refine ⟨by simp [h.1], fun j q a => ?_⟩; cases j with
  | zero =>
    simp only [List.getElem?_cons_zero, Option.some.injEq] at a; subst a; simpa using hp
  | succ j =>
    simp only [List.getElem?_cons_succ] at a; have h1 := h.2 j q a; simpa [Nat.mul_one] using h1
theorem CK.front {α : Type} {R : α → List Value → Prop} {size : Nat} {ps : List α} {cs c all : List Value} {p : α} (hp : R p c) (b : c.length = size) (h : CK R size ps cs) (d : c ++ cs = all) : CK R size (p :: ps) all := by
  subst d; refine ⟨by rw [List.length_append, b, h.1, List.length_cons, Nat.succ_mul, Nat.add_comm], fun j q a => ?_⟩; cases j with
  | zero =>
    simp only [List.getElem?_cons_zero, Option.some.injEq] at a; subst a; rw [Nat.zero_mul, List.drop_zero, List.take_append_of_le_length (by omega), List.take_of_length_le (by omega)]; exact hp
  | succ j =>
    simp only [List.getElem?_cons_succ] at a; have h1 := h.2 j q a; rw [Nat.succ_mul, List.drop_append, List.drop_of_length_le (by rw [b]; exact Nat.le_add_left _ _), List.nil_append, b, Nat.add_sub_cancel]; exact h1
theorem CK.c4 {α : Type} {R : α → List Value → Prop} {ps : List α} {cs : List Value} {p : α} {a vb b c : Value} (hp : R p [a, vb, b, c]) (h : CK R 4 ps cs) : CK R 4 (p :: ps) (a :: vb :: b :: c :: cs) := CK.front hp rfl h rfl
end Go.Proofs.Ytojankgmedccdaa.Wo
end
section
namespace Go.Proofs.Ytojankgmedccdaa.Wo
def up (b : Nat → Bool) (i : Nat) : Nat → Bool := fun j => if j = i then true else b j
theorem CV (b : Nat → Bool) (i : Nat) : up b i i = true := by simp [up]
theorem JI {b : Nat → Bool} {i j : Nat} (h : j ≠ i) : up b i j = b j := by simp [up, h]
def lof (n : Nat) (O : List Nat) (b : Nat → Bool) : List Bool := (List.range n).map fun j => if O.contains j then b j else true
def Ck (a : Act) (b : Nat → Bool) : List (Nat × Tmp × Value) → Act
  | [] => a
  | e :: r => Ck (if b e.1 = true then a.put (some e.2.1) e.2.2 else a) b r
section
variable {P : Program} {ops : Array Oper} {Q : Exit → Act → World → Prop} {md : Region.Mode} {T : Bool × List (List Nat × List Nat)} {B : List Nat} {O : List Nat} {b : Nat → Bool} {i j n : Nat}
theorem LB : (lof n O b).length = n := by simp [lof]
theorem Iu {d : Bool} (a : j < n) : (lof n O b).getD j d = if O.contains j then b j else true := by
  simp [lof, List.getD_eq_getElem?_getD, a]
theorem PU (hi : O.contains i = true) : (lof n O b).set i true = lof n O (up b i) := by
  apply List.ext_getElem?; intro j; by_cases hj : j < n
  · by_cases hij : i = j
    · subst hij; have a : i < (lof n O b).length := by rw [LB]; exact hj
      rw [List.getElem?_set_self a]; simp only [lof, List.getElem?_map, List.getElem?_range hj, Option.map_some, hi, if_true, CV]
    · rw [List.getElem?_set_ne hij]; simp only [lof, List.getElem?_map, List.getElem?_range hj, Option.map_some]; rw [JI (Ne.symm hij)]
  · rw [List.getElem?_eq_none (by simp [lof]; omega), List.getElem?_eq_none (by simp [lof]; omega)]
def Ho (P : Program) (ops : Array Oper) (Q : Exit → Act → World → Prop) (B : List Nat) (O : List Nat) (I : (Nat → Bool) → Act → World → Prop) (i : Nat) : Prop :=
  ∀ b a w, I b a w → b i = false → (∀ j, (O.contains j && (B.getD i 0).testBit j) = true → b j = true) → (∀ d, (O.contains d && (B.getD d 0).testBit i) = true → b d = false) →
    ∃ c, ops[i]? = some c ∧ ∀ K : Act → World → Prop, Shut (∀ a' w', I (up b i) a' w' → K a' w') → if Region.wanted c (yielded ops a.tmps) = true then Oper.wp P c a w K Q else K (a.put c.dst undef) w
theorem GA {I : (Nat → Bool) → Act → World → Prop} : ∀ i ∈ ([] : List Nat), Ho P ops Q B O I i := fun _ h => by cases h
theorem Ak {I : (Nat → Bool) → Act → World → Prop} {b : List Nat} (h : Ho P ops Q B O I i) (hs : ∀ j ∈ b, Ho P ops Q B O I j) : ∀ j ∈ i :: b, Ho P ops Q B O I j := fun j a => by
  rcases List.mem_cons.1 a with rfl | a
  · exact h
  · exact hs j a
def Fb (T : List (List Nat × List Nat)) (O : List Nat) : Bool :=
  (List.range T.length).all (fun d => match T[d]? with
    | some r => (O.contains d || r.1.all fun n => !O.contains n) && r.1.all fun n => decide (n < d)
    | none => false) && O.all (fun i => decide (i < T.length)) && decide O.Nodup
theorem Eo {T : List (List Nat × List Nat)} (h : Fb T O = true) {d : Nat} {r : List Nat × List Nat} (hr : T[d]? = some r) : (O.contains d = false → ∀ n ∈ r.1, O.contains n = false) ∧ ∀ n ∈ r.1, n < d := by
  simp only [Fb, Bool.and_eq_true] at h; have h1 := List.all_eq_true.1 h.1.1 d (List.mem_range.2 (List.getElem?_eq_some_iff.1 hr).1); rw [hr] at h1; simp only [Bool.and_eq_true, Bool.or_eq_true, List.all_eq_true, decide_eq_true_eq] at h1; refine ⟨fun hd n hn => ?_, h1.2⟩; rcases h1.1 with h2 | h2
  · rw [hd] at h2; cases h2
  · simpa using h2 n hn
theorem Jn {T : List (List Nat × List Nat)} (h : Fb T O = true) {i : Nat} (hi : i ∈ O) : i < T.length := by
  simp only [Fb, Bool.and_eq_true] at h; simpa using List.all_eq_true.1 h.1.2 i hi
theorem J7 {T : List (List Nat × List Nat)} (h : Fb T O = true) : O.Nodup := by
  simp only [Fb, Bool.and_eq_true] at h; exact of_decide_eq_true h.2
def Closed (T : List (List Nat × List Nat)) (O : List Nat) (b : Nat → Bool) : Prop := ∀ d r, T[d]? = some r → O.contains d = true → b d = true → ∀ n ∈ r.1, O.contains n = true → b n = true
theorem KR {T : List (List Nat × List Nat)} (l : Cn T B = true) (k : Fb T O = true) : ∀ (m d : Nat), d ≤ m → d < T.length → O.contains d = false → ∀ j, (B.getD d 0).testBit j = true → O.contains j = false := by
  intro m; induction m with
  | zero =>
    intro d hd b i j g; have e : d = 0 := by omega
    subst e; have hr : T[0]? = some T[0] := List.getElem?_eq_getElem b; have h1 := List.all_eq_true.1 l 0 (List.mem_range.2 b); rw [hr] at h1; simp only [beq_iff_eq] at h1; have c : (upM B 0 T[0].1).testBit j = true := by rw [← h1, Nat.testBit_or, g, Bool.true_or]
    obtain ⟨n, hn, h⟩ := GR c; have := (Eo k hr).2 n hn; omega
  | succ m o =>
    intro d hd b i j g; have hr : T[d]? = some T[d] := List.getElem?_eq_getElem b; have h1 := List.all_eq_true.1 l d (List.mem_range.2 b); rw [hr] at h1; simp only [beq_iff_eq] at h1; have c : (upM B d T[d].1).testBit j = true := by rw [← h1, Nat.testBit_or, g, Bool.true_or]
    obtain ⟨n, hn, h⟩ := GR c; have a := (Eo k hr).1 i n hn; rcases h with rfl | ⟨h4, h5⟩
    · exact a
    · exact o n (by omega) (by omega) a j h5
theorem Ih {T : List (List Nat × List Nat)} (l : Cn T B = true) (q : Fb T O = true) (p : Closed T O b) : ∀ (m d : Nat), d ≤ m → d < T.length → O.contains d = true → b d = true → ∀ j, O.contains j = true → (B.getD d 0).testBit j = true → b j = true := by
  intro m; induction m with
  | zero =>
    intro d hd c g h j a k; have i : d = 0 := by omega
    subst i; have hr : T[0]? = some T[0] := List.getElem?_eq_getElem c; have h1 := List.all_eq_true.1 l 0 (List.mem_range.2 c); rw [hr] at h1; simp only [beq_iff_eq] at h1; have e : (upM B 0 T[0].1).testBit j = true := by rw [← h1, Nat.testBit_or, k, Bool.true_or]
    obtain ⟨n, hn, o⟩ := GR e; have := (Eo q hr).2 n hn; omega
  | succ m r =>
    intro d hd c g h j a k; have hr : T[d]? = some T[d] := List.getElem?_eq_getElem c; have h1 := List.all_eq_true.1 l d (List.mem_range.2 c); rw [hr] at h1; simp only [beq_iff_eq] at h1; have e : (upM B d T[d].1).testBit j = true := by rw [← h1, Nat.testBit_or, k, Bool.true_or]
    obtain ⟨n, hn, o⟩ := GR e; rcases o with rfl | ⟨h4, h5⟩
    · exact p d _ hr g h n hn a
    · cases hO2 : O.contains n with
      | true => exact r n (by omega) (by omega) hO2 (p d _ hr g h n hn hO2) j a h5
      | false =>
        have := KR l q n n (Nat.le_refl _) (by omega) hO2 j h5; rw [a] at this; cases this
theorem KS : ∀ {O : List Nat}, O.Nodup → i ∈ O → b i = false → (O.filter fun j => !up b i j).length + 1 = (O.filter fun j => !b j).length
  | [], _, hi, _ => by cases hi
  | x :: r, hn, hi, hb => by
    rw [List.nodup_cons] at hn; rcases List.mem_cons.1 hi with rfl | hi
    · have h1 : (r.filter fun j => !up b i j) = r.filter fun j => !b j := by
        refine List.filter_congr (fun j c => ?_); rw [JI (fun e => hn.1 (by rw [← e]; exact c))]
      rw [List.filter_cons, List.filter_cons]; simp [CV, hb, h1]
    · have a : x ≠ i := fun e => hn.1 (e ▸ hi); have h1 := KS hn.2 hi hb; rw [List.filter_cons, List.filter_cons, JI a]; cases hbx : b x
      · simp only [Bool.not_false, if_true, List.length_cons]; omega
      · simpa using h1
theorem Ol (hT : DT md ops = T) (hw : Cn T.2 B = true) (z : Fb T.2 O = true) (I : (Nat → Bool) → Act → World → Prop) (hs : ∀ i ∈ O, Ho P ops Q B O I i)
    (U : ∀ b a w, (∀ j, O.contains j = true → b j = true) → I b a w → Q .normal a w) :
    ∀ (m : Nat) (b : Nat → Bool) (a : Act) (w : World), (O.filter fun j => !b j).length = m → Closed T.2 O b → I b a w → Ba P md ops Q (fun _ => True) [] m (lof T.2.length O b).toArray a w := by
  subst hT; have c : ∀ {b : Nat → Bool} {i : Nat}, i ∈ Region.ready md ops (lof (DT md ops).2.length O b).toArray → i < (DT md ops).2.length ∧ O.contains i = true ∧ b i = false ∧ ∀ r, (DT md ops).2[i]? = some r → ∀ n ∈ r.1, n < (DT md ops).2.length → O.contains n = true → b n = true := by
    intro b i hi; rw [ready_eq] at hi; unfold Gg at hi; rw [List.mem_filter, List.mem_range] at hi; obtain ⟨D, h1⟩ := hi; unfold Eu at h1; rw [Bool.and_eq_true, Iu D] at h1; obtain ⟨e, J⟩ := h1; have h4 : O.contains i = true := by
      cases h : O.contains i with
      | true => rfl
      | false => rw [h] at e; simp at e
    rw [h4] at e; refine ⟨D, h4, by simpa using e, fun r hr n hn jB p => ?_⟩; rw [hr] at J; simp only [List.all_eq_true] at J; have L := J n hn; rw [Iu jB, p] at L; simpa using L
  intro m; induction m with
  | zero =>
    intro b a w hm hc hI; have G : ∀ j, O.contains j = true → b j = true := by
      intro j y; cases u : b j with
      | true => rfl
      | false =>
        have : j ∈ O.filter fun j => !b j := List.mem_filter.2 ⟨List.contains_iff_mem.1 y, by simp [u]⟩; rw [List.eq_nil_of_length_eq_zero hm] at this; cases this
    refine ⟨?_, U b a w G hI⟩; refine List.eq_nil_iff_forall_not_mem.2 (fun i hi => ?_); obtain ⟨_, h1, e, _⟩ := c hi; rw [G i h1] at e; cases e
  | succ m ih =>
    intro b a w hm hc hI; refine ⟨fun hr => ?_, fun i hi => ?_⟩
    · exfalso; have hex : ∃ i, O.contains i = true ∧ b i = false := by
        cases hf : O.filter (fun j => !b j) with
        | nil => rw [hf] at hm; simp at hm
        | cons x r =>
          have hx : x ∈ O.filter (fun j => !b j) := by rw [hf]; exact List.mem_cons_self
          rw [List.mem_filter] at hx; exact ⟨x, List.contains_iff_mem.2 hx.1, by simpa using hx.2⟩
      have X : ∀ k, (∃ i, i ≤ k ∧ O.contains i = true ∧ b i = false) → ∃ i, O.contains i = true ∧ b i = false ∧ ∀ j, j < i → O.contains j = true → b j = true := by
        intro k; induction k with
        | zero =>
          rintro ⟨i, hi, h1, e⟩; exact ⟨i, h1, e, fun j y => by omega⟩
        | succ k qB =>
          rintro ⟨i, hi, h1, e⟩; by_cases o : ∃ j, j ≤ k ∧ O.contains j = true ∧ b j = false
          · exact qB o
          · refine ⟨i, h1, e, fun j y p => ?_⟩; cases u : b j with
            | true => rfl
            | false => exact absurd ⟨j, by omega, p, u⟩ o
      obtain ⟨i0, h1, e⟩ := hex; obtain ⟨i, p, u, o⟩ := X i0 ⟨i0, Nat.le_refl _, h1, e⟩; have D := Jn z (List.contains_iff_mem.1 p); have W : i ∈ Region.ready md ops (lof (DT md ops).2.length O b).toArray := by
        rw [ready_eq]; unfold Gg; rw [List.mem_filter, List.mem_range]; refine ⟨D, ?_⟩; unfold Eu; rw [Iu D, p, u]; have l : (DT md ops).2[i]? = some (DT md ops).2[i] := List.getElem?_eq_getElem D; rw [l]; simp only [if_true, Bool.not_false, Bool.true_and, List.all_eq_true]; intro n hn; have q := (Eo z l).2 n hn; rw [Iu (by omega)]; cases s : O.contains n with
        | true => simpa using o n q s
        | false => simp
      rw [hr] at W; cases W
    · obtain ⟨D, p, u, g⟩ := c hi; have lB : ∀ j, (O.contains j && (B.getD i 0).testBit j) = true → b j = true := by
        intro j y; rw [Bool.and_eq_true] at y; have l : (DT md ops).2[i]? = some (DT md ops).2[i] := List.getElem?_eq_getElem D; have h1 := List.all_eq_true.1 hw i (List.mem_range.2 D); rw [l] at h1; simp only [beq_iff_eq] at h1; have e : (upM B i (DT md ops).2[i].1).testBit j = true := by rw [← h1, Nat.testBit_or, y.2, Bool.true_or]
        obtain ⟨n, hn, J⟩ := GR e; have q := (Eo z l).2 n hn; rcases J with rfl | ⟨h4, L⟩
        · exact g _ l n hn (by omega) y.1
        · cases hO2 : O.contains n with
          | true => exact Ih hw z hc n n (Nat.le_refl _) (by omega) hO2 (g _ l n hn (by omega) hO2) j y.1 L
          | false =>
            have := KR hw z n n (Nat.le_refl _) (by omega) hO2 j L; rw [y.1] at this; cases this
      have Y : ∀ d, (O.contains d && (B.getD d 0).testBit i) = true → b d = false := by
        intro d hd; rw [Bool.and_eq_true] at hd; cases v : b d with
        | false => rfl
        | true =>
          have hB := Jn z (List.contains_iff_mem.1 hd.1); have := Ih hw z hc d d (Nat.le_refl _) hB hd.1 v i p hd.2; rw [u] at this; cases this
      obtain ⟨oi, kB, hK⟩ := hs i (List.contains_iff_mem.1 p) b a w hI u lB Y; refine wpOp_step kB (fun K' fB => hK K' (fun a' w' eB => fB a' w' ⟨fun _ _ => trivial, ?_⟩)); have Z : (lof (DT md ops).2.length O b).toArray.setIfInBounds i true = (lof (DT md ops).2.length O (up b i)).toArray := by
        apply Array.ext'; rw [Array.toList_setIfInBounds]; exact PU p
      rw [Z]; refine ih (up b i) a' w' ?_ ?_ eB
      · have := KS (J7 z) (List.contains_iff_mem.1 p) u; omega
      · intro d r hr gB v n hn s; by_cases q : n = i
        · rw [q, CV]
        · rw [JI q]; by_cases hdi : d = i
          · subst hdi; exact g r hr n hn (by have := (Eo z hr).2 n hn; omega) s
          · rw [JI hdi] at v; exact hc d r hr gB v n hn s
theorem C8 {b : Nat → Bool} {t : Tmp} : ∀ {L : List (Nat × Tmp × Value)} {a : Act}, (L.all fun e => !(e.2.1 == t)) = true → (Ck a b L).tmps[t]? = a.tmps[t]?
  | [], _, _ => rfl
  | e :: r, a, h => by
    rw [List.all_cons, Bool.and_eq_true] at h; have c : e.2.1 ≠ t := by simpa using h.1
    unfold Ck; by_cases hb : b e.1 = true
    · rw [if_pos hb, C8 h.2]; simp [Act.put, Array.getElem?_setIfInBounds_ne c]
    · rw [if_neg hb]; exact C8 h.2
theorem BB {b : Nat → Bool} {e : Nat × Tmp × Value} : ∀ {L : List (Nat × Tmp × Value)} {a : Act} (k : Nat), L[k]? = some e → ((L.drop (k + 1)).all fun x => !(x.2.1 == e.2.1)) = true → b e.1 = true → Nat.ble (e.2.1 + 1) a.tmps.size = true → (Ck a b L).tmps[e.2.1]? = some e.2.2
  | [], _, _, h, _, _, _ => by cases h
  | x :: r, a, 0, h, hd, hb, ht => by
    simp only [List.getElem?_cons_zero, Option.some.injEq] at h; subst h; unfold Ck; rw [if_pos hb, C8 (by simpa using hd)]; have c : x.2.1 < a.tmps.size := Nat.le_of_ble_eq_true ht; simp [Act.put, c]
  | x :: r, a, k + 1, h, hd, hb, ht => by
    unfold Ck; refine BB k (by simpa using h) (by simpa using hd) hb ?_; by_cases hx : b x.1 = true
    · rw [if_pos hx]; simpa [Act.put] using ht
    · rw [if_neg hx]; exact ht
theorem put_comm {a : Act} {s t : Tmp} {u v : Value} (h : s ≠ t) : (a.put (some s) u).put (some t) v = (a.put (some t) v).put (some s) u := by
  simp only [Act.put]; rw [Array.setIfInBounds_comm _ _ h]
theorem Hq {b : Nat → Bool} {t : Tmp} {v : Value} : ∀ {L : List (Nat × Tmp × Value)} {a : Act}, (L.all fun e => !(e.2.1 == t)) = true → (Ck a b L).put (some t) v = Ck (a.put (some t) v) b L
  | [], _, _ => rfl
  | e :: r, a, h => by
    rw [List.all_cons, Bool.and_eq_true] at h; have c : e.2.1 ≠ t := by simpa using h.1
    unfold Ck; by_cases hb : b e.1 = true
    · rw [if_pos hb, if_pos hb, Hq h.2, put_comm c]
    · rw [if_neg hb, if_neg hb]; exact Hq h.2
theorem Gh {b : Nat → Bool} {i : Nat} : ∀ {L : List (Nat × Tmp × Value)} {a : Act}, (L.all fun e => !(e.1 == i)) = true → Ck a (up b i) L = Ck a b L
  | [], _, _ => rfl
  | e :: r, a, h => by
    rw [List.all_cons, Bool.and_eq_true] at h; have c : e.1 ≠ i := by simpa using h.1
    unfold Ck; rw [JI c]; exact Gh h.2
theorem Jo {b : Nat → Bool} {i : Nat} {t : Tmp} {v0 v : Value} : ∀ {g c : List (Nat × Tmp × Value)} {a : Act}, b i = false → ((g ++ c).all fun e => !(e.1 == i) && !(e.2.1 == t)) = true →
    (Ck a b (g ++ (i, t, v0) :: c)).put (some t) v = Ck a (up b i) (g ++ (i, t, v) :: c)
  | [], c, a, hb, h => by
    simp only [List.nil_append] at h ⊢; have h1 : (c.all fun e => !(e.1 == i)) = true := List.all_eq_true.2 (fun e d => by have := List.all_eq_true.1 h e d; simp only [Bool.and_eq_true] at this; exact this.1); have j : (c.all fun e => !(e.2.1 == t)) = true := List.all_eq_true.2 (fun e d => by have := List.all_eq_true.1 h e d; simp only [Bool.and_eq_true] at this; exact this.2); unfold Ck; rw [if_neg (by rw [hb]; decide), if_pos (CV b i), Hq j, Gh h1]
  | e :: r, c, a, hb, h => by
    simp only [List.cons_append, List.all_cons, Bool.and_eq_true] at h; have d : e.1 ≠ i := by simpa using h.1.1
    simp only [List.cons_append]; unfold Ck; rw [JI d]; exact Jo hb h.2
theorem Av {b : Nat → Bool} {i : Nat} {t : Tmp} {v0 v : Value} {a : Act} {L c : List (Nat × Tmp × Value)} (k : Nat) (l : b i = false) (g : L[k]? = some (i, t, v0)) (d : L.set k (i, t, v) = c) (hd : ((L.take k ++ L.drop (k + 1)).all fun e => !(e.1 == i) && !(e.2.1 == t)) = true) :
    (Ck a b L).put (some t) v = Ck a (up b i) c := by
  have m := (List.getElem?_eq_some_iff.1 g).1; have h1 : L = L.take k ++ (i, t, v0) :: L.drop (k + 1) := by
    have h : L[k] = (i, t, v0) := (List.getElem?_eq_some_iff.1 g).2; rw [← h, List.getElem_cons_drop, List.take_append_drop]
  have j : c = L.take k ++ (i, t, v) :: L.drop (k + 1) := by rw [← d, List.set_eq_take_append_cons_drop, if_pos m]
  rw [j]; conv => lhs; rw [h1]
  exact Jo l hd
theorem Ey {b : Nat → Bool} {i : Nat} {L : List (Nat × Tmp × Value)} {a : Act} {v : Value} (h : (L.all fun e => !(e.1 == i)) = true) : (Ck a b L).put none v = Ck a (up b i) L := (Gh h).symm
theorem Qc {l : Array Bool} {fuel : Nat} {a : Act} {w : World} (O : List Nat) (I : (Nat → Bool) → Act → World → Prop) (k : DT md ops = T) (o : Cn T.2 B = true) (n : Fb T.2 O = true)
    (e : (lof T.2.length O (fun _ => false) == l.toList && O.length == fuel) = true) (g : I (fun _ => false) a w) (hs : ∀ i ∈ O, Ho P ops Q B O I i)
    (c : ∀ b a w, (∀ j, O.contains j = true → b j = true) → I b a w → Q .normal a w) : Ba P md ops Q (fun _ => True) [] fuel l a w := by
  rw [Bool.and_eq_true, beq_iff_eq, beq_iff_eq] at e; have h1 := Ol k o n I hs c fuel (fun _ => false) a w (by rw [← e.2]; simp) (fun d r _ _ m => by cases m) g; have h : (lof T.2.length O (fun _ => false)).toArray = l := by apply Array.ext'; exact e.1
  rw [h] at h1; exact h1
theorem JJ {l : Array Bool} {fuel : Nat} {a : Act} {w : World} (O : List Nat) (I : Act → (Nat → Bool) → Act → World → Prop) (e : DT md ops = T) (k : Cn T.2 B = true) (g : Fb T.2 O = true)
    (h : (lof T.2.length O (fun _ => false) == l.toList && O.length == fuel) = true) (d : I a (fun _ => false) a w) (hs : ∀ i ∈ O, Ho P ops Q B O (I a) i)
    (c : ∀ b a' w, (∀ j, O.contains j = true → b j = true) → I a b a' w → Q .normal a' w) : Ba P md ops Q (fun _ => True) [] fuel l a w := Qc O (I a) e k g h d hs c
end
end Go.Proofs.Ytojankgmedccdaa.Wo
end
section
namespace Go.Proofs.Ytojankgmedccdaa.Wo
open Go.RowKit
end Go.Proofs.Ytojankgmedccdaa.Wo
namespace Go.Proofs.Ytojankgmedccdaa.Wo
section
variable {ops : Array Oper} {a : Act} {o og : Oper} {g : Nat} {t : Tmp} {u : Bool}
end
end Go.Proofs.Ytojankgmedccdaa.Wo
end
section
namespace Go.Proofs.Ytojankgmedccdaa.Wo
open Go.RowKit
section
variable {P : Program} {ops : Array Oper} {rest : List Oper} {o : Oper} {a : Act} {Q : Exit → Act → World → Prop} {W : World}
theorem D7 (b : Region.wanted o (yielded ops a.tmps) = true) (h : wpList P ops Q ({ o with guard := none } :: rest) a W) : wpList P ops Q (o :: rest) a W := by
  have h1 : Region.wanted { o with guard := none } (yielded ops a.tmps) = true := rfl; unfold wpList at h ⊢; rw [if_pos h1] at h; rw [if_pos b]; exact h
end
end Go.Proofs.Ytojankgmedccdaa.Wo
end
