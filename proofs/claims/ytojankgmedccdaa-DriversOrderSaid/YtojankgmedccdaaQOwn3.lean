/- Part of the proof of LawDriversOrder: every definition and lemma is one that it names. -/
import Derived.Test.YtojankgmedccdaaQOwn2
namespace Go.Proofs.Ytojankgmedccdaa.Own
open Go.RowKit YtojankgmedccdaaW.PrintWords YtojankgmedccdaaW.PrintLast
section
variable {α β : Type} {x y : Option β} {r : β}
theorem sI {a : β} (h : some a = some r) : a = r := Option.some.inj h
theorem bS {o : Option α} {f : α → Option β} (h : o.bind f = some r) : ∃ t, Aside0 (o = some t) ∧ f t = some r := by
  obtain ⟨t, a, b⟩ := Option.bind_eq_some_iff.mp h; exact ⟨t, ⟨a⟩, b⟩
theorem iB {t : Bool} (h : (if t = true then x else y) = some r) : (t = true ∧ x = some r) ∨ (t = false ∧ y = some r) := by
  cases t
  · exact .inr ⟨rfl, by simpa using h⟩
  · exact .inl ⟨rfl, by simpa using h⟩
theorem iB' {t : Bool} (h : (if t = true then x else y) = some r) : (t = false ∧ y = some r) ∨ (t = true ∧ x = some r) := (iB h).symm
theorem iE [BEq α] [LawfulBEq α] {a b : α} {d : Decidable (a = b)} (h : (if a = b then x else y) = some r) : ((a == b) = true ∧ (a != b) = false ∧ x = some r) ∨ (¬ a = b ∧ (a == b) = false ∧ (a != b) = true ∧ y = some r) := by
  by_cases c : a = b
  · rw [if_pos c] at h; exact .inl ⟨beq_iff_eq.mpr c, bne_eq_false_iff_eq.mpr c, h⟩
  · rw [if_neg c] at h; exact .inr ⟨c, beq_eq_false_iff_ne.mpr c, bne_iff_ne.mpr c, h⟩
theorem iE' [BEq α] [LawfulBEq α] {a b : α} {d : Decidable (a = b)} (h : (if a = b then x else y) = some r) : (¬ a = b ∧ (a == b) = false ∧ (a != b) = true ∧ y = some r) ∨ ((a == b) = true ∧ (a != b) = false ∧ x = some r) := (iE h).symm
theorem iF [BEq α] [LawfulBEq α] {a b : α} {d : Decidable (a = b)} (h : (if a = b then x else y) = some r) : (a = b ∧ (a == b) = true ∧ (a != b) = false ∧ x = some r) ∨ (¬ a = b ∧ (a == b) = false ∧ (a != b) = true ∧ y = some r) := by
  by_cases c : a = b
  · rw [if_pos c] at h; exact .inl ⟨c, beq_iff_eq.mpr c, bne_eq_false_iff_eq.mpr c, h⟩
  · rw [if_neg c] at h; exact .inr ⟨c, beq_eq_false_iff_ne.mpr c, bne_iff_ne.mpr c, h⟩
theorem iF' [BEq α] [LawfulBEq α] {a b : α} {d : Decidable (a = b)} (h : (if a = b then x else y) = some r) : (¬ a = b ∧ (a == b) = false ∧ (a != b) = true ∧ y = some r) ∨ (a = b ∧ (a == b) = true ∧ (a != b) = false ∧ x = some r) := (iF h).symm
theorem iD {p : Prop} {d : Decidable p} (h : (if p then x else y) = some r) : (p ∧ decide p = true ∧ x = some r) ∨ (¬ p ∧ decide p = false ∧ y = some r) := by
  by_cases c : p
  · rw [if_pos c] at h; exact .inl ⟨c, decide_eq_true c, h⟩
  · rw [if_neg c] at h; exact .inr ⟨c, decide_eq_false c, h⟩
theorem iD' {p : Prop} {d : Decidable p} (h : (if p then x else y) = some r) : (¬ p ∧ decide p = false ∧ y = some r) ∨ (p ∧ decide p = true ∧ x = some r) := (iD h).symm
theorem iN {p : Prop} {d : Decidable p} (h : (if p then x else none) = some r) : p ∧ decide p = true ∧ x = some r := by
  by_cases c : p
  · rw [if_pos c] at h; exact ⟨c, decide_eq_true c, h⟩
  · rw [if_neg c] at h; cases h
end
section
variable {P : Program} {ops : Array Oper} {Q : Exit → Act → World → Prop} {rest : List Oper} {oi : Oper} {a : Act} {w : World}
theorem goB (N : Option Tmp) (hd : oi.dst = N) (hg : oi.guard = none) {f : FuncId} {fn : Func} {as_ : Array Operand} {ts : Array TypeId} (hf : P.funcs[f]? = some fn) (hname : (fn.name == "runtime.NumGoroutine") = false) (hb : fn.body.isSome = true) (args : Array Value)
    (hop : oi.op = .call { callee := .value (.func f), args := as_, argTypes := ts }) (hargs : as_.toList.map a.eval = args.toList) {v : Value} (hc : Calls P f args w fun e w' => e = .returned v ∧ Below w.heap.size w w')
    (h : ∀ w', Below w.heap.size w w' → wpList P ops Q rest (a.put N v) w') : wpList P ops Q (oi :: rest) a w :=
  goesL_ N hd hg hf hname hb args hop (by cases as_; cases args; simp only [List.map_toArray]; exact congrArg _ hargs) (hc.mono fun e w' hh => ⟨v, hh.1, h w' hh.2⟩)
theorem goD (N : Option Tmp) (hd : oi.dst = N) (hg : oi.guard = none) {f : FuncId} {fn : Func} {as_ : Array Operand} {ts : Array TypeId} (hf : P.funcs[f]? = some fn) (hname : (fn.name == "runtime.NumGoroutine") = false) (hb : fn.body.isSome = true) (args : Array Value)
    (hop : oi.op = .call { callee := .value (.func f), args := as_, argTypes := ts }) (hargs : as_.toList.map a.eval = args.toList) {v : Value} (hc : Calls P f args w fun e w' => e = .returned v ∧ Drawn0 w w')
    (h : ∀ n, wpList P ops Q rest (a.put N v) (w.drewN n)) : wpList P ops Q (oi :: rest) a w :=
  goesL_ N hd hg hf hname hb args hop (by cases as_; cases args; simp only [List.map_toArray]; exact congrArg _ hargs) (hc.mono fun e w' hh => ⟨v, hh.1, by obtain ⟨n, rfl⟩ := hh.2; exact h n⟩)
end
section
variable {w0 w W W' : World} {g g1 g2 g3 g4 : Nat} {o : Obj}
theorem kb (h : Aside0 (w.heap[g]? = some o)) (hb : Below W.heap.size W W') [Up w W] : Aside0 (W'.heap[g]? = some o) := ⟨blk_below (blk_up h.out) hb⟩
theorem kh (h : Aside0 (Below w0.heap.size w0 w)) (hb : Below W.heap.size W W') [Up w W] : Aside0 (Below w0.heap.size w0 W') := ⟨below_step (bel h.out) hb⟩
theorem kh1 (h : Aside0 (Below w0.heap.size w0 w)) (h1 : Aside0 (w0.heap.size ≤ g1)) (hb : Below W.heap.size W W') [Up1 g1 w W] : Aside0 (Below w0.heap.size w0 W') := ⟨below_step (bel1 h.out h1.out) hb⟩
theorem kh2 (h : Aside0 (Below w0.heap.size w0 w)) (h1 : Aside0 (w0.heap.size ≤ g1)) (h2 : Aside0 (w0.heap.size ≤ g2)) (hb : Below W.heap.size W W') [Up2 g1 g2 w W] : Aside0 (Below w0.heap.size w0 W') := ⟨below_step (bel2 h.out h1.out h2.out) hb⟩
theorem kh3 (h : Aside0 (Below w0.heap.size w0 w)) (h1 : Aside0 (w0.heap.size ≤ g1)) (h2 : Aside0 (w0.heap.size ≤ g2)) (h3 : Aside0 (w0.heap.size ≤ g3)) (hb : Below W.heap.size W W') [Up3 g1 g2 g3 w W] : Aside0 (Below w0.heap.size w0 W') := ⟨below_step (bel3 h.out h1.out h2.out h3.out) hb⟩
theorem kh4 (h : Aside0 (Below w0.heap.size w0 w)) (h1 : Aside0 (w0.heap.size ≤ g1)) (h2 : Aside0 (w0.heap.size ≤ g2)) (h3 : Aside0 (w0.heap.size ≤ g3)) (h4 : Aside0 (w0.heap.size ≤ g4)) (hb : Below W.heap.size W W') [Up4 g1 g2 g3 g4 w W] : Aside0 (Below w0.heap.size w0 W') := ⟨below_step (bel4 h.out h1.out h2.out h3.out h4.out) hb⟩
theorem be (h : Aside0 (Below w0.heap.size w0 w)) [Up w W] : Below w0.heap.size w0 W := bel h.out
theorem be1 (h : Aside0 (Below w0.heap.size w0 w)) (h1 : Aside0 (w0.heap.size ≤ g1)) [Up1 g1 w W] : Below w0.heap.size w0 W := bel1 h.out h1.out
theorem be2 (h : Aside0 (Below w0.heap.size w0 w)) (h1 : Aside0 (w0.heap.size ≤ g1)) (h2 : Aside0 (w0.heap.size ≤ g2)) [Up2 g1 g2 w W] : Below w0.heap.size w0 W := bel2 h.out h1.out h2.out
theorem be3 (h : Aside0 (Below w0.heap.size w0 w)) (h1 : Aside0 (w0.heap.size ≤ g1)) (h2 : Aside0 (w0.heap.size ≤ g2)) (h3 : Aside0 (w0.heap.size ≤ g3)) [Up3 g1 g2 g3 w W] : Below w0.heap.size w0 W := bel3 h.out h1.out h2.out h3.out
theorem be4 (h : Aside0 (Below w0.heap.size w0 w)) (h1 : Aside0 (w0.heap.size ≤ g1)) (h2 : Aside0 (w0.heap.size ≤ g2)) (h3 : Aside0 (w0.heap.size ≤ g3)) (h4 : Aside0 (w0.heap.size ≤ g4)) [Up4 g1 g2 g3 g4 w W] : Below w0.heap.size w0 W := bel4 h.out h1.out h2.out h3.out h4.out
theorem bu (h : Aside0 (w.heap[g]? = some o)) [Up w W] : W.heap[g]? = some o := blk_up h.out
theorem bs (h : Below w0.heap.size w0 W) (hg : g = W.heap.size) : Aside0 (w0.heap.size ≤ g) := ⟨by rw [hg]; exact below_size h⟩
theorem nb1 (h : W.heap[g]? = some o) (hg : g1 = W.heap.size) : Aside0 (g ≠ g1) := ⟨by rw [hg]; exact Nat.ne_of_lt (blk_lt h)⟩
theorem nb2 (h : W.heap[g]? = some o) (hg : g1 = W.heap.size) : Aside0 (g1 ≠ g) := ⟨by rw [hg]; exact Nat.ne_of_gt (blk_lt h)⟩
theorem cu {α : Type} {d : Kd α} {A : Option Addr} {n : Nat} {xs : List α} (h : Aside0 (d.C w0 A n xs)) (hb : Aside0 (Below w0.heap.size w0 w)) [Up w W] : d.C W A n xs := C_up (Kd.C_below h.out hb.out)
end
class Up5 (g1 g2 g3 g4 g5 : Nat) (w W : World) : Prop where
  up : ∀ w0 : World, Below w0.heap.size w0 w → w0.heap.size ≤ g1 → w0.heap.size ≤ g2 → w0.heap.size ≤ g3 → w0.heap.size ≤ g4 → w0.heap.size ≤ g5 → Below w0.heap.size w0 W
section
variable {g1 g2 g3 g4 g5 : Nat}
instance up5_0 (w : World) : Up5 g1 g2 g3 g4 g5 w w := ⟨fun _ h _ _ _ _ _ => h⟩
instance up5_1 {w W : World} [h : Up5 g1 g2 g3 g4 g5 w W] (o : Obj) : Up5 g1 g2 g3 g4 g5 w (W.alloc o) := ⟨fun w0 hb h1 h2 h3 h4 h5 => below_alloc (h.up w0 hb h1 h2 h3 h4 h5) o⟩
instance up5_2 {w W : World} [h : Up5 g1 g2 g3 g4 g5 w W] (n : Nat) : Up5 g1 g2 g3 g4 g5 w (W.drewN n) := ⟨fun w0 hb h1 h2 h3 h4 h5 => pw_below_drewN (h.up w0 hb h1 h2 h3 h4 h5) n⟩
instance up5_3 {w W : World} [h : Up5 g1 g2 g3 g4 g5 w W] : Up5 g1 g2 g3 g4 g5 w W.drew := ⟨fun w0 hb h1 h2 h3 h4 h5 => below_drew1 (h.up w0 hb h1 h2 h3 h4 h5)⟩
instance up5_s1 {w W : World} [h : Up5 g1 g2 g3 g4 g5 w W] (j : Nat) (v : Value) : Up5 g1 g2 g3 g4 g5 w (W.setCell ⟨g1, j, none⟩ v) := ⟨fun w0 hb h1 h2 h3 h4 h5 => below_set (h.up w0 hb h1 h2 h3 h4 h5) h1⟩
instance up5_s2 {w W : World} [h : Up5 g1 g2 g3 g4 g5 w W] (j : Nat) (v : Value) : Up5 g1 g2 g3 g4 g5 w (W.setCell ⟨g2, j, none⟩ v) := ⟨fun w0 hb h1 h2 h3 h4 h5 => below_set (h.up w0 hb h1 h2 h3 h4 h5) h2⟩
instance up5_s3 {w W : World} [h : Up5 g1 g2 g3 g4 g5 w W] (j : Nat) (v : Value) : Up5 g1 g2 g3 g4 g5 w (W.setCell ⟨g3, j, none⟩ v) := ⟨fun w0 hb h1 h2 h3 h4 h5 => below_set (h.up w0 hb h1 h2 h3 h4 h5) h3⟩
instance up5_s4 {w W : World} [h : Up5 g1 g2 g3 g4 g5 w W] (j : Nat) (v : Value) : Up5 g1 g2 g3 g4 g5 w (W.setCell ⟨g4, j, none⟩ v) := ⟨fun w0 hb h1 h2 h3 h4 h5 => below_set (h.up w0 hb h1 h2 h3 h4 h5) h4⟩
instance up5_s5 {w W : World} [h : Up5 g1 g2 g3 g4 g5 w W] (j : Nat) (v : Value) : Up5 g1 g2 g3 g4 g5 w (W.setCell ⟨g5, j, none⟩ v) := ⟨fun w0 hb h1 h2 h3 h4 h5 => below_set (h.up w0 hb h1 h2 h3 h4 h5) h5⟩
theorem be5 {w0 w W : World} (h : Aside0 (Below w0.heap.size w0 w)) (h1 : Aside0 (w0.heap.size ≤ g1)) (h2 : Aside0 (w0.heap.size ≤ g2)) (h3 : Aside0 (w0.heap.size ≤ g3)) (h4 : Aside0 (w0.heap.size ≤ g4)) (h5 : Aside0 (w0.heap.size ≤ g5)) [u : Up5 g1 g2 g3 g4 g5 w W] : Below w0.heap.size w0 W := u.up w0 h.out h1.out h2.out h3.out h4.out h5.out
theorem kh5 {w0 w W W' : World} (h : Aside0 (Below w0.heap.size w0 w)) (h1 : Aside0 (w0.heap.size ≤ g1)) (h2 : Aside0 (w0.heap.size ≤ g2)) (h3 : Aside0 (w0.heap.size ≤ g3)) (h4 : Aside0 (w0.heap.size ≤ g4)) (h5 : Aside0 (w0.heap.size ≤ g5)) (hb : Below W.heap.size W W') [u : Up5 g1 g2 g3 g4 g5 w W] : Aside0 (Below w0.heap.size w0 W') := ⟨below_step (u.up w0 h.out h1.out h2.out h3.out h4.out h5.out) hb⟩
end
class Up6 (g1 g2 g3 g4 g5 g6 : Nat) (w W : World) : Prop where
  up : ∀ w0 : World, Below w0.heap.size w0 w → w0.heap.size ≤ g1 → w0.heap.size ≤ g2 → w0.heap.size ≤ g3 → w0.heap.size ≤ g4 → w0.heap.size ≤ g5 → w0.heap.size ≤ g6 → Below w0.heap.size w0 W
section
variable {g1 g2 g3 g4 g5 g6 : Nat}
instance up6_0 (w : World) : Up6 g1 g2 g3 g4 g5 g6 w w := ⟨fun _ h _ _ _ _ _ _ => h⟩
instance up6_1 {w W : World} [h : Up6 g1 g2 g3 g4 g5 g6 w W] (o : Obj) : Up6 g1 g2 g3 g4 g5 g6 w (W.alloc o) := ⟨fun w0 hb h1 h2 h3 h4 h5 h6 => below_alloc (h.up w0 hb h1 h2 h3 h4 h5 h6) o⟩
instance up6_2 {w W : World} [h : Up6 g1 g2 g3 g4 g5 g6 w W] (n : Nat) : Up6 g1 g2 g3 g4 g5 g6 w (W.drewN n) := ⟨fun w0 hb h1 h2 h3 h4 h5 h6 => pw_below_drewN (h.up w0 hb h1 h2 h3 h4 h5 h6) n⟩
instance up6_3 {w W : World} [h : Up6 g1 g2 g3 g4 g5 g6 w W] : Up6 g1 g2 g3 g4 g5 g6 w W.drew := ⟨fun w0 hb h1 h2 h3 h4 h5 h6 => below_drew1 (h.up w0 hb h1 h2 h3 h4 h5 h6)⟩
instance up6_s1 {w W : World} [h : Up6 g1 g2 g3 g4 g5 g6 w W] (j : Nat) (v : Value) : Up6 g1 g2 g3 g4 g5 g6 w (W.setCell ⟨g1, j, none⟩ v) := ⟨fun w0 hb h1 h2 h3 h4 h5 h6 => below_set (h.up w0 hb h1 h2 h3 h4 h5 h6) h1⟩
instance up6_s2 {w W : World} [h : Up6 g1 g2 g3 g4 g5 g6 w W] (j : Nat) (v : Value) : Up6 g1 g2 g3 g4 g5 g6 w (W.setCell ⟨g2, j, none⟩ v) := ⟨fun w0 hb h1 h2 h3 h4 h5 h6 => below_set (h.up w0 hb h1 h2 h3 h4 h5 h6) h2⟩
instance up6_s3 {w W : World} [h : Up6 g1 g2 g3 g4 g5 g6 w W] (j : Nat) (v : Value) : Up6 g1 g2 g3 g4 g5 g6 w (W.setCell ⟨g3, j, none⟩ v) := ⟨fun w0 hb h1 h2 h3 h4 h5 h6 => below_set (h.up w0 hb h1 h2 h3 h4 h5 h6) h3⟩
instance up6_s4 {w W : World} [h : Up6 g1 g2 g3 g4 g5 g6 w W] (j : Nat) (v : Value) : Up6 g1 g2 g3 g4 g5 g6 w (W.setCell ⟨g4, j, none⟩ v) := ⟨fun w0 hb h1 h2 h3 h4 h5 h6 => below_set (h.up w0 hb h1 h2 h3 h4 h5 h6) h4⟩
instance up6_s5 {w W : World} [h : Up6 g1 g2 g3 g4 g5 g6 w W] (j : Nat) (v : Value) : Up6 g1 g2 g3 g4 g5 g6 w (W.setCell ⟨g5, j, none⟩ v) := ⟨fun w0 hb h1 h2 h3 h4 h5 h6 => below_set (h.up w0 hb h1 h2 h3 h4 h5 h6) h5⟩
instance up6_s6 {w W : World} [h : Up6 g1 g2 g3 g4 g5 g6 w W] (j : Nat) (v : Value) : Up6 g1 g2 g3 g4 g5 g6 w (W.setCell ⟨g6, j, none⟩ v) := ⟨fun w0 hb h1 h2 h3 h4 h5 h6 => below_set (h.up w0 hb h1 h2 h3 h4 h5 h6) h6⟩
theorem be6 {w0 w W : World} (h : Aside0 (Below w0.heap.size w0 w)) (h1 : Aside0 (w0.heap.size ≤ g1)) (h2 : Aside0 (w0.heap.size ≤ g2)) (h3 : Aside0 (w0.heap.size ≤ g3)) (h4 : Aside0 (w0.heap.size ≤ g4)) (h5 : Aside0 (w0.heap.size ≤ g5)) (h6 : Aside0 (w0.heap.size ≤ g6)) [u : Up6 g1 g2 g3 g4 g5 g6 w W] : Below w0.heap.size w0 W := u.up w0 h.out h1.out h2.out h3.out h4.out h5.out h6.out
theorem kh6 {w0 w W W' : World} (h : Aside0 (Below w0.heap.size w0 w)) (h1 : Aside0 (w0.heap.size ≤ g1)) (h2 : Aside0 (w0.heap.size ≤ g2)) (h3 : Aside0 (w0.heap.size ≤ g3)) (h4 : Aside0 (w0.heap.size ≤ g4)) (h5 : Aside0 (w0.heap.size ≤ g5)) (h6 : Aside0 (w0.heap.size ≤ g6)) (hb : Below W.heap.size W W') [u : Up6 g1 g2 g3 g4 g5 g6 w W] : Aside0 (Below w0.heap.size w0 W') := ⟨below_step (u.up w0 h.out h1.out h2.out h3.out h4.out h5.out h6.out) hb⟩
end
class Up7 (g1 g2 g3 g4 g5 g6 g7 : Nat) (w W : World) : Prop where
  up : ∀ w0 : World, Below w0.heap.size w0 w → w0.heap.size ≤ g1 → w0.heap.size ≤ g2 → w0.heap.size ≤ g3 → w0.heap.size ≤ g4 → w0.heap.size ≤ g5 → w0.heap.size ≤ g6 → w0.heap.size ≤ g7 → Below w0.heap.size w0 W
section
variable {g1 g2 g3 g4 g5 g6 g7 : Nat}
instance up7_0 (w : World) : Up7 g1 g2 g3 g4 g5 g6 g7 w w := ⟨fun _ h _ _ _ _ _ _ _ => h⟩
instance up7_1 {w W : World} [h : Up7 g1 g2 g3 g4 g5 g6 g7 w W] (o : Obj) : Up7 g1 g2 g3 g4 g5 g6 g7 w (W.alloc o) := ⟨fun w0 hb h1 h2 h3 h4 h5 h6 h7 => below_alloc (h.up w0 hb h1 h2 h3 h4 h5 h6 h7) o⟩
instance up7_2 {w W : World} [h : Up7 g1 g2 g3 g4 g5 g6 g7 w W] (n : Nat) : Up7 g1 g2 g3 g4 g5 g6 g7 w (W.drewN n) := ⟨fun w0 hb h1 h2 h3 h4 h5 h6 h7 => pw_below_drewN (h.up w0 hb h1 h2 h3 h4 h5 h6 h7) n⟩
instance up7_3 {w W : World} [h : Up7 g1 g2 g3 g4 g5 g6 g7 w W] : Up7 g1 g2 g3 g4 g5 g6 g7 w W.drew := ⟨fun w0 hb h1 h2 h3 h4 h5 h6 h7 => below_drew1 (h.up w0 hb h1 h2 h3 h4 h5 h6 h7)⟩
instance up7_s1 {w W : World} [h : Up7 g1 g2 g3 g4 g5 g6 g7 w W] (j : Nat) (v : Value) : Up7 g1 g2 g3 g4 g5 g6 g7 w (W.setCell ⟨g1, j, none⟩ v) := ⟨fun w0 hb h1 h2 h3 h4 h5 h6 h7 => below_set (h.up w0 hb h1 h2 h3 h4 h5 h6 h7) h1⟩
instance up7_s2 {w W : World} [h : Up7 g1 g2 g3 g4 g5 g6 g7 w W] (j : Nat) (v : Value) : Up7 g1 g2 g3 g4 g5 g6 g7 w (W.setCell ⟨g2, j, none⟩ v) := ⟨fun w0 hb h1 h2 h3 h4 h5 h6 h7 => below_set (h.up w0 hb h1 h2 h3 h4 h5 h6 h7) h2⟩
instance up7_s3 {w W : World} [h : Up7 g1 g2 g3 g4 g5 g6 g7 w W] (j : Nat) (v : Value) : Up7 g1 g2 g3 g4 g5 g6 g7 w (W.setCell ⟨g3, j, none⟩ v) := ⟨fun w0 hb h1 h2 h3 h4 h5 h6 h7 => below_set (h.up w0 hb h1 h2 h3 h4 h5 h6 h7) h3⟩
instance up7_s4 {w W : World} [h : Up7 g1 g2 g3 g4 g5 g6 g7 w W] (j : Nat) (v : Value) : Up7 g1 g2 g3 g4 g5 g6 g7 w (W.setCell ⟨g4, j, none⟩ v) := ⟨fun w0 hb h1 h2 h3 h4 h5 h6 h7 => below_set (h.up w0 hb h1 h2 h3 h4 h5 h6 h7) h4⟩
instance up7_s5 {w W : World} [h : Up7 g1 g2 g3 g4 g5 g6 g7 w W] (j : Nat) (v : Value) : Up7 g1 g2 g3 g4 g5 g6 g7 w (W.setCell ⟨g5, j, none⟩ v) := ⟨fun w0 hb h1 h2 h3 h4 h5 h6 h7 => below_set (h.up w0 hb h1 h2 h3 h4 h5 h6 h7) h5⟩
instance up7_s6 {w W : World} [h : Up7 g1 g2 g3 g4 g5 g6 g7 w W] (j : Nat) (v : Value) : Up7 g1 g2 g3 g4 g5 g6 g7 w (W.setCell ⟨g6, j, none⟩ v) := ⟨fun w0 hb h1 h2 h3 h4 h5 h6 h7 => below_set (h.up w0 hb h1 h2 h3 h4 h5 h6 h7) h6⟩
instance up7_s7 {w W : World} [h : Up7 g1 g2 g3 g4 g5 g6 g7 w W] (j : Nat) (v : Value) : Up7 g1 g2 g3 g4 g5 g6 g7 w (W.setCell ⟨g7, j, none⟩ v) := ⟨fun w0 hb h1 h2 h3 h4 h5 h6 h7 => below_set (h.up w0 hb h1 h2 h3 h4 h5 h6 h7) h7⟩
theorem be7 {w0 w W : World} (h : Aside0 (Below w0.heap.size w0 w)) (h1 : Aside0 (w0.heap.size ≤ g1)) (h2 : Aside0 (w0.heap.size ≤ g2)) (h3 : Aside0 (w0.heap.size ≤ g3)) (h4 : Aside0 (w0.heap.size ≤ g4)) (h5 : Aside0 (w0.heap.size ≤ g5)) (h6 : Aside0 (w0.heap.size ≤ g6)) (h7 : Aside0 (w0.heap.size ≤ g7)) [u : Up7 g1 g2 g3 g4 g5 g6 g7 w W] : Below w0.heap.size w0 W := u.up w0 h.out h1.out h2.out h3.out h4.out h5.out h6.out h7.out
theorem kh7 {w0 w W W' : World} (h : Aside0 (Below w0.heap.size w0 w)) (h1 : Aside0 (w0.heap.size ≤ g1)) (h2 : Aside0 (w0.heap.size ≤ g2)) (h3 : Aside0 (w0.heap.size ≤ g3)) (h4 : Aside0 (w0.heap.size ≤ g4)) (h5 : Aside0 (w0.heap.size ≤ g5)) (h6 : Aside0 (w0.heap.size ≤ g6)) (h7 : Aside0 (w0.heap.size ≤ g7)) (hb : Below W.heap.size W W') [u : Up7 g1 g2 g3 g4 g5 g6 g7 w W] : Aside0 (Below w0.heap.size w0 W') := ⟨below_step (u.up w0 h.out h1.out h2.out h3.out h4.out h5.out h6.out h7.out) hb⟩
end
class Up8 (g1 g2 g3 g4 g5 g6 g7 g8 : Nat) (w W : World) : Prop where
  up : ∀ w0 : World, Below w0.heap.size w0 w → w0.heap.size ≤ g1 → w0.heap.size ≤ g2 → w0.heap.size ≤ g3 → w0.heap.size ≤ g4 → w0.heap.size ≤ g5 → w0.heap.size ≤ g6 → w0.heap.size ≤ g7 → w0.heap.size ≤ g8 → Below w0.heap.size w0 W
section
variable {g1 g2 g3 g4 g5 g6 g7 g8 : Nat}
instance up8_0 (w : World) : Up8 g1 g2 g3 g4 g5 g6 g7 g8 w w := ⟨fun _ h _ _ _ _ _ _ _ _ => h⟩
instance up8_1 {w W : World} [h : Up8 g1 g2 g3 g4 g5 g6 g7 g8 w W] (o : Obj) : Up8 g1 g2 g3 g4 g5 g6 g7 g8 w (W.alloc o) := ⟨fun w0 hb h1 h2 h3 h4 h5 h6 h7 h8 => below_alloc (h.up w0 hb h1 h2 h3 h4 h5 h6 h7 h8) o⟩
instance up8_2 {w W : World} [h : Up8 g1 g2 g3 g4 g5 g6 g7 g8 w W] (n : Nat) : Up8 g1 g2 g3 g4 g5 g6 g7 g8 w (W.drewN n) := ⟨fun w0 hb h1 h2 h3 h4 h5 h6 h7 h8 => pw_below_drewN (h.up w0 hb h1 h2 h3 h4 h5 h6 h7 h8) n⟩
instance up8_3 {w W : World} [h : Up8 g1 g2 g3 g4 g5 g6 g7 g8 w W] : Up8 g1 g2 g3 g4 g5 g6 g7 g8 w W.drew := ⟨fun w0 hb h1 h2 h3 h4 h5 h6 h7 h8 => below_drew1 (h.up w0 hb h1 h2 h3 h4 h5 h6 h7 h8)⟩
instance up8_s1 {w W : World} [h : Up8 g1 g2 g3 g4 g5 g6 g7 g8 w W] (j : Nat) (v : Value) : Up8 g1 g2 g3 g4 g5 g6 g7 g8 w (W.setCell ⟨g1, j, none⟩ v) := ⟨fun w0 hb h1 h2 h3 h4 h5 h6 h7 h8 => below_set (h.up w0 hb h1 h2 h3 h4 h5 h6 h7 h8) h1⟩
instance up8_s2 {w W : World} [h : Up8 g1 g2 g3 g4 g5 g6 g7 g8 w W] (j : Nat) (v : Value) : Up8 g1 g2 g3 g4 g5 g6 g7 g8 w (W.setCell ⟨g2, j, none⟩ v) := ⟨fun w0 hb h1 h2 h3 h4 h5 h6 h7 h8 => below_set (h.up w0 hb h1 h2 h3 h4 h5 h6 h7 h8) h2⟩
instance up8_s3 {w W : World} [h : Up8 g1 g2 g3 g4 g5 g6 g7 g8 w W] (j : Nat) (v : Value) : Up8 g1 g2 g3 g4 g5 g6 g7 g8 w (W.setCell ⟨g3, j, none⟩ v) := ⟨fun w0 hb h1 h2 h3 h4 h5 h6 h7 h8 => below_set (h.up w0 hb h1 h2 h3 h4 h5 h6 h7 h8) h3⟩
instance up8_s4 {w W : World} [h : Up8 g1 g2 g3 g4 g5 g6 g7 g8 w W] (j : Nat) (v : Value) : Up8 g1 g2 g3 g4 g5 g6 g7 g8 w (W.setCell ⟨g4, j, none⟩ v) := ⟨fun w0 hb h1 h2 h3 h4 h5 h6 h7 h8 => below_set (h.up w0 hb h1 h2 h3 h4 h5 h6 h7 h8) h4⟩
instance up8_s5 {w W : World} [h : Up8 g1 g2 g3 g4 g5 g6 g7 g8 w W] (j : Nat) (v : Value) : Up8 g1 g2 g3 g4 g5 g6 g7 g8 w (W.setCell ⟨g5, j, none⟩ v) := ⟨fun w0 hb h1 h2 h3 h4 h5 h6 h7 h8 => below_set (h.up w0 hb h1 h2 h3 h4 h5 h6 h7 h8) h5⟩
instance up8_s6 {w W : World} [h : Up8 g1 g2 g3 g4 g5 g6 g7 g8 w W] (j : Nat) (v : Value) : Up8 g1 g2 g3 g4 g5 g6 g7 g8 w (W.setCell ⟨g6, j, none⟩ v) := ⟨fun w0 hb h1 h2 h3 h4 h5 h6 h7 h8 => below_set (h.up w0 hb h1 h2 h3 h4 h5 h6 h7 h8) h6⟩
instance up8_s7 {w W : World} [h : Up8 g1 g2 g3 g4 g5 g6 g7 g8 w W] (j : Nat) (v : Value) : Up8 g1 g2 g3 g4 g5 g6 g7 g8 w (W.setCell ⟨g7, j, none⟩ v) := ⟨fun w0 hb h1 h2 h3 h4 h5 h6 h7 h8 => below_set (h.up w0 hb h1 h2 h3 h4 h5 h6 h7 h8) h7⟩
instance up8_s8 {w W : World} [h : Up8 g1 g2 g3 g4 g5 g6 g7 g8 w W] (j : Nat) (v : Value) : Up8 g1 g2 g3 g4 g5 g6 g7 g8 w (W.setCell ⟨g8, j, none⟩ v) := ⟨fun w0 hb h1 h2 h3 h4 h5 h6 h7 h8 => below_set (h.up w0 hb h1 h2 h3 h4 h5 h6 h7 h8) h8⟩
end
section
variable {α : Type} {d : Kd α} {w0 w W W' : World} {e base g : Nat} {ok : Nat → Prop} {v : Value} {xs : List α} {A : Option Addr} {n : Nat}
theorem vB (h : Aside0 (Kd.V d e w base ok v xs)) (hg : g = W.heap.size) (hb : Below W.heap.size W W') [Pl W w] : Aside0 (Kd.V d e W' base (fun k => ok k ∧ k ≠ g) v xs) := ⟨Kd.V_below (Kd.V_elderB (V_pl h.out) g (Nat.le_of_eq hg.symm)) hb⟩
theorem nB (h : Aside0 (Kd.N d e w base ok v xs)) (hg : g = W.heap.size) (hb : Below W.heap.size W W') [Pl W w] : Aside0 (Kd.N d e W' base (fun k => ok k ∧ k ≠ g) v xs) := ⟨Kd.N_below (Kd.N_elderB (N_pl h.out) g (Nat.le_of_eq hg.symm)) hb⟩
theorem vb (h : Aside0 (Kd.V d e w base ok v xs)) (hb : Below W.heap.size W W') [Pl W w] : Aside0 (Kd.V d e W' base ok v xs) := ⟨Kd.V_below (V_pl h.out) hb⟩
theorem rb (h : Aside0 (Kd.R d e w base ok v xs)) (hb : Below W.heap.size W W') [Pl W w] : Aside0 (Kd.R d e W' base ok v xs) := ⟨Kd.R_below (R_pl h.out) hb⟩
theorem cb (h : Aside0 (d.C w A n xs)) (hb : Below W.heap.size W W') [Pl W w] : Aside0 (d.C W' A n xs) := ⟨Kd.C_below (Kd.C_below h.out Pl.up) hb⟩
end
theorem dr {p : Prop} (h : p := by repeat (first | exact Drawn0.refl _ | apply Drawn0.step)) : p := h
theorem dn {p q : Prop} (h : p := by first | rfl | (simp; done) | (simp [*]; done)) (h2 : q := by repeat (first | exact Drawn0.refl _ | apply Drawn0.step)) : p ∧ q := ⟨h, h2⟩
class Fr (W : World) (w : outParam World) (q : Nat) : Prop where
  up : (∀ k, k ≠ q → k < w.heap.size → W.heap[k]? = w.heap[k]?) ∧ w.heap.size ≤ W.heap.size
instance (priority := low) fr0 (w : World) (q : Nat) : Fr w w q := ⟨fun _ _ _ => rfl, Nat.le_refl _⟩
instance fr1 {W w : World} {q : Nat} [h : Fr W w q] (i : Nat) (u : Value) : Fr (W.setCell ⟨q, i, none⟩ u) w q := ⟨fun k hk hl => (Below.heap_setCell W ⟨q, i, none⟩ u k hk).trans (h.up.1 k hk hl), by rw [World.size_setCell]; exact h.up.2⟩
theorem fr_below {W W1 w : World} {q : Nat} (h : Fr W w q) (b : Below W.heap.size W W1) : Fr W1 w q := ⟨fun k hk hl => (b.block k (Nat.lt_of_lt_of_le hl h.up.2)).trans (h.up.1 k hk hl), Nat.le_trans h.up.2 (below_size b)⟩
instance fr2 {W w : World} {q : Nat} [h : Fr W w q] (o : Obj) : Fr (W.alloc o) w q := fr_below h (below_alloc (Below.refl _ _) o)
instance fr3 {W w : World} {q : Nat} [h : Fr W w q] (n : Nat) : Fr (W.drewN n) w q := fr_below h (pw_below_drewN (Below.refl _ _) n)
instance fr4 {W w : World} {q : Nat} [h : Fr W w q] : Fr W.drew w q := fr_below h (below_drew1 (Below.refl _ _))
theorem fr5l {w : World} {q : Nat} : ∀ (vs : List Value) (o : Nat) (W : World), Fr W w q → Fr (W.setCells q o vs) w q
  | [], _, _, h => h
  | v :: r, o, W, h => by rw [World.setCells]; exact fr5l r (o + 1) _ (fr1 (h := h) o v)
instance fr5 {W w : World} {q : Nat} [h : Fr W w q] (o : Nat) (vs : List Value) : Fr (W.setCells q o vs) w q := fr5l vs o W h
class Fs (W : World) (w : outParam World) (q : Nat) : Prop where
  up : Fr W w q
instance (priority := low) fs0 (w : World) (q : Nat) : Fs w w q := ⟨fr0 w q⟩
instance fs1 {W w : World} {q : Nat} [h : Fs W w q] (i : Nat) (u : Value) : Fs (W.setCell ⟨q, i, none⟩ u) w q := ⟨fr1 (h := h.up) i u⟩
instance fs5 {W w : World} {q : Nat} [h : Fs W w q] (o : Nat) (vs : List Value) : Fs (W.setCells q o vs) w q := ⟨fr5l vs o W h.up⟩
theorem bF {W w : World} {g q : Nat} {t : TypeId} {cs : Array Value} (n : Aside0 (g ≠ q)) (h : Aside0 (w.heap[g]? = some (.cells cs t (0, 0)))) [u : Fr W w q] : W.heap[g]? = some (.cells cs t (0, 0)) := (u.up.1 g n.out (Array.getElem?_eq_some_iff.mp h.out).1).trans h.out
theorem kF {W w W1 : World} {g q : Nat} {t : TypeId} {cs : Array Value} (n : Aside0 (g ≠ q)) (h : Aside0 (w.heap[g]? = some (.cells cs t (0, 0)))) [u : Fr W w q] (hb : Below W.heap.size W W1) : Aside0 (W1.heap[g]? = some (.cells cs t (0, 0))) := ⟨blk_below (bF n h) hb⟩
section
variable {α : Type} {d : Kd α} {w W : World} {e base q : Nat} {ok : Nat → Prop} {v : Value} {xs : List α}
theorem vI (h : Kd.V d e w base ok v xs) (hq : ∀ k, ok k → k ≠ q) [u : Fr W w q] : Kd.V d e W base ok v xs := Kd.V_map h fun _ hf => Kd.F_step hf fun k hk hl => u.up.1 k (hq k hk) hl
theorem rI (h : d.R e w base ok v xs) (hq : ∀ k, ok k → k ≠ q) [u : Fr W w q] : d.R e W base ok v xs := Kd.R_step h fun k hk hl => u.up.1 k (hq k hk) hl
theorem nI (h : Kd.N d e w base ok v xs) (hq : ∀ k, ok k → k ≠ q) [u : Fr W w q] : Kd.N d e W base ok v xs := Kd.N_step h fun k hk hl => u.up.1 k (hq k hk) hl
theorem vJ (h : Kd.V d e w base ok v xs) (hq : ∀ k, ok k → k ≠ q) [u : Fs W w q] : Kd.V d e W base ok v xs := vI (u := u.up) h hq
theorem vF (h : Aside0 (Kd.V d e w base ok v xs)) (hq : ∀ k, ok k → k ≠ q) [u : Fr W w q] : Kd.V d e W base ok v xs := vI h.out hq
theorem nF (h : Aside0 (Kd.N d e w base ok v xs)) (hq : ∀ k, ok k → k ≠ q) [u : Fr W w q] : Kd.N d e W base ok v xs := nI h.out hq
end
class Put (W : World) (w : outParam World) (g : Nat) (cs : Array Value) (cs' : outParam (Array Value)) : Prop where
  up : ∀ t, w.heap[g]? = some (.cells cs t (0, 0)) → W.heap[g]? = some (.cells cs' t (0, 0))
instance (priority := low) pt0 (w : World) (g : Nat) (cs : Array Value) : Put w w g cs cs := ⟨fun _ h => h⟩
instance pt1 {W w : World} {g : Nat} {cs cs' : Array Value} [h : Put W w g cs cs'] (i : Nat) (u : Value) : Put (W.setCell ⟨g, i, none⟩ u) w g cs (cs'.setIfInBounds i u) := ⟨fun t k => blk_put (h.up t k) i u rfl⟩
instance pt2 {W w : World} {g : Nat} {cs cs' : Array Value} [h : Put W w g cs cs'] (o : Obj) : Put (W.alloc o) w g cs cs' := ⟨fun t k => blk_below (h.up t k) (below_alloc (Below.refl _ _) o)⟩
instance pt3 {W w : World} {g : Nat} {cs cs' : Array Value} [h : Put W w g cs cs'] (n : Nat) : Put (W.drewN n) w g cs cs' := ⟨fun t k => blk_below (h.up t k) (pw_below_drewN (Below.refl _ _) n)⟩
instance pt4 {W w : World} {g : Nat} {cs cs' : Array Value} [h : Put W w g cs cs'] : Put W.drew w g cs cs' := ⟨fun t k => blk_below (h.up t k) (below_drew1 (Below.refl _ _))⟩
theorem pB {W w : World} {g : Nat} {t : TypeId} {cs ds es : Array Value} (h : Aside0 (w.heap[g]? = some (.cells cs t (0, 0)))) [u : Put W w g cs ds] (e : ds = es := by rfl) : W.heap[g]? = some (.cells es t (0, 0)) := e ▸ u.up t h.out
theorem od {p : Prop} [Decidable p] (h : decide p = true := by assumption) : p := of_decide_eq_true h
section
variable {P : Program} {md : Region.Mode} {ops : Array Oper} {Q : Exit → Act → World → Prop} {S : World → Prop} {ds : List Nat}
theorem pu_ {oi : Oper} {v : Value} {fuel : Nat} {l : Array Bool} {a : Act} {w : World} (i : Nat) (N : Tmp) (l' : Array Bool) {T : Bool × List (List Nat × List Nat)} (HT : Aside0 (rtab md ops = T)) (hy : ∀ w, (execOp a.eval oi).run P w = .ok (.value v) w) {a' : Act} (ha : a.put (some N) v = a')
    (h : wpAnyLast P md ops Q S ds fuel l' a' w) (hi : ops[i]? = some oi := by rfl) (hN : oi.dst = some N := by rfl) (hc : anyT T l.toList l'.toList i = true := by kernel_rfl) (hQ : ∀ c a w, Q (.panic c) (a.put oi.dst v) w → Q (.panic c) a w := by exact fun _ _ _ h => h) (hg : Region.wanted oi (yielded ops a.tmps) = true := by rfl) : wpAnyLast P md ops Q S ds (fuel + 1) l a w :=
  pure_ l' hi hN (any_of HT.out hc) hQ (Or.inl ⟨hg, hy⟩) ha h
end
def tf (n m : Nat) : Array Bool := (List.replicate n true ++ List.replicate m false).toArray
theorem mk0 {p : Prop} (h : p) : Aside0 p := ⟨h⟩
theorem bc {w : World} {g : Nat} {t : TypeId} {cs : Array Value} (h : Aside0 (w.heap[g]? = some (.cells cs t (0, 0)))) (i : Nat) {v : Value} (e : cs[i]? = some v := by rfl) : w.cell? ⟨g, i, none⟩ = some v := (blk_cell h.out i).trans e
end Go.Proofs.Ytojankgmedccdaa.Own
