/- Lemmas. -/
import Derived.Test.YtojankgmedccdaaYOPOwB
namespace Go.Proofs.Ytojankgmedccdaa.PGn
open Go.RowKit Own PTy Hand Wo
set_option linter.unusedVariables false
set_option linter.unusedSimpArgs false
theorem put_comm (a : Act) {i j : Nat} (h : i ≠ j) (u v : Value) : (a.put (some i) u).put (some j) v = (a.put (some j) v).put (some i) u := by
  simp only [Act.put]; rw [Array.setIfInBounds_comm _ _ h]
theorem FQ (a : Act) (i : Nat) (u v : Value) : (a.put (some i) u).put (some i) v = a.put (some i) v := by
  simp only [Act.put]; rw [Array.setIfInBounds_setIfInBounds]
theorem eval_put (a : Act) {i j : Nat} (h : i ≠ j) (v : Value) : (a.put (some i) v).eval (.tmp j) = a.eval (.tmp j) := by
  simp only [Act.put, Act.eval, Array.getD_eq_getD_getElem?]; rw [Array.getElem?_setIfInBounds, if_neg h]
structure G29 where
  p : Nat
  d : Nat → Bool
  x : Nat → Value
  y : Nat → Value
  g : Nat → Nat
  n : Nat → Nat
  m : Nat → Nat
def upd {α : Type} (f : Nat → α) (j : Nat) (v : α) (k : Nat) : α := if k = j then v else f k
theorem FE {α : Type} (f : Nat → α) (j : Nat) (v : α) : upd f j v j = v := if_pos rfl
theorem upd_ne {α : Type} (f : Nat → α) {j k : Nat} (v : α) (h : k ≠ j) : upd f j v k = f k := if_neg h
def Gz (s : G29) : Array Bool := #[true, decide (0 < s.p), true, decide (1 < s.p), true, true, decide (2 < s.p), true, decide (3 < s.p), s.d 0, s.d 1, s.d 2, s.d 3, false, false, false, false]
def FR (A : Act) (s : G29) : Act := Dy A [(24, s.y 0), (25, s.y 1), (26, s.y 2), (27, s.y 3), (130, s.x 0), (132, s.x 1), (135, s.x 2), (137, s.x 3)]
def sx : Nat → Nat | 0 => 130 | 1 => 132 | 2 => 135 | _ => 137
def sy : Nat → Nat | 0 => 24 | 1 => 25 | 2 => 26 | _ => 27
def ix : Nat → Nat | 0 => 1 | 1 => 3 | 2 => 6 | _ => 8
def iy : Nat → Nat | 0 => 9 | 1 => 10 | 2 => 11 | _ => 12
def Z29 (j : Nat) : Obj := if j = 3 then .cells #[.int .i64 0, .int .i64 0, .slice none 0 0, .slice none 0 0] 30 (0, 0) else .cells #[.int .i64 0, .int .i64 0, .slice none 0 0, .slice none 0 0, .slice none 0 0] 33 (0, 0)
def P8 (A : Act) (a b c d e f g h : Value) : Act := ((((((((A.put (some 24) a).put (some 25) b).put (some 26) c).put (some 27) d).put (some 130) e).put (some 132) f).put (some 135) g).put (some 137) h)
theorem Q6 (A : Act) (a b c d e f g h v : Value) : (P8 A a b c d e f g h).put (some 24) v = P8 A v b c d e f g h := by
  unfold P8; rw [put_comm _ (show (137 : Nat) ≠ 24 by decide) h v, put_comm _ (show (135 : Nat) ≠ 24 by decide) g v, put_comm _ (show (132 : Nat) ≠ 24 by decide) f v, put_comm _ (show (130 : Nat) ≠ 24 by decide) e v, put_comm _ (show (27 : Nat) ≠ 24 by decide) d v, put_comm _ (show (26 : Nat) ≠ 24 by decide) c v, put_comm _ (show (25 : Nat) ≠ 24 by decide) b v, FQ]
theorem Q7 (A : Act) (a b c d e f g h v : Value) : (P8 A a b c d e f g h).put (some 25) v = P8 A a v c d e f g h := by
  unfold P8; rw [put_comm _ (show (137 : Nat) ≠ 25 by decide) h v, put_comm _ (show (135 : Nat) ≠ 25 by decide) g v, put_comm _ (show (132 : Nat) ≠ 25 by decide) f v, put_comm _ (show (130 : Nat) ≠ 25 by decide) e v, put_comm _ (show (27 : Nat) ≠ 25 by decide) d v, put_comm _ (show (26 : Nat) ≠ 25 by decide) c v, FQ]
theorem Q8 (A : Act) (a b c d e f g h v : Value) : (P8 A a b c d e f g h).put (some 26) v = P8 A a b v d e f g h := by
  unfold P8; rw [put_comm _ (show (137 : Nat) ≠ 26 by decide) h v, put_comm _ (show (135 : Nat) ≠ 26 by decide) g v, put_comm _ (show (132 : Nat) ≠ 26 by decide) f v, put_comm _ (show (130 : Nat) ≠ 26 by decide) e v, put_comm _ (show (27 : Nat) ≠ 26 by decide) d v, FQ]
theorem Q9 (A : Act) (a b c d e f g h v : Value) : (P8 A a b c d e f g h).put (some 27) v = P8 A a b c v e f g h := by
  unfold P8; rw [put_comm _ (show (137 : Nat) ≠ 27 by decide) h v, put_comm _ (show (135 : Nat) ≠ 27 by decide) g v, put_comm _ (show (132 : Nat) ≠ 27 by decide) f v, put_comm _ (show (130 : Nat) ≠ 27 by decide) e v, FQ]
theorem QL (A : Act) (a b c d e f g h v : Value) : (P8 A a b c d e f g h).put (some 130) v = P8 A a b c d v f g h := by
  unfold P8; rw [put_comm _ (show (137 : Nat) ≠ 130 by decide) h v, put_comm _ (show (135 : Nat) ≠ 130 by decide) g v, put_comm _ (show (132 : Nat) ≠ 130 by decide) f v, FQ]
theorem QM (A : Act) (a b c d e f g h v : Value) : (P8 A a b c d e f g h).put (some 132) v = P8 A a b c d e v g h := by
  unfold P8; rw [put_comm _ (show (137 : Nat) ≠ 132 by decide) h v, put_comm _ (show (135 : Nat) ≠ 132 by decide) g v, FQ]
theorem QN (A : Act) (a b c d e f g h v : Value) : (P8 A a b c d e f g h).put (some 135) v = P8 A a b c d e f v h := by
  unfold P8; rw [put_comm _ (show (137 : Nat) ≠ 135 by decide) h v, FQ]
theorem QO (A : Act) (a b c d e f g h v : Value) : (P8 A a b c d e f g h).put (some 137) v = P8 A a b c d e f g v := by
  unfold P8; rw [FQ]
theorem Oj (A : Act) (s : G29) : FR A s = P8 A (s.y 0) (s.y 1) (s.y 2) (s.y 3) (s.x 0) (s.x 1) (s.x 2) (s.x 3) := rfl
theorem RA (A : Act) (s : G29) (j : Nat) (a : j < 4) (v : Value) (p : Nat) (d : Nat → Bool) (g n m : Nat → Nat) : (FR A s).put (some (sy j)) v = FR A ⟨p, d, s.x, upd s.y j v, g, n, m⟩ := by
  obtain rfl | rfl | rfl | rfl : j = 0 ∨ j = 1 ∨ j = 2 ∨ j = 3 := by omega
  · exact Q6 ..
  · exact Q7 ..
  · exact Q8 ..
  · exact Q9 ..
theorem RB (A : Act) (s : G29) (i : Nat) (hi : i < 4) (v : Value) (p : Nat) (d : Nat → Bool) (g n m : Nat → Nat) : (FR A s).put (some (sx i)) v = FR A ⟨p, d, upd s.x i v, s.y, g, n, m⟩ := by
  obtain rfl | rfl | rfl | rfl : i = 0 ∨ i = 1 ∨ i = 2 ∨ i = 3 := by omega
  · exact QL ..
  · exact QM ..
  · exact QN ..
  · exact QO ..
theorem J9 (A : Act) (s : G29) (t : Nat) (h : t ≠ 24 ∧ t ≠ 25 ∧ t ≠ 26 ∧ t ≠ 27 ∧ t ≠ 130 ∧ t ≠ 132 ∧ t ≠ 135 ∧ t ≠ 137) : (FR A s).eval (.tmp t) = A.eval (.tmp t) := by
  obtain ⟨h1, h2, h3, h4, a, b, c, e⟩ := h; rw [Oj]; unfold P8; rw [eval_put _ e.symm, eval_put _ c.symm, eval_put _ b.symm, eval_put _ a.symm, eval_put _ h4.symm, eval_put _ h3.symm, eval_put _ h2.symm, eval_put _ h1.symm]
theorem SQ (s : G29) (j : Nat) (a : j < 4) (y : Nat → Value) (g n m : Nat → Nat) : (Gz s).setIfInBounds (iy j) true = Gz ⟨s.p, upd s.d j true, s.x, y, g, n, m⟩ := by
  obtain rfl | rfl | rfl | rfl : j = 0 ∨ j = 1 ∨ j = 2 ∨ j = 3 := by omega
  all_goals rfl
theorem SS (s : G29) (hi : s.p < 4) (x y : Nat → Value) (g n m : Nat → Nat) : (Gz s).setIfInBounds (ix s.p) true = Gz ⟨s.p + 1, s.d, x, y, g, n, m⟩ := by
  obtain ⟨p, d, e, h, a, c, b⟩ := s; simp only at hi ⊢; obtain rfl | rfl | rfl | rfl : p = 0 ∨ p = 1 ∨ p = 2 ∨ p = 3 := by omega
  all_goals rfl
def F6 (s : G29) : Nat := (4 - s.p) + (if s.d 0 then 0 else 1) + (if s.d 1 then 0 else 1) + (if s.d 2 then 0 else 1) + (if s.d 3 then 0 else 1)
theorem QP (s : G29) (j : Nat) (a : j < 4) (hd : s.d j = false) (x y : Nat → Value) (g n m : Nat → Nat) : F6 s = F6 ⟨s.p, upd s.d j true, x, y, g, n, m⟩ + 1 := by
  obtain rfl | rfl | rfl | rfl : j = 0 ∨ j = 1 ∨ j = 2 ∨ j = 3 := by omega
  all_goals simp [F6, upd, hd]
  all_goals omega
theorem QQ (s : G29) (hi : s.p < 4) (x y : Nat → Value) (g n m : Nat → Nat) : F6 s = F6 ⟨s.p + 1, s.d, x, y, g, n, m⟩ + 1 := by
  simp only [F6]; omega
def T29 : Bool × List (List Nat × List Nat) := (true, [([], []), ([0], [0]), ([], []), ([2, 1], [2]), ([], []), ([4], [4]), ([5, 3], [5]), ([], []), ([7, 6], [7]), ([], []), ([], []), ([], []), ([], []), ([9, 1, 8, 0, 1, 9, 10, 11, 12], [1, 9]), ([10, 3, 13, 0, 1, 2, 3, 9, 10, 11, 12, 13], [3, 10]), ([11, 6, 14, 0, 1, 2, 3, 4, 5, 6, 9, 10, 11, 12, 13, 14], [6, 11]), ([12, 8, 15, 0, 1, 2, 3, 4, 5, 6, 7, 8, 9, 10, 11, 12, 13, 14, 15], [8, 12])])
def B29 : List Nat := [0, 1, 0, 7, 0, 16, 63, 0, 255, 0, 0, 0, 0, 8191, 16383, 32767, 65535]
theorem RD : Cm .any (opsOf Try.f14 29) = T29 := by kernel_rfl
theorem QR : CX T29.2 B29 = true := by kernel_rfl
def Pf (p : Nat) (a b c d : Bool) : Bool :=
  let L := Ew T29.2 [true, decide (0 < p), true, decide (1 < p), true, true, decide (2 < p), true, decide (3 < p), a, b, c, d, false, false, false, false]
  (p == 4 && a && b && c && d) || (!L.isEmpty && L.all fun i => (i == ix p && decide (p < 4)) || (i == 9 && !a) || (i == 10 && !b) || (i == 11 && !c) || (i == 12 && !d))
theorem RF : ∀ (p : Fin 5) (a b c d : Bool), Pf p.val a b c d = true := by decide +kernel
structure I29 (X : Nat → Nat → Nat → Value → World → Prop) (W : World) (s : G29) (w : World) : Prop where
  hp : s.p ≤ 4
  below : Below W.heap.size W w
  row : ∀ i, i < s.p → W.heap.size ≤ s.n i ∧ s.m i ≤ w.heap.size ∧ X i (s.n i) (s.m i) (s.x i) w
  blk : ∀ j, j < 4 → s.d j = true → s.y j = .pointer (some ⟨s.g j, 0, none⟩) ∧ W.heap.size ≤ s.g j ∧ w.heap[s.g j]? = some (Z29 j)
  cross : ∀ i j, i < s.p → j < 4 → s.d j = true → s.g j < s.n i ∨ s.m i ≤ s.g j
  diff : ∀ i j, i < 4 → j < 4 → s.d i = true → s.d j = true → i ≠ j → s.g i ≠ s.g j
theorem I29.y {X : Nat → Nat → Nat → Value → World → Prop} {W : World} {s : G29} {w : World} (h : I29 X W s w) (r : ∀ i n m v w w', X i n m v w → Below w.heap.size w w' → X i n m v w') (j : Nat) (u : j < 4) (hd : s.d j = false) :
    I29 X W ⟨s.p, upd s.d j true, s.x, upd s.y j (.pointer (some ⟨w.heap.size, 0, none⟩)), upd s.g j w.heap.size, s.n, s.m⟩ (w.alloc (Z29 j)) := by
  have o : Below w.heap.size w (w.alloc (Z29 j)) := AV (Below.refl _ _) _; refine ⟨h.hp, AZ h.below o, fun i hi => ?_, fun i hi a => ?_, fun i k hi q b => ?_, fun i k hi q a b c => ?_⟩
  · obtain ⟨h1, h2, h3⟩ := h.row i hi; exact ⟨h1, Nat.le_trans h2 o.size, r _ _ _ _ _ _ h3 o⟩
  · by_cases e : i = j
    · subst e; simp only [FE]; refine ⟨trivial, AX h.below, ?_⟩; show (w.heap.push _)[w.heap.size]? = _; simp
    · simp only [upd_ne _ _ e] at a ⊢; obtain ⟨h1, h2, h3⟩ := h.blk i hi a; exact ⟨h1, h2, AL h3 o⟩
  · by_cases e : k = j
    · subst e; simp only [FE]; exact .inr (h.row i hi).2.1
    · simp only [upd_ne _ _ e] at b ⊢; exact h.cross i k hi q b
  · by_cases e : i = j
    · subst e; have l : k ≠ i := fun h => c h.symm; simp only [FE, upd_ne _ _ l] at b ⊢; have := Cf (h.blk k q b).2.2; omega
    · by_cases l : k = j
      · subst l; simp only [FE, upd_ne _ _ e] at a ⊢; have := Cf (h.blk i hi a).2.2; omega
      · simp only [upd_ne _ _ e, upd_ne _ _ l] at a b ⊢; exact h.diff i k hi q a b c
theorem I29.x {X : Nat → Nat → Nat → Value → World → Prop} {W : World} {s : G29} {w w' : World} {v : Value} (h : I29 X W s w) (q : ∀ i n m v w w', X i n m v w → Below w.heap.size w w' → X i n m v w') (hp : s.p < 4) (r : X s.p w.heap.size w'.heap.size v w') (j : Below w.heap.size w w') :
    I29 X W ⟨s.p + 1, s.d, upd s.x s.p v, s.y, s.g, upd s.n s.p w.heap.size, upd s.m s.p w'.heap.size⟩ w' := by
  refine ⟨hp, AZ h.below j, fun i hi => ?_, fun i hi b => ?_, fun i k hi l a => ?_, fun i k hi l b a o => ?_⟩
  · by_cases e : i = s.p
    · subst e; simp only [FE]; exact ⟨AX h.below, Nat.le_refl _, r⟩
    · simp only [upd_ne _ _ e]; have c : i < s.p := by
        have : i < s.p + 1 := hi; omega
      obtain ⟨h1, h2, h3⟩ := h.row i c; exact ⟨h1, Nat.le_trans h2 j.size, q _ _ _ _ _ _ h3 j⟩
  · obtain ⟨h1, h2, h3⟩ := h.blk i hi b; exact ⟨h1, h2, AL h3 j⟩
  · by_cases e : i = s.p
    · subst e; simp only [FE]; exact .inl (Cf (h.blk k l a).2.2)
    · simp only [upd_ne _ _ e]; have c : i < s.p := by
        have : i < s.p + 1 := hi; omega
      exact h.cross i k c l a
  · exact h.diff i k hi l b a o
theorem r29 {ops : Array Oper} {Q : Exit → Act → World → Prop} {S : World → Prop} {A : Act} {W : World} (T : Cm .any ops = T29) (X : Nat → Nat → Nat → Value → World → Prop)
    (J : ∀ i n m v w w', X i n m v w → Below w.heap.size w w' → X i n m v w') (I : ∀ w', Below W.heap.size W w' → S w')
    (hoy : ∀ j, j < 4 → ∃ o, ops[iy j]? = some o ∧ o.dst = some (sy j) ∧ o.guard = none ∧ ∀ (a : Act) (w : World), (execOp a.eval o).run Try.prog w = .ok (.value (.pointer (some ⟨w.heap.size, 0, none⟩))) (w.alloc (Z29 j)))
    (u : Nat → FuncId) (c : Nat → Array Value)
    (hox : ∀ i, i < 4 → ∃ o, ops[ix i]? = some o ∧ o.dst = some (sx i) ∧ o.guard = none ∧ ∀ (s : G29) (w : World), (execOp (FR A s).eval o).run Try.prog w = .ok (.enter (u i) (c i)) w)
    (hcx : ∀ i, i < 4 → ∀ w', Below W.heap.size W w' → Calls Try.prog (u i) (c i) w' fun e b => ∃ v, e = .returned v ∧ X i w'.heap.size b.heap.size v b ∧ Below w'.heap.size w' b)
    (hfin : ∀ s w', I29 X W s w' → s.p = 4 → (∀ j, j < 4 → s.d j = true) → Az Try.prog .any ops Q S [] 4 (Gz s) (FR A s) w') :
    ∀ N s w', I29 X W s w' → F6 s = N → Az Try.prog .any ops Q S [] (N + 4) (Gz s) (FR A s) w' := by
  intro N; induction N with
  | zero =>
    intro s w' h q; have hp := h.hp; simp only [F6] at q; have e : ∀ j, j < 4 → s.d j = true := fun j l => by
      obtain rfl | rfl | rfl | rfl : j = 0 ∨ j = 1 ∨ j = 2 ∨ j = 3 := by omega
      all_goals (cases U : s.d _ with | true => rfl | false => (rw [U] at q; simp at q))
    exact hfin s w' h (by omega) e
  | succ N O =>
    intro s w' h q; have hr := RF ⟨s.p, Nat.lt_succ_of_le h.hp⟩ (s.d 0) (s.d 1) (s.d 2) (s.d 3); have Y : Region.ready .any ops (Gz s) = Ew T29.2 (Gz s).toList := by rw [ready_eq, T]
    have r : ∀ j, j < 4 → s.d j = false → wpOp Try.prog ops Q (iy j) (fun a' b => (iy j ∉ ([] : List Nat) → S w' → S b) ∧ Az Try.prog .any ops Q S [] (N + 4) ((Gz s).setIfInBounds (iy j) true) a' b) (FR A s) w' := fun j l hd => by
      obtain ⟨o, ho, k, hg, B⟩ := hoy j l; refine wpOp_step ho (fun K z => ?_); refine CJ (by simp [Region.wanted, hg]) rfl (B _ _) ?_; refine z _ _ ⟨fun _ _ => I _ (AV h.below _), ?_⟩; have h2 := h.y J j l hd; rw [k, SQ s j l (upd s.y j (.pointer (some ⟨w'.heap.size, 0, none⟩))) (upd s.g j w'.heap.size) s.n s.m, RA A s j l _ s.p (upd s.d j true) (upd s.g j w'.heap.size) s.n s.m]; exact O _ _ h2 (by have := QP s j l hd s.x (upd s.y j (.pointer (some ⟨w'.heap.size, 0, none⟩))) (upd s.g j w'.heap.size) s.n s.m; omega)
    have hx : s.p < 4 → wpOp Try.prog ops Q (ix s.p) (fun a' b => (ix s.p ∉ ([] : List Nat) → S w' → S b) ∧ Az Try.prog .any ops Q S [] (N + 4) ((Gz s).setIfInBounds (ix s.p) true) a' b) (FR A s) w' := fun hp => by
      obtain ⟨o, ho, k, hg, D⟩ := hox s.p hp; refine wpOp_step ho (fun K z => ?_); refine call_ (u s.p) (c s.p) (by simp [Region.wanted, hg]) rfl (D s _) ?_; refine (hcx s.p hp w' h.below).mono fun e b => ?_; rintro ⟨v, rfl, Z, L⟩; refine ⟨v, rfl, z _ _ ⟨fun _ _ => I _ (AZ h.below L), ?_⟩⟩; have h2 := h.x J hp Z L; rw [k, SS s hp (upd s.x s.p v) s.y s.g (upd s.n s.p w'.heap.size) (upd s.m s.p b.heap.size), RB A s s.p hp v (s.p + 1) s.d s.g (upd s.n s.p w'.heap.size) (upd s.m s.p b.heap.size)]; exact O _ _ h2 (by have := QQ s hp (upd s.x s.p v) s.y s.g (upd s.n s.p w'.heap.size) (upd s.m s.p b.heap.size); omega)
    simp only [Pf, Bool.or_eq_true, Bool.and_eq_true, beq_iff_eq, Bool.not_eq_true', List.all_eq_true, decide_eq_true_eq] at hr; rcases hr with ⟨⟨⟨⟨h1, h2⟩, h3⟩, h4⟩, h5⟩ | ⟨hne, hall⟩
    · simp [F6, h1, h2, h3, h4, h5] at q
    · refine Gj Y (fun e => ?_) (fun i hi => ?_)
      · have G : Ew T29.2 (Gz s).toList = [] := e; simp only [Gz] at G; rw [G] at hne; simp at hne
      · rcases hall i hi with (((⟨rfl, hp⟩ | ⟨rfl, hd⟩) | ⟨rfl, hd⟩) | ⟨rfl, hd⟩) | ⟨rfl, hd⟩
        · exact hx hp
        · exact r 0 (by decide) hd
        · exact r 1 (by decide) hd
        · exact r 2 (by decide) hd
        · exact r 3 (by decide) hd
theorem Eb (a : Act) (i : Nat) : a.put (some i) (a.tmps.getD i undef) = a := by
  simp only [Act.put]; congr 1; apply Array.ext_getElem?; intro k; rw [Array.getElem?_setIfInBounds]; split
  · rename_i h; subst h; split
    · rename_i h2; exact (Array.getElem?_eq_getElem h2).symm
    · rename_i h2; rw [Array.getElem?_eq_none (by omega)]
  · rfl
theorem rc_ {j : Oper} {a : Act} {w : World} {f : FuncId} {h : Func} {e : Array Operand} {q : Array TypeId} {args : Array Value} (o : Try.prog.funcs[f]? = some h) (c : (h.name == "runtime.NumGoroutine") = false) (k : h.body.isSome = true) (i : j.op = .call { callee := .value (.func f), args := e, argTypes := q }) (b : e.map a.eval = args) : (execOp a.eval j).run Try.prog w = .ok (.enter f args) w := by
  have l := Jl o c k args w; unfold execOp; simp [i, resolve, Deferred.ofValue, invoke, Act.eval, b, l]
theorem QS {ops : Array Oper} {Q : Exit → Act → World → Prop} {S : World → Prop} {A : Act} {W : World} (l : Cm .any ops = T29) (X : Nat → Nat → Nat → Value → World → Prop)
    (r : ∀ i n m v w w', X i n m v w → Below w.heap.size w w' → X i n m v w') (q : ∀ w', Below W.heap.size W w' → S w')
    (hoy : ∀ j, j < 4 → ∃ o, ops[iy j]? = some o ∧ o.dst = some (sy j) ∧ o.guard = none ∧ ∀ (a : Act) (w : World), (execOp a.eval o).run Try.prog w = .ok (.value (.pointer (some ⟨w.heap.size, 0, none⟩))) (w.alloc (Z29 j)))
    (k : Nat → FuncId) (b : Nat → Array Value)
    (hox : ∀ i, i < 4 → ∃ o, ops[ix i]? = some o ∧ o.dst = some (sx i) ∧ o.guard = none ∧ ∀ (s : G29) (w : World), (execOp (FR A s).eval o).run Try.prog w = .ok (.enter (k i) (b i)) w)
    (hcx : ∀ i, i < 4 → ∀ w', Below W.heap.size W w' → Calls Try.prog (k i) (b i) w' fun e c => ∃ v, e = .returned v ∧ X i w'.heap.size c.heap.size v c ∧ Below w'.heap.size w' c)
    (hfin : ∀ s w', I29 X W s w' → s.p = 4 → (∀ j, j < 4 → s.d j = true) → Az Try.prog .any ops Q S [] 4 (Gz s) (FR A s) w') :
    Az Try.prog .any ops Q S [] 12 #[true, false, true, false, true, true, false, true, false, false, false, false, false, false, false, false, false] A W := by
  have h := r29 l X r q hoy k b hox hcx hfin 8 ⟨0, fun _ => false, fun i => A.tmps.getD (sx i) undef, fun j => A.tmps.getD (sy j) undef, fun _ => 0, fun _ => 0, fun _ => 0⟩ W ⟨Nat.zero_le _, Below.refl _ _, fun i hi => absurd hi (Nat.not_lt_zero _), fun j _ hd => (by cases hd), fun i j hi => absurd hi (Nat.not_lt_zero _), fun i j _ _ hd => (by cases hd)⟩ rfl; rw [Oj] at h; unfold P8 at h; simp only [sx, sy] at h; rw [Eb A 24, Eb A 25, Eb A 26, Eb A 27, Eb A 130, Eb A 132, Eb A 135, Eb A 137] at h; exact h
structure Ko (X : Nat → Nat → Nat → Value → World → Prop) (W : World) (s : G29) (t : Nat → Nat) (c : Nat → Array Value) (w : World) : Prop where
  below : Below W.heap.size W w
  row : ∀ i, i < 4 → W.heap.size ≤ s.n i ∧ s.m i ≤ w.heap.size ∧ X i (s.n i) (s.m i) (s.x i) w
  blk : ∀ j, j < 4 → W.heap.size ≤ s.g j ∧ w.heap[s.g j]? = some (.cells (c j) (t j) (0, 0))
  cross : ∀ i j, i < 4 → j < 4 → s.g j < s.n i ∨ s.m i ≤ s.g j
  diff : ∀ i j, i < 4 → j < 4 → i ≠ j → s.g i ≠ s.g j
theorem Ko.set {X : Nat → Nat → Nat → Value → World → Prop} {W : World} {s : G29} {t : Nat → Nat} {c : Nat → Array Value} {w w' : World} {ds : Array Value} (a : ∀ i n m v w w', X i n m v w → (∀ k, n ≤ k → k < m → k < w.heap.size → w'.heap[k]? = w.heap[k]?) → X i n m v w') (h : Ko X W s t c w) (j : Nat) (b : j < 4) [u : Fr w' w (s.g j)] (l : Below W.heap.size W w')
    (hp : w'.heap[s.g j]? = some (.cells ds (t j) (0, 0))) : Ko X W s t (upd c j ds) w' := by
  refine ⟨l, fun i hi => ?_, fun i hi => ?_, h.cross, h.diff⟩
  · obtain ⟨h1, h2, h3⟩ := h.row i hi; refine ⟨h1, Nat.le_trans h2 u.up.2, a _ _ _ _ _ _ h3 fun k q r o => u.up.1 k (fun e => ?_) o⟩; have := h.cross i j hi b; omega
  · by_cases e : i = j
    · subst e; rw [FE]; exact ⟨(h.blk i hi).1, hp⟩
    · rw [upd_ne _ _ e]; obtain ⟨h1, h2⟩ := h.blk i hi; exact ⟨h1, (u.up.1 _ (h.diff i j hi b e) (Cf h2)).trans h2⟩
theorem MN {P : Program} {ops : Array Oper} {Q : Exit → Act → World → Prop} {S : World → Prop} {ds : List Nat} {n : Nat} {l : Array Bool} {a : Act} {w : World} (R : World → Prop) (h : R w) (k : ∀ w', R w' → Az P .any ops Q S ds n l a w') : Az P .any ops Q S ds n l a w := k w h
def PlX (a b : Int) (l2 : List Int) (k : List S30) (l : List S63) (n m : Nat) (v : Value) (w : World) : Prop := ∃ (c : Option Addr) (h : Nat) (B3 : Option Addr) (i : Nat) (e : Option Addr) (j : Nat), v = .agg #[.int .i64 a, .int .i64 b, .slice c l2.length h, .slice B3 k.length i, .slice e l.length j] ∧ Pw n m w c h l2 B3 i k e j l
def VlX (a b : Int) (l2 : List Int) (i : List S30) (n m : Nat) (v : Value) (w : World) : Prop := ∃ (c : Option Addr) (e : Nat) (B3 : Option Addr) (h : Nat), v = .agg #[.int .i64 a, .int .i64 b, .slice c l2.length e, .slice B3 i.length h] ∧ Rw (Kd.int .u8) n m w c e l2 ∧ Rw k30 n m w B3 h i
def X29 (q1 q2 : Int) (q3 : List Int) (q4 : List S30) (q5 : List S63) (r1 r2 : Int) (r3 : List Int) (r4 : List S30) (r5 : List S63) (s1 : List S63) (v1 v2 : Int) (v3 : List Int) (v4 : List S30) : Nat → Nat → Nat → Value → World → Prop
  | 0 => PlX q1 q2 q3 q4 q5
  | 1 => PlX r1 r2 r3 r4 r5
  | 2 => PlX 0 0 [] [] s1
  | _ => VlX v1 v2 v3 v4
theorem PlX.fr {a b : Int} {l2 : List Int} {i : List S30} {j : List S63} {n m : Nat} {v : Value} {w w' : World} (h : PlX a b l2 i j n m v w) (c : ∀ k, n ≤ k → k < m → k < w.heap.size → w'.heap[k]? = w.heap[k]?) : PlX a b l2 i j n m v w' := by
  obtain ⟨l, q, B3, r, o, s, e, hp⟩ := h; exact ⟨l, q, B3, r, o, s, e, hp.r2.step c, hp.r3.step c, hp.r4.step c⟩
theorem VlX.fr {a b : Int} {l2 : List Int} {i : List S30} {n m : Nat} {v : Value} {w w' : World} (h : VlX a b l2 i n m v w) (c : ∀ k, n ≤ k → k < m → k < w.heap.size → w'.heap[k]? = w.heap[k]?) : VlX a b l2 i n m v w' := by
  obtain ⟨j, l, B3, o, e, h2, h3⟩ := h; exact ⟨j, l, B3, o, e, h2.step c, h3.step c⟩
section
variable {q1 q2 : Int} {q3 : List Int} {q4 : List S30} {q5 : List S63} {r1 r2 : Int} {r3 : List Int} {r4 : List S30} {r5 : List S63} {s1 : List S63} {v1 v2 : Int} {v3 : List Int} {v4 : List S30}
theorem JE (i n m : Nat) (v : Value) (w w' : World) (h : X29 q1 q2 q3 q4 q5 r1 r2 r3 r4 r5 s1 v1 v2 v3 v4 i n m v w) (a : ∀ k, n ≤ k → k < m → k < w.heap.size → w'.heap[k]? = w.heap[k]?) : X29 q1 q2 q3 q4 q5 r1 r2 r3 r4 r5 s1 v1 v2 v3 v4 i n m v w' := by
  match i, h with
  | 0, h => exact PlX.fr h a
  | 1, h => exact PlX.fr h a
  | 2, h => exact PlX.fr h a
  | _ + 3, h => exact VlX.fr h a
theorem M7 (i n m : Nat) (v : Value) (w w' : World) (h : X29 q1 q2 q3 q4 q5 r1 r2 r3 r4 r5 s1 v1 v2 v3 v4 i n m v w) (a : Below w.heap.size w w') : X29 q1 q2 q3 q4 q5 r1 r2 r3 r4 r5 s1 v1 v2 v3 v4 i n m v w' := JE i n m v w w' h fun k _ _ b => a.block k b
end
def SV : Nat → FuncId | 0 => 26 | 1 => 26 | 2 => 26 | _ => 39
def SX (a0 a b a3 : Value) : Nat → Array Value | 0 => #[a0] | 1 => #[a] | 2 => #[b] | _ => #[a3]
def M8 (j : Nat) : Nat := if j = 3 then 30 else 33
def M9 (j : Nat) : Array Value := if j = 3 then #[.int .i64 0, .int .i64 0, .slice none 0 0, .slice none 0 0] else #[.int .i64 0, .int .i64 0, .slice none 0 0, .slice none 0 0, .slice none 0 0]
theorem I29.done {X : Nat → Nat → Nat → Value → World → Prop} {W : World} {s : G29} {w : World} (h : I29 X W s w) (hp : s.p = 4) (hd : ∀ j, j < 4 → s.d j = true) : Ko X W s M8 M9 w :=
  ⟨h.below, fun i hi => h.row i (by omega), fun j a => ⟨(h.blk j a (hd j a)).2.1, by
    have := (h.blk j a (hd j a)).2.2; rw [this]; unfold Z29 M8 M9; split <;> rfl⟩, fun i j hi a => h.cross i j (by omega) a (hd j a), fun i j hi a => h.diff i j hi a (hd i hi) (hd j a)⟩
theorem PT {s : G29} (hp : s.p = 4) (hd : ∀ j, j < 4 → s.d j = true) : Gz s = #[true, true, true, true, true, true, true, true, true, true, true, true, true, false, false, false, false] := by
  simp [Gz, hp, hd 0 (by decide), hd 1 (by decide), hd 2 (by decide), hd 3 (by decide)]
theorem QT {o : Oper} (h : o.op = .alloc 33) (a : Act) (w : World) : (execOp a.eval o).run Try.prog w = .ok (.value (.pointer (some ⟨w.heap.size, 0, none⟩))) (w.alloc (.cells #[.int .i64 0, .int .i64 0, .slice none 0 0, .slice none 0 0, .slice none 0 0] 33 (0, 0))) := by
  unfold execOp; rw [h]; go_simp
theorem SY {o : Oper} (h : o.op = .alloc 30) (a : Act) (w : World) : (execOp a.eval o).run Try.prog w = .ok (.value (.pointer (some ⟨w.heap.size, 0, none⟩))) (w.alloc (.cells #[.int .i64 0, .int .i64 0, .slice none 0 0, .slice none 0 0] 30 (0, 0))) := by
  unfold execOp; rw [h]; go_simp
theorem PlX.at {a b : Int} {l2 : List Int} {i : List S30} {j : List S63} {n m : Nat} {v : Value} {w : World} {k B3 l : Option Addr} {o q r : Nat} (h : PlX a b l2 i j n m v w) (e : v = .agg #[.int .i64 a, .int .i64 b, .slice k l2.length o, .slice B3 i.length q, .slice l j.length r]) : Pw n m w k o l2 B3 q i l r j := by
  obtain ⟨s, B, u, D, z, G, c, hp⟩ := h; rw [e] at c; simp only [Value.agg.injEq, Array.mk.injEq, List.cons.injEq, Value.slice.injEq, true_and, and_true] at c; obtain ⟨⟨rfl, rfl⟩, ⟨rfl, rfl⟩, rfl, rfl⟩ := c; exact hp
theorem VlX.at {a b : Int} {l2 : List Int} {i : List S30} {n m : Nat} {v : Value} {w : World} {j B3 : Option Addr} {k l : Nat} (h : VlX a b l2 i n m v w) (e : v = .agg #[.int .i64 a, .int .i64 b, .slice j l2.length k, .slice B3 i.length l]) : Rw (Kd.int .u8) n m w j k l2 ∧ Rw k30 n m w B3 l i := by
  obtain ⟨o, r, q, s, c, h2, h3⟩ := h; rw [e] at c; simp only [Value.agg.injEq, Array.mk.injEq, List.cons.injEq, Value.slice.injEq, true_and, and_true] at c; obtain ⟨⟨rfl, rfl⟩, rfl, rfl⟩ := c; exact ⟨h2, h3⟩
end Go.Proofs.Ytojankgmedccdaa.PGn
