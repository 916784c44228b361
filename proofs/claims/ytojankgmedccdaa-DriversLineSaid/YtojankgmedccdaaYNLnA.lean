/- Lemmas. -/
import Derived.Test.YtojankgmedccdaaYNAwB
import Derived.Test.YtojankgmedccdaaYNPGnF39
namespace Go.Proofs.Ytojankgmedccdaa.Ln
open Go.RowKit Own PTy Hand PIs PAw Wo
set_option linter.unusedVariables false
section
variable {w W W' : World} {S S' T : Nat → Prop} {n0 n1 r1 r2 : Int} {b r3 : List Int} {l r4 : List S30} {r5 : List S63} {v p : Value} {g b0 : Nat}
def Cv (w : World) (S : Nat → Prop) (n0 n1 : Int) (b : List Int) (l : List S30) (v : Value) : Prop := ∃ A c B d, v = .agg #[.int .i64 n0, .int .i64 n1, .slice A b.length c, .slice B l.length d] ∧ b.length ≤ c ∧ l.length ≤ d ∧ Kd.F (Kd.int .u8) w S A b.length b ∧ Kd.F k30 w S B l.length l
theorem Cv.up (h : Cv w S n0 n1 b l v) (a : Below w.heap.size w W) : Cv W S n0 n1 b l v := by
  obtain ⟨A, c, B, d, e, h1, g, i, j⟩ := h; exact ⟨A, c, B, d, e, h1, g, Kd.Cs i a, Kd.Cs j a⟩
theorem Cv.mono (h : Cv w S n0 n1 b l v) (g : ∀ k, k < w.heap.size → S k → S' k) : Cv w S' n0 n1 b l v := by
  obtain ⟨A, c, B, d, e, h1, i, j, m⟩ := h; exact ⟨A, c, B, d, e, h1, i, Kd.Cw (Kd.DX j) (fun k a => g k a.2 a.1), Kd.Cw (Kd.DX m) (fun k a => g k a.2 a.1)⟩
theorem Km {A B : Option Addr} {c d : Nat} (n : b.length ≤ c) (hd : l.length ≤ d) (h : Kd.F (Kd.int .u8) w S A b.length b) (k : Kd.F k30 w S B l.length l) (m : S w.heap.size) :
    Kd.F k30 (w.alloc (.cells #[.int .i64 n0, .int .i64 n1, .slice A b.length c, .slice B l.length d] 30 (0, 0))) S (some ⟨w.heap.size, 0, none⟩) 1 [⟨n0, n1, b, l⟩] := by
  intro W' e; have hn := Aw.alloc_at m e; have ho := Aw.alloc_old e; refine ⟨rfl, by decide, fun _ => ⟨_, rfl, ?_⟩⟩; intro j p g; cases j with
  | succ j => simp at g
  | zero =>
    obtain rfl := Option.some.inj g; refine ⟨[.int .i64 n0, .int .i64 n1, .slice A b.length c, .slice B l.length d], rfl, Gj W' ⟨n0, n1, b, l⟩ n (h W' ho) hd (k W' ho), ?_⟩; intro i u a; have := Af hn i; match i with
    | 0 => exact this.trans a
    | 1 => exact this.trans a
    | 2 => exact this.trans a
    | 3 => exact this.trans a
    | i + 4 => simp at a
def Pq (w : World) (b0 : Nat) (T S : Nat → Prop) (r1 r2 : Int) (r3 : List Int) (r4 : List S30) (r5 : List S63) (A : Option Addr) (c : Nat) (B : Option Addr) (d : Nat) (E : Option Addr) (e : Nat) : Prop :=
  (Kd.int .u8).R 73 w b0 S (.slice A r3.length c) r3 ∧
  Kd.V k30 30 w b0 (fun k => (T k ∧ some k ≠ (Value.slice A r3.length c).ownBlock ∧ some k ≠ (Value.slice E r5.length e).ownBlock) ∧ S k) (.slice B r4.length d) r4 ∧
  Kd.N k63 63 w b0 (fun k => (T k ∧ some k ≠ (Value.slice A r3.length c).ownBlock) ∧ S k) (.slice E r5.length e) r5
variable {A B E : Option Addr} {c d e : Nat}
theorem Pq.up (h : Pq w b0 T S r1 r2 r3 r4 r5 A c B d E e) (a : Below w.heap.size w W) : Pq W b0 T S r1 r2 r3 r4 r5 A c B d E e := ⟨Kd.ET h.1 a, Kd.Bl h.2.1 a, Kd.DY h.2.2 a⟩
theorem Pq.mono (h : Pq w b0 T S r1 r2 r3 r4 r5 A c B d E e) (b : ∀ k, k < w.heap.size → S k → S' k) : Pq w b0 T S' r1 r2 r3 r4 r5 A c B d E e :=
  ⟨Kd.BK (Kd.Dz h.1) (fun k a => b k a.2.2.1 a.1), Kd.AL (Kd.H6 h.2.1) (fun k a => ⟨a.1.1, b k a.2 a.1.2⟩), Kd.BF (Kd.Gw h.2.2) (fun k a => ⟨a.1.1, b k a.2 a.1.2⟩)⟩
theorem Pq.step (h : Pq w b0 T S r1 r2 r3 r4 r5 A c B d E e) (a : ∀ k, S k → k < w.heap.size → W.heap[k]? = w.heap[k]?) : Pq W b0 T S r1 r2 r3 r4 r5 A c B d E e :=
  ⟨Kd.Ga h.1 a, Kd.JG h.2.1 (fun k b g => a k b.2 g), Kd.Gd h.2.2 (fun k b g => a k b.2 g)⟩
theorem Ip (b c d e h : Value) {k : Nat} (a : k ≠ g) : (((((w.setCell ⟨g, 0, none⟩ b).setCell ⟨g, 1, none⟩ c).setCell ⟨g, 2, none⟩ d).setCell ⟨g, 3, none⟩ e).setCell ⟨g, 4, none⟩ h).heap[k]? = w.heap[k]? := by
  rw [Below.heap_setCell _ ⟨g, 4, none⟩ _ k a, Below.heap_setCell _ ⟨g, 3, none⟩ _ k a, Below.heap_setCell _ ⟨g, 2, none⟩ _ k a, Below.heap_setCell _ ⟨g, 1, none⟩ _ k a, Below.heap_setCell _ ⟨g, 0, none⟩ _ k a]
theorem II {t : TypeId} {e i j k l m n o p q a b c d : Value} (h : w.heap[g]? = some (.cells #[e, i, j, k, l, m, n, o, p, q, a, b, c, d] t (0, 0))) : w.cell? ⟨g, 0, none⟩ = some e ∧ w.cell? ⟨g, 1, none⟩ = some i ∧ w.cell? ⟨g, 2, none⟩ = some j ∧ w.cell? ⟨g, 3, none⟩ = some k ∧ w.cell? ⟨g, 4, none⟩ = some l ∧ w.cell? ⟨g, 5, none⟩ = some m ∧ w.cell? ⟨g, 6, none⟩ = some n ∧ w.cell? ⟨g, 7, none⟩ = some o ∧ w.cell? ⟨g, 8, none⟩ = some p ∧ w.cell? ⟨g, 9, none⟩ = some q ∧ w.cell? ⟨g, 10, none⟩ = some a ∧ w.cell? ⟨g, 11, none⟩ = some b ∧ w.cell? ⟨g, 12, none⟩ = some c ∧ w.cell? ⟨g, 13, none⟩ = some d ∧ w.frozen? ⟨g, 0, none⟩ = false ∧ w.frozen? ⟨g, 1, none⟩ = false ∧ w.frozen? ⟨g, 2, none⟩ = false ∧ w.frozen? ⟨g, 3, none⟩ = false ∧ w.frozen? ⟨g, 4, none⟩ = false ∧ w.frozen? ⟨g, 5, none⟩ = false ∧ w.frozen? ⟨g, 6, none⟩ = false ∧ w.frozen? ⟨g, 7, none⟩ = false ∧ w.frozen? ⟨g, 8, none⟩ = false ∧ w.frozen? ⟨g, 9, none⟩ = false ∧ w.frozen? ⟨g, 10, none⟩ = false ∧ w.frozen? ⟨g, 11, none⟩ = false ∧ w.frozen? ⟨g, 12, none⟩ = false ∧ w.frozen? ⟨g, 13, none⟩ = false :=
  ⟨(Af h 0).trans rfl, (Af h 1).trans rfl, (Af h 2).trans rfl, (Af h 3).trans rfl, (Af h 4).trans rfl, (Af h 5).trans rfl, (Af h 6).trans rfl, (Af h 7).trans rfl, (Af h 8).trans rfl, (Af h 9).trans rfl, (Af h 10).trans rfl, (Af h 11).trans rfl, (Af h 12).trans rfl, (Af h 13).trans rfl, AY h 0, AY h 1, AY h 2, AY h 3, AY h 4, AY h 5, AY h 6, AY h 7, AY h 8, AY h 9, AY h 10, AY h 11, AY h 12, AY h 13⟩
theorem cf5 {a b c d j : Value} {u : Option Value} {m i : Nat} (h : m ≠ g) (e : w.cell? ⟨m, i, none⟩ = u) : (((((w.setCell ⟨g, 0, none⟩ a).setCell ⟨g, 1, none⟩ b).setCell ⟨g, 2, none⟩ c).setCell ⟨g, 3, none⟩ d).setCell ⟨g, 4, none⟩ j).cell? ⟨m, i, none⟩ = u := by
  rw [cell_far (p := ⟨g, 4, none⟩) h, cell_far (p := ⟨g, 3, none⟩) h, cell_far (p := ⟨g, 2, none⟩) h, cell_far (p := ⟨g, 1, none⟩) h, cell_far (p := ⟨g, 0, none⟩) h, e]
theorem QW (k : Nat) {A B : Option Addr} {c d : Nat} {j m : Int} {b0 : List Int} {l0 : List S30} (n : ∀ k, w.heap.size ≤ k → S k) (r : Kd.C (Kd.int .u8) w A b0.length b0) (l2 : b0.length ≤ c) (s : Kd.C k30 w B l0.length l0) (z : l0.length ≤ d) (h : PGn.Bu.f k j m b0 l0 = some (n0, n1, b, l)) :
    Calls Try.prog 39 #[.agg #[.int .i64 j, .int .i64 m, .slice A b0.length c, .slice B l0.length d]] w fun e w' => ∃ v, e = .returned v ∧ Cv w' S n0 n1 b l v ∧ Below w.heap.size w w' := by
  refine (PGn.Bu.calls k j m A c b0 B d l0 n0 n1 b l w r l2 s z h).mono ?_; rintro e w' ⟨v2, v3, rfl, x, y, u⟩; have a := Kd.BK (Kd.Dv (M := S) x (Nat.le_refl _) n) (ok' := S) (fun k i => i.1); have g := Kd.BK (Kd.Dv (M := S) y (Nat.le_refl _) n) (ok' := S) (fun k i => i.1); obtain ⟨o, q, rfl⟩ := Kd.Bt a; obtain ⟨p, d', rfl⟩ := Kd.Bt g; exact ⟨_, rfl, ⟨o, q, p, d', rfl, (Kd.Cg a).2.1, (Kd.Cg g).2.1, Kd.R_F a, Kd.R_F g⟩, u⟩
theorem IG (k : Nat) (b0 : Nat) (b : b0 ≤ w.heap.size) {Y Z : Int} {x2 : ByteArray} {v : Option Addr} {z3 : Nat} {i : List ByteArray} {x : Option Addr} {z4 : Nat} {j : List S26} {U W : Int} {r : Option Addr} {y3 : Nat} {g : List Int} {s : Option Addr} {y4 : Nat} {l : List S30} {u : Option Addr} {y5 : Nat} {m : List S63} {now : Int} {G : Option Addr} {D : Nat} {vs : List S30} {H : Option Addr} {I : Nat} {as_ : List Int} {tr : Bool}
    {n o p : Nat → Prop} (J : ∀ k, k < w.heap.size → n k → T k ∧ S k) (L : ∀ k, k < w.heap.size → o k → T k ∧ S k) (O : ∀ k, k < w.heap.size → p k → T k ∧ S k) (hn : ∀ k, w.heap.size ≤ k → T k ∧ S k) (hG : EP w)
    (a1 : Kd.C Kd.string w v i.length i) (a2 : i.length ≤ z3) (a3 : Kd.C k26 w x j.length j) (a4 : j.length ≤ z4) (a5 : Kd.C (Kd.int .u8) w r g.length g) (a6 : g.length ≤ y3) (a7 : Kd.V k30 30 w w.heap.size n (.slice s l.length y4) l) (a8 : Kd.V k63 63 w w.heap.size o (.slice u m.length y5) m)
    (a9 : Kd.F k30 w p G vs.length vs) (y : vs.length ≤ D) (z : Kd.C (Kd.int .i64) w H as_.length as_) (a12 : as_.length ≤ I) {X : Int} (h : PGn.AC.f k Y Z x2 i j U W g l m now vs as_ tr = some (r1, r2, r3, r4, r5, X)) :
    Calls Try.prog 38 #[.agg #[.int .i64 Y, .int .i64 Z, .string x2, .slice v i.length z3, .slice x j.length z4], .agg #[.int .i64 U, .int .i64 W, .slice r g.length y3, .slice s l.length y4, .slice u m.length y5], .int .i64 now, .slice G vs.length D, .slice H as_.length I, .bool tr] w
      fun e w' => ∃ A c B d E q, e = .returned (.tuple #[.agg #[.int .i64 r1, .int .i64 r2, .slice A r3.length c, .slice B r4.length d, .slice E r5.length q], .int .i64 X]) ∧ Pq w' b0 T S r1 r2 r3 r4 r5 A c B d E q ∧ Below w.heap.size w w' := by
  refine (PGn.AC.calls k Y Z x2 v z3 i x z4 j U W r y3 g (fun k => n k ∧ k < w.heap.size) s y4 l (fun k => o k ∧ k < w.heap.size) u y5 m now (fun k => p k ∧ k < w.heap.size) G D vs H I as_ tr r1 r2 r3 r4 r5 X w hG a1 a2 a3 a4 a5 a6 (Kd.H6 a7) (Kd.H6 a8) (Kd.H6 (Kd.Di y a9)) z a12 h).mono ?_; rintro e w' ⟨v2, v3, v4, rfl, k2, k3, k4, hb⟩; obtain ⟨A, c, rfl⟩ := Kd.Bt k2; obtain ⟨B, d, rfl⟩ := Kd.CL k3; obtain ⟨E, q, rfl⟩ := Kd.Ct k4; have hm : ∀ k, (((n k ∧ k < w.heap.size) ∨ (o k ∧ k < w.heap.size) ∨ (p k ∧ k < w.heap.size)) ∨ w.heap.size ≤ k) → T k ∧ S k := by
    rintro k ((h | h | h) | h)
    · exact J k h.2 h.1
    · exact L k h.2 h.1
    · exact O k h.2 h.1
    · exact hn k h
  exact ⟨A, c, B, d, E, q, rfl, ⟨Kd.Cb (Kd.BK k2 (fun k a => (hn k a).2)) b, Kd.EM (Kd.AL k3 (fun k a => ⟨⟨(hm k a.1).1, a.2.1, a.2.2⟩, (hm k a.1).2⟩)) b, Kd.Dr (Kd.BF k4 (fun k a => ⟨⟨(hm k a.1).1, a.2⟩, (hm k a.1).2⟩)) b⟩, hb⟩
end
end Go.Proofs.Ytojankgmedccdaa.Ln
