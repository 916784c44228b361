/- Lemmas. -/
import Derived.Test.YtojankgmedccdaaYOPFrW
import Derived.Test.YtojankgmedccdaaYOPGnF21
import Derived.Test.YtojankgmedccdaaYOPGnF35
import Derived.Test.YtojankgmedccdaaYOAwB
namespace Go.Proofs.Ytojankgmedccdaa.PGn
open Go.RowKit Own PTy Hand PIs PAw Wo
set_option linter.unusedVariables false
set_option linter.unusedSimpArgs false
structure Q3 (k : Nat) (x : S26) (z : S30) (l : List S63) (now : Int) (vals : List S30) (after : List Int) (tr : Bool) (q1 q2 : Int) (q3 : List Int) (q4 : List S30) (q5 : List S63) (q6 : Int) (r1 r2 : Int) (r3 : List Int) (r4 : List S30) (r5 : List S63) (r6 : Bool) (r7 : Int) (s1 : List S63) (s2 : Int) (v1 v2 : Int) (v3 : List Int) (v4 : List S30) (v5 : Int) : Prop where
  few : DC.f k x.f0 x.f1 x.f2 x.f3 x.f4 z.f0 z.f1 z.f2 z.f3 l now vals after tr = some true
  awake : E5.f k = some true
  lv : vals.length ≤ 100
  la : after.length ≤ 100
  own : CU.f k z.f0 z.f1 z.f2 z.f3 l = some (z.f0, z.f1, z.f2, z.f3, l)
  copy : ∀ y ∈ vals, Bi.f k y.f0 y.f1 y.f2 y.f3 = some (y.f0, y.f1, y.f2, y.f3)
  alike : ∀ y ∈ vals, BH.f k y.f0 y.f1 y.f2 y.f3 y.f0 y.f1 y.f2 y.f3 = some true
  same : Bt.f k z.f0 z.f1 z.f2 z.f3 l z.f0 z.f1 z.f2 z.f3 l = some true
  assign : AC.f k x.f0 x.f1 x.f2 x.f3 x.f4 z.f0 z.f1 z.f2 z.f3 l now vals after tr = some (q1, q2, q3, q4, q5, q6)
  assignE : (z.f3 = [] ∧ (∀ y ∈ l, y.f1.f3 = []) ∧ ∀ y ∈ vals, y.f3 = []) ∨ (q4 = [] ∧ q5 = [])
  take : Aj.f k x.f0 x.f1 x.f2 x.f3 x.f4 z.f0 z.f1 z.f2 z.f3 l now = some (r1, r2, r3, r4, r5, r6, r7)
  takeE : (z.f3 = [] ∧ ∀ y ∈ l, y.f1.f3 = []) ∨ (r4 = [] ∧ r5 = [])
  shape : Ag.f k x.f0 x.f1 x.f2 x.f3 x.f4 z.f0 z.f1 z.f2 z.f3 l now 2000000 = some (s1, s2)
  shapeE : (∀ y ∈ l, y.f1.f3 = []) ∨ s1 = []
  resolve : Ae.f k x.f0 x.f1 x.f2 x.f3 x.f4 vals = some (v1, v2, v3, v4, v5)
  resolveE : v4 = []
  ownq : CU.f k q1 q2 q3 q4 q5 = some (q1, q2, q3, q4, q5)
  ownr : CU.f k r1 r2 r3 r4 r5 = some (r1, r2, r3, r4, r5)
  owns : CU.f k 0 0 [] [] s1 = some (0, 0, [], [], s1)
  copyv : Bi.f k v1 v2 v3 v4 = some (v1, v2, v3, v4)
  sameq : Bt.f k q1 q2 q3 q4 q5 q1 q2 q3 q4 q5 = some true
  samer : Bt.f k r1 r2 r3 r4 r5 r1 r2 r3 r4 r5 = some true
  shapes : EP.f k s1 s1 = some true
  alikev : BH.f k v1 v2 v3 v4 v1 v2 v3 v4 = some true
def ER (t sz i lo hi : Nat) (w : World) (A : Option Addr) (n : Nat) : Prop := n = 0 ∨ ∃ (g : Nat) (cs : Array Value), A = some ⟨g, 0, none⟩ ∧ w.heap[g]? = some (.cells cs t (0, 0)) ∧ ∀ j : Nat, j < n → ∃ (B : Option Addr) (m c : Nat), cs[j * sz + i]? = some (.slice B m c) ∧ m ≤ 9223372036854775807 ∧ BR lo hi w B m
theorem ER.sp {t sz i lo hi n : Nat} {w w' : World} {A : Option Addr} (e : t ≠ 73) (h : ER t sz i lo hi w A n) (a : Sp lo hi w w') : ER t sz i lo hi w' A n := by
  rcases h with h | ⟨g, cs, rfl, hc, hx⟩
  · exact .inl h
  · exact .inr ⟨g, cs, rfl, a.other g cs t e hc, fun j b => by
      obtain ⟨B, m, c, h1, h2, h3⟩ := hx j b; exact ⟨B, m, c, h1, h2, h3.step a⟩⟩
theorem OV {lo a hi n : Nat} {w : World} {A : Option Addr} (h : BR lo hi w A n) (b : a ≤ lo) : BR a hi w A n := by
  rcases h with h | ⟨g, cs, rfl, h1, h2, hc, hx⟩
  · exact .inl h
  · exact .inr ⟨g, cs, rfl, Nat.le_trans b h1, h2, hc, hx⟩
theorem ER.low {t sz i lo a hi n : Nat} {w : World} {A : Option Addr} (h : ER t sz i lo hi w A n) (b : a ≤ lo) : ER t sz i a hi w A n := by
  rcases h with h | ⟨g, cs, rfl, hc, hx⟩
  · exact .inl h
  · exact .inr ⟨g, cs, rfl, hc, fun j e => by
      obtain ⟨B, m, c, h1, h2, h3⟩ := hx j e; exact ⟨B, m, c, h1, h2, OV h3 b⟩⟩
theorem Cf {w : World} {g : Nat} {o : Obj} (h : w.heap[g]? = some o) : g < w.heap.size := (Array.getElem?_eq_some_iff.1 h).1
theorem I9 {lo hi n : Nat} {w w' : World} {A : Option Addr} (h : BR lo hi w A n) (a : Below w.heap.size w w') : BR lo hi w' A n := by
  rcases h with h | ⟨g, cs, rfl, h1, h2, hc, hx⟩
  · exact .inl h
  · exact .inr ⟨g, cs, rfl, h1, h2, (a.block g (Cf hc)).trans hc, hx⟩
theorem MI {lo hi a n : Nat} {w : World} {A : Option Addr} (h : BR lo hi w A n) (b : hi ≤ a) : BR lo a w A n := by
  rcases h with h | ⟨g, cs, rfl, h1, h2, hc, hx⟩
  · exact .inl h
  · exact .inr ⟨g, cs, rfl, h1, Nat.lt_of_lt_of_le h2 b, hc, hx⟩
theorem ER.below {t sz i lo hi n : Nat} {w w' : World} {A : Option Addr} (h : ER t sz i lo hi w A n) (a : Below w.heap.size w w') : ER t sz i lo hi w' A n := by
  rcases h with h | ⟨g, cs, rfl, hc, hx⟩
  · exact .inl h
  · exact .inr ⟨g, cs, rfl, (a.block g (Cf hc)).trans hc, fun j b => by
      obtain ⟨B, m, c, h1, h2, h3⟩ := hx j b; exact ⟨B, m, c, h1, h2, I9 h3 a⟩⟩
theorem ER.wide {t sz i lo hi a n : Nat} {w : World} {A : Option Addr} (h : ER t sz i lo hi w A n) (b : hi ≤ a) : ER t sz i lo a w A n := by
  rcases h with h | ⟨g, cs, rfl, hc, hx⟩
  · exact .inl h
  · exact .inr ⟨g, cs, rfl, hc, fun j e => by
      obtain ⟨B, m, c, h1, h2, h3⟩ := hx j e; exact ⟨B, m, c, h1, h2, MI h3 b⟩⟩
theorem ER.SL {lo hi base n c : Nat} {w : World} {ok : Nat → Prop} {A : Option Addr} {l : List S63} (h : Kd.R k63 63 w base ok (.slice A n c) l) (i : lo ≤ base) (b : w.heap.size ≤ hi) : ER 63 5 3 lo hi w A n := by
  obtain ⟨hn, _, z⟩ := Kd.CE h; subst hn; by_cases h0 : 0 < l.length
  · obtain ⟨g, cap, e, D, v, cells, k⟩ := Kd.Kw h h0; injection e with e _ _; subst e; refine .inr ⟨g, cells, rfl, k, fun j G => ?_⟩; obtain ⟨cs, u, s, a⟩ := Kd.NV h z63 (j : Int) (by omega) (by omega); obtain ⟨v3, v4, rfl, h3, h4⟩ := MX s; have o := a 3 v3 rfl; rw [show (j : Int).toNat = j from rfl, Ji, Nat.zero_add, AO k] at o; obtain ⟨B, q, r⟩ := Kd.Bo h3; subst r; exact ⟨B, _, q, o, (Kd.CE h3).2.2.2.1, BR.of h3 i b⟩
  · exact .inl (by omega)
theorem ER.SN {lo hi base n c : Nat} {w : World} {ok : Nat → Prop} {A : Option Addr} {l : List S30} (h : Kd.R k30 30 w base ok (.slice A n c) l) (i : lo ≤ base) (b : w.heap.size ≤ hi) : ER 30 4 2 lo hi w A n := by
  obtain ⟨hn, _, z⟩ := Kd.CE h; subst hn; by_cases h0 : 0 < l.length
  · obtain ⟨g, cap, e, D, v, cells, k⟩ := Kd.Kw h h0; injection e with e _ _; subst e; refine .inr ⟨g, cells, rfl, k, fun j G => ?_⟩; obtain ⟨cs, u, s, a⟩ := Kd.NV h z30 (j : Int) (by omega) (by omega); obtain ⟨v3, v4, rfl, h3, h4⟩ := JY s; have o := a 2 v3 rfl; rw [show (j : Int).toNat = j from rfl, Ji, Nat.zero_add, AO k] at o; obtain ⟨B, q, r⟩ := Kd.Bo h3; subst r; exact ⟨B, _, q, o, (Kd.CE h3).2.2.2.1, BR.of h3 i b⟩
  · exact .inl (by omega)
theorem Lb (l : List S30) (x : Int) (a : 0 ≤ x) (h1 : x < (l.length : Int)) : l.take (x + 1).toNat = l.take x.toNat ++ [AB l x] := by
  have e : (x + 1).toNat = x.toNat + 1 := by omega
  have h : x.toNat < l.length := by omega
  rw [e, List.take_add_one, List.getElem?_eq_getElem h]; unfold AB; rw [List.getD_eq_getElem?_getD, List.getElem?_eq_getElem h]; rfl
theorem Pw.up {lo hi b a : Nat} {w w' : World} {e : Option Addr} {k : Nat} {l2 : List Int} {i : Option Addr} {l : Nat} {o : List S30} {j : Option Addr} {c4 : Nat} {q : List S63} (h : Pw lo hi w e k l2 i l o j c4 q) (c : Below w.heap.size w w') (h1 : b ≤ lo) (h2 : hi ≤ a) : Pw b a w' e k l2 i l o j c4 q :=
  ⟨(h.r2.below c).wide h1 h2, (h.r3.below c).wide h1 h2, (h.r4.below c).wide h1 h2⟩
theorem Pw.below {lo hi : Nat} {w w' : World} {a : Option Addr} {e : Nat} {l2 : List Int} {b : Option Addr} {i : Nat} {j : List S30} {c : Option Addr} {c4 : Nat} {k : List S63} (h : Pw lo hi w a e l2 b i j c c4 k) (l : Below w.heap.size w w') : Pw lo hi w' a e l2 b i j c c4 k := h.up l (Nat.le_refl _) (Nat.le_refl _)
theorem Pw.sp {lo hi a b : Nat} {w w' : World} {i : Option Addr} {l : Nat} {l2 : List Int} {j : Option Addr} {o : Nat} {q : List S30} {k : Option Addr} {c4 : Nat} {r : List S63} (h : Pw lo hi w i l l2 j o q k c4 r) (e : Sp a b w w') (c : b ≤ lo) : Pw lo hi w' i l l2 j o q k c4 r := ⟨h.r2.sp e c, h.r3.sp e c, h.r4.sp e c⟩
structure SB (lo hi : Nat) (w : World) (A2 : Option Addr) (n2 : Nat) (A4 : Option Addr) (n4 : Nat) (A9 : Option Addr) (n9 : Nat) : Prop where
  b2 : BR lo hi w A2 n2
  b4 : ER 63 5 3 lo hi w A4 n4
  b9 : ER 30 4 2 lo hi w A9 n9
theorem SB.below {lo hi : Nat} {w w' : World} {b : Option Addr} {i : Nat} {c : Option Addr} {j : Nat} {e : Option Addr} {k : Nat} (h : SB lo hi w b i c j e k) (a : Below w.heap.size w w') : SB lo hi w' b i c j e k := ⟨I9 h.b2 a, h.b4.below a, h.b9.below a⟩
theorem SB.sp {lo hi : Nat} {w w' : World} {b : Option Addr} {i : Nat} {c : Option Addr} {j : Nat} {e : Option Addr} {k : Nat} (h : SB lo hi w b i c j e k) (a : Sp lo hi w w') : SB lo hi w' b i c j e k := ⟨h.b2.step a, h.b4.sp (by decide) a, h.b9.sp (by decide) a⟩
structure InF (lo : Nat) (w : World) (A2 : Option Addr) (c2 : Nat) (l2 : List Int) (A3 : Option Addr) (c3 : Nat) (l3 : List S30) (A4 : Option Addr) (c4 : Nat) (l4 : List S63) : Prop where
  r2 : (Kd.int .u8).C w A2 l2.length l2
  h2 : l2.length ≤ c2
  r3 : k30.C w A3 l3.length l3
  h3 : l3.length ≤ c3
  r4 : k63.C w A4 l4.length l4
  h4 : l4.length ≤ c4
  b2 : BR lo w.heap.size w A2 l2.length
  b4 : ER 63 5 3 lo w.heap.size w A4 l4.length
theorem InF.below {lo : Nat} {w w' : World} {b : Option Addr} {i : Nat} {l2 : List Int} {c : Option Addr} {j : Nat} {k : List S30} {e : Option Addr} {c4 : Nat} {l : List S63} (h : InF lo w b i l2 c j k e c4 l) (a : Below w.heap.size w w') : InF lo w' b i l2 c j k e c4 l :=
  ⟨Kd.Ak h.r2 a, h.h2, Kd.Ak h.r3 a, h.h3, Kd.Ak h.r4 a, h.h4, MI (I9 h.b2 a) a.size, (h.b4.below a).wide a.size⟩
theorem QE (k : Nat) (o : Int) (q : Int) (i : Option Addr) (r : Nat) (a : List Int) (j : Option Addr) (s : Nat) (b : List (S30)) (l : Option Addr) (u : Nat) (c : List (S63)) {X : Int} {r2 : Int} {r3 : List Int} {r4 : List (S30)} {W : List (S63)} (w : World) (D : Kd.C (Kd.int .u8) w i a.length a) (v : a.length ≤ r) (G : Kd.C k30 w j b.length b) (z : b.length ≤ s) (I : Kd.C k63 w l c.length c) (B : c.length ≤ u) (h : CU.f k o q a b c = some (X, r2, r3, r4, W)) :
    Calls Try.prog 26 #[.agg #[.int .i64 o, .int .i64 q, .slice i a.length r, .slice j b.length s, .slice l c.length u]] w fun e w' => ∃ J O B3 T L U, e = .returned (.agg #[.int .i64 X, .int .i64 r2, .slice J r3.length O, .slice B3 r4.length T, .slice L W.length U]) ∧ InF w.heap.size w' J O r3 B3 T r4 L U W ∧ Below w.heap.size w w' := by
  refine (CU.calls D v G z I B h).mono fun e w' => ?_; rintro ⟨v2, v3, v4, rfl, h2, h3, h4, hb⟩; obtain ⟨J, O, rfl⟩ := Kd.Bo h2; obtain ⟨B3, T, rfl⟩ := Kd.Bo h3; obtain ⟨L, U, rfl⟩ := Kd.Bo h4; obtain ⟨_, Y, g2⟩ := Kd.CE h2; obtain ⟨_, Z, g3⟩ := Kd.CE h3; obtain ⟨_, e4, g4⟩ := Kd.CE h4; exact ⟨_, _, _, _, _, _, rfl, ⟨g2, Y, g3, Z, g4, e4, BR.of h2 (Nat.le_refl _) (Nat.le_refl _), ER.SL h4 (Nat.le_refl _) (Nat.le_refl _)⟩, hb⟩
end Go.Proofs.Ytojankgmedccdaa.PGn
