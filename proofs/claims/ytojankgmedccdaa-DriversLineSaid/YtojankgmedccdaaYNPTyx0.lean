/- Lemmas. -/
import Derived.Test.YtojankgmedccdaaProg
import Derived.Test.YtojankgmedccdaaYNW0
namespace Go.Proofs.Ytojankgmedccdaa.PTy
open Go.RowKit Wo
attribute [local go_sem] BS BU Bf Bg BC BD BX BZ
set_option linter.unusedVariables false
set_option linter.unusedSimpArgs false
def H8 : Option Int → Value
 | none => .nilIface
 | some c => .iface 0 (.int .i64 c)
theorem DN : H8 none = .nilIface := rfl
theorem DR (c : Int) : H8 (some c) = .iface 0 (.int .i64 c) := rfl
theorem NN : (Try.prog.info? 9).map (fun i => (i.zero, i.size, i.bytes)) = some (some (.string ⟨#[]⟩), 1, 16) := by kernel_rfl
theorem IW : (Try.prog.info? 30).map (fun i => (i.zero, i.size, i.bytes)) = some (some (.agg #[(.int .i64 0), (.int .i64 0), (.slice none 0 0), (.slice none 0 0)]), 4, 64) := by kernel_rfl
theorem Ep : (Try.prog.info? 63).map (fun i => (i.zero, i.size, i.bytes)) = some (some (.agg #[(.int .i64 0), (.int .i64 0), (.int .i64 0), (.slice none 0 0), (.slice none 0 0)]), 5, 72) := by kernel_rfl
theorem Fz : (Try.prog.info? 73).map (fun i => (i.zero, i.size, i.bytes)) = some (some (.int .u8 0), 1, 1) := by kernel_rfl
structure S30 where
 f0 : Int
 f1 : Int
 f2 : (List Int)
 f3 : (List S30)
def z30 : S30 := ⟨(0 : Int), (0 : Int), ([] : List Int), ([] : List S30)⟩
def F30 (d : Kd S30) : Kd S30 := Kd.iso (Kd.pair (Kd.int .i64) (Kd.pair (Kd.int .i64) (Kd.pair (Kd.slice 73 (Kd.int .u8)) (Kd.slice 30 d)))) (fun x : S30 => (x.f0, x.f1, x.f2, x.f3))
theorem J8 : Kd.GK F30 := Kd.KL _ (Kd.Em (Kd.EU _) (Kd.Em (Kd.EU _) (Kd.Em (Kd.EU _) (Kd.I6 30 Kd.La))))
theorem QE : Kd.Sub F30 [30, 73] := Kd.Lb _ (Kd.FT (Kd.En _ (by decide)) (Kd.FT (Kd.En _ (by decide)) (Kd.FT (Kd.En _ (by decide)) (Kd.Je 30 (by decide) Kd.M0))))
theorem PW : ∀ n, (Kd.upto F30 4 [30, 73] n).sz = 4 := Kd.Lc (fun _ => rfl)
def k30 : Kd S30 := Kd.fix F30 4 [30, 73] PW (Kd.K4 QE)
theorem H9 : Kd.Heap k30 := Kd.NE (fun _ a => Kd.NC _ (Kd.IR (Kd.F8 .i64) (Kd.IR (Kd.F8 .i64) (Kd.IR (Kd.JE 73 (Kd.F8 .u8)) (Kd.JE 30 a)))))
theorem Gi {w : World} {x : S30} {cs : List Value} (h : k30.K w x cs) : ∃ a c b d, cs = [.int .i64 x.f0, .int .i64 x.f1, .slice a x.f2.length c, .slice b x.f3.length d] ∧ x.f2.length ≤ c ∧ (Kd.int .u8).C w a x.f2.length x.f2 ∧ x.f3.length ≤ d ∧ k30.C w b x.f3.length x.f3 := by
 obtain ⟨n, h⟩ := h; cases n with
 | zero => exact h.elim
 | succ n =>
  obtain ⟨_, _, rfl, rfl, _, _, rfl, rfl, _, _, rfl, ⟨a, c, rfl, l2, e⟩, b, d, rfl, i, g⟩ := h; exact ⟨a, c, b, d, rfl, l2, e, i, Kd.O9 g⟩
theorem Gj (w : World) (x : S30) {a : Option Addr} {c : Nat} (l2 : x.f2.length ≤ c) (g : (Kd.int .u8).C w a x.f2.length x.f2) {b : Option Addr} {d : Nat} (i : x.f3.length ≤ d) (h : k30.C w b x.f3.length x.f3) : k30.K w x [.int .i64 x.f0, .int .i64 x.f1, .slice a x.f2.length c, .slice b x.f3.length d] := by
 obtain ⟨e, j⟩ := Kd.I7 J8 h; have k := Kd.Jh J8 PW (show e ≤ e by omega) j; exact ⟨e + 1, [.int .i64 x.f0], [.int .i64 x.f1, .slice a x.f2.length c, .slice b x.f3.length d], rfl, rfl, [.int .i64 x.f1], [.slice a x.f2.length c, .slice b x.f3.length d], rfl, rfl, [.slice a x.f2.length c], [.slice b x.f3.length d], rfl, ⟨a, c, rfl, l2, g⟩, b, d, rfl, i, k⟩
theorem Lm (w : World) (base : Nat) (ok : Nat → Prop) (x : S30) {v2 : Value} (b : (Kd.int .u8).R 73 w base ok v2 x.f2) {v3 : Value} (c : k30.R 30 w base ok v3 x.f3) : k30.M w base ok x [.int .i64 x.f0, .int .i64 x.f1, v2, v3] := by
 obtain ⟨a, d⟩ := Kd.K5 J8 c; have e := Kd.L6 J8 PW (show a ≤ a by omega) d; exact ⟨a + 1, [.int .i64 x.f0], [.int .i64 x.f1, v2, v3], rfl, rfl, [.int .i64 x.f1], [v2, v3], rfl, rfl, [v2], [v3], rfl, ⟨v2, rfl, b⟩, v3, rfl, e⟩
theorem Er {W : World} {ok : Nat → Prop} {x : S30} {cs : List Value} (h : Kd.FK k30 W ok x cs) : ∃ a e c i, cs = [.int .i64 x.f0, .int .i64 x.f1, .slice a x.f2.length e, .slice c x.f3.length i] ∧ x.f2.length ≤ e ∧ Kd.F (Kd.int .u8) W ok a x.f2.length x.f2 ∧ x.f3.length ≤ i ∧ Kd.F k30 W ok c x.f3.length x.f3 := by
 obtain ⟨a, e, c, i, rfl, l2, _, s, _⟩ := Gi (Kd.GQ h); exact ⟨a, e, c, i, rfl, l2, (fun n o => by obtain ⟨b, g, d, j, p, q, k, r, m⟩ := Gi (h n o); injection (Option.some.inj (show some (Value.slice a x.f2.length e) = some (Value.slice b x.f2.length g) from congrArg (fun l => l[2]?) p)) with ha_ _ _; rw [ha_]; exact k), s, (fun n o => by obtain ⟨b, g, d, j, p, q, k, r, m⟩ := Gi (h n o); injection (Option.some.inj (show some (Value.slice c x.f3.length i) = some (Value.slice d x.f3.length j) from congrArg (fun l => l[3]?) p)) with ha_ _ _; rw [ha_]; exact m)⟩
theorem Lp (W : World) (ok : Nat → Prop) (x : S30) {b : Option Addr} {d : Nat} (l2 : x.f2.length ≤ d) (h : Kd.F (Kd.int .u8) W ok b x.f2.length x.f2) {c : Option Addr} {e : Nat} (j : x.f3.length ≤ e) (i : Kd.F k30 W ok c x.f3.length x.f3) : Kd.FK k30 W ok x [.int .i64 x.f0, .int .i64 x.f1, .slice b x.f2.length d, .slice c x.f3.length e] := fun a g => Gj a x l2 (h a g) j (i a g)
def AB (xs : List S30) (i : Int) : S30 := xs.getD i.toNat z30
theorem D8 {w : World} {A : Option Addr} {n : Nat} {xs : List S30} (h : Kd.C k30 w A n xs) (i : Int) (q : 0 ≤ i) (h1 : i < n) : ∃ a b g d k, A = some a ∧ w.cell? (a.add (i.toNat * 4)) = some (.int .i64 (AB xs i).f0) ∧ w.cell? ⟨(a.add (i.toNat * 4)).block, (a.add (i.toNat * 4)).off + 1, none⟩ = some (.int .i64 (AB xs i).f1) ∧ w.cell? ⟨(a.add (i.toNat * 4)).block, (a.add (i.toNat * 4)).off + 2, none⟩ = some (.slice b (AB xs i).f2.length g) ∧ w.cell? ⟨(a.add (i.toNat * 4)).block, (a.add (i.toNat * 4)).off + 3, none⟩ = some (.slice d (AB xs i).f3.length k) ∧ (AB xs i).f2.length ≤ g ∧ (Kd.int .u8).C w b (AB xs i).f2.length (AB xs i).f2 ∧ (AB xs i).f3.length ≤ k ∧ k30.C w d (AB xs i).f3.length (AB xs i).f3 := by
 obtain ⟨a, c, e, _, r, m⟩ := Kd.Jd h z30 i q h1; have l : ∀ j u, c[j]? = some u → w.cell? (a.add (i.toNat * 4 + j)) = some u := m; obtain ⟨b, g, d, k, rfl, l2, o, s, p⟩ := Gi r; exact ⟨a, b, g, d, k, e, l 0 _ rfl, by rw [← Bh _ _ 1 (by omega)]; exact l 1 _ rfl, by rw [← Bh _ _ 2 (by omega)]; exact l 2 _ rfl, by rw [← Bh _ _ 3 (by omega)]; exact l 3 _ rfl, l2, o, s, p⟩
structure S26 where
 f0 : Int
 f1 : Int
 f2 : ByteArray
 f3 : (List ByteArray)
 f4 : (List S26)
def z26 : S26 := ⟨(0 : Int), (0 : Int), (⟨#[]⟩ : ByteArray), ([] : List ByteArray), ([] : List S26)⟩
def F26 (d : Kd S26) : Kd S26 := Kd.iso (Kd.pair (Kd.int .i64) (Kd.pair (Kd.int .i64) (Kd.pair Kd.string (Kd.pair (Kd.slice 9 Kd.string) (Kd.slice 26 d))))) (fun x : S26 => (x.f0, x.f1, x.f2, x.f3, x.f4))
theorem NP : Kd.GK F26 := Kd.KL _ (Kd.Em (Kd.EU _) (Kd.Em (Kd.EU _) (Kd.Em (Kd.EU _) (Kd.Em (Kd.EU _) (Kd.I6 26 Kd.La)))))
theorem QF : Kd.Sub F26 [9, 26] := Kd.Lb _ (Kd.FT (Kd.En _ (by decide)) (Kd.FT (Kd.En _ (by decide)) (Kd.FT (Kd.En _ (by decide)) (Kd.FT (Kd.En _ (by decide)) (Kd.Je 26 (by decide) Kd.M0)))))
theorem QG : ∀ n, (Kd.upto F26 5 [9, 26] n).sz = 5 := Kd.Lc (fun _ => rfl)
def k26 : Kd S26 := Kd.fix F26 5 [9, 26] QG (Kd.K4 QF)
theorem NQ {w : World} {x : S26} {cs : List Value} (h : k26.K w x cs) : ∃ a c b c4, cs = [.int .i64 x.f0, .int .i64 x.f1, .string x.f2, .slice a x.f3.length c, .slice b x.f4.length c4] ∧ x.f3.length ≤ c ∧ Kd.string.C w a x.f3.length x.f3 ∧ x.f4.length ≤ c4 ∧ k26.C w b x.f4.length x.f4 := by
 obtain ⟨n, h⟩ := h; cases n with
 | zero => exact h.elim
 | succ n =>
  obtain ⟨_, _, rfl, rfl, _, _, rfl, rfl, _, _, rfl, rfl, _, _, rfl, ⟨a, c, rfl, g, d⟩, b, c4, rfl, i, e⟩ := h; exact ⟨a, c, b, c4, rfl, g, d, i, Kd.O9 e⟩
theorem PX (w : World) (x : S26) {a : Option Addr} {c : Nat} (h : x.f3.length ≤ c) (e : Kd.string.C w a x.f3.length x.f3) {b : Option Addr} {c4 : Nat} (i : x.f4.length ≤ c4) (g : k26.C w b x.f4.length x.f4) : k26.K w x [.int .i64 x.f0, .int .i64 x.f1, .string x.f2, .slice a x.f3.length c, .slice b x.f4.length c4] := by
 obtain ⟨d, j⟩ := Kd.I7 NP g; have k := Kd.Jh NP QG (show d ≤ d by omega) j; exact ⟨d + 1, [.int .i64 x.f0], [.int .i64 x.f1, .string x.f2, .slice a x.f3.length c, .slice b x.f4.length c4], rfl, rfl, [.int .i64 x.f1], [.string x.f2, .slice a x.f3.length c, .slice b x.f4.length c4], rfl, rfl, [.string x.f2], [.slice a x.f3.length c, .slice b x.f4.length c4], rfl, rfl, [.slice a x.f3.length c], [.slice b x.f4.length c4], rfl, ⟨a, c, rfl, h, e⟩, b, c4, rfl, i, k⟩
def Al (xs : List S26) (i : Int) : S26 := xs.getD i.toNat z26
theorem Fe {w : World} {A : Option Addr} {n : Nat} {xs : List S26} (h : Kd.C k26 w A n xs) (i : Int) (p : 0 ≤ i) (h1 : i < n) : ∃ a d k g c4, A = some a ∧ w.cell? (a.add (i.toNat * 5)) = some (.int .i64 (Al xs i).f0) ∧ w.cell? ⟨(a.add (i.toNat * 5)).block, (a.add (i.toNat * 5)).off + 1, none⟩ = some (.int .i64 (Al xs i).f1) ∧ w.cell? ⟨(a.add (i.toNat * 5)).block, (a.add (i.toNat * 5)).off + 2, none⟩ = some (.string (Al xs i).f2) ∧ w.cell? ⟨(a.add (i.toNat * 5)).block, (a.add (i.toNat * 5)).off + 3, none⟩ = some (.slice d (Al xs i).f3.length k) ∧ w.cell? ⟨(a.add (i.toNat * 5)).block, (a.add (i.toNat * 5)).off + 4, none⟩ = some (.slice g (Al xs i).f4.length c4) ∧ (Al xs i).f3.length ≤ k ∧ Kd.string.C w d (Al xs i).f3.length (Al xs i).f3 ∧ (Al xs i).f4.length ≤ c4 ∧ k26.C w g (Al xs i).f4.length (Al xs i).f4 := by
 obtain ⟨a, c, e, _, q, l⟩ := Kd.Jd h z26 i p h1; have b : ∀ j u, c[j]? = some u → w.cell? (a.add (i.toNat * 5 + j)) = some u := l; obtain ⟨d, k, g, c4, rfl, r, m, s, o⟩ := NQ q; exact ⟨a, d, k, g, c4, e, b 0 _ rfl, by rw [← Bh _ _ 1 (by omega)]; exact b 1 _ rfl, by rw [← Bh _ _ 2 (by omega)]; exact b 2 _ rfl, by rw [← Bh _ _ 3 (by omega)]; exact b 3 _ rfl, by rw [← Bh _ _ 4 (by omega)]; exact b 4 _ rfl, r, m, s, o⟩
structure S63 where
 f0 : Int
 f1 : S30
def z63 : S63 := ⟨(0 : Int), z30⟩
def k63 : Kd S63 := Kd.iso (Kd.pair (Kd.int .i64) k30) (fun x : S63 => (x.f0, x.f1))
theorem IA {w : World} {x : S63} {cs : List Value} (h : k63.K w x cs) : ∃ a c b c4, cs = [.int .i64 x.f0, .int .i64 x.f1.f0, .int .i64 x.f1.f1, .slice a x.f1.f2.length c, .slice b x.f1.f3.length c4] ∧ x.f1.f2.length ≤ c ∧ (Kd.int .u8).C w a x.f1.f2.length x.f1.f2 ∧ x.f1.f3.length ≤ c4 ∧ k30.C w b x.f1.f3.length x.f1.f3 := by
 obtain ⟨_, _, rfl, rfl, j⟩ := h; obtain ⟨a, c, b, c4, rfl, g, d, i, e⟩ := Gi j; exact ⟨a, c, b, c4, rfl, g, d, i, e⟩
theorem NR (w : World) (x : S63) {a : Option Addr} {c : Nat} (g : x.f1.f2.length ≤ c) (d : (Kd.int .u8).C w a x.f1.f2.length x.f1.f2) {b : Option Addr} {c4 : Nat} (h : x.f1.f3.length ≤ c4) (e : k30.C w b x.f1.f3.length x.f1.f3) : k63.K w x [.int .i64 x.f0, .int .i64 x.f1.f0, .int .i64 x.f1.f1, .slice a x.f1.f2.length c, .slice b x.f1.f3.length c4] := ⟨[.int .i64 x.f0], [.int .i64 x.f1.f0, .int .i64 x.f1.f1, .slice a x.f1.f2.length c, .slice b x.f1.f3.length c4], rfl, rfl, (Gj w x.f1 g d h e)⟩
theorem Oo (w : World) (base : Nat) (ok : Nat → Prop) (x : S63) {v3 : Value} (a : (Kd.int .u8).R 73 w base ok v3 x.f1.f2) {v4 : Value} (b : k30.R 30 w base ok v4 x.f1.f3) : k63.M w base ok x [.int .i64 x.f0, .int .i64 x.f1.f0, .int .i64 x.f1.f1, v3, v4] := ⟨[.int .i64 x.f0], [.int .i64 x.f1.f0, .int .i64 x.f1.f1, v3, v4], rfl, rfl, (Lm w base ok x.f1 a b)⟩
theorem EY {W : World} {ok : Nat → Prop} {x : S63} {cs : List Value} (h : Kd.FK k63 W ok x cs) : ∃ a e c c4, cs = [.int .i64 x.f0, .int .i64 x.f1.f0, .int .i64 x.f1.f1, .slice a x.f1.f2.length e, .slice c x.f1.f3.length c4] ∧ x.f1.f2.length ≤ e ∧ Kd.F (Kd.int .u8) W ok a x.f1.f2.length x.f1.f2 ∧ x.f1.f3.length ≤ c4 ∧ Kd.F k30 W ok c x.f1.f3.length x.f1.f3 := by
 obtain ⟨a, e, c, c4, rfl, r, _, s, _⟩ := IA (Kd.GQ h); exact ⟨a, e, c, c4, rfl, r, (fun m n => by obtain ⟨b, g, d, i, o, p, j, q, k⟩ := IA (h m n); injection (Option.some.inj (show some (Value.slice a x.f1.f2.length e) = some (Value.slice b x.f1.f2.length g) from congrArg (fun l => l[3]?) o)) with ha_ _ _; rw [ha_]; exact j), s, (fun m n => by obtain ⟨b, g, d, i, o, p, j, q, k⟩ := IA (h m n); injection (Option.some.inj (show some (Value.slice c x.f1.f3.length c4) = some (Value.slice d x.f1.f3.length i) from congrArg (fun l => l[4]?) o)) with ha_ _ _; rw [ha_]; exact k)⟩
theorem GU (W : World) (ok : Nat → Prop) (x : S63) {b : Option Addr} {d : Nat} (i : x.f1.f2.length ≤ d) (g : Kd.F (Kd.int .u8) W ok b x.f1.f2.length x.f1.f2) {c : Option Addr} {c4 : Nat} (j : x.f1.f3.length ≤ c4) (h : Kd.F k30 W ok c x.f1.f3.length x.f1.f3) : Kd.FK k63 W ok x [.int .i64 x.f0, .int .i64 x.f1.f0, .int .i64 x.f1.f1, .slice b x.f1.f2.length d, .slice c x.f1.f3.length c4] := fun a e => NR a x i (g a e) j (h a e)
def AA (xs : List S63) (i : Int) : S63 := xs.getD i.toNat z63
theorem Cy {w : World} {A : Option Addr} {n : Nat} {xs : List S63} (h : Kd.C k63 w A n xs) (i : Int) (p : 0 ≤ i) (h1 : i < n) : ∃ a d k g c4, A = some a ∧ w.cell? (a.add (i.toNat * 5)) = some (.int .i64 (AA xs i).f0) ∧ w.cell? ⟨(a.add (i.toNat * 5)).block, (a.add (i.toNat * 5)).off + 1, none⟩ = some (.int .i64 (AA xs i).f1.f0) ∧ w.cell? ⟨(a.add (i.toNat * 5)).block, (a.add (i.toNat * 5)).off + 2, none⟩ = some (.int .i64 (AA xs i).f1.f1) ∧ w.cell? ⟨(a.add (i.toNat * 5)).block, (a.add (i.toNat * 5)).off + 3, none⟩ = some (.slice d (AA xs i).f1.f2.length k) ∧ w.cell? ⟨(a.add (i.toNat * 5)).block, (a.add (i.toNat * 5)).off + 4, none⟩ = some (.slice g (AA xs i).f1.f3.length c4) ∧ (AA xs i).f1.f2.length ≤ k ∧ (Kd.int .u8).C w d (AA xs i).f1.f2.length (AA xs i).f1.f2 ∧ (AA xs i).f1.f3.length ≤ c4 ∧ k30.C w g (AA xs i).f1.f3.length (AA xs i).f1.f3 := by
 obtain ⟨a, c, e, _, q, l⟩ := Kd.Jd h z63 i p h1; have b : ∀ j u, c[j]? = some u → w.cell? (a.add (i.toNat * 5 + j)) = some u := l; obtain ⟨d, k, g, c4, rfl, r, m, s, o⟩ := IA q; exact ⟨a, d, k, g, c4, e, b 0 _ rfl, by rw [← Bh _ _ 1 (by omega)]; exact b 1 _ rfl, by rw [← Bh _ _ 2 (by omega)]; exact b 2 _ rfl, by rw [← Bh _ _ 3 (by omega)]; exact b 3 _ rfl, by rw [← Bh _ _ 4 (by omega)]; exact b 4 _ rfl, r, m, s, o⟩
abbrev zzi (W w : World) (S : Nat → Prop) (u : Value) (l : List S63) : Prop := Aside0 (Kd.N k63 63 W w.heap.size S u l)
abbrev zzj (W w : World) (S : Nat → Prop) (u : Value) (l : List S30) : Prop := Aside0 (Kd.V k30 30 W w.heap.size S u l)
abbrev zzk (W w : World) (S : Nat → Prop) (u : Value) (l : List Int) : Prop := Aside0 (Kd.V (Kd.int .u8) 73 W w.heap.size S u l)
abbrev zzl (W w : World) (S : Nat → Prop) (u : Value) (l : List Int) : Prop := Aside0 (Kd.R (Kd.int .u8) 73 W w.heap.size S u l)
end Go.Proofs.Ytojankgmedccdaa.PTy
