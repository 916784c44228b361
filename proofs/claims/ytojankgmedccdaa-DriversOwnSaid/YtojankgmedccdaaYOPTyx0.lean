/- Lemmas. -/
import Derived.Test.YtojankgmedccdaaProg
import Derived.Test.YtojankgmedccdaaYOW0
namespace Go.Proofs.Ytojankgmedccdaa.PTy
open Go.RowKit Wo
attribute [local go_sem] BI BJ Ba Bc Ao Ap BL BM
set_option linter.unusedVariables false
set_option linter.unusedSimpArgs false
def G9 : Option Int → Value
 | none => .nilIface
 | some c => .iface 0 (.int .i64 c)
theorem EN : G9 none = .nilIface := rfl
theorem EO (c : Int) : G9 (some c) = .iface 0 (.int .i64 c) := rfl
theorem info3 : (Try.prog.info? 3).map (fun i => (i.zero, i.size, i.bytes)) = some (some (.int .i64 0), 1, 8) := by kernel_rfl
theorem Nl : (Try.prog.info? 9).map (fun i => (i.zero, i.size, i.bytes)) = some (some (.string ⟨#[]⟩), 1, 16) := by kernel_rfl
theorem Gu : (Try.prog.info? 30).map (fun i => (i.zero, i.size, i.bytes)) = some (some (.agg #[(.int .i64 0), (.int .i64 0), (.slice none 0 0), (.slice none 0 0)]), 4, 64) := by kernel_rfl
theorem F4 : (Try.prog.info? 63).map (fun i => (i.zero, i.size, i.bytes)) = some (some (.agg #[(.int .i64 0), (.int .i64 0), (.int .i64 0), (.slice none 0 0), (.slice none 0 0)]), 5, 72) := by kernel_rfl
theorem Ei : (Try.prog.info? 73).map (fun i => (i.zero, i.size, i.bytes)) = some (some (.int .u8 0), 1, 1) := by kernel_rfl
structure S30 where
 f0 : Int
 f1 : Int
 f2 : (List Int)
 f3 : (List S30)
def z30 : S30 := ⟨(0 : Int), (0 : Int), ([] : List Int), ([] : List S30)⟩
def F30 (d : Kd S30) : Kd S30 := Kd.iso (Kd.pair (Kd.int .i64) (Kd.pair (Kd.int .i64) (Kd.pair (Kd.slice 73 (Kd.int .u8)) (Kd.slice 30 d)))) (fun x : S30 => (x.f0, x.f1, x.f2, x.f3))
theorem Jt : Kd.Fw F30 := Kd.KC _ (Kd.EI (Kd.D8 _) (Kd.EI (Kd.D8 _) (Kd.EI (Kd.D8 _) (Kd.IY 30 Kd.Lr))))
theorem Qh : Kd.Sub F30 [30, 73] := Kd.Ls _ (Kd.Et (Kd.EJ _ (by decide)) (Kd.Et (Kd.EJ _ (by decide)) (Kd.Et (Kd.EJ _ (by decide)) (Kd.JM 30 (by decide) Kd.NJ))))
theorem Ps : ∀ n, (Kd.upto F30 4 [30, 73] n).sz = 4 := Kd.Lt (fun _ => rfl)
def k30 : Kd S30 := Kd.fix F30 4 [30, 73] Ps (Kd.Ku Qh)
theorem DT : Kd.Heap k30 := Kd.NY (fun _ a => Kd.KF _ (Kd.GY (Kd.EU .i64) (Kd.GY (Kd.EU .i64) (Kd.GY (Kd.Ij 73 (Kd.EU .u8)) (Kd.Ij 30 a)))))
theorem GI {w : World} {x : S30} {cs : List Value} (h : k30.K w x cs) : ∃ a c b e, cs = [.int .i64 x.f0, .int .i64 x.f1, .slice a x.f2.length c, .slice b x.f3.length e] ∧ x.f2.length ≤ c ∧ (Kd.int .u8).C w a x.f2.length x.f2 ∧ x.f3.length ≤ e ∧ k30.C w b x.f3.length x.f3 := by
 obtain ⟨n, h⟩ := h; cases n with
 | zero => exact h.elim
 | succ n =>
  obtain ⟨_, _, rfl, rfl, _, _, rfl, rfl, _, _, rfl, ⟨a, c, rfl, l2, i⟩, b, e, rfl, k, j⟩ := h; exact ⟨a, c, b, e, rfl, l2, i, k, Kd.PU j⟩
theorem JY {w : World} {base : Nat} {ok : Nat → Prop} {x : S30} {cs : List Value} (h : k30.M w base ok x cs) : ∃ v2 v3, cs = [.int .i64 x.f0, .int .i64 x.f1, v2, v3] ∧ (Kd.int .u8).R 73 w base ok v2 x.f2 ∧ k30.R 30 w base ok v3 x.f3 := by
 obtain ⟨n, h⟩ := h; cases n with
 | zero => exact h.elim
 | succ n =>
  obtain ⟨_, _, rfl, rfl, _, _, rfl, rfl, _, _, rfl, ⟨v2, rfl, a⟩, v3, rfl, b⟩ := h; exact ⟨v2, v3, rfl, a, Kd.QV b⟩
theorem Gv (w : World) (x : S30) {a : Option Addr} {c : Nat} (l2 : x.f2.length ≤ c) (i : (Kd.int .u8).C w a x.f2.length x.f2) {b : Option Addr} {e : Nat} (k : x.f3.length ≤ e) (j : k30.C w b x.f3.length x.f3) : k30.K w x [.int .i64 x.f0, .int .i64 x.f1, .slice a x.f2.length c, .slice b x.f3.length e] := by
 obtain ⟨h, l⟩ := Kd.IZ Jt j; have r3 := Kd.JP Jt Ps (show h ≤ h by omega) l; exact ⟨h + 1, [.int .i64 x.f0], [.int .i64 x.f1, .slice a x.f2.length c, .slice b x.f3.length e], rfl, rfl, [.int .i64 x.f1], [.slice a x.f2.length c, .slice b x.f3.length e], rfl, rfl, [.slice a x.f2.length c], [.slice b x.f3.length e], rfl, ⟨a, c, rfl, l2, i⟩, b, e, rfl, k, r3⟩
theorem Ju (w : World) (base : Nat) (ok : Nat → Prop) (x : S30) {v2 : Value} (b : (Kd.int .u8).R 73 w base ok v2 x.f2) {v3 : Value} (c : k30.R 30 w base ok v3 x.f3) : k30.M w base ok x [.int .i64 x.f0, .int .i64 x.f1, v2, v3] := by
 obtain ⟨a, e⟩ := Kd.Kv Jt c; have r3 := Kd.MO Jt Ps (show a ≤ a by omega) e; exact ⟨a + 1, [.int .i64 x.f0], [.int .i64 x.f1, v2, v3], rfl, rfl, [.int .i64 x.f1], [v2, v3], rfl, rfl, [v2], [v3], rfl, ⟨v2, rfl, b⟩, v3, rfl, r3⟩
theorem EC {W : World} {ok : Nat → Prop} {x : S30} {cs : List Value} (h : Kd.FK k30 W ok x cs) : ∃ a i c k, cs = [.int .i64 x.f0, .int .i64 x.f1, .slice a x.f2.length i, .slice c x.f3.length k] ∧ x.f2.length ≤ i ∧ Kd.F (Kd.int .u8) W ok a x.f2.length x.f2 ∧ x.f3.length ≤ k ∧ Kd.F k30 W ok c x.f3.length x.f3 := by
 obtain ⟨a, i, c, k, rfl, l2, _, B, _⟩ := GI (Kd.Fx h); exact ⟨a, i, c, k, rfl, l2, (fun s u => by obtain ⟨b, j, e, o, v, w, q, z, r⟩ := GI (h s u); injection (Option.some.inj (show some (Value.slice a x.f2.length i) = some (Value.slice b x.f2.length j) from congrArg (fun l => l[2]?) v)) with ha_ _ _; rw [ha_]; exact q), B, (fun s u => by obtain ⟨b, j, e, o, v, w, q, z, r⟩ := GI (h s u); injection (Option.some.inj (show some (Value.slice c x.f3.length k) = some (Value.slice e x.f3.length o) from congrArg (fun l => l[3]?) v)) with ha_ _ _; rw [ha_]; exact r)⟩
theorem MB (W : World) (ok : Nat → Prop) (x : S30) {b : Option Addr} {e : Nat} (l2 : x.f2.length ≤ e) (j : Kd.F (Kd.int .u8) W ok b x.f2.length x.f2) {c : Option Addr} {h : Nat} (l : x.f3.length ≤ h) (k : Kd.F k30 W ok c x.f3.length x.f3) : Kd.FK k30 W ok x [.int .i64 x.f0, .int .i64 x.f1, .slice b x.f2.length e, .slice c x.f3.length h] := fun a i => Gv a x l2 (j a i) l (k a i)
def AB (xs : List S30) (i : Int) : S30 := xs.getD i.toNat z30
theorem DV {w : World} {A : Option Addr} {n : Nat} {xs : List S30} (h : Kd.C k30 w A n xs) (i : Int) (z : 0 ≤ i) (h1 : i < n) : ∃ a b l k o, A = some a ∧ w.cell? (a.add (i.toNat * 4)) = some (.int .i64 (AB xs i).f0) ∧ w.cell? ⟨(a.add (i.toNat * 4)).block, (a.add (i.toNat * 4)).off + 1, none⟩ = some (.int .i64 (AB xs i).f1) ∧ w.cell? ⟨(a.add (i.toNat * 4)).block, (a.add (i.toNat * 4)).off + 2, none⟩ = some (.slice b (AB xs i).f2.length l) ∧ w.cell? ⟨(a.add (i.toNat * 4)).block, (a.add (i.toNat * 4)).off + 3, none⟩ = some (.slice k (AB xs i).f3.length o) ∧ (AB xs i).f2.length ≤ l ∧ (Kd.int .u8).C w b (AB xs i).f2.length (AB xs i).f2 ∧ (AB xs i).f3.length ≤ o ∧ k30.C w k (AB xs i).f3.length (AB xs i).f3 := by
 obtain ⟨a, c, e, _, B, r⟩ := Kd.JL h z30 i z h1; have q : ∀ j u, c[j]? = some u → w.cell? (a.add (i.toNat * 4 + j)) = some u := r; obtain ⟨b, l, k, o, rfl, l2, s, D, v⟩ := GI B; exact ⟨a, b, l, k, o, e, q 0 _ rfl, by rw [← BX _ _ 1 (by omega)]; exact q 1 _ rfl, by rw [← BX _ _ 2 (by omega)]; exact q 2 _ rfl, by rw [← BX _ _ 3 (by omega)]; exact q 3 _ rfl, l2, s, D, v⟩
structure S26 where
 f0 : Int
 f1 : Int
 f2 : ByteArray
 f3 : (List ByteArray)
 f4 : (List S26)
def z26 : S26 := ⟨(0 : Int), (0 : Int), (⟨#[]⟩ : ByteArray), ([] : List ByteArray), ([] : List S26)⟩
def F26 (d : Kd S26) : Kd S26 := Kd.iso (Kd.pair (Kd.int .i64) (Kd.pair (Kd.int .i64) (Kd.pair Kd.string (Kd.pair (Kd.slice 9 Kd.string) (Kd.slice 26 d))))) (fun x : S26 => (x.f0, x.f1, x.f2, x.f3, x.f4))
theorem Nn : Kd.Fw F26 := Kd.KC _ (Kd.EI (Kd.D8 _) (Kd.EI (Kd.D8 _) (Kd.EI (Kd.D8 _) (Kd.EI (Kd.D8 _) (Kd.IY 26 Kd.Lr)))))
theorem Qi : Kd.Sub F26 [9, 26] := Kd.Ls _ (Kd.Et (Kd.EJ _ (by decide)) (Kd.Et (Kd.EJ _ (by decide)) (Kd.Et (Kd.EJ _ (by decide)) (Kd.Et (Kd.EJ _ (by decide)) (Kd.JM 26 (by decide) Kd.NJ)))))
theorem Qj : ∀ n, (Kd.upto F26 5 [9, 26] n).sz = 5 := Kd.Lt (fun _ => rfl)
def k26 : Kd S26 := Kd.fix F26 5 [9, 26] Qj (Kd.Ku Qi)
theorem Np {w : World} {x : S26} {cs : List Value} (h : k26.K w x cs) : ∃ a c b c4, cs = [.int .i64 x.f0, .int .i64 x.f1, .string x.f2, .slice a x.f3.length c, .slice b x.f4.length c4] ∧ x.f3.length ≤ c ∧ Kd.string.C w a x.f3.length x.f3 ∧ x.f4.length ≤ c4 ∧ k26.C w b x.f4.length x.f4 := by
 obtain ⟨n, h⟩ := h; cases n with
 | zero => exact h.elim
 | succ n =>
  obtain ⟨_, _, rfl, rfl, _, _, rfl, rfl, _, _, rfl, rfl, _, _, rfl, ⟨a, c, rfl, j, e⟩, b, c4, rfl, k, i⟩ := h; exact ⟨a, c, b, c4, rfl, j, e, k, Kd.PU i⟩
theorem Pt (w : World) (x : S26) {a : Option Addr} {c : Nat} (j : x.f3.length ≤ c) (h : Kd.string.C w a x.f3.length x.f3) {b : Option Addr} {c4 : Nat} (k : x.f4.length ≤ c4) (i : k26.C w b x.f4.length x.f4) : k26.K w x [.int .i64 x.f0, .int .i64 x.f1, .string x.f2, .slice a x.f3.length c, .slice b x.f4.length c4] := by
 obtain ⟨e, l⟩ := Kd.IZ Nn i; have r4 := Kd.JP Nn Qj (show e ≤ e by omega) l; exact ⟨e + 1, [.int .i64 x.f0], [.int .i64 x.f1, .string x.f2, .slice a x.f3.length c, .slice b x.f4.length c4], rfl, rfl, [.int .i64 x.f1], [.string x.f2, .slice a x.f3.length c, .slice b x.f4.length c4], rfl, rfl, [.string x.f2], [.slice a x.f3.length c, .slice b x.f4.length c4], rfl, rfl, [.slice a x.f3.length c], [.slice b x.f4.length c4], rfl, ⟨a, c, rfl, j, h⟩, b, c4, rfl, k, r4⟩
def Bd (xs : List S26) (i : Int) : S26 := xs.getD i.toNat z26
theorem Hw {w : World} {A : Option Addr} {n : Nat} {xs : List S26} (h : Kd.C k26 w A n xs) (i : Int) (v : 0 ≤ i) (h1 : i < n) : ∃ a k o l c4, A = some a ∧ w.cell? (a.add (i.toNat * 5)) = some (.int .i64 (Bd xs i).f0) ∧ w.cell? ⟨(a.add (i.toNat * 5)).block, (a.add (i.toNat * 5)).off + 1, none⟩ = some (.int .i64 (Bd xs i).f1) ∧ w.cell? ⟨(a.add (i.toNat * 5)).block, (a.add (i.toNat * 5)).off + 2, none⟩ = some (.string (Bd xs i).f2) ∧ w.cell? ⟨(a.add (i.toNat * 5)).block, (a.add (i.toNat * 5)).off + 3, none⟩ = some (.slice k (Bd xs i).f3.length o) ∧ w.cell? ⟨(a.add (i.toNat * 5)).block, (a.add (i.toNat * 5)).off + 4, none⟩ = some (.slice l (Bd xs i).f4.length c4) ∧ (Bd xs i).f3.length ≤ o ∧ Kd.string.C w k (Bd xs i).f3.length (Bd xs i).f3 ∧ (Bd xs i).f4.length ≤ c4 ∧ k26.C w l (Bd xs i).f4.length (Bd xs i).f4 := by
 obtain ⟨a, c, e, _, z, q⟩ := Kd.JL h z26 i v h1; have b : ∀ j u, c[j]? = some u → w.cell? (a.add (i.toNat * 5 + j)) = some u := q; obtain ⟨k, o, l, c4, rfl, B, r, D, s⟩ := Np z; exact ⟨a, k, o, l, c4, e, b 0 _ rfl, by rw [← BX _ _ 1 (by omega)]; exact b 1 _ rfl, by rw [← BX _ _ 2 (by omega)]; exact b 2 _ rfl, by rw [← BX _ _ 3 (by omega)]; exact b 3 _ rfl, by rw [← BX _ _ 4 (by omega)]; exact b 4 _ rfl, B, r, D, s⟩
structure S63 where
 f0 : Int
 f1 : S30
def z63 : S63 := ⟨(0 : Int), z30⟩
def k63 : Kd S63 := Kd.iso (Kd.pair (Kd.int .i64) k30) (fun x : S63 => (x.f0, x.f1))
theorem EY : Kd.Heap k63 := Kd.KF _ (Kd.GY (Kd.EU .i64) DT)
theorem HY {w : World} {x : S63} {cs : List Value} (h : k63.K w x cs) : ∃ a c b c4, cs = [.int .i64 x.f0, .int .i64 x.f1.f0, .int .i64 x.f1.f1, .slice a x.f1.f2.length c, .slice b x.f1.f3.length c4] ∧ x.f1.f2.length ≤ c ∧ (Kd.int .u8).C w a x.f1.f2.length x.f1.f2 ∧ x.f1.f3.length ≤ c4 ∧ k30.C w b x.f1.f3.length x.f1.f3 := by
 obtain ⟨_, _, rfl, rfl, s1⟩ := h; obtain ⟨a, c, b, c4, rfl, j, e, k, i⟩ := GI s1; exact ⟨a, c, b, c4, rfl, j, e, k, i⟩
theorem MX {w : World} {base : Nat} {ok : Nat → Prop} {x : S63} {cs : List Value} (h : k63.M w base ok x cs) : ∃ v3 v4, cs = [.int .i64 x.f0, .int .i64 x.f1.f0, .int .i64 x.f1.f1, v3, v4] ∧ (Kd.int .u8).R 73 w base ok v3 x.f1.f2 ∧ k30.R 30 w base ok v4 x.f1.f3 := by
 obtain ⟨_, _, rfl, rfl, s1⟩ := h; obtain ⟨v3, v4, rfl, a, b⟩ := JY s1; exact ⟨v3, v4, rfl, a, b⟩
theorem Nq (w : World) (x : S63) {a : Option Addr} {c : Nat} (i : x.f1.f2.length ≤ c) (e : (Kd.int .u8).C w a x.f1.f2.length x.f1.f2) {b : Option Addr} {c4 : Nat} (j : x.f1.f3.length ≤ c4) (h : k30.C w b x.f1.f3.length x.f1.f3) : k63.K w x [.int .i64 x.f0, .int .i64 x.f1.f0, .int .i64 x.f1.f1, .slice a x.f1.f2.length c, .slice b x.f1.f3.length c4] := ⟨[.int .i64 x.f0], [.int .i64 x.f1.f0, .int .i64 x.f1.f1, .slice a x.f1.f2.length c, .slice b x.f1.f3.length c4], rfl, rfl, (Gv w x.f1 i e j h)⟩
theorem O6 (w : World) (base : Nat) (ok : Nat → Prop) (x : S63) {v3 : Value} (a : (Kd.int .u8).R 73 w base ok v3 x.f1.f2) {v4 : Value} (b : k30.R 30 w base ok v4 x.f1.f3) : k63.M w base ok x [.int .i64 x.f0, .int .i64 x.f1.f0, .int .i64 x.f1.f1, v3, v4] := ⟨[.int .i64 x.f0], [.int .i64 x.f1.f0, .int .i64 x.f1.f1, v3, v4], rfl, rfl, (Ju w base ok x.f1 a b)⟩
theorem Dr {W : World} {ok : Nat → Prop} {x : S63} {cs : List Value} (h : Kd.FK k63 W ok x cs) : ∃ a i c c4, cs = [.int .i64 x.f0, .int .i64 x.f1.f0, .int .i64 x.f1.f1, .slice a x.f1.f2.length i, .slice c x.f1.f3.length c4] ∧ x.f1.f2.length ≤ i ∧ Kd.F (Kd.int .u8) W ok a x.f1.f2.length x.f1.f2 ∧ x.f1.f3.length ≤ c4 ∧ Kd.F k30 W ok c x.f1.f3.length x.f1.f3 := by
 obtain ⟨a, i, c, c4, rfl, z, _, B, _⟩ := HY (Kd.Fx h); exact ⟨a, i, c, c4, rfl, z, (fun r s => by obtain ⟨b, j, e, k, u, v, o, w, q⟩ := HY (h r s); injection (Option.some.inj (show some (Value.slice a x.f1.f2.length i) = some (Value.slice b x.f1.f2.length j) from congrArg (fun l => l[3]?) u)) with ha_ _ _; rw [ha_]; exact o), B, (fun r s => by obtain ⟨b, j, e, k, u, v, o, w, q⟩ := HY (h r s); injection (Option.some.inj (show some (Value.slice c x.f1.f3.length c4) = some (Value.slice e x.f1.f3.length k) from congrArg (fun l => l[4]?) u)) with ha_ _ _; rw [ha_]; exact q)⟩
theorem IU (W : World) (ok : Nat → Prop) (x : S63) {b : Option Addr} {e : Nat} (k : x.f1.f2.length ≤ e) (i : Kd.F (Kd.int .u8) W ok b x.f1.f2.length x.f1.f2) {c : Option Addr} {c4 : Nat} (l : x.f1.f3.length ≤ c4) (j : Kd.F k30 W ok c x.f1.f3.length x.f1.f3) : Kd.FK k63 W ok x [.int .i64 x.f0, .int .i64 x.f1.f0, .int .i64 x.f1.f1, .slice b x.f1.f2.length e, .slice c x.f1.f3.length c4] := fun a h => Nq a x k (i a h) l (j a h)
def AA (xs : List S63) (i : Int) : S63 := xs.getD i.toNat z63
theorem Cq {w : World} {A : Option Addr} {n : Nat} {xs : List S63} (h : Kd.C k63 w A n xs) (i : Int) (v : 0 ≤ i) (h1 : i < n) : ∃ a k o l c4, A = some a ∧ w.cell? (a.add (i.toNat * 5)) = some (.int .i64 (AA xs i).f0) ∧ w.cell? ⟨(a.add (i.toNat * 5)).block, (a.add (i.toNat * 5)).off + 1, none⟩ = some (.int .i64 (AA xs i).f1.f0) ∧ w.cell? ⟨(a.add (i.toNat * 5)).block, (a.add (i.toNat * 5)).off + 2, none⟩ = some (.int .i64 (AA xs i).f1.f1) ∧ w.cell? ⟨(a.add (i.toNat * 5)).block, (a.add (i.toNat * 5)).off + 3, none⟩ = some (.slice k (AA xs i).f1.f2.length o) ∧ w.cell? ⟨(a.add (i.toNat * 5)).block, (a.add (i.toNat * 5)).off + 4, none⟩ = some (.slice l (AA xs i).f1.f3.length c4) ∧ (AA xs i).f1.f2.length ≤ o ∧ (Kd.int .u8).C w k (AA xs i).f1.f2.length (AA xs i).f1.f2 ∧ (AA xs i).f1.f3.length ≤ c4 ∧ k30.C w l (AA xs i).f1.f3.length (AA xs i).f1.f3 := by
 obtain ⟨a, c, e, _, z, q⟩ := Kd.JL h z63 i v h1; have b : ∀ j u, c[j]? = some u → w.cell? (a.add (i.toNat * 5 + j)) = some u := q; obtain ⟨k, o, l, c4, rfl, B, r, D, s⟩ := HY z; exact ⟨a, k, o, l, c4, e, b 0 _ rfl, by rw [← BX _ _ 1 (by omega)]; exact b 1 _ rfl, by rw [← BX _ _ 2 (by omega)]; exact b 2 _ rfl, by rw [← BX _ _ 3 (by omega)]; exact b 3 _ rfl, by rw [← BX _ _ 4 (by omega)]; exact b 4 _ rfl, B, r, D, s⟩
end Go.Proofs.Ytojankgmedccdaa.PTy
