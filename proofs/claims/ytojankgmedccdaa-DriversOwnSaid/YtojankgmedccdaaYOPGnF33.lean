/- Lemmas. -/
import Derived.Test.YtojankgmedccdaaYOPGnF56
namespace Go.Proofs.Ytojankgmedccdaa.PGn
open Go.RowKit Own PTy Hand PIs PAw Wo
attribute [local go_sem] BI BJ Ba Bc Ao Ap BL BM
set_option linter.unusedVariables false
set_option linter.unusedSimpArgs false
mutual
def Ag.j0 : Nat → Int → Int → Bool → Int → Int → ByteArray → List ByteArray → List (S26) → Int → Int → List Int → List (S30) → List (S63) → Option ((List (S63)) × Int)
 | 0, _, _, _, _, _, _, _, _, _, _, _, _, _ => none
 | k + 1, x2, x3, x29, b, c, e, h, i, o, q, r, s, j => if x29 = true then (some (([] : List (S63)), 2)) else ((drivers_behind.f o q r s j x2).bind fun G => (if G = true then (some (([] : List (S63)), 5)) else (Ag.l0 k x3 ([] : List (S63)) j (j.length : Int) 0 b c e h i o q r s)))
def Ag.l0 : Nat → Int → List (S63) → List (S63) → Int → Int → Int → Int → ByteArray → List ByteArray → List (S26) → Int → Int → List Int → List (S30) → Option ((List (S63)) × Int)
 | 0, _, _, _, _, _, _, _, _, _, _, _, _, _, _ => none
 | k + 1, x3, u, a, D, x38, b, c, e, h, i, v, w, z, B => if x38 < D then (if 0 ≤ x38 then (if x38 < (a.length : Int) then (if ((AA a x38).f0) > x3 then (some (u, 0)) else ((Cb.f k b c e h i v w z B ((AA a x38).f1.f0) ((AA a x38).f1.f1) ((AA a x38).f1.f2) ((AA a x38).f1.f3)).bind fun I => (if I = true then (Ag.l0 k x3 u a D (wrap64 (x38 + 1)) b c e h i ((AA a x38).f1.f0) ((AA a x38).f1.f1) ((AA a x38).f1.f2) ((AA a x38).f1.f3)) else ((drivers_copied.f ((AA a x38).f1.f0) ((AA a x38).f1.f1) ((AA a x38).f1.f2) ((AA a x38).f1.f3)).bind fun l => (if u.length < 1954687338268 then (Ag.l0 k x3 (u ++ [(⟨(AA a x38).f0, (⟨l.1, l.2.1, l.2.2.1, l.2.2.2⟩ : S30)⟩ : S63)]) a D (wrap64 (x38 + 1)) b c e h i ((AA a x38).f1.f0) ((AA a x38).f1.f1) ((AA a x38).f1.f2) ((AA a x38).f1.f3)) else (none)))))) else (none)) else (none)) else (some (u, 0))
end
def Ag.f (k : Nat) (a : Int) (b : Int) (c : ByteArray) (i : List ByteArray) (j : List (S26)) (e : Int) (h : Int) (l : List Int) (o : List (S30)) (q : List (S63)) (r : Int) (a3 : Int) : Option ((List (S63)) × Int) := (Av.f k a b c i j e h l o q).bind fun s => (if s = true then (if (mn r a3) < 0 then (Ag.j0 k r a3 true a b c i j e h l o q) else (Ag.j0 k r a3 (decide ((mx r a3) > 2000000)) a b c i j e h l o q)) else (Ag.j0 k r a3 true a b c i j e h l o q))
def Ag.T12 : Bool × List (List Nat × List Nat) := (true, [([], []), ([], []), ([1], [1]), ([], []), ([3], [3]), ([4], [4]), ([2, 5], [2, 5]), ([6], [6]), ([0, 7, 5], [0, 7]), ([8, 8, 0, 1, 2, 3, 4, 5, 6, 7, 8], [0, 8])])
def Ag.B12 : List Nat := [0, 0, 2, 0, 8, 24, 62, 126, 255, 511]
theorem Ag.Qq : Cm .any (opsOf Try.f33 12) = Ag.T12 := by kernel_rfl
theorem Ag.Pz : CX Ag.T12.2 Ag.B12 = true := by kernel_rfl
end Go.Proofs.Ytojankgmedccdaa.PGn
