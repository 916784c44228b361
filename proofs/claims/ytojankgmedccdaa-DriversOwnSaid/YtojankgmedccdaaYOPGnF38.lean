/- Lemmas. -/
import Derived.Test.YtojankgmedccdaaYOHandE
import Derived.Test.YtojankgmedccdaaYOHandV
import Derived.Test.YtojankgmedccdaaYOPGnF56
import Derived.Test.YtojankgmedccdaaYOPAwx5
namespace Go.Proofs.Ytojankgmedccdaa.PGn
open Go.RowKit Own PTy Hand PIs PAw Wo
attribute [local go_sem] BI BJ Ba Bc Ao Ap BL BM
set_option linter.unusedVariables false
set_option linter.unusedSimpArgs false
mutual
def AC.j0 : Nat → Int → List (S30) → List Int → Bool → Bool → Int → Int → ByteArray → List ByteArray → List (S26) → Int → Int → List Int → List (S30) → List (S63) → Int → List Int → Option (Int × Int × List Int × (List (S30)) × (List (S63)) × Int)
 | 0, _, _, _, _, _, _, _, _, _, _, _, _, _, _, _, _, _ => none
 | k + 1, x2, x3, x4, x5, x54, l, o, q, r, s, e, h, i, j, a, b, c => if x54 = true then (some (0, 0, ([] : List Int), ([] : List (S30)), ([] : List (S63)), 2)) else (AC.l0 k x2 x3 x4 x5 x3 (x3.length : Int) 0 l o q r s e h i j a b c)
def AC.l0 : Nat → Int → List (S30) → List Int → Bool → List (S30) → Int → Int → Int → Int → ByteArray → List ByteArray → List (S26) → Int → Int → List Int → List (S30) → List (S63) → Int → List Int → Option (Int × Int × List Int × (List (S30)) × (List (S63)) × Int)
 | 0, _, _, _, _, _, _, _, _, _, _, _, _, _, _, _, _, _, _, _ => none
 | k + 1, x2, x3, x4, x5, U, cB, T, l, o, q, r, s, e, h, i, j, a, b, c => if T < cB then (if 0 ≤ T then (if T < (U.length : Int) then ((Bz.f k l o q r s ((AB U T).f0) ((AB U T).f1) ((AB U T).f2) ((AB U T).f3)).bind fun Y => (if Y = true then (AC.l0 k x2 x3 x4 x5 U cB (wrap64 (T + 1)) l o q r s e h i j a b c) else (some (0, 0, ([] : List Int), ([] : List (S30)), ([] : List (S63)), 2)))) else (none)) else (none)) else ((drivers_behind.f e h i j a b).bind fun Z => (if Z = true then (some (0, 0, ([] : List Int), ([] : List (S30)), ([] : List (S63)), 5)) else ((Er.f a x2 x4).bind fun W => (if W < 0 then (AC.j2 k x3 x5 (a.length : Int) l o q r s e h i j a b c) else (AC.j2 k x3 x5 W l o q r s e h i j a b c)))))
def AC.j2 : Nat → List (S30) → Bool → Int → Int → Int → ByteArray → List ByteArray → List (S26) → Int → Int → List Int → List (S30) → List (S63) → Int → List Int → Option (Int × Int × List Int × (List (S30)) × (List (S63)) × Int)
 | 0, _, _, _, _, _, _, _, _, _, _, _, _, _, _, _ => none
 | k + 1, x3, x5, w, l, o, q, r, s, e, h, i, j, a, b, c => if x5 = true then (AC.j4 k x3 w 0 e h i j a b c) else (AC.l1 k x3 w w l o q r s e h i j a b c)
def AC.j4 : Nat → List (S30) → Int → Int → Int → Int → List Int → List (S30) → List (S63) → Int → List Int → Option (Int × Int × List Int × (List (S30)) × (List (S63)) × Int)
 | 0, _, _, _, _, _, _, _, _, _, _ => none
 | k + 1, x3, w, v, e, h, i, j, a, b, c => if (wrap64 ((wrap64 (w - v)) + (x3.length : Int))) > 64 then (some (0, 0, ([] : List Int), ([] : List (S30)), ([] : List (S63)), 3)) else ((drivers_copied.f e h i j).bind fun D => (if 0 ≤ v then (if v ≤ w then (if w ≤ (a.length : Int) then ((drivers_all.f k ((a.take (w : Int).toNat).drop (v : Int).toNat)).bind fun bB => (AC.l2 k x3 (x3.length : Int) 0 b c D.1 D.2.1 D.2.2.1 D.2.2.2 bB)) else (none)) else (none)) else (none)))
def AC.l2 : Nat → List (S30) → Int → Int → Int → List Int → Int → Int → List Int → List (S30) → List (S63) → Option (Int × Int × List Int × (List (S30)) × (List (S63)) × Int)
 | 0, _, _, _, _, _, _, _, _, _, _ => none
 | k + 1, B, X, u, b, c, I, J, L, O, z => if u < X then (if 0 ≤ u then (if u < (B.length : Int) then (if u < (c.length : Int) then ((drivers_copied.f ((AB B u).f0) ((AB B u).f1) ((AB B u).f2) ((AB B u).f3)).bind fun G => (if z.length < 1954687338268 then (AC.l2 k B X (wrap64 (u + 1)) b c I J L O (z ++ [(⟨wrap64 (b + (rd c u)), (⟨G.1, G.2.1, G.2.2.1, G.2.2.2⟩ : S30)⟩ : S63)])) else (none))) else (none)) else (none)) else (none)) else (some (I, J, L, O, z, 0))
def AC.l1 : Nat → List (S30) → Int → Int → Int → Int → ByteArray → List ByteArray → List (S26) → Int → Int → List Int → List (S30) → List (S63) → Int → List Int → Option (Int × Int × List Int × (List (S30)) × (List (S63)) × Int)
 | 0, _, _, _, _, _, _, _, _, _, _, _, _, _, _, _ => none
 | k + 1, x3, w, v, l, o, q, r, s, e, h, i, j, a, b, c => if v > 0 then (if 0 ≤ (wrap64 (v - 1)) then (if (wrap64 (v - 1)) < (a.length : Int) then (if 0 < (x3.length : Int) then ((Cb.f k l o q r s ((AA a (wrap64 (v - 1))).f1.f0) ((AA a (wrap64 (v - 1))).f1.f1) ((AA a (wrap64 (v - 1))).f1.f2) ((AA a (wrap64 (v - 1))).f1.f3) ((AB x3 0).f0) ((AB x3 0).f1) ((AB x3 0).f2) ((AB x3 0).f3)).bind fun aB => (if aB = true then (AC.l1 k x3 w (wrap64 (v - 1)) l o q r s e h i j a b c) else (AC.j4 k x3 w v e h i j a b c))) else (none)) else (none)) else (none)) else (AC.j4 k x3 w v e h i j a b c)
end
def AC.f (k : Nat) (a : Int) (b : Int) (c : ByteArray) (i : List ByteArray) (j : List (S26)) (e : Int) (h : Int) (l : List Int) (o : List (S30)) (q : List (S63)) (r : Int) (u : List (S30)) (s : List Int) (a5 : Bool) : Option (Int × Int × List Int × (List (S30)) × (List (S63)) × Int) := (Av.f k a b c i j e h l o q).bind fun v => (if v = true then (if r < 0 then (AC.j0 k r u s a5 true a b c i j e h l o q r s) else (if r > 1000000 then (AC.j0 k r u s a5 true a b c i j e h l o q r s) else (if (u.length : Int) < 1 then (AC.j0 k r u s a5 true a b c i j e h l o q r s) else (if (u.length : Int) > 64 then (AC.j0 k r u s a5 true a b c i j e h l o q r s) else (if (s.length : Int) = (u.length : Int) then ((drivers_rising.f k s).bind fun w => (AC.j0 k r u s a5 (!w) a b c i j e h l o q r s)) else (AC.j0 k r u s a5 true a b c i j e h l o q r s)))))) else (AC.j0 k r u s a5 true a b c i j e h l o q r s))
def AC.T17 : Bool × List (List Nat × List Nat) := (true, [([], []), ([0], [0]), ([1], [1]), ([2], [2]), ([2], [2]), ([4, 2], [2, 4]), ([2], [2]), ([6, 2], [2, 6]), ([5, 7, 2], [2, 5, 7]), ([8, 2], [2, 8]), ([9, 2], [2, 9]), ([2], [2]), ([11, 2], [2, 11]), ([12, 2], [2, 12]), ([3, 10, 13, 2, 2], [2, 3, 10, 13]), ([2, 14], [2, 14])])
def AC.B17 : List Nat := [0, 1, 3, 7, 7, 23, 7, 71, 247, 503, 1015, 7, 2055, 6151, 16383, 32767]
theorem AC.OC : Cm .any (opsOf Try.f38 17) = AC.T17 := by kernel_rfl
theorem AC.LX : CX AC.T17.2 AC.B17 = true := by kernel_rfl
def AC.T21 : Bool × List (List Nat × List Nat) := (true, [([], []), ([0], [0]), ([1], [1]), ([], []), ([3], [3]), ([], []), ([], []), ([4, 5, 6], [4, 5, 6]), ([7, 2], [7]), ([2, 8], [2, 8]), ([], []), ([10, 9, 8, 0, 1, 2, 3, 4, 5, 6, 7, 8, 9, 10], [9, 10])])
def AC.B21 : List Nat := [0, 1, 3, 0, 8, 0, 0, 120, 255, 511, 0, 2047]
theorem AC.Qn : Cm .any (opsOf Try.f38 21) = AC.T21 := by kernel_rfl
theorem AC.Px : CX AC.T21.2 AC.B21 = true := by kernel_rfl
def AC.T25 : Bool × List (List Nat × List Nat) := (true, [([], []), ([0], [0]), ([], []), ([], []), ([], []), ([3, 4], [3, 4]), ([5], [5]), ([2, 6], [2, 6]), ([], []), ([8], [8]), ([7, 9], [7, 9]), ([10], [10]), ([1, 11, 9], [1, 11]), ([0, 1, 2, 3, 4, 5, 6, 7, 8, 9, 10, 11, 12], []), ([13, 12, 12, 0, 1, 2, 3, 4, 5, 6, 7, 8, 9, 10, 11, 12], [12, 13])])
def AC.B25 : List Nat := [0, 1, 0, 0, 0, 24, 56, 124, 0, 256, 1020, 2044, 4095, 8191, 16383]
theorem AC.Qo : Cm .any (opsOf Try.f38 25) = AC.T25 := by kernel_rfl
theorem AC.Py : CX AC.T25.2 AC.B25 = true := by kernel_rfl
end Go.Proofs.Ytojankgmedccdaa.PGn
