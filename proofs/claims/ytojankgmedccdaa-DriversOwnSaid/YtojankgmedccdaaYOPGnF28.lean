/- Lemmas. -/
import Derived.Test.YtojankgmedccdaaYOPGnx0
import Derived.Test.YtojankgmedccdaaYOHandV
namespace Go.Proofs.Ytojankgmedccdaa.PGn
open Go.RowKit Own PTy Hand PIs PAw Wo
attribute [local go_sem] BI BJ Ba Bc Ao Ap BL BM
set_option linter.unusedVariables false
set_option linter.unusedSimpArgs false
mutual
def Aj.j0 : Nat → Int → Bool → Int → Int → List Int → List (S30) → List (S63) → Option (Int × Int × List Int × (List (S30)) × (List (S63)) × Bool × Int)
 | 0, _, _, _, _, _, _, _ => none
 | k + 1, x2, x20, b, c, e, h, a => if x20 = true then (some (0, 0, ([] : List Int), ([] : List (S30)), ([] : List (S63)), false, 2)) else ((drivers_behind.f b c e h a x2).bind fun l => (if l = true then (some (0, 0, ([] : List Int), ([] : List (S30)), ([] : List (S63)), false, 5)) else (if (a.length : Int) = 0 then (Aj.j1 k true b c e h a) else (if 0 < (a.length : Int) then (Aj.j1 k (((AA a 0).f0) != x2) b c e h a) else (none)))))
def Aj.j1 : Nat → Bool → Int → Int → List Int → List (S30) → List (S63) → Option (Int × Int × List Int × (List (S30)) × (List (S63)) × Bool × Int)
 | 0, _, _, _, _, _, _ => none
 | k + 1, x38, b, c, e, h, a => if x38 = true then ((drivers_copied.f b c e h).bind fun i => ((drivers_all.f k a).bind fun t227 => (some (i.1, i.2.1, i.2.2.1, i.2.2.2, t227, false, 0)))) else (if 0 < (a.length : Int) then ((drivers_copied.f ((AA a 0).f1.f0) ((AA a 0).f1.f1) ((AA a 0).f1.f2) ((AA a 0).f1.f3)).bind fun j => (if 1 ≤ (a.length : Int) then ((drivers_all.f k (a.drop 1)).bind fun o => (some (j.1, j.2.1, j.2.2.1, j.2.2.2, o, true, 0))) else (none))) else (none))
end
def Aj.f (k : Nat) (i : Int) (j : Int) (l : ByteArray) (q : List ByteArray) (r : List (S26)) (a : Int) (b : Int) (c : List Int) (e : List (S30)) (h : List (S63)) (o : Int) : Option (Int × Int × List Int × (List (S30)) × (List (S63)) × Bool × Int) := (Av.f k i j l q r a b c e h).bind fun s => (if s = true then (if o < 0 then (Aj.j0 k o true a b c e h) else (Aj.j0 k o (decide (o > 2000000)) a b c e h)) else (Aj.j0 k o true a b c e h))
def Aj.T6 : Bool × List (List Nat × List Nat) := (true, [([], []), ([0], [0]), ([1], [1]), ([], []), ([3], [3]), ([4, 2], [4]), ([2, 5], [2, 5]), ([6, 5, 0, 1, 2, 3, 4, 5, 6], [6]), ([7, 0, 1, 2, 3, 4, 5, 6, 7], []), ([8, 0, 1, 2, 3, 4, 5, 6, 7, 8], [])])
def Aj.B6 : List Nat := [0, 1, 3, 0, 8, 31, 63, 127, 255, 511]
theorem Aj.Kb : Cm .any (opsOf Try.f28 6) = Aj.T6 := by kernel_rfl
theorem Aj.IG : CX Aj.T6.2 Aj.B6 = true := by kernel_rfl
def Aj.T7 : Bool × List (List Nat × List Nat) := (true, [([], []), ([0], [0]), ([1], [1]), ([2], [2]), ([3], [3]), ([4], [4]), ([], []), ([6], [6]), ([7], [7]), ([8, 5], [8]), ([5, 9], [5, 9]), ([10, 9, 0, 1, 2, 3, 4, 5, 6, 7, 8, 9, 10], [10]), ([11, 0, 1, 2, 3, 4, 5, 6, 7, 8, 9, 10, 11], []), ([12, 0, 1, 2, 3, 4, 5, 6, 7, 8, 9, 10, 11, 12], [])])
def Aj.B7 : List Nat := [0, 1, 3, 7, 15, 31, 0, 64, 192, 511, 1023, 2047, 4095, 8191]
theorem Aj.SC : Cm .any (opsOf Try.f28 7) = Aj.T7 := by kernel_rfl
theorem Aj.Qs : CX Aj.T7.2 Aj.B7 = true := by kernel_rfl
end Go.Proofs.Ytojankgmedccdaa.PGn
