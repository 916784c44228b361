/- Lemmas. -/
import Derived.Test.YtojankgmedccdaaYOPIsx4
namespace Go.Proofs.Ytojankgmedccdaa.PIs
open Go.RowKit Own PTy Hand Wo
attribute [local go_sem] BI BJ Ba Bc Ao Ap BL BM
set_option linter.unusedVariables false
set_option linter.unusedSimpArgs false
mutual
def BG.j0 : Nat → Bool → Int → Int → ByteArray → List ByteArray → List (S26) → Option (Bool)
 | 0, _, _, _, _, _, _ => none
 | k + 1, x30, b, c, e, a, h => if x30 = true then (some false) else (BG.l0 k a (a.length : Int) 0 b c e a h)
def BG.l0 : Nat → List ByteArray → Int → Int → Int → Int → ByteArray → List ByteArray → List (S26) → Option (Bool)
 | 0, _, _, _, _, _, _, _, _ => none
 | k + 1, x32, l, i, b, c, e, a, h => if i < l then (if 0 ≤ i then (if i < (x32.length : Int) then ((BF.f k (Ec ByteArray.empty x32 i)).bind fun t138 => (if t138 = true then (if i ≤ (a.length : Int) then ((Jy.f k (a.take (i : Int).toNat) (Ec ByteArray.empty x32 i)).bind fun j => (if j = true then (some false) else (BG.l0 k x32 l (wrap64 (i + 1)) b c e a h))) else (none)) else (some false))) else (none)) else (none)) else (some true)
end
def BG.f (k : Nat) (c : Int) (e : Int) (a : ByteArray) (b : List ByteArray) (h : List (S26)) : Option (Bool) := if a.toList = ([] : List UInt8) then (BG.j0 k true c e a b h) else (if (a.size : Int) > 100 then (BG.j0 k true c e a b h) else ((strings_ContainsFunc.f a).bind fun i => (if i = true then (BG.j0 k true c e a b h) else (if (b.length : Int) < 1 then (BG.j0 k true c e a b h) else (BG.j0 k (decide ((b.length : Int) > 16)) c e a b h)))))
set_option maxHeartbeats 8000000 in
set_option maxRecDepth 100000 in
theorem BG.calls {k : Nat} {D G : Int} {l : ByteArray} {I : Option Addr} {v : Nat} {c : List ByteArray} {J : Option Addr} {L : Nat} {s : List (S26)} {r : Bool} {w : World} (hG : Dk w) (gB : Kd.C Kd.string w I c.length c) (cB : c.length ≤ v) (hB : Kd.C k26 w J s.length s) (dB : s.length ≤ L) (h : BG.f k D G l c s = some r) :
  Calls Try.prog 64 #[.agg #[.int .i64 D, .int .i64 G, .string l, .slice I c.length v, .slice J s.length L]] w fun e w' => e = .returned (.bool r) ∧ Below w.heap.size w w' := by
 have HG := mk0 hG; clear hG
 have wC := Try.underlying26
 have B := mk0 gB; have Z := mk0 cB; clear gB cB; have pC := mk0 hB; have nC := mk0 dB; clear hB dB
 have u := mk0 (Below.refl w.heap.size w)
 have H := h; unfold BG.f at H
 clear h; have xB := mk0 H; clear H
 go_enter Try.func64, Try.ntmps64
 go_upto_region 1 with ((with_reducible refine AU rfl (N := 1) rfl (cs := #[.int .i64 D, .int .i64 G, .string l, .slice I c.length v, .slice J s.length L]) (t := 26) ?hr ?_); (case hr => first | (go_simp; done) | (go_simp; rfl)); intro aB hg w3 tB hb; have b := mk0 (tB); have i := bs (be u) hg; replace u := kh u hb; clear hb tB hg)
 (try simp only [Act.put, List.setIfInBounds_toArray, List.set_cons_zero, List.set_cons_succ])
 go_cut [30] (fun v30 wc => ∃ (kq : Nat) (X : Bool), v30 = .bool X ∧ Aside0 (BG.j0 kq X D G l c s = some r) ∧ Aside0 (kq ≤ k) ∧ Aside0 (bk wc aB 26 #[.int .i64 D, .int .i64 G, .string l, (.slice I c.length v), (.slice J s.length L)]) ∧ Aside0 (Below w.heap.size w wc))
 case first =>
  have H := xB.out; clear xB; replace H := iE H; obtain ⟨O, fC, H⟩ | ⟨c4, O, fC, H⟩ := H
  ·(first | rw [O] | (simp only [CG, DK]; rw [O]) | skip); have Y := mk0 H; clear H; have z5 := cells5 b.out; go_wp2; go_meet
   case rel => exact ⟨_, (true), rfl, Y, ⟨by omega⟩, ⟨bu b⟩, ⟨be1 u i⟩⟩
  (first | rw [O] | (simp only [CG, DK]; rw [O]) | skip); by_cases c6 : (l.size : Int) > 100
  ·rw [if_pos c6] at H; have gC : decide (100 < (l.size : Int)) = true := decide_eq_true c6; have hC : decide (100 < l.size) = true := decide_eq_true (by omega); clear c6; have Y := mk0 H; clear H; have z7 := cells5 b.out; go_wp2; go_meet
   case rel => exact ⟨_, (true), rfl, Y, ⟨by omega⟩, ⟨bu b⟩, ⟨be1 u i⟩⟩
  rw [if_neg c6] at H; have gC : decide (100 < (l.size : Int)) = false := decide_eq_false c6; have hC : decide (100 < l.size) = false := decide_eq_false (by omega); clear c6; replace H := bS H; obtain ⟨zC, A8, H⟩ := H; replace H := iB H; obtain ⟨rfl, H⟩ | ⟨rfl, H⟩ := H
  ·have Y := mk0 H; clear H; have gD := cells5 b.out; go_wp2_with (go_at_call 73; refine (strings_ContainsFunc.calls l true _ A8.out).mono ?_; rintro e dD ⟨rfl, hb⟩; replace b := kb b hb; replace u := kh1 u i hb); go_meet
   case rel => exact ⟨_, (true), rfl, Y, ⟨by omega⟩, ⟨bu b⟩, ⟨be1 u i⟩⟩
  replace H := iD' H; obtain ⟨c12, yB, H⟩ | ⟨c12, yB, H⟩ := H
  ·have zB : decide (c.length < 1) = false := decide_eq_false (by omega); clear c12; have Y := mk0 H; clear H; have kD := cells5 b.out; go_wp2_with (go_at_call 73; refine (strings_ContainsFunc.calls l false _ A8.out).mono ?_; rintro e fD ⟨rfl, hb⟩; replace b := kb b hb; replace u := kh1 u i hb; have lD := cells5 b.out); go_meet
   case rel => exact ⟨_, (decide ((c.length : Int) > 16)), rfl, Y, ⟨by omega⟩, ⟨bu b⟩, ⟨be1 u i⟩⟩
  have zB : decide (c.length < 1) = true := decide_eq_true (by omega); clear c12; have Y := mk0 H; clear H; have hD := cells5 b.out; go_wp2_with (go_at_call 73; refine (strings_ContainsFunc.calls l false _ A8.out).mono ?_; rintro e eD ⟨rfl, hb⟩; replace b := kb b hb; replace u := kh1 u i hb; have jD := cells5 b.out); go_meet
  case rel => exact ⟨_, (true), rfl, Y, ⟨by omega⟩, ⟨bu b⟩, ⟨be1 u i⟩⟩
 case rest =>
  clear xB; obtain ⟨kq, X, rfl, HA, dC, b, u⟩ := hcut; cases kq with
  | zero => exact absurd HA.out (by simp [BG.j0])
  | succ iC =>
   have H := HA.out; clear HA; simp only [BG.j0] at H; replace H := iB H; obtain ⟨rfl, H⟩ | ⟨rfl, H⟩ := H
   ·obtain rfl := sI H; go_wp2; go_ret; exact ⟨rfl, be1 u i⟩
   have Y := mk0 H; clear H; have z20 := cells5 b.out; go_wp2; go_loopg [34] iC (fun kq v34 w' => ∃ (a : Int), v34 = .int .i64 a ∧ Aside0 (BG.l0 kq c (c.length : Int) a D G l c s = some r) ∧ Aside0 (kq ≤ iC) ∧ Aside0 (bk w' aB 26 #[.int .i64 D, .int .i64 G, .string l, (.slice I c.length v), (.slice J s.length L)]) ∧ Aside0 (Below w.heap.size w w'))
   case atStart => exact ⟨(0), rfl, Y, ⟨Nat.le_refl _⟩, ⟨bu b⟩, ⟨be1 u i⟩⟩
   case round =>
    clear Y; obtain ⟨a, rfl, HA, eC, b, u⟩ := hrel; cases gk with
    | zero => exact absurd HA.out (by simp [BG.l0])
    | succ k2 =>
     have H := HA.out; clear HA; simp only [BG.l0] at H; replace H := iD' H; obtain ⟨-, aC, H⟩ | ⟨-, aC, H⟩ := H
     ·obtain rfl := sI H; go_wp2; go_ret; exact ⟨rfl, be1 u i⟩
     replace H := iN H; obtain ⟨-, qC, H⟩ := H; replace H := iN H; obtain ⟨-, rC, H⟩ := H; replace H := bS H; obtain ⟨t138, uB, H⟩ := H; replace H := iB' H; obtain ⟨rfl, H⟩ | ⟨rfl, H⟩ := H
     ·obtain rfl := sI H; have o : 0 ≤ (a : Int) := od; have q : a < (c.length : Int) := od; obtain ⟨z, T, j⟩ := Kd.EK B.out a o q; cases T; replace j := AY u.out j; replace o := eq_true o; replace q := eq_true q; go_wp2_with ((with_reducible refine AP (f := 75) rfl ?_); refine IL Try.func75 (BF.calls (Ad HG.out (be1 u i)) uB.out) ?_; intro nd); go_ret; exact ⟨rfl, be1 u i⟩
     have sC := eq_true (of_decide_eq_true (by assumption) : 0 ≤ a); by_cases c27 : a ≤ (c.length : Int); rotate_left
     ·rw [if_neg c27] at H; exact absurd H (by simp)
     rw [if_pos c27] at H; have tC := eq_true c27; have uC : decide (a ≤ (c.length : Int)) = true := decide_eq_true c27; clear c27; replace H := bS H; obtain ⟨aD, cC, H⟩ := H; replace H := iB H; obtain ⟨rfl, H⟩ | ⟨rfl, H⟩ := H
     ·obtain rfl := sI H; have o : 0 ≤ (a : Int) := od; have q : a < (c.length : Int) := od; obtain ⟨z, T, j⟩ := Kd.EK B.out a o q; cases T; replace j := AY u.out j; replace o := eq_true o; replace q := eq_true q; go_wp2_with (first | ((with_reducible refine AP (f := 75) rfl ?_); refine IL Try.func75 (BF.calls (Ad HG.out (be1 u i)) uB.out) ?_; intro nd; have z30 := cells5 b.out; obtain ⟨xC, eB, _, jB, _⟩ := info_parts Nl; obtain ⟨jC, lB, qB⟩ := Gh (P := Try.prog) Value.string (⟨#[]⟩ : ByteArray) 23 9 .i64 Try.underlying23 eB jB (some z) v c a (of_decide_eq_true (by assumption)) (of_decide_eq_true (by assumption)) Z.out; have W := mk0 (Kd.IX (h1 := fun _ => rfl) (lB _ (Kd.Fv B.out))); have U := mk0 qB; clear lB qB eB jB) | (go_at_call 76; refine Gl (args' := #[.slice (some z) (c.take (a : Int).toNat).length v, .string (Ec ByteArray.empty c a)]) (by rw [show (c.take (a : Int).toNat).length = (a).toNat from (by rw [List.length_take]; have h_ : (a : Int) ≤ (c.length : Int) := of_decide_eq_true (by assumption); omega)] <;> rfl) ?_; (with_reducible refine (Jy.calls ?side1 ?side2 cC.out).mono ?_); (case side1 => exact (Kd.Ak W.out (be1 u i))); (case side2 => exact U.out); rintro e w' ⟨rfl, nd, rfl⟩)); go_ret; exact ⟨rfl, be1 u i⟩
     have Y := mk0 H; clear H; have o : 0 ≤ (a : Int) := od; have q : a < (c.length : Int) := od; obtain ⟨z, T, j⟩ := Kd.EK B.out a o q; cases T; replace j := AY u.out j; replace o := eq_true o; replace q := eq_true q; go_wp2_with (first | ((with_reducible refine AP (f := 75) rfl ?_); refine IL Try.func75 (BF.calls (Ad HG.out (be1 u i)) uB.out) ?_; intro nd; have z32 := cells5 b.out; obtain ⟨yC, fB, _, kB, _⟩ := info_parts Nl; obtain ⟨kC, mB, sB⟩ := Gh (P := Try.prog) Value.string (⟨#[]⟩ : ByteArray) 23 9 .i64 Try.underlying23 fB kB (some z) v c a (of_decide_eq_true (by assumption)) (of_decide_eq_true (by assumption)) Z.out; have W := mk0 (Kd.IX (h1 := fun _ => rfl) (mB _ (Kd.Fv B.out))); have U := mk0 sB; clear mB sB fB kB) | (go_at_call 76; refine Gl (args' := #[.slice (some z) (c.take (a : Int).toNat).length v, .string (Ec ByteArray.empty c a)]) (by rw [show (c.take (a : Int).toNat).length = (a).toNat from (by rw [List.length_take]; have h_ : (a : Int) ≤ (c.length : Int) := of_decide_eq_true (by assumption); omega)] <;> rfl) ?_; (with_reducible refine (Jy.calls ?side1 ?side2 cC.out).mono ?_); (case side1 => exact (Kd.Ak W.out (be1 u i))); (case side2 => exact U.out); rintro e w' ⟨rfl, nd, rfl⟩)); go_roundg k2
     case measure => have := dC.out; have := eC.out; omega
     case rel => exact ⟨(wrap64 (a + 1)), rfl, Y, ⟨by have := dC.out; have := eC.out; omega⟩, ⟨bu b⟩, ⟨be1 u i⟩⟩
end Go.Proofs.Ytojankgmedccdaa.PIs
