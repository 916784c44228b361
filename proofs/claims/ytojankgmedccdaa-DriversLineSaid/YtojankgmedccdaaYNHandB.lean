/- Lemmas. -/
import Derived.LoopTactic
import Derived.Outline
import Derived.WalkLawsBesides
import Derived.StillTailTactics
import Derived.Deep.RegionWith
import Derived.Lib.Hide
import Derived.Lib.LazyBuf
import Derived.Test.YtojankgmedccdaaYNOwn4
set_option maxHeartbeats 8000000
section
namespace Go.Proofs.Ytojankgmedccdaa.Hand
open Go.RowKit Wo
attribute [local go_sem] BS BU Bf Bg BC BD BX BZ
set_option linter.unusedVariables false
set_option linter.unusedSimpArgs false
theorem MH (a : Int) (w : World) : Calls Try.prog 69 #[.int .u8 a] w fun e w' => e = .returned (.bool (decide (a ≤ 3))) ∧ w = w' := by
  go_enter Try.func69, Try.ntmps69; go_wp2; go_ret; exact ⟨rfl, rfl⟩
theorem Jp (a : Int) (w : World) : Calls Try.prog 94 #[.int .u8 a] w fun e w' => e = .returned (.bool (!decide (a ≤ 3))) ∧ w = w' := by
  go_enter Try.func94, Try.ntmps94; go_wp2_with (go_at_call 69; refine (MH _ _).mono ?_; rintro b c ⟨rfl, rfl⟩); go_ret; exact ⟨rfl, rfl⟩
theorem Jq (a : Int) (h : decide (a ≤ 3) = true) (w : World) : Calls Try.prog 94 #[.int .u8 a] w fun e w' => e = .returned (.bool false) ∧ w = w' := by
  have := Jp a w; rw [h] at this; exact this
theorem NS (a : Int) (h : decide (a ≤ 3) = false) (w : World) : Calls Try.prog 94 #[.int .u8 a] w fun e w' => e = .returned (.bool true) ∧ w = w' := by
  have := Jp a w; rw [h] at this; exact this
def Sign (b : Bool) (w : World) (e : Ending) (w' : World) : Prop := ∃ n : Int, e = .returned (.int .i64 n) ∧ decide (0 ≤ n) = b ∧ Ar w w'
theorem MI (g : Option Addr) (j : Nat) (l0 : List Int) (w : World) (b : Kd.C (Kd.int .u8) w g l0.length l0) (d : l0.length ≤ j) (a : ∀ i : Int, 0 ≤ i → i < l0.length → decide (rd l0 i ≤ 3) = true) :
    Calls Try.prog 105 #[.slice g l0.length j, .func (.func 94) #[] #[]] w (Sign false w) := by
  have c := Aside0.mk b; have m := Aside0.mk a; have hm : l0.length ≤ 9223372036854775807 := Kd.M5 b; clear b d a; go_enter Try.func105, Try.ntmps105; go_wp2; go_loopw [8] (fun v wr => ∃ x : Int, v = .int .i64 x ∧ 0 ≤ x ∧ x ≤ l0.length ∧ Ar w wr) (fun v _ => l0.length - (intOf v).toNat)
  case atStart => exact ⟨0, rfl, by omega, by omega, Ar.refl _⟩
  case round =>
    obtain ⟨x, rfl, k, h1, r, rfl⟩ := hrel; by_cases hlt : x < (l0.length : Int)
    · have l := m.out x k hlt; have h := Jq (rd l0 x) l; have n := Aside0.mk h; clear h l; obtain ⟨o, e, q⟩ := Kd.D5 c.out x k hlt; cases e; go_wp2_with (go_at_call 94; refine (n.out _).mono ?_; rintro p s ⟨rfl, rfl⟩); go_roundw
      case rel => exact ⟨x + 1, rfl, by omega, by omega, by repeat (first | exact Ar.refl _ | apply Ar.step)⟩
      case measure => simp [intOf]; omega
    · go_wp2; go_ret; exact ⟨-1, rfl, rfl, by repeat (first | exact Ar.refl _ | apply Ar.step)⟩
theorem LD (q : Option Addr) (r : Nat) (l0 : List Int) (w : World) (d : Kd.C (Kd.int .u8) w q l0.length l0) (o : l0.length ≤ r) (b : Int) (y : 0 ≤ b) (z : b < l0.length) (c : decide (rd l0 b ≤ 3) = false) (a : ∀ i : Int, 0 ≤ i → i < b → decide (rd l0 i ≤ 3) = true) :
    Calls Try.prog 105 #[.slice q l0.length r, .func (.func 94) #[] #[]] w (Sign true w) := by
  have m := Aside0.mk d; have s := Aside0.mk a; have g := Aside0.mk c; have hm : l0.length ≤ 9223372036854775807 := Kd.M5 d; clear d o a c; go_enter Try.func105, Try.ntmps105; go_wp2; go_loopw [8] (fun v wr => ∃ x : Int, v = .int .i64 x ∧ 0 ≤ x ∧ x ≤ b ∧ Ar w wr) (fun v _ => l0.length - (intOf v).toNat)
  case atStart => exact ⟨0, rfl, by omega, by omega, Ar.refl _⟩
  case round =>
    obtain ⟨x, rfl, n, h1, I, rfl⟩ := hrel; have p : x < (l0.length : Int) := by omega
    obtain ⟨D, e, G⟩ := Kd.D5 m.out x n p; cases e; by_cases he : x < b
    · have k := s.out x n he; have h := Jq (rd l0 x) k; have l := Aside0.mk h; clear h k; go_wp2_with (go_at_call 94; refine (l.out _).mono ?_; rintro u B ⟨rfl, rfl⟩); go_roundw
      case rel => exact ⟨x + 1, rfl, by omega, by omega, by repeat (first | exact Ar.refl _ | apply Ar.step)⟩
      case measure => simp [intOf]; omega
    · have j : x = b := by omega
      have k : decide (rd l0 x ≤ 3) = false := by rw [j]; exact g.out
      clear j; have h := NS (rd l0 x) k; have l := Aside0.mk h; clear h k; go_wp2_with (go_at_call 94; refine (l.out _).mono ?_; rintro u B ⟨rfl, rfl⟩); go_ret; exact ⟨x, rfl, decide_eq_true n, by repeat (first | exact Ar.refl _ | apply Ar.step)⟩
theorem LF (l : List Int) (i : Nat) (h : i < l.length) : rd l (i : Int) = l[i] := by simp [rd, List.getD_eq_getElem?_getD, h]
theorem MJ (d : Option Addr) (e : Nat) (l0 : List Int) (w : World) (c : Kd.C (Kd.int .u8) w d l0.length l0) (a : l0.length ≤ e) (g : Bool) (hg : (l0.all fun x => decide (x ≤ 3)) = g) :
    Calls Try.prog 105 #[.slice d l0.length e, .func (.func 94) #[] #[]] w (Sign (!g) w) := by
  cases g with
  | true =>
    refine MI d e l0 w c a fun i h h1 => ?_; obtain ⟨n, rfl⟩ := Int.eq_ofNat_of_zero_le h; rw [LF l0 n (by omega)]; rw [List.all_eq_true] at hg; exact hg _ (List.getElem_mem _)
  | false =>
    have b : (l0.findIdx fun x => !decide (x ≤ 3)) < l0.length := by
      rw [List.findIdx_lt_length]; rw [List.all_eq_false] at hg; obtain ⟨x, j, hn⟩ := hg; exact ⟨x, j, by simpa using hn⟩
    refine LD d e l0 w c a ((l0.findIdx fun x => !decide (x ≤ 3) : Nat) : Int) (by omega) (by omega) ?_ ?_
    · rw [LF l0 _ b]; have := List.findIdx_getElem (w := b); simpa using this
    · intro i h h1; obtain ⟨n, rfl⟩ := Int.eq_ofNat_of_zero_le h; rw [LF l0 n (by omega)]; have := List.not_of_lt_findIdx (p := fun x => !decide (x ≤ 3)) (xs := l0) (i := n) (by omega); simpa using this
theorem J9 (c : Option Addr) (d : Nat) (l0 : List Int) (w : World) (b : Kd.C (Kd.int .u8) w c l0.length l0) (a : l0.length ≤ d) (g : Bool) (hg : (l0.all fun x => decide (x ≤ 3)) = g) :
    Calls Try.prog 93 #[.slice c l0.length d, .func (.func 94) #[] #[]] w fun e w' => e = .returned (.bool (!g)) ∧ Ar w w' := by
  have h := Aside0.mk (fun w hr => MJ c d l0 w hr a g hg); have i := Aside0.mk b; clear hg b a; go_enter Try.func93, Try.ntmps93; go_wp2_with (go_at_call 105; refine (h.out _ i.out).mono ?_; rintro j k ⟨n, rfl, hn, m, rfl⟩); go_ret; exact ⟨by rw [← hn]; rfl, m, rfl⟩
def isF (l : List Int) : Bool := decide (1 ≤ l.length) && decide (l.length ≤ 64) && l.all fun x => decide (x ≤ 3)
def GD.f (l0 : List Int) : Option Bool := some (isF l0)
theorem GD.calls (d : Option Addr) (i : Nat) (l0 : List Int) (r : Bool) (w : World) (b : Kd.C (Kd.int .u8) w d l0.length l0) (a : l0.length ≤ i) (h : GD.f l0 = some r) :
    Calls Try.prog 81 #[.slice d l0.length i] w fun e w' => e = .returned (.bool r) ∧ Ar w w' := by
  obtain rfl := Option.some.inj h; clear h; unfold isF; obtain ⟨g, hg⟩ : ∃ g, (l0.all fun x => decide (x ≤ 3)) = g := ⟨_, rfl⟩; rw [hg]; have j := Aside0.mk (fun w hr => J9 d i l0 w hr a g hg); have k := Aside0.mk b; clear hg b a; by_cases h1 : 1 ≤ l0.length
  · have l : decide (1 ≤ (l0.length : Int)) = true := decide_eq_true (by omega); have c : decide (1 ≤ l0.length) = true := decide_eq_true h1; by_cases h2 : l0.length ≤ 64
    · have n : decide ((l0.length : Int) ≤ 64) = true := decide_eq_true (by omega); have c4 : decide (l0.length ≤ 64) = true := decide_eq_true h2; rw [c, c4]; go_enter Try.func81, Try.ntmps81; go_wp2_with (go_at_call 93; refine (j.out _ k.out).mono ?_; rintro o p ⟨rfl, m, rfl⟩); go_ret; exact ⟨by simp, m, rfl⟩
    · have n : decide ((l0.length : Int) ≤ 64) = false := decide_eq_false (by omega); have c4 : decide (l0.length ≤ 64) = false := decide_eq_false h2; rw [c, c4]; go_enter Try.func81, Try.ntmps81; go_wp2; go_ret; exact ⟨by simp, Ar.refl _⟩
  · have l : decide (1 ≤ (l0.length : Int)) = false := decide_eq_false (by omega); have c : decide (1 ≤ l0.length) = false := decide_eq_false h1; rw [c]; go_enter Try.func81, Try.ntmps81; go_wp2; go_ret; exact ⟨by simp, Ar.refl _⟩
end Go.Proofs.Ytojankgmedccdaa.Hand
end
section
namespace Go.Proofs.Ytojankgmedccdaa.Hand
open Go.RowKit Wo
attribute [local go_sem] BS BU Bf Bg BC BD BX BZ
set_option linter.unusedVariables false
set_option linter.unusedSimpArgs false
theorem Fz : (Try.prog.info? 73).map (fun i => (i.zero, i.size, i.bytes)) = some (some (.int .u8 0), 1, 1) := by kernel_rfl
theorem MK (a : Nat) (w : World) (hn : ∀ W : World, (binOp .eql 27 (.slice none 0 a) (.slice none 0 0)).run Try.prog W = .ok (.bool true) W) : Calls Try.prog 68 #[.slice none 0 a] w fun e w' => e = .returned (.slice none 0 0) ∧ w' = w := by
  go_enter Try.func68, Try.ntmps68; go_wp2; go_ret; exact ⟨rfl, rfl⟩
set_option maxRecDepth 100000 in
theorem LG (D : Addr) (G : Nat) (l0 : List Int) (r : List Int) (w : World) (x : Kd.C (Kd.int .u8) w (some D) l0.length l0) (v : l0.length ≤ G) (hn : ∀ W : World, (binOp .eql 27 (.slice (some D) l0.length G) (.slice none 0 0)).run Try.prog W = .ok (.bool false) W) (h : ((some (([] : List Int) : List Int)).bind fun a => (if a.length + l0.length < 140737488355328 then (some (a ++ l0)) else (none))) = some r) :
    Calls Try.prog 68 #[.slice (some D) l0.length G] w fun e w' => ∃ y : Value, e = .returned (y) ∧ Kd.R (Kd.int .u8) 73 w' w.heap.size (fun _ => True) y r ∧ Below w.heap.size w w' := by
  have B := Aside0.mk x; have O := Aside0.mk v; clear x v; have i := Aside0.mk (Below.refl w.heap.size w); have H := h; clear h; obtain ⟨a, c⟩ : ∃ L : List Int, L = (([] : List Int)) := ⟨_, rfl⟩; replace H : (if a.length + l0.length < 140737488355328 then (some (a ++ l0)) else (none)) = some r := by first | (rw [c]; with_reducible exact H) | (have g := (Option.bind_some _ _).symm.trans H; rw [c]; with_reducible exact g) | (have g := (Option.bind_some _ _).symm.trans H; with_reducible exact g) | with_reducible exact H | (rw [c]; exact H) | exact H
  have k := Aside0.mk c; clear c; by_cases c2 : a.length + l0.length < 140737488355328
  · rw [if_pos c2] at H; have s := Aside0.mk c2; clear c2; obtain ⟨z, d⟩ : ∃ L : List Int, L = (a ++ l0) := ⟨_, rfl⟩; replace H : (some z) = some r := by first | (rw [d]; with_reducible exact H) | (have g := (Option.bind_some _ _).symm.trans H; rw [d]; with_reducible exact g) | (have g := (Option.bind_some _ _).symm.trans H; with_reducible exact g) | with_reducible exact H | (rw [d]; exact H) | exact H
    have p := Aside0.mk d; clear d; obtain rfl := Option.some.inj H; go_enter Try.func68, Try.ntmps68; go_wp2_with (first | ((with_reducible refine FW (N := 5) rfl ?_); refine Kd.KM (Kd.int .u8) _ 73 ?hg (N := 5) ?hd (xs := ([] : List Int)) (inner := []) (ok := fun _ => True) (okp := fun _ => True) ?hr ?hp (fun _ T => T) trivial (Below.refl _ _) (Nat.le_refl _) (by simp) ?_; (case hd => rfl); (case hg => rfl); (case hr => first | (go_simp; done) | (go_simp; rfl)); (case hp => exact (CK.none _ _)); intro v114 U l u J q; clear J q; (first | rw [← k.out] at l | (simp only [Int.reduceToNat] at l; rw [← k.out] at l)); have m := Aside0.mk (Kd.Cb l (AU (by repeat (first | (with_reducible first | exact i.out | apply AR | apply Ag | apply Ad) | exact i.out)))); have n := Aside0.mk (Aj (by repeat (first | (with_reducible first | exact i.out | apply AR | apply Ag | apply Ad) | exact i.out)) u); clear i; have j := m; have i := n; clear m n; clear u l) | ((with_reducible refine Dt (b := .append) (xs := #[.tmp 5, .tmp 6]) rfl ?_); at_builtin; refine Kd.Fx (Kd.int .u8) (w0 := w) w.heap.size rfl (.tmp 5) (.tmp 6) 27 73 (.int .u8 0) 1 rfl Try.underlying27 Fz rfl (by decide) (by omega) v114 a l0 _ _ _ (fun _ => True) (fun _ => False) rfl rfl ?aO ?aR (fun _ _ h => h) (fun _ h => h.elim) ?aF ?aB ?aS ?aL ?_; (case aR => repeat (first | exact (Kd.Ap B.out i.out) | (with_reducible refine Kd.Ce ?_ _) | (with_reducible refine Kd.Cf ?_ _) | (with_reducible refine Kd.Cq ?_))); (case aB => exact (by repeat (first | (with_reducible first | exact i.out | apply AR | apply Ag | apply Ad) | exact i.out))); (case aF => exact (fun _ _ => trivial)); (case aO => exact (by (with_reducible repeat (first | apply Kd.Ld | apply Kd.Le | apply Kd.GL)); exact j.out)); (case aS => exact (AU (by repeat (first | (with_reducible first | exact i.out | apply AR | apply Ag | apply Ad) | exact i.out)))); (case aL => have := s.out; omega); intro v117 X ho u hg I; rw [← p.out] at ho; have m := Aside0.mk (u); have n := Aside0.mk (ho); clear i; clear j; have i := m; have o := n; clear m n; clear ho u hg I)); go_ret; exact ⟨_, by first | rfl | (simp; done) | (simp [*]; done), by (with_reducible repeat (first | apply Kd.Ld | apply Kd.Le | apply Kd.GL)); exact o.out, by repeat (first | (with_reducible first | exact i.out | apply AR | apply Ag | apply Ad) | exact i.out)⟩
  · rw [if_neg c2] at H; exact absurd H (by simp)
def Es.f (l0 : List Int) : Option (List Int) := if l0.length < 140737488355328 then some l0 else none
theorem Es.calls (i : Option Addr) (a : Nat) (l0 : List Int) (r : List Int) (w : World) (c : Kd.C (Kd.int .u8) w i l0.length l0) (j : l0.length ≤ a) (h : Es.f l0 = some r) :
    Calls Try.prog 68 #[.slice i l0.length a] w fun e w' => ∃ g : Value, e = .returned (g) ∧ Kd.R (Kd.int .u8) 73 w' w.heap.size (fun _ => True) g r ∧ Below w.heap.size w w' := by
  have l := fun (W : World) => Lib.run_eql_slice_nil (P := Try.prog) W 27 73 i l0.length a 0 0 Try.underlying27; unfold Es.f at h; by_cases hl : l0.length < 140737488355328
  · rw [if_pos hl] at h; obtain rfl := Option.some.inj h; cases i with
    | none =>
      have d : l0.length = 0 := by
        rcases Nat.eq_zero_or_pos l0.length with d | d
        · exact d
        · obtain ⟨k, e, _⟩ := c.2.2 d; cases e
      have b : l0 = [] := List.length_eq_zero_iff.1 d; subst b; exact (MK a w l).mono fun e w' ⟨h1, m⟩ => ⟨_, h1, Kd.Dq _ _ _ _ _, by rw [m]; exact Below.refl _ _⟩
    | some k =>
      exact LG k a l0 l0 w c j l (by simp only [Option.bind_some, List.length_nil, Nat.zero_add, List.nil_append]; rw [if_pos hl])
  · rw [if_neg hl] at h; exact absurd h (by simp)
end Go.Proofs.Ytojankgmedccdaa.Hand
end
