/- Lemmas. -/
import Derived.LoopTactic
import Derived.Outline
import Derived.WalkLawsBesides
import Derived.StillTailTactics
import Derived.Deep.RegionWith
import Derived.Lib.Hide
import Derived.Lib.LazyBuf
import Derived.Test.YtojankgmedccdaaYOOwn4
set_option maxHeartbeats 8000000
section
namespace Go.Proofs.Ytojankgmedccdaa.Hand
open Go.RowKit Wo
attribute [local go_sem] BI BJ Ba Bc Ao Ap BL BM
set_option linter.unusedVariables false
set_option linter.unusedSimpArgs false
theorem MZ (a : Int) (w : World) : Calls Try.prog 69 #[.int .u8 a] w fun e w' => e = .returned (.bool (decide (a ≤ 3))) ∧ w = w' := by
  go_enter Try.func69, Try.ntmps69; go_wp2; go_ret; exact ⟨rfl, rfl⟩
theorem JZ (a : Int) (w : World) : Calls Try.prog 94 #[.int .u8 a] w fun e w' => e = .returned (.bool (!decide (a ≤ 3))) ∧ w = w' := by
  go_enter Try.func94, Try.ntmps94; go_wp2_with (go_at_call 69; refine (MZ _ _).mono ?_; rintro b c ⟨rfl, rfl⟩); go_ret; exact ⟨rfl, rfl⟩
theorem Ja (a : Int) (h : decide (a ≤ 3) = true) (w : World) : Calls Try.prog 94 #[.int .u8 a] w fun e w' => e = .returned (.bool false) ∧ w = w' := by
  have := JZ a w; rw [h] at this; exact this
theorem Nr (a : Int) (h : decide (a ≤ 3) = false) (w : World) : Calls Try.prog 94 #[.int .u8 a] w fun e w' => e = .returned (.bool true) ∧ w = w' := by
  have := JZ a w; rw [h] at this; exact this
def Sign (b : Bool) (w : World) (e : Ending) (w' : World) : Prop := ∃ n : Int, e = .returned (.int .i64 n) ∧ decide (0 ≤ n) = b ∧ Aq w w'
theorem Ma (j : Option Addr) (l : Nat) (l0 : List Int) (w : World) (b : Kd.C (Kd.int .u8) w j l0.length l0) (h : l0.length ≤ l) (a : ∀ i : Int, 0 ≤ i → i < l0.length → decide (rd l0 i ≤ 3) = true) :
    Calls Try.prog 105 #[.slice j l0.length l, .func (.func 94) #[] #[]] w (Sign false w) := by
  have c := Aside0.mk b; have r := Aside0.mk a; have hm : l0.length ≤ 9223372036854775807 := Kd.KD b; clear b h a; go_enter Try.func105, Try.ntmps105; go_wp2; go_loopw [8] (fun v wr => ∃ x : Int, v = .int .i64 x ∧ 0 ≤ x ∧ x ≤ l0.length ∧ Aq w wr) (fun v _ => l0.length - (intOf v).toNat)
  case atStart => exact ⟨0, rfl, by omega, by omega, Aq.refl _⟩
  case round =>
    obtain ⟨x, rfl, o, h1, D, rfl⟩ := hrel; by_cases hlt : x < (l0.length : Int)
    · have q := r.out x o hlt; have k := Ja (rd l0 x) q; have s := Aside0.mk k; clear k q; obtain ⟨u, e, B⟩ := Kd.DX c.out x o hlt; cases e; go_wp2_with (go_at_call 94; refine (s.out _).mono ?_; rintro z G ⟨rfl, rfl⟩); go_roundw
      case rel => exact ⟨x + 1, rfl, by omega, by omega, by repeat (first | exact Aq.refl _ | apply Aq.step)⟩
      case measure => simp [intOf]; omega
    · go_wp2; go_ret; exact ⟨-1, rfl, rfl, by repeat (first | exact Aq.refl _ | apply Aq.step)⟩
theorem LG (B : Option Addr) (D : Nat) (l0 : List Int) (w : World) (h : Kd.C (Kd.int .u8) w B l0.length l0) (u : l0.length ≤ D) (b : Int) (J : 0 ≤ b) (L : b < l0.length) (c : decide (rd l0 b ≤ 3) = false) (a : ∀ i : Int, 0 ≤ i → i < b → decide (rd l0 i ≤ 3) = true) :
    Calls Try.prog 105 #[.slice B l0.length D, .func (.func 94) #[] #[]] w (Sign true w) := by
  have r := Aside0.mk h; have G := Aside0.mk a; have j := Aside0.mk c; have hm : l0.length ≤ 9223372036854775807 := Kd.KD h; clear h u a c; go_enter Try.func105, Try.ntmps105; go_wp2; go_loopw [8] (fun v wr => ∃ x : Int, v = .int .i64 x ∧ 0 ≤ x ∧ x ≤ b ∧ Aq w wr) (fun v _ => l0.length - (intOf v).toNat)
  case atStart => exact ⟨0, rfl, by omega, by omega, Aq.refl _⟩
  case round =>
    obtain ⟨x, rfl, s, h1, W, rfl⟩ := hrel; have z : x < (l0.length : Int) := by omega
    obtain ⟨T, e, U⟩ := Kd.DX r.out x s z; cases e; by_cases he : x < b
    · have o := G.out x s he; have k := Ja (rd l0 x) o; have q := Aside0.mk k; clear k o; go_wp2_with (go_at_call 94; refine (q.out _).mono ?_; rintro I O ⟨rfl, rfl⟩); go_roundw
      case rel => exact ⟨x + 1, rfl, by omega, by omega, by repeat (first | exact Aq.refl _ | apply Aq.step)⟩
      case measure => simp [intOf]; omega
    · have l : x = b := by omega
      have o : decide (rd l0 x ≤ 3) = false := by rw [l]; exact j.out
      clear l; have k := Nr (rd l0 x) o; have q := Aside0.mk k; clear k o; go_wp2_with (go_at_call 94; refine (q.out _).mono ?_; rintro I O ⟨rfl, rfl⟩); go_ret; exact ⟨x, rfl, decide_eq_true s, by repeat (first | exact Aq.refl _ | apply Aq.step)⟩
theorem LH (l : List Int) (i : Nat) (h : i < l.length) : rd l (i : Int) = l[i] := by simp [rd, List.getD_eq_getElem?_getD, h]
theorem Mc (e : Option Addr) (h : Nat) (l0 : List Int) (w : World) (c : Kd.C (Kd.int .u8) w e l0.length l0) (a : l0.length ≤ h) (g : Bool) (hg : (l0.all fun x => decide (x ≤ 3)) = g) :
    Calls Try.prog 105 #[.slice e l0.length h, .func (.func 94) #[] #[]] w (Sign (!g) w) := by
  cases g with
  | true =>
    refine Ma e h l0 w c a fun i j h1 => ?_; obtain ⟨n, rfl⟩ := Int.eq_ofNat_of_zero_le j; rw [LH l0 n (by omega)]; rw [List.all_eq_true] at hg; exact hg _ (List.getElem_mem _)
  | false =>
    have b : (l0.findIdx fun x => !decide (x ≤ 3)) < l0.length := by
      rw [List.findIdx_lt_length]; rw [List.all_eq_false] at hg; obtain ⟨x, k, hn⟩ := hg; exact ⟨x, k, by simpa using hn⟩
    refine LG e h l0 w c a ((l0.findIdx fun x => !decide (x ≤ 3) : Nat) : Int) (by omega) (by omega) ?_ ?_
    · rw [LH l0 _ b]; have := List.findIdx_getElem (w := b); simpa using this
    · intro i j h1; obtain ⟨n, rfl⟩ := Int.eq_ofNat_of_zero_le j; rw [LH l0 n (by omega)]; have := List.not_of_lt_findIdx (p := fun x => !decide (x ≤ 3)) (xs := l0) (i := n) (by omega); simpa using this
theorem Jv (c : Option Addr) (h : Nat) (l0 : List Int) (w : World) (b : Kd.C (Kd.int .u8) w c l0.length l0) (a : l0.length ≤ h) (g : Bool) (hg : (l0.all fun x => decide (x ≤ 3)) = g) :
    Calls Try.prog 93 #[.slice c l0.length h, .func (.func 94) #[] #[]] w fun e w' => e = .returned (.bool (!g)) ∧ Aq w w' := by
  have i := Aside0.mk (fun w hr => Mc c h l0 w hr a g hg); have j := Aside0.mk b; clear hg b a; go_enter Try.func93, Try.ntmps93; go_wp2_with (go_at_call 105; refine (i.out _ j.out).mono ?_; rintro k l ⟨n, rfl, hn, m, rfl⟩); go_ret; exact ⟨by rw [← hn]; rfl, m, rfl⟩
def isF (l : List Int) : Bool := decide (1 ≤ l.length) && decide (l.length ≤ 64) && l.all fun x => decide (x ≤ 3)
def Fh.f (l0 : List Int) : Option Bool := some (isF l0)
theorem Fh.calls (i : Option Addr) (j : Nat) (l0 : List Int) (r : Bool) (w : World) (b : Kd.C (Kd.int .u8) w i l0.length l0) (a : l0.length ≤ j) (h : Fh.f l0 = some r) :
    Calls Try.prog 81 #[.slice i l0.length j] w fun e w' => e = .returned (.bool r) ∧ Aq w w' := by
  obtain rfl := Option.some.inj h; clear h; unfold isF; obtain ⟨g, hg⟩ : ∃ g, (l0.all fun x => decide (x ≤ 3)) = g := ⟨_, rfl⟩; rw [hg]; have k := Aside0.mk (fun w hr => Jv i j l0 w hr a g hg); have l := Aside0.mk b; clear hg b a; by_cases h1 : 1 ≤ l0.length
  · have o : decide (1 ≤ (l0.length : Int)) = true := decide_eq_true (by omega); have c : decide (1 ≤ l0.length) = true := decide_eq_true h1; by_cases h2 : l0.length ≤ 64
    · have q : decide ((l0.length : Int) ≤ 64) = true := decide_eq_true (by omega); have c4 : decide (l0.length ≤ 64) = true := decide_eq_true h2; rw [c, c4]; go_enter Try.func81, Try.ntmps81; go_wp2_with (go_at_call 93; refine (k.out _ l.out).mono ?_; rintro s u ⟨rfl, m, rfl⟩); go_ret; exact ⟨by simp, m, rfl⟩
    · have q : decide ((l0.length : Int) ≤ 64) = false := decide_eq_false (by omega); have c4 : decide (l0.length ≤ 64) = false := decide_eq_false h2; rw [c, c4]; go_enter Try.func81, Try.ntmps81; go_wp2; go_ret; exact ⟨by simp, Aq.refl _⟩
  · have o : decide (1 ≤ (l0.length : Int)) = false := decide_eq_false (by omega); have c : decide (1 ≤ l0.length) = false := decide_eq_false h1; rw [c]; go_enter Try.func81, Try.ntmps81; go_wp2; go_ret; exact ⟨by simp, Aq.refl _⟩
end Go.Proofs.Ytojankgmedccdaa.Hand
end
section
namespace Go.Proofs.Ytojankgmedccdaa.Hand
open Go.RowKit Wo
attribute [local go_sem] BI BJ Ba Bc Ao Ap BL BM
set_option linter.unusedVariables false
set_option linter.unusedSimpArgs false
theorem Ei : (Try.prog.info? 73).map (fun i => (i.zero, i.size, i.bytes)) = some (some (.int .u8 0), 1, 1) := by kernel_rfl
theorem Md (a : Nat) (w : World) (hn : ∀ W : World, (binOp .eql 27 (.slice none 0 a) (.slice none 0 0)).run Try.prog W = .ok (.bool true) W) : Calls Try.prog 68 #[.slice none 0 a] w fun e w' => e = .returned (.slice none 0 0) ∧ w' = w := by
  go_enter Try.func68, Try.ntmps68; go_wp2; go_ret; exact ⟨rfl, rfl⟩
set_option maxRecDepth 100000 in
theorem LJ (U : Addr) (X : Nat) (l0 : List Int) (r : List Int) (w : World) (J : Kd.C (Kd.int .u8) w (some U) l0.length l0) (I : l0.length ≤ X) (hn : ∀ W : World, (binOp .eql 27 (.slice (some U) l0.length X) (.slice none 0 0)).run Try.prog W = .ok (.bool false) W) (h : ((some (([] : List Int) : List Int)).bind fun a => (if a.length + l0.length < 140737488355328 then (some (a ++ l0)) else (none))) = some r) :
    Calls Try.prog 68 #[.slice (some U) l0.length X] w fun e w' => ∃ L : Value, e = .returned (L) ∧ Kd.R (Kd.int .u8) 73 w' w.heap.size (fun _ => True) L r ∧ Below w.heap.size w w' := by
  have T := Aside0.mk J; have cB := Aside0.mk I; clear J I; have k := Aside0.mk (Below.refl w.heap.size w); have H := h; clear h; obtain ⟨a, c⟩ : ∃ y_ : List Int, y_ = (([] : List Int)) := ⟨_, rfl⟩; replace H : (if a.length + l0.length < 140737488355328 then (some (a ++ l0)) else (none)) = some r := by first | (rw [c]; with_reducible exact H) | (have j := (Option.bind_some _ _).symm.trans H; rw [c]; with_reducible exact j) | (have j := (Option.bind_some _ _).symm.trans H; with_reducible exact j) | with_reducible exact H | (rw [c]; exact H) | exact H
  have o := Aside0.mk c; clear c; by_cases c2 : a.length + l0.length < 140737488355328
  · rw [if_pos c2] at H; have D := Aside0.mk c2; clear c2; obtain ⟨O, i⟩ : ∃ y_ : List Int, y_ = (a ++ l0) := ⟨_, rfl⟩; replace H : (some O) = some r := by first | (rw [i]; with_reducible exact H) | (have j := (Option.bind_some _ _).symm.trans H; rw [i]; with_reducible exact j) | (have j := (Option.bind_some _ _).symm.trans H; with_reducible exact j) | with_reducible exact H | (rw [i]; exact H) | exact H
    have z := Aside0.mk i; clear i; obtain rfl := Option.some.inj H; go_enter Try.func68, Try.ntmps68; go_wp2_with (first | ((with_reducible refine D6 (N := 5) rfl ?_); refine Kd.Ib (Kd.int .u8) _ 73 ?hg (N := 5) ?hd (xs := ([] : List Int)) (inner := []) (ok := fun _ => True) (okp := fun _ => True) ?hr ?hp (fun _ hk => hk) trivial (Below.refl _ _) (Nat.le_refl _) (by simp) ?_; (case hd => rfl); (case hg => rfl); (case hr => first | (go_simp; done) | (go_simp; rfl)); (case hp => exact (Cu.none _ _)); intro v114 w3 q G Z B; clear Z B; (first | rw [← o.out] at q | (simp only [Int.reduceToNat] at q; rw [← o.out] at q)); have s := Aside0.mk (Kd.Cc q (AX (by repeat (first | (with_reducible first | exact k.out | apply AV | apply Ai | apply Af) | exact k.out)))); have u := Aside0.mk (AZ (by repeat (first | (with_reducible first | exact k.out | apply AV | apply Ai | apply Af) | exact k.out)) G); clear k; have l := s; have k := u; clear s u; clear G q) | ((with_reducible refine De (b := .append) (xs := #[.tmp 5, .tmp 6]) rfl ?_); at_builtin; refine Kd.D5 (Kd.int .u8) (w0 := w) w.heap.size rfl (.tmp 5) (.tmp 6) 27 73 (.int .u8 0) 1 rfl Try.underlying27 Ei rfl (by decide) (by omega) v114 a l0 _ _ _ (fun _ => True) (fun _ => False) rfl rfl ?aO ?aR (fun _ _ h => h) (fun _ h => h.elim) ?aF ?aB ?aS ?aL ?_; (case aR => repeat (first | exact (Kd.Ak T.out k.out) | (with_reducible refine Kd.CL ?_ _) | (with_reducible refine Kd.CO ?_ _) | (with_reducible refine Kd.CR ?_))); (case aB => exact (by repeat (first | (with_reducible first | exact k.out | apply AV | apply Ai | apply Af) | exact k.out))); (case aF => exact (fun _ _ => trivial)); (case aO => exact (by (with_reducible repeat (first | apply Kd.Lu | apply Kd.Lv | apply Kd.GA)); exact l.out)); (case aS => exact (AX (by repeat (first | (with_reducible first | exact k.out | apply AV | apply Ai | apply Af) | exact k.out)))); (case aL => have := D.out; omega); intro v117 w5 ho G hg Y; rw [← z.out] at ho; have s := Aside0.mk (G); have u := Aside0.mk (ho); clear k; clear l; have k := s; have v := u; clear s u; clear ho G hg Y)); go_ret; exact ⟨_, by first | rfl | (simp; done) | (simp [*]; done), by (with_reducible repeat (first | apply Kd.Lu | apply Kd.Lv | apply Kd.GA)); exact v.out, by repeat (first | (with_reducible first | exact k.out | apply AV | apply Ai | apply Af) | exact k.out)⟩
  · rw [if_neg c2] at H; exact absurd H (by simp)
def EA.f (l0 : List Int) : Option (List Int) := if l0.length < 140737488355328 then some l0 else none
theorem EA.calls (k : Option Addr) (a : Nat) (l0 : List Int) (r : List Int) (w : World) (c : Kd.C (Kd.int .u8) w k l0.length l0) (l : l0.length ≤ a) (h : EA.f l0 = some r) :
    Calls Try.prog 68 #[.slice k l0.length a] w fun e w' => ∃ j : Value, e = .returned (j) ∧ Kd.R (Kd.int .u8) 73 w' w.heap.size (fun _ => True) j r ∧ Below w.heap.size w w' := by
  have q := fun (W : World) => Lib.run_eql_slice_nil (P := Try.prog) W 27 73 k l0.length a 0 0 Try.underlying27; unfold EA.f at h; by_cases hl : l0.length < 140737488355328
  · rw [if_pos hl] at h; obtain rfl := Option.some.inj h; cases k with
    | none =>
      have i : l0.length = 0 := by
        rcases Nat.eq_zero_or_pos l0.length with i | i
        · exact i
        · obtain ⟨o, e, _⟩ := c.2.2 i; cases e
      have b : l0 = [] := List.length_eq_zero_iff.1 i; subst b; exact (Md a w q).mono fun e w' ⟨h1, h2⟩ => ⟨_, h1, Kd.Da _ _ _ _ _, by rw [h2]; exact Below.refl _ _⟩
    | some o =>
      exact LJ o a l0 l0 w c l q (by simp only [Option.bind_some, List.length_nil, Nat.zero_add, List.nil_append]; rw [if_pos hl])
  · rw [if_neg hl] at h; exact absurd h (by simp)
end Go.Proofs.Ytojankgmedccdaa.Hand
end
