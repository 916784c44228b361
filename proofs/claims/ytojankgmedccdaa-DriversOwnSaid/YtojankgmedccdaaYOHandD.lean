/- Lemmas. -/
import Derived.Test.YtojankgmedccdaaYOHandB
import Derived.Test.YtojankgmedccdaaYOShelf
import Derived.Test.YtojankgmedccdaaYOPTyx0
set_option maxHeartbeats 8000000
set_option maxRecDepth 100000
section
namespace Go.Proofs.Ytojankgmedccdaa.Hand
open Go.RowKit Wo Own PTy
attribute [local go_sem] BI BJ Ba Bc Ao Ap BL BM
set_option linter.unusedVariables false
set_option linter.unusedSimpArgs false
def Fj.f (a0 : Int) : Option (Bool) := if a0 ≥ 97 then (if a0 ≤ 122 then (some (!true)) else (if a0 ≥ 65 then (if a0 ≤ 90 then (some (!true)) else (if a0 ≥ 48 then (if a0 ≤ 57 then (some (!true)) else (if a0 = 95 then (some (!true)) else (some (!(a0 == 46))))) else (if a0 = 95 then (some (!true)) else (some (!(a0 == 46)))))) else (if a0 ≥ 48 then (if a0 ≤ 57 then (some (!true)) else (if a0 = 95 then (some (!true)) else (some (!(a0 == 46))))) else (if a0 = 95 then (some (!true)) else (some (!(a0 == 46))))))) else (if a0 ≥ 65 then (if a0 ≤ 90 then (some (!true)) else (if a0 ≥ 48 then (if a0 ≤ 57 then (some (!true)) else (if a0 = 95 then (some (!true)) else (some (!(a0 == 46))))) else (if a0 = 95 then (some (!true)) else (some (!(a0 == 46)))))) else (if a0 ≥ 48 then (if a0 ≤ 57 then (some (!true)) else (if a0 = 95 then (some (!true)) else (some (!(a0 == 46))))) else (if a0 = 95 then (some (!true)) else (some (!(a0 == 46))))))
theorem Fj.calls (a0 : Int) (r : Bool) (w : World) (h : Fj.f a0 = some r) :
    Calls Try.prog 74 #[.int .i32 a0] w fun e w' => e = .returned (.bool r) ∧ Aq w w' := by
  have H : (if a0 ≥ 97 then (if a0 ≤ 122 then (some (!true)) else (if a0 ≥ 65 then (if a0 ≤ 90 then (some (!true)) else (if a0 ≥ 48 then (if a0 ≤ 57 then (some (!true)) else (if a0 = 95 then (some (!true)) else (some (!(a0 == 46))))) else (if a0 = 95 then (some (!true)) else (some (!(a0 == 46)))))) else (if a0 ≥ 48 then (if a0 ≤ 57 then (some (!true)) else (if a0 = 95 then (some (!true)) else (some (!(a0 == 46))))) else (if a0 = 95 then (some (!true)) else (some (!(a0 == 46))))))) else (if a0 ≥ 65 then (if a0 ≤ 90 then (some (!true)) else (if a0 ≥ 48 then (if a0 ≤ 57 then (some (!true)) else (if a0 = 95 then (some (!true)) else (some (!(a0 == 46))))) else (if a0 = 95 then (some (!true)) else (some (!(a0 == 46)))))) else (if a0 ≥ 48 then (if a0 ≤ 57 then (some (!true)) else (if a0 = 95 then (some (!true)) else (some (!(a0 == 46))))) else (if a0 = 95 then (some (!true)) else (some (!(a0 == 46))))))) = some r := h; clear h; by_cases c2 : a0 ≥ 97
  · rw [if_pos c2] at H; have T : decide (97 ≤ a0) = true := decide_eq_true c2; clear c2; by_cases c3 : a0 ≤ 122
    · rw [if_pos c3] at H; have U : decide (a0 ≤ 122) = true := decide_eq_true c3; clear c3; obtain rfl := Option.some.inj H; go_enter Try.func74, Try.ntmps74; go_wp2; go_ret; exact ⟨by first | rfl | (simp; done) | (simp [*]; done), by repeat (first | exact Aq.refl _ | apply Aq.step)⟩
    · rw [if_neg c3] at H; have U : decide (a0 ≤ 122) = false := decide_eq_false c3; clear c3; by_cases c4 : a0 ≥ 65
      · rw [if_pos c4] at H; have W : decide (65 ≤ a0) = true := decide_eq_true c4; clear c4; by_cases c5 : a0 ≤ 90
        · rw [if_pos c5] at H; have X : decide (a0 ≤ 90) = true := decide_eq_true c5; clear c5; obtain rfl := Option.some.inj H; go_enter Try.func74, Try.ntmps74; go_wp2; go_ret; exact ⟨by first | rfl | (simp; done) | (simp [*]; done), by repeat (first | exact Aq.refl _ | apply Aq.step)⟩
        · rw [if_neg c5] at H; have X : decide (a0 ≤ 90) = false := decide_eq_false c5; clear c5; by_cases c6 : a0 ≥ 48
          · rw [if_pos c6] at H; have Y : decide (48 ≤ a0) = true := decide_eq_true c6; clear c6; by_cases c7 : a0 ≤ 57
            · rw [if_pos c7] at H; have Z : decide (a0 ≤ 57) = true := decide_eq_true c7; clear c7; obtain rfl := Option.some.inj H; go_enter Try.func74, Try.ntmps74; go_wp2; go_ret; exact ⟨by first | rfl | (simp; done) | (simp [*]; done), by repeat (first | exact Aq.refl _ | apply Aq.step)⟩
            · rw [if_neg c7] at H; have Z : decide (a0 ≤ 57) = false := decide_eq_false c7; clear c7; by_cases c8 : a0 = 95
              · rw [if_pos c8] at H; have aB : (a0 == 95) = true := beq_iff_eq.mpr c8; have bB : (a0 != 95) = false := bne_eq_false_iff_eq.mpr c8; clear c8; obtain rfl := Option.some.inj H; go_enter Try.func74, Try.ntmps74; go_wp2; go_ret; exact ⟨by first | rfl | (simp; done) | (simp [*]; done), by repeat (first | exact Aq.refl _ | apply Aq.step)⟩
              · rw [if_neg c8] at H; have aB : (a0 == 95) = false := beq_eq_false_iff_ne.mpr c8; have bB : (a0 != 95) = true := bne_iff_ne.mpr c8; obtain rfl := Option.some.inj H; go_enter Try.func74, Try.ntmps74; go_wp2; go_ret; exact ⟨by first | rfl | (simp; done) | (simp [*]; done), by repeat (first | exact Aq.refl _ | apply Aq.step)⟩
          · rw [if_neg c6] at H; have Y : decide (48 ≤ a0) = false := decide_eq_false c6; clear c6; by_cases c9 : a0 = 95
            · rw [if_pos c9] at H; have cB : (a0 == 95) = true := beq_iff_eq.mpr c9; have dB : (a0 != 95) = false := bne_eq_false_iff_eq.mpr c9; clear c9; obtain rfl := Option.some.inj H; go_enter Try.func74, Try.ntmps74; go_wp2; go_ret; exact ⟨by first | rfl | (simp; done) | (simp [*]; done), by repeat (first | exact Aq.refl _ | apply Aq.step)⟩
            · rw [if_neg c9] at H; have cB : (a0 == 95) = false := beq_eq_false_iff_ne.mpr c9; have dB : (a0 != 95) = true := bne_iff_ne.mpr c9; obtain rfl := Option.some.inj H; go_enter Try.func74, Try.ntmps74; go_wp2; go_ret; exact ⟨by first | rfl | (simp; done) | (simp [*]; done), by repeat (first | exact Aq.refl _ | apply Aq.step)⟩
      · rw [if_neg c4] at H; have W : decide (65 ≤ a0) = false := decide_eq_false c4; clear c4; by_cases c10 : a0 ≥ 48
        · rw [if_pos c10] at H; have a : decide (48 ≤ a0) = true := decide_eq_true c10; clear c10; by_cases c11 : a0 ≤ 57
          · rw [if_pos c11] at H; have b : decide (a0 ≤ 57) = true := decide_eq_true c11; clear c11; obtain rfl := Option.some.inj H; go_enter Try.func74, Try.ntmps74; go_wp2; go_ret; exact ⟨by first | rfl | (simp; done) | (simp [*]; done), by repeat (first | exact Aq.refl _ | apply Aq.step)⟩
          · rw [if_neg c11] at H; have b : decide (a0 ≤ 57) = false := decide_eq_false c11; clear c11; by_cases c12 : a0 = 95
            · rw [if_pos c12] at H; have c : (a0 == 95) = true := beq_iff_eq.mpr c12; have i : (a0 != 95) = false := bne_eq_false_iff_eq.mpr c12; clear c12; obtain rfl := Option.some.inj H; go_enter Try.func74, Try.ntmps74; go_wp2; go_ret; exact ⟨by first | rfl | (simp; done) | (simp [*]; done), by repeat (first | exact Aq.refl _ | apply Aq.step)⟩
            · rw [if_neg c12] at H; have c : (a0 == 95) = false := beq_eq_false_iff_ne.mpr c12; have i : (a0 != 95) = true := bne_iff_ne.mpr c12; obtain rfl := Option.some.inj H; go_enter Try.func74, Try.ntmps74; go_wp2; go_ret; exact ⟨by first | rfl | (simp; done) | (simp [*]; done), by repeat (first | exact Aq.refl _ | apply Aq.step)⟩
        · rw [if_neg c10] at H; have a : decide (48 ≤ a0) = false := decide_eq_false c10; clear c10; by_cases c13 : a0 = 95
          · rw [if_pos c13] at H; have j : (a0 == 95) = true := beq_iff_eq.mpr c13; have k : (a0 != 95) = false := bne_eq_false_iff_eq.mpr c13; clear c13; obtain rfl := Option.some.inj H; go_enter Try.func74, Try.ntmps74; go_wp2; go_ret; exact ⟨by first | rfl | (simp; done) | (simp [*]; done), by repeat (first | exact Aq.refl _ | apply Aq.step)⟩
          · rw [if_neg c13] at H; have j : (a0 == 95) = false := beq_eq_false_iff_ne.mpr c13; have k : (a0 != 95) = true := bne_iff_ne.mpr c13; obtain rfl := Option.some.inj H; go_enter Try.func74, Try.ntmps74; go_wp2; go_ret; exact ⟨by first | rfl | (simp; done) | (simp [*]; done), by repeat (first | exact Aq.refl _ | apply Aq.step)⟩
  · rw [if_neg c2] at H; have T : decide (97 ≤ a0) = false := decide_eq_false c2; clear c2; by_cases c14 : a0 ≥ 65
    · rw [if_pos c14] at H; have l : decide (65 ≤ a0) = true := decide_eq_true c14; clear c14; by_cases c15 : a0 ≤ 90
      · rw [if_pos c15] at H; have o : decide (a0 ≤ 90) = true := decide_eq_true c15; clear c15; obtain rfl := Option.some.inj H; go_enter Try.func74, Try.ntmps74; go_wp2; go_ret; exact ⟨by first | rfl | (simp; done) | (simp [*]; done), by repeat (first | exact Aq.refl _ | apply Aq.step)⟩
      · rw [if_neg c15] at H; have o : decide (a0 ≤ 90) = false := decide_eq_false c15; clear c15; by_cases c16 : a0 ≥ 48
        · rw [if_pos c16] at H; have q : decide (48 ≤ a0) = true := decide_eq_true c16; clear c16; by_cases c17 : a0 ≤ 57
          · rw [if_pos c17] at H; have s : decide (a0 ≤ 57) = true := decide_eq_true c17; clear c17; obtain rfl := Option.some.inj H; go_enter Try.func74, Try.ntmps74; go_wp2; go_ret; exact ⟨by first | rfl | (simp; done) | (simp [*]; done), by repeat (first | exact Aq.refl _ | apply Aq.step)⟩
          · rw [if_neg c17] at H; have s : decide (a0 ≤ 57) = false := decide_eq_false c17; clear c17; by_cases c18 : a0 = 95
            · rw [if_pos c18] at H; have u : (a0 == 95) = true := beq_iff_eq.mpr c18; have v : (a0 != 95) = false := bne_eq_false_iff_eq.mpr c18; clear c18; obtain rfl := Option.some.inj H; go_enter Try.func74, Try.ntmps74; go_wp2; go_ret; exact ⟨by first | rfl | (simp; done) | (simp [*]; done), by repeat (first | exact Aq.refl _ | apply Aq.step)⟩
            · rw [if_neg c18] at H; have u : (a0 == 95) = false := beq_eq_false_iff_ne.mpr c18; have v : (a0 != 95) = true := bne_iff_ne.mpr c18; obtain rfl := Option.some.inj H; go_enter Try.func74, Try.ntmps74; go_wp2; go_ret; exact ⟨by first | rfl | (simp; done) | (simp [*]; done), by repeat (first | exact Aq.refl _ | apply Aq.step)⟩
        · rw [if_neg c16] at H; have q : decide (48 ≤ a0) = false := decide_eq_false c16; clear c16; by_cases c19 : a0 = 95
          · rw [if_pos c19] at H; have z : (a0 == 95) = true := beq_iff_eq.mpr c19; have B : (a0 != 95) = false := bne_eq_false_iff_eq.mpr c19; clear c19; obtain rfl := Option.some.inj H; go_enter Try.func74, Try.ntmps74; go_wp2; go_ret; exact ⟨by first | rfl | (simp; done) | (simp [*]; done), by repeat (first | exact Aq.refl _ | apply Aq.step)⟩
          · rw [if_neg c19] at H; have z : (a0 == 95) = false := beq_eq_false_iff_ne.mpr c19; have B : (a0 != 95) = true := bne_iff_ne.mpr c19; obtain rfl := Option.some.inj H; go_enter Try.func74, Try.ntmps74; go_wp2; go_ret; exact ⟨by first | rfl | (simp; done) | (simp [*]; done), by repeat (first | exact Aq.refl _ | apply Aq.step)⟩
    · rw [if_neg c14] at H; have l : decide (65 ≤ a0) = false := decide_eq_false c14; clear c14; by_cases c20 : a0 ≥ 48
      · rw [if_pos c20] at H; have D : decide (48 ≤ a0) = true := decide_eq_true c20; clear c20; by_cases c21 : a0 ≤ 57
        · rw [if_pos c21] at H; have G : decide (a0 ≤ 57) = true := decide_eq_true c21; clear c21; obtain rfl := Option.some.inj H; go_enter Try.func74, Try.ntmps74; go_wp2; go_ret; exact ⟨by first | rfl | (simp; done) | (simp [*]; done), by repeat (first | exact Aq.refl _ | apply Aq.step)⟩
        · rw [if_neg c21] at H; have G : decide (a0 ≤ 57) = false := decide_eq_false c21; clear c21; by_cases c22 : a0 = 95
          · rw [if_pos c22] at H; have I : (a0 == 95) = true := beq_iff_eq.mpr c22; have J : (a0 != 95) = false := bne_eq_false_iff_eq.mpr c22; clear c22; obtain rfl := Option.some.inj H; go_enter Try.func74, Try.ntmps74; go_wp2; go_ret; exact ⟨by first | rfl | (simp; done) | (simp [*]; done), by repeat (first | exact Aq.refl _ | apply Aq.step)⟩
          · rw [if_neg c22] at H; have I : (a0 == 95) = false := beq_eq_false_iff_ne.mpr c22; have J : (a0 != 95) = true := bne_iff_ne.mpr c22; obtain rfl := Option.some.inj H; go_enter Try.func74, Try.ntmps74; go_wp2; go_ret; exact ⟨by first | rfl | (simp; done) | (simp [*]; done), by repeat (first | exact Aq.refl _ | apply Aq.step)⟩
      · rw [if_neg c20] at H; have D : decide (48 ≤ a0) = false := decide_eq_false c20; clear c20; by_cases c23 : a0 = 95
        · rw [if_pos c23] at H; have L : (a0 == 95) = true := beq_iff_eq.mpr c23; have O : (a0 != 95) = false := bne_eq_false_iff_eq.mpr c23; clear c23; obtain rfl := Option.some.inj H; go_enter Try.func74, Try.ntmps74; go_wp2; go_ret; exact ⟨by first | rfl | (simp; done) | (simp [*]; done), by repeat (first | exact Aq.refl _ | apply Aq.step)⟩
        · rw [if_neg c23] at H; have L : (a0 == 95) = false := beq_eq_false_iff_ne.mpr c23; have O : (a0 != 95) = true := bne_iff_ne.mpr c23; obtain rfl := Option.some.inj H; go_enter Try.func74, Try.ntmps74; go_wp2; go_ret; exact ⟨by first | rfl | (simp; done) | (simp [*]; done), by repeat (first | exact Aq.refl _ | apply Aq.step)⟩
def Gg (r : Int) : Bool := !((decide (97 ≤ r) && decide (r ≤ 122)) || ((decide (65 ≤ r) && decide (r ≤ 90)) || ((decide (48 ≤ r) && decide (r ≤ 57)) || (decide (r = 95) || decide (r = 46)))))
theorem Qk (r : Int) : Fj.f r = some (Gg r) := by
  unfold Fj.f Gg; repeat' split
  all_goals (congr 1; rw [Bool.eq_iff_iff]; simp; omega)
theorem Me (w : World) : PredAtRunes Try.prog 74 #[] (fun n => Gg (n : Int)) w := fun W x _ _ =>
  (Fj.calls (x : Int) (Gg (x : Int)) W (Qk _)).mono fun _ _ ⟨a, q, b⟩ => ⟨a, q, b⟩
def strings_ContainsFunc.f (a0 : ByteArray) : Option Bool := some (decide (0 ≤ Lib.idxFunc (fun n => Gg (n : Int)) true a0))
theorem strings_ContainsFunc.calls (a0 : ByteArray) (r : Bool) (w : World) (h : strings_ContainsFunc.f a0 = some r) :
    Calls Try.prog 73 #[.string a0, .func (.func 74) #[] #[]] w fun e w' => e = .returned (.bool r) ∧ Below w.heap.size w w' := by
  obtain rfl := Option.some.inj h; exact Try.strings_ContainsFunc_runes 74 #[] (enters_of Try.func74 (by kernel_rfl) rfl) _ a0 w (Me w)
end Go.Proofs.Ytojankgmedccdaa.Hand
end
section
namespace Go.Proofs.Ytojankgmedccdaa.Hand
open Go.RowKit Wo Own PTy
attribute [local go_sem] BI BJ Ba Bc Ao Ap BL BM
set_option linter.unusedVariables false
set_option linter.unusedSimpArgs false
def EG.f (l0 l1 : List S30) : Option Bool := if l0.length = 0 then (if l1.length = 0 then some true else none) else none
theorem EG.calls (j : Option Addr) (l : Nat) (l0 : List S30) (k : Option Addr) (o : Nat) (l1 : List S30) (r : Bool) (w : World) (c : Kd.C k30 w j l0.length l0) (a : l0.length ≤ l) (i : Kd.C k30 w k l1.length l1) (b : l1.length ≤ o) (h : EG.f l0 l1 = some r) :
    Calls Try.prog 97 #[.slice j l0.length l, .slice k l1.length o, .func (.func 84) #[] #[]] w fun e w' => e = .returned (.bool r) ∧ Aq w w' := by
  unfold EG.f at h; by_cases h0 : l0.length = 0
  · rw [if_pos h0] at h; by_cases h1 : l1.length = 0
    · rw [if_pos h1] at h; obtain rfl := Option.some.inj h; rw [h0, h1]; clear c a i b h h0 h1; go_enter Try.func97, Try.ntmps97; go_wp2; refine wp_loop_rounds 1 ?_; rw [rounds_succ]; go_wp2; go_ret; exact ⟨rfl, by repeat (first | exact Aq.refl _ | apply Aq.step)⟩
    · rw [if_neg h1] at h; exact absurd h (by simp)
  · rw [if_neg h0] at h; exact absurd h (by simp)
def LK : ByteArray :=
  ⟨((([32, 112, 97, 99, 107, 97, 103, 101, 32, 105, 115, 32, 101, 110, 100, 32, 109, 111, 100, 117, 108, 101, 32, 103, 101, 110, 101, 114, 105, 99, 32, 112, 111, 114, 116].append [32, 98, 101, 103, 105, 110, 32, 105, 110, 32, 111, 117, 116, 32, 118, 101, 99, 32, 97, 114, 114, 97, 121, 32, 111, 102, 32, 99, 111, 110, 115, 116, 32, 116, 121]).append ([112, 101, 32, 115, 105, 103, 110, 97, 108, 32, 118, 97, 114, 32, 102, 117, 110, 99, 116, 105, 111, 110, 32, 114, 101, 116, 117, 114, 110, 32, 117, 115, 101, 32, 112].append [114, 111, 99, 101, 115, 115, 32, 97, 108, 108, 32, 105, 110, 115, 116, 32, 102, 111, 114, 32, 116, 111, 32, 103, 101, 110, 101, 114, 97, 116, 101, 32, 105, 102, 32])).append (([101, 108, 115, 101, 32, 116, 114, 97, 110, 115, 112, 111, 114, 116, 32, 97, 102, 116, 101, 114, 32, 97, 115, 115, 101, 114, 116, 32, 114, 101, 112, 111, 114, 116, 32].append [116, 104, 101, 110, 32, 101, 108, 115, 105, 102, 32, 99, 97, 115, 101, 32, 119, 104, 101, 110, 32, 111, 116, 104, 101, 114, 115, 32, 108, 111, 111, 112, 32, 119, 104]).append ([105, 108, 101, 32, 119, 97, 105, 116, 32, 111, 110, 32, 117, 110, 116, 105, 108, 32, 110, 117, 108, 108, 32, 97, 110, 100, 32, 111, 114, 32, 120, 111, 114, 32, 110].append [97, 110, 100, 32, 110, 111, 114, 32, 120, 110, 111, 114, 32, 110, 111, 116, 32, 109, 111, 100, 32, 115, 104, 108, 32, 115, 104, 114, 32, 100, 111, 119, 110, 116, 111, 32]))).toArray⟩
def C8.f (a0 : ByteArray) : Option Bool :=
  if a0.size ≤ 1000 then (if a0.toList = ([] : List UInt8) then some false else if 0 ≤ Lib.indexByte a0.data.toList 32 then some false else some (Lib.contains LK.data.toList (((⟨#[32]⟩ : ByteArray) ++ a0) ++ (⟨#[32]⟩ : ByteArray)).data.toList)) else none
theorem C8.calls (a0 : ByteArray) (r : Bool) (w : World) (b : Dk w) (h : C8.f a0 = some r) :
    Calls Try.prog 87 #[.string a0] w fun e w' => e = .returned (.bool r) ∧ Aq w w' := by
  unfold C8.f at h; by_cases hz : a0.size ≤ 1000
  · rw [if_pos hz] at h; by_cases h0 : a0.toList = ([] : List UInt8)
    · rw [if_pos h0] at h; obtain rfl := Option.some.inj h; have l : (a0.toList == ([] : List UInt8)) = true := beq_iff_eq.mpr h0; have o : (a0.toList != ([] : List UInt8)) = false := bne_eq_false_iff_eq.mpr h0; clear b h h0; go_enter Try.func87, Try.ntmps87; go_wp2; go_ret; exact ⟨rfl, by repeat (first | exact Aq.refl _ | apply Aq.step)⟩
    · rw [if_neg h0] at h; have l : (a0.toList == ([] : List UInt8)) = false := beq_eq_false_iff_ne.mpr h0; have o : (a0.toList != ([] : List UInt8)) = true := bne_iff_ne.mpr h0; clear h0; by_cases h1 : 0 ≤ Lib.indexByte a0.data.toList 32
      · rw [if_pos h1] at h; obtain rfl := Option.some.inj h; have a := Aside0.mk (fun w => Try.strings_Contains_one a0 32 w); rw [decide_eq_true h1] at a; clear b h h1; go_enter Try.func87, Try.ntmps87; go_wp2_with (go_at_call 99; refine (a.out _).mono ?_; rintro i j ⟨rfl, rfl⟩); go_ret; exact ⟨rfl, by repeat (first | exact Aq.refl _ | apply Aq.step)⟩
      · rw [if_neg h1] at h; have a := Aside0.mk (fun w => Try.strings_Contains_one a0 32 w); rw [decide_eq_false h1] at a; clear h1; obtain ⟨m, hm⟩ := b; have c := Aside0.mk (fun w hm => Try.strings_Contains LK (((⟨#[32]⟩ : ByteArray) ++ a0) ++ (⟨#[32]⟩ : ByteArray)) m w (by decide) hm); rw [Option.some.inj h] at c; have k := Aside0.mk hm; have q : (⟨#[32]⟩ : ByteArray).size + a0.size ≤ 9223372036854775807 := by show 1 + a0.size ≤ _; omega
        have s : ((⟨#[32]⟩ : ByteArray) ++ a0).size + (⟨#[32]⟩ : ByteArray).size ≤ 9223372036854775807 := by rw [ByteArray.size_append]; show 1 + a0.size + 1 ≤ _; omega
        clear h hm; go_enter Try.func87, Try.ntmps87; go_wp2_with (first | (go_at_call_of 99 a0; refine (a.out _).mono ?_; rintro i j ⟨rfl, rfl⟩) | (go_at_call 99; refine (c.out _ ?hm).mono ?_; (case hm => exact k.out); rintro i j ⟨rfl, rfl⟩)); go_ret; exact ⟨rfl, by repeat (first | exact Aq.refl _ | apply Aq.step)⟩
  · rw [if_neg hz] at h; exact absurd h (by simp)
end Go.Proofs.Ytojankgmedccdaa.Hand
end
