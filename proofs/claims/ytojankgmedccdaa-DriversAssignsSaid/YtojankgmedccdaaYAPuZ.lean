/- Lemmas. -/
import Derived.Test.YtojankgmedccdaaYAPuG
import Derived.Test.YtojankgmedccdaaYAPRsx5
import Derived.Test.YtojankgmedccdaaYAPGnF4
section
namespace Go.Proofs.Ytojankgmedccdaa.Pure
open Go.RowKit Own PTy Hand PIs RowV Wo
theorem pO {α : Sort _} {c : Prop} [Decidable c] {a b : α} (h : c := by omega) : (if c then a else b) = a := if_pos h
theorem nO {α : Sort _} {c : Prop} [Decidable c] {a b : α} (h : ¬c := by omega) : (if c then a else b) = b := if_neg h
theorem nS {α : Sort _} {c : Prop} [Decidable c] {a b : α} (h : ¬c := by simp) : (if c then a else b) = b := if_neg h
theorem wO {n : Int} (h : -9223372036854775808 ≤ n := by omega) (k : n ≤ 9223372036854775807 := by omega) : wrap64 n = n := Bi h k
theorem PK (b : Int) (h : 0 ≤ b) : Gc.f b = some (decide (b ≤ 3)) := by
  unfold Gc.f; by_cases h0 : b = 0
  · rw [if_pos h0, decide_eq_true (by omega)]
  by_cases h1 : b = 1
  · rw [if_neg h0, if_pos h1, decide_eq_true (by omega)]
  by_cases h2 : b = 2
  · rw [if_neg h0, if_neg h1, if_pos h2, decide_eq_true (by omega)]
  rw [if_neg h0, if_neg h1, if_neg h2]; congr 1; rw [Bool.eq_iff_iff]; simp; omega
theorem OB (l : List Int) (hl : l.length ≤ maxLen) (hp : ∀ b ∈ l, 0 ≤ b) : Ev (fun k => EA.f k l) (isF l) := by
  have hm := ml; have key : ∀ d i, i + d = l.length → Ev (fun k => EA.l0 k l l (l.length : Int) (i : Int)) ((l.drop i).all (fun x => decide (x ≤ 3)) && (decide (1 ≤ l.length) && decide (l.length ≤ 64))) := by
    intro d; induction d with
    | zero =>
      intro i hi; rw [List.drop_eq_nil_of_le (by omega)]; refine Ev.step (f := fun _ => some (decide (1 ≤ l.length) && decide (l.length ≤ 64))) (fun k => ?_) (by simpa using Ev.now _); rw [EA.l0, nO]; by_cases h : (l.length : Int) ≥ 1
      · rw [if_pos h, decide_eq_true (show 1 ≤ l.length by omega), Bool.true_and]; congr 1; rw [Bool.eq_iff_iff]; simp; omega
      · rw [if_neg h, decide_eq_false (show ¬ 1 ≤ l.length by omega)]; rfl
    | succ d g =>
      intro i hi; have a : i < l.length := by omega
      have c : rd l (i : Int) = l[i] := by
        unfold rd; rw [List.getD_eq_getElem?_getD, show ((i : Int)).toNat = i from rfl, List.getElem?_eq_getElem a]; rfl
      rw [List.drop_eq_getElem_cons a, List.all_cons]; by_cases h3 : l[i] ≤ 3
      · refine Ev.step (f := fun k => EA.l0 k l l (l.length : Int) ((i + 1 : Nat) : Int)) (fun k => ?_) (by simpa [h3] using g (i + 1) (by omega)); rw [EA.l0, pO, pO, pO, c, PK _ (hp _ (List.getElem_mem a)), decide_eq_true h3, Option.bind_some, if_pos rfl, Bi (by omega) (by omega)]; rfl
      · refine Ev.step (f := fun _ => some false) (fun k => ?_) (by simpa [h3] using Ev.now _); rw [EA.l0, pO, pO, pO, c, PK _ (hp _ (List.getElem_mem a)), decide_eq_false h3, Option.bind_some, nS]
  have := key l.length 0 (by omega); have e : ((l.drop 0).all (fun x => decide (x ≤ 3)) && (decide (1 ≤ l.length) && decide (l.length ≤ 64))) = isF l := by
    unfold isF; rw [List.drop_zero, Bool.and_comm]
  rw [e] at this; exact this
def DF (x : S26) (v : S30) : Bool := decide (v.f0 = x.f0) && (if x.f0 = 1 then (decide (v.f1 = 0) && decide (v.f3.length = 0) && (isF v.f2 && decide (v.f2.length = 1))) else (decide (v.f2.length = 0) && decide (v.f3.length = 0) && (if x.f0 = 2 then (decide (v.f1 = 0) || decide (v.f1 = 1)) else if x.f0 = 3 then (decide (-2147483648 ≤ v.f1) && decide (v.f1 ≤ 2147483647)) else (decide (0 ≤ v.f1) && decide (v.f1 < (x.f3.length : Int))))))
theorem Pp (v : S30) : Br.f v.f0 v.f1 v.f2 v.f3 false true false = some (decide (v.f1 = 0) && decide (v.f3.length = 0)) := by
  unfold Br.f; by_cases h1 : v.f1 = 0 <;> simp [h1, Ea]
theorem Pq (v : S30) : Br.f v.f0 v.f1 v.f2 v.f3 true false false = some (decide (v.f2.length = 0) && decide (v.f3.length = 0)) := by
  unfold Br.f; by_cases h1 : v.f2.length = 0 <;> simp [h1, Ea]; all_goals simp_all [Ea]
theorem QW (x : S26) (h : scB x = true) : x.f1 = 0 := by
  unfold scB Ht GR at h; split at h <;> simp_all
theorem Ie (x : S26) (h : scB x = true) : Er x = true ∨ x.f0 = 5 := by
  by_cases hx : Er x = true ∨ x.f0 = 5
  · exact hx
  · rw [Nr x hx] at h; cases h
theorem Ps (x : S26) (v : S30) (a : scB x = true) : Ev (fun k => Ce.f k x.f0 x.f1 x.f2 x.f3 x.f4 v.f0 v.f1 v.f2 v.f3) (DF x v) := by
  have b := Ie x a; have h1 := QW x a; rw [EK] at b; by_cases h0 : v.f0 = x.f0
  · unfold DF; rw [decide_eq_true h0, Bool.true_and]; by_cases k1 : x.f0 = 1
    · rw [if_pos k1]; refine Ev.congr (f := fun k => Ce.j0 k x.f0 true x.f0 x.f1 x.f2 x.f3 x.f4 v.f0 v.f1 v.f2 v.f3) (fun k => ?_) (Ev.step (f := fun _ => some (decide (v.f1 = 0) && decide (v.f3.length = 0) && (isF v.f2 && decide (v.f2.length = 1)))) (fun k => ?_) (Ev.now _))
      · unfold Ce.f; rw [if_pos h0, if_pos k1, k1]; rfl
      · rw [Ce.j0, if_pos rfl, Pp, h1]; have hm : mx 0 1 = 1 := rfl; cases hb : (decide (v.f1 = 0) && decide (v.f3.length = 0)) with
        | false => simp
        | true =>
          rw [Option.bind_some, if_pos rfl, F4.f, Option.bind_some, hm, Bool.true_and]; cases isF v.f2 with
          | false => rfl
          | true =>
            rw [if_pos rfl, Bool.true_and]; congr 1; rw [Bool.eq_iff_iff]; simp; omega
    · rw [if_neg k1]; refine Ev.congr (f := fun k => Ce.j0 k x.f0 false x.f0 x.f1 x.f2 x.f3 x.f4 v.f0 v.f1 v.f2 v.f3) (fun k => ?_) (Ev.step (f := fun _ => some (decide (v.f2.length = 0) && decide (v.f3.length = 0) && (if x.f0 = 2 then (decide (v.f1 = 0) || decide (v.f1 = 1)) else if x.f0 = 3 then (decide (-2147483648 ≤ v.f1) && decide (v.f1 ≤ 2147483647)) else (decide (0 ≤ v.f1) && decide (v.f1 < (x.f3.length : Int)))))) (fun k => ?_) (Ev.now _))
      · unfold Ce.f; rw [if_pos h0, if_neg k1, show (x.f0 == 4) = false from beq_eq_false_iff_ne.mpr (by omega)]
      · rw [Ce.j0, nS, Pq]; cases hb : (decide (v.f2.length = 0) && decide (v.f3.length = 0)) with
        | false =>
          by_cases k2 : x.f0 = 2
          · rw [if_pos k2]; rfl
          by_cases k3 : x.f0 = 3
          · rw [if_neg k2, if_pos k3]; rfl
          rw [if_neg k2, if_neg k3, pO]; rfl
        | true =>
          by_cases k2 : x.f0 = 2
          · rw [if_pos k2, if_pos k2, Option.bind_some, if_pos rfl, Bool.true_and]; by_cases q : v.f1 = 0
            · rw [if_pos q, decide_eq_true q]; rfl
            · rw [if_neg q, decide_eq_false q, Bool.false_or]; rfl
          by_cases k3 : x.f0 = 3
          · rw [if_neg k2, if_pos k3, if_neg k2, if_pos k3, Option.bind_some, if_pos rfl, Bool.true_and]; by_cases q : -2147483648 ≤ v.f1
            · rw [if_pos q, decide_eq_true q, Bool.true_and]
            · rw [if_neg q, decide_eq_false q]; rfl
          rw [if_neg k2, if_neg k3, if_pos (show x.f0 = 5 by omega), if_neg k2, if_neg k3, Option.bind_some, if_pos rfl, Bool.true_and]; by_cases q : 0 ≤ v.f1
          · rw [if_pos q, decide_eq_true q, Bool.true_and]
          · rw [if_neg q, decide_eq_false q]; rfl
  · have e : DF x v = false := by unfold DF; rw [decide_eq_false h0]; rfl
    rw [e]; exact Ev.congr (fun k => by unfold Ce.f; rw [if_neg h0]) (Ev.now _)
theorem Ma (x : S26) (v : S30) (d : scB x = true) (hl : v.f2.length ≤ maxLen) (hp : ∀ b ∈ v.f2, 0 ≤ b) : Ev (fun k => CK.j0 k (v.f0 != x.f0) x.f0 x.f1 x.f2 x.f3 x.f4 v.f0 v.f1 v.f2 v.f3) (DF x v) := by
  have c := Ie x d; rw [EK] at c; by_cases h0 : v.f0 = x.f0
  · have a : (v.f0 != x.f0) = false := by simp [h0]
    rw [a]; unfold DF; rw [decide_eq_true h0, Bool.true_and]; by_cases k1 : x.f0 = 1
    · rw [if_pos k1]; refine Ev.step (f := fun k => if v.f1 = 0 then (if (v.f2.length : Int) = 1 then ((EA.f k v.f2).bind fun t208 => (if t208 = true then (some ((v.f3.length : Int) == 0)) else (some false))) else (some false)) else (some false)) (fun k => by rw [CK.j0, nS, if_pos k1]) ?_; by_cases q1 : v.f1 = 0
      · by_cases q2 : v.f2.length = 1
        · rw [decide_eq_true q1, decide_eq_true q2]; refine Ev.congr (f := fun k => (EA.f k v.f2).bind fun t208 => (if t208 = true then (some ((v.f3.length : Int) == 0)) else (some false))) (fun k => by rw [if_pos q1, pO]) (Ev.bind (OB _ hl hp) ?_); refine Ev.congr (f := fun _ => some (true && decide (v.f3.length = 0) && (isF v.f2 && true))) (fun k => ?_) (Ev.now _); cases isF v.f2 with
          | false => simp
          | true => simp [Ea]
        · rw [decide_eq_false q2]; exact Ev.congr (fun k => by rw [if_pos q1, nO]) (by simpa using Ev.now _)
      · rw [decide_eq_false q1]; exact Ev.congr (fun k => by rw [if_neg q1]) (by simpa using Ev.now _)
    · rw [if_neg k1]; by_cases k2 : x.f0 = 2
      · rw [if_pos k2]; refine Ev.step (f := fun _ => some (decide (v.f2.length = 0) && decide (v.f3.length = 0) && (decide (v.f1 = 0) || decide (v.f1 = 1)))) (fun k => ?_) (Ev.now _); rw [CK.j0, nS, if_neg k1, if_pos k2]; by_cases q1 : v.f1 = 0
        · by_cases q2 : v.f2.length = 0
          · rw [if_pos q1, pO, Ea]; simp [q1, q2]
          · rw [if_pos q1, nO]; simp [show ¬ v.f2 = [] from fun e => q2 (by rw [e]; rfl)]
        · by_cases q3 : v.f1 = 1
          · by_cases q2 : v.f2.length = 0
            · rw [if_neg q1, if_pos q3, pO, Ea]; simp [q3, q2]
            · rw [if_neg q1, if_pos q3, nO]; simp [show ¬ v.f2 = [] from fun e => q2 (by rw [e]; rfl)]
          · rw [if_neg q1, if_neg q3]; simp [q1, q3]
      · rw [if_neg k2]; by_cases k3 : x.f0 = 3
        · rw [if_pos k3]; refine Ev.step (f := fun _ => some (decide (v.f2.length = 0) && decide (v.f3.length = 0) && (decide (-2147483648 ≤ v.f1) && decide (v.f1 ≤ 2147483647)))) (fun k => ?_) (Ev.now _); rw [CK.j0, nS, if_neg k1, if_neg k2, if_pos k3]; unfold Fb.f; by_cases q1 : -2147483648 ≤ v.f1
          · by_cases q3 : v.f1 ≤ 2147483647
            · rw [if_pos q1, decide_eq_true q1, decide_eq_true q3, Option.bind_some, if_pos rfl]; by_cases q2 : v.f2.length = 0
              · rw [pO, Ea]; simp [q2]
              · rw [nO]; simp [show ¬ v.f2 = [] from fun e => q2 (by rw [e]; rfl)]
            · rw [if_pos q1, decide_eq_false q3]; simp
          · rw [if_neg q1, decide_eq_false q1]; simp
        · rw [if_neg k3]; refine Ev.step (f := fun _ => some (decide (v.f2.length = 0) && decide (v.f3.length = 0) && (decide (0 ≤ v.f1) && decide (v.f1 < (x.f3.length : Int))))) (fun k => ?_) (Ev.now _); rw [CK.j0, nS, if_neg k1, if_neg k2, if_neg k3, nO, if_pos (show x.f0 = 5 by omega)]; by_cases q1 : 0 ≤ v.f1
          · by_cases q3 : v.f1 < (x.f3.length : Int)
            · rw [if_pos q1, if_pos q3, decide_eq_true q1, decide_eq_true q3]; by_cases q2 : v.f2.length = 0
              · rw [pO, Ea]; simp [q2]
              · rw [nO]; simp [show ¬ v.f2 = [] from fun e => q2 (by rw [e]; rfl)]
            · rw [if_pos q1, if_neg q3, decide_eq_false q3]; simp
          · rw [if_neg q1, decide_eq_false q1]; simp
  · have e : DF x v = false := by unfold DF; rw [decide_eq_false h0]; rfl
    rw [e]; exact Ev.step (f := fun _ => some false) (fun k => by rw [CK.j0, if_pos (by simpa using h0)]) (Ev.now _)
theorem IC (x : S26) (v : S30) (a : scB x = true) (hl : x.f3.length ≤ maxLen) : Ev (fun k => CQ.f k x.f0 x.f1 x.f2 x.f3 x.f4 v.f0 v.f1 v.f2 v.f3) (DF x v) := by
  unfold CQ.f; refine Ev.bind (KY x (Ie x a) hl) ?_; rw [a]; exact Ev.congr (fun k => by rw [if_pos rfl]) (Ev.bind (Ps x v a) (Ev.now _))
theorem Gr (n : Nat) (x : S26) (d : okT n x) (v : S30) (hv : okV n v) (c : scB x = true) : Ev (fun k => CK.f k x.f0 x.f1 x.f2 x.f3 x.f4 v.f0 v.f1 v.f2 v.f3) (DF x v) := by
  cases n with
  | zero => exact d.elim
  | succ n =>
    obtain ⟨_, _, e, _, hl, _, _⟩ := d; obtain ⟨_, _, g, a, _, _⟩ := hv; refine Ev.step (fun k => by rw [CK.f]) (Ev.bind (Nq x (Ie x c) e hl) ?_); rw [c]; refine Ev.congr (fun k => by rw [if_pos rfl]) (Ma x v c a fun b h => ?_); have := g b h; unfold Lit.wf at this; rw [Bool.and_eq_true, decide_eq_true_iff] at this; exact this.1
def Gh (x : S26) (l : List S63) : Nat → Nat → Int → Bool
  | 0, _, _ => true
  | d + 1, i, u => !decide ((AA l (i : Int)).f0 ≤ u) && (!decide ((AA l (i : Int)).f0 > 2000000) && (DF x (AA l (i : Int)).f1 && Gh x l d (i + 1) (AA l (i : Int)).f0))
theorem Gi {l : List S63} {i : Nat} (h : i < l.length) : AA l (i : Int) ∈ l := by
  unfold AA; rw [List.getD_eq_getElem?_getD, show ((i : Int)).toNat = i from rfl, List.getElem?_eq_getElem h]; exact List.getElem_mem h
theorem QX (x : S26) (b : scB x = true) (a : x.f3.length ≤ maxLen) (l : List S63) (hl : l.length ≤ maxLen) : ∀ d i u, i + d = l.length → Ev (fun k => BH.l0 k u l (l.length : Int) (i : Int) x.f0 x.f1 x.f2 x.f3 x.f4) (Gh x l d i u) := by
  have hm := ml; intro d; induction d with
  | zero =>
    intro i u hi; exact Ev.step (f := fun _ => some true) (fun k => by rw [BH.l0, nO]) (Ev.now _)
  | succ d c =>
    intro i u hi; simp only [Gh]; by_cases h1 : (AA l (i : Int)).f0 ≤ u
    · exact Ev.step (f := fun _ => some false) (fun k => by rw [BH.l0, pO, pO, pO, if_pos h1]) (by simpa [h1] using Ev.now _)
    by_cases h2 : (AA l (i : Int)).f0 > 2000000
    · exact Ev.step (f := fun _ => some false) (fun k => by rw [BH.l0, pO, pO, pO, if_neg h1, if_pos h2]) (by simpa [h2] using Ev.now _)
    rw [decide_eq_false h1, decide_eq_false h2]; refine Ev.step (fun k => by rw [BH.l0, pO, pO, pO, if_neg h1, if_neg h2, Bi (by omega) (by omega)]) (Ev.bind (IC x (AA l (i : Int)).f1 b a) ?_); cases DF x (AA l (i : Int)).f1 with
    | false => exact Ev.congr (fun k => by rw [nS]) (by simpa using Ev.now _)
    | true => exact Ev.congr (fun k => by rw [if_pos rfl]) (by simpa using c (i + 1) _ (by omega))
theorem OC (n : Nat) (x : S26) (b : okT n x) (a : scB x = true) (l : List S63) (hl : l.length ≤ maxLen) (hv : ∀ y ∈ l, okV n y.f1) : ∀ d i u, i + d = l.length → Ev (fun k => DR.l0 k u l (l.length : Int) (i : Int) x.f0 x.f1 x.f2 x.f3 x.f4) (Gh x l d i u) := by
  have hm := ml; intro d; induction d with
  | zero =>
    intro i u hi; exact Ev.step (f := fun _ => some true) (fun k => by rw [DR.l0, nO]) (Ev.now _)
  | succ d c =>
    intro i u hi; simp only [Gh]; by_cases h1 : (AA l (i : Int)).f0 ≤ u
    · exact Ev.step (f := fun _ => some false) (fun k => by rw [DR.l0, pO, pO, pO, if_pos h1]) (by simpa [h1] using Ev.now _)
    by_cases h2 : (AA l (i : Int)).f0 > 2000000
    · exact Ev.step (f := fun _ => some false) (fun k => by rw [DR.l0, pO, pO, pO, if_neg h1, if_pos h2]) (by simpa [h2] using Ev.now _)
    rw [decide_eq_false h1, decide_eq_false h2]; refine Ev.step (fun k => by rw [DR.l0, pO, pO, pO, if_neg h1, if_neg h2, Bi (by omega) (by omega)]) (Ev.bind (Gr n x b (AA l (i : Int)).f1 (hv _ (Gi (by omega))) a) ?_); cases DF x (AA l (i : Int)).f1 with
    | false => exact Ev.congr (fun k => by rw [nS]) (by simpa using Ev.now _)
    | true => exact Ev.congr (fun k => by rw [if_pos rfl]) (by simpa using c (i + 1) _ (by omega))
def GL (x : S26) (v : S30) (l : List S63) : Bool := scB x && (DF x v && (decide (l.length ≤ 64) && Gh x l l.length 0 (-1)))
theorem OD (l : List S63) : (decide ((l.length : Int) > 64)) = !decide (l.length ≤ 64) := by rw [Bool.eq_iff_iff]; simp; omega
theorem QY (x : S26) (a : x.f3.length ≤ maxLen) (v : S30) (l : List S63) (hl : l.length ≤ maxLen) : Ev (fun k => BH.f k x.f0 x.f1 x.f2 x.f3 x.f4 v.f0 v.f1 v.f2 v.f3 l) (GL x v l) := by
  unfold BH.f GL; have b : Ev (fun k => BH.j0 k true x.f0 x.f1 x.f2 x.f3 x.f4 v.f0 v.f1 v.f2 v.f3 l) false := Ev.step (f := fun _ => some false) (fun k => by rw [BH.j0, if_pos rfl]) (Ev.now _); refine Ev.bind (MQ x a) ?_; cases hs : scB x with
  | false => exact Ev.congr (fun k => by rw [nS]) (by simpa using b)
  | true =>
    refine Ev.congr (fun k => by rw [if_pos rfl]) (Ev.bind (IC x v hs a) ?_); cases DF x v with
    | false => exact Ev.congr (fun k => by rw [nS]) (by simpa using b)
    | true =>
      refine Ev.congr (fun k => by rw [if_pos rfl, OD]) ?_; cases decide (l.length ≤ 64) with
      | false => simpa using b
      | true => exact Ev.step (f := fun k => BH.l0 k (-1) l (l.length : Int) ((0 : Nat) : Int) x.f0 x.f1 x.f2 x.f3 x.f4) (fun k => by rw [BH.j0, nS]; rfl) (by simpa using QX x hs a l hl l.length 0 (-1) (by omega))
theorem OE (n : Nat) (x : S26) (b : okT n x) (v : S30) (hv : okV n v) (l : List S63) (hl : l.length ≤ maxLen) (c : ∀ y ∈ l, okV n y.f1) : Ev (fun k => DR.f k x.f0 x.f1 x.f2 x.f3 x.f4 v.f0 v.f1 v.f2 v.f3 l) (GL x v l) := by
  unfold DR.f GL; have a : Ev (fun k => DR.j0 k true x.f0 x.f1 x.f2 x.f3 x.f4 v.f0 v.f1 v.f2 v.f3 l) false := Ev.step (f := fun _ => some false) (fun k => by rw [DR.j0, if_pos rfl]) (Ev.now _); refine Ev.bind (LD n x b) ?_; cases hs : scB x with
  | false => exact Ev.congr (fun k => by rw [nS]) (by simpa using a)
  | true =>
    refine Ev.congr (fun k => by rw [if_pos rfl]) (Ev.bind (Gr n x b v hv hs) ?_); cases DF x v with
    | false => exact Ev.congr (fun k => by rw [nS]) (by simpa using a)
    | true =>
      refine Ev.congr (fun k => by rw [if_pos rfl, OD]) ?_; cases decide (l.length ≤ 64) with
      | false => simpa using a
      | true => exact Ev.step (f := fun k => DR.l0 k (-1) l (l.length : Int) ((0 : Nat) : Int) x.f0 x.f1 x.f2 x.f3 x.f4) (fun k => by rw [DR.j0, nS]; rfl) (by simpa using OC n x b hs l hl c l.length 0 (-1) (by omega))
end Go.Proofs.Ytojankgmedccdaa.Pure
end
section
namespace Go.Proofs.Ytojankgmedccdaa.Pure
open Go.RowKit Own PTy Hand PIs RowV Wo
open PAw (r01Same.f r01Same.l0)
open PGn
def ExQ {α : Type} (g : Nat → Option α) (Q : α → Prop) : Prop := ∃ t, Ev g t ∧ Q t
section
variable {α β : Type} {g f : Nat → Option α} {Q : α → Prop}
theorem ExQ.now (t : α) (h : Q t) : ExQ (fun _ => some t) Q := ⟨t, Ev.now t, h⟩
theorem ExQ.step (h : ∀ k, g (k + 1) = f k) (a : ExQ f Q) : ExQ g Q := ⟨a.choose, Ev.step h a.choose_spec.1, a.choose_spec.2⟩
theorem ExQ.congr (h : ∀ k, g k = f k) (a : ExQ f Q) : ExQ g Q := ⟨a.choose, Ev.congr h a.choose_spec.1, a.choose_spec.2⟩
theorem ExQ.ite {c : Prop} [Decidable c] (h1 : c → ExQ g Q) (a : ¬ c → ExQ f Q) : ExQ (fun k => if c then g k else f k) Q := by
  by_cases h : c
  · simpa [h] using h1 h
  · simpa [h] using a h
theorem ExQ.bind {R : β → Prop} {g : Nat → Option β} {f : Nat → β → Option α} (h : ExQ g R) (b : ∀ t, R t → ExQ (fun k => f k t) Q) : ExQ (fun k => (g k).bind (f k)) Q := by
  obtain ⟨t, d, hr⟩ := h; obtain ⟨r, a, c⟩ := b t hr; exact ⟨r, Ev.bind d a, c⟩
theorem ExQ.of (h : Ex g) : ExQ g (fun _ => True) := ⟨h.choose, h.choose_spec, trivial⟩
end
def smV : Nat → S30 → Prop
  | 0, _ => False
  | m + 1, v => v.f2.length ≤ 9000 ∧ v.f3.length ≤ 9000 ∧ ∀ y ∈ v.f3, smV m y
theorem Ke : ∀ m (v : S30), okV m v → ∀ a : Int, 0 ≤ a → a ≤ 9000 → ExQ (fun k => CP.f k v.f0 v.f1 v.f2 v.f3 a) (fun r => r < a ∧ (0 ≤ r → smV m v))
  | 0, _, h, _, _, _ => h.elim
  | m + 1, v, ⟨_, _, _, h4, h5, h6⟩, a, ha, ha9 => by
    have hm := ml; refine ExQ.step (fun k => by rw [CP.f]) ?_; obtain ⟨g, u⟩ : ∃ g, g = a - 1 - (v.f2.length : Int) := ⟨_, rfl⟩; have x : wrap64 (a - wrap64 (1 + (v.f2.length : Int))) = g := by unfold wrap64; omega
    rw [x]; have key : ∀ d i, i + d = v.f3.length → ∀ b : Int, b ≤ 9000 → ExQ (fun k => CP.l0 k b v.f3 (v.f3.length : Int) (i : Int)) (fun r => r ≤ b ∧ (0 ≤ r → (d : Int) ≤ b - r ∧ ∀ j, i ≤ j → j < v.f3.length → smV m (AB v.f3 (j : Int)))) := by
      intro d; induction d with
      | zero =>
        intro i hi b q; refine ExQ.step (f := fun _ => some b) (fun k => by rw [CP.l0, nO]) (ExQ.now b ⟨by omega, fun _ => ⟨by omega, fun j h1 p => by omega⟩⟩)
      | succ d B =>
        intro i hi b q; by_cases hn : b < 0
        · exact ExQ.step (f := fun _ => some b) (fun k => by rw [CP.l0, pO, pO, pO, if_pos hn]) (ExQ.now b ⟨by omega, fun h => by omega⟩)
        · refine ExQ.step (fun k => by rw [CP.l0, pO, pO, pO, if_neg hn, wO (n := (i : Int) + 1)]) (ExQ.bind (Ke m _ (h6 _ (EB (i := i) (by omega))) b (by omega) q) fun t w => ?_); obtain ⟨r, hr, l, c⟩ := B (i + 1) (by omega) t (by omega); refine ⟨r, hr, by omega, fun h0 => ?_⟩; obtain ⟨D, o⟩ := c h0; refine ⟨by omega, fun j h1 p => ?_⟩; by_cases e : j = i
          · rw [e]; exact w.2 (by omega)
          · exact o j (by omega) p
    obtain ⟨r, hr, l, c⟩ := key v.f3.length 0 (by omega) g (by omega); refine ⟨r, hr, by omega, fun h0 => ?_⟩; obtain ⟨D, o⟩ := c h0; refine ⟨by omega, by omega, fun y z => ?_⟩; obtain ⟨j, s, e⟩ := List.mem_iff_getElem.mp z; have := o j (by omega) s; unfold AB at this; rw [List.getD_eq_getElem?_getD, show ((j : Int)).toNat = j from rfl, List.getElem?_eq_getElem s] at this; exact e ▸ this
theorem OG (l : List S30) (hl : l.length ≤ maxLen) (m : Nat) (hv : ∀ y ∈ l, okV m y) : ExQ (fun k => BA.l2 k l (l.length : Int) 0) (fun t => t = true → ∀ j, j < l.length → smV m (AB l (j : Int))) := by
  have hm := ml; have key : ∀ d i, i + d = l.length → ExQ (fun k => BA.l2 k l (l.length : Int) (i : Int)) (fun t => t = true → ∀ j, i ≤ j → j < l.length → smV m (AB l (j : Int))) := by
    intro d; induction d with
    | zero => exact fun i hi => ExQ.step (f := fun _ => some true) (fun k => by rw [BA.l2, nO]) (ExQ.now _ fun _ j h1 b => by omega)
    | succ d g =>
      intro i hi; refine ExQ.step (fun k => by rw [BA.l2, pO, pO, pO, wO (n := (i : Int) + 1)]) (ExQ.bind (Ke m _ (hv _ (EB (i := i) (by omega))) 9000 (by omega) (by omega)) fun t c => ExQ.ite (fun _ => ExQ.now false (by simp)) fun h0 => ?_); obtain ⟨r, hr, a⟩ := g (i + 1) (by omega); refine ⟨r, hr, fun e j h1 b => ?_⟩; by_cases ej : j = i
      · rw [ej]; exact c.2 (by omega)
      · exact a e j (by omega) b
  obtain ⟨r, hr, a⟩ := key l.length 0 (by omega); exact ⟨r, hr, fun e j h => a e j (by omega) h⟩
theorem OH (n : Nat) (x : S26) (e : okT n x) (l : List S30) (hl : l.length ≤ maxLen) (m : Nat) (hv : ∀ y ∈ l, okV m y) : ExQ (fun k => BA.f k x.f0 x.f1 x.f2 x.f3 x.f4 l) (fun t => t = true → ∀ j, j < l.length → smV m (AB l (j : Int))) := by
  have hm := ml; cases n with
  | zero => exact e.elim
  | succ n =>
    obtain ⟨_, _, _, _, h, o, g⟩ := e; have h1 : ∀ d i, i + d = x.f4.length → ExQ (fun k => BA.l1 k l x.f4 (x.f4.length : Int) (i : Int)) (fun t => t = true → ∀ j, j < l.length → smV m (AB l (j : Int))) := by
      intro d; induction d with
      | zero => exact fun i hi => ExQ.step (fun k => by rw [BA.l1, nO] <;> rfl) (OG l hl m hv)
      | succ d c =>
        intro i hi; exact ExQ.step (fun k => by rw [BA.l1, pO, pO, pO, wO (n := (i : Int) + 1)] <;> rfl) (ExQ.ite (fun _ => ExQ.now false (by simp)) fun _ => ExQ.bind (ExQ.of (KT n _ (g _ (JF (i := i) (by omega))) [] (by simp) 0 (by simp))) fun t _ => ExQ.ite (fun _ => c (i + 1) (by omega)) fun _ => ExQ.now false (by simp))
    have h0 : ∀ d i, i + d = x.f3.length → ExQ (fun k => BA.l0 k l x.f3 (x.f3.length : Int) (i : Int) x.f0 x.f1 x.f2 x.f3 x.f4) (fun t => t = true → ∀ j, j < l.length → smV m (AB l (j : Int))) := by
      intro d; induction d with
      | zero => exact fun i hi => ExQ.step (fun k => by rw [BA.l0, nO] <;> rfl) (h1 x.f4.length 0 (by omega))
      | succ d c =>
        intro i hi; exact ExQ.step (fun k => by rw [BA.l0, pO, pO, pO, wO (n := (i : Int) + 1)] <;> rfl) (ExQ.ite (fun _ => ExQ.now false (by simp)) fun _ => c (i + 1) (by omega))
    have a : ∀ b, ExQ (fun k => BA.j0 k l b x.f0 x.f1 x.f2 x.f3 x.f4) (fun t => t = true → ∀ j, j < l.length → smV m (AB l (j : Int))) := fun b =>
      ExQ.step (fun k => by rw [BA.j0] <;> rfl) (ExQ.ite (fun _ => ExQ.now false (by simp)) fun _ => h0 x.f3.length 0 (by omega))
    exact ExQ.step (fun k => by rw [BA.f]) (ExQ.ite (fun _ => a _) fun _ => ExQ.ite (fun _ => a _) fun _ => a _)
theorem Pt (n : Nat) (x : S26) (z : okT n x) (v : S30) (hv : okV n v) (l : List S63) (hl : ∀ y ∈ l, okV n y.f1) (a : List S30) (r : ∀ y ∈ a, okV n y) :
    ExQ (fun k => Ct.f k x.f0 x.f1 x.f2 x.f3 x.f4 v.f0 v.f1 v.f2 v.f3 l a) (fun t => t = true → l.length ≤ 80 ∧ a.length ≤ 80 ∧ smV n v ∧ (∀ y ∈ a, smV n y) ∧ ∀ y ∈ l, smV n y.f1) := by
  have hm := ml; have g : ExQ (fun k => Ct.j0 k a true x.f0 x.f1 x.f2 x.f3 x.f4 v.f0 v.f1 v.f2 v.f3 l) (fun t => t = true → l.length ≤ 80 ∧ a.length ≤ 80 ∧ smV n v ∧ (∀ y ∈ a, smV n y) ∧ ∀ y ∈ l, smV n y.f1) :=
    ExQ.step (f := fun _ => some false) (fun k => by rw [Ct.j0, if_pos rfl]) (ExQ.now _ (by simp))
  unfold Ct.f; by_cases h8 : (l.length : Int) > 80
  · exact ExQ.congr (fun k => by rw [if_pos h8]) g
  by_cases h9 : (a.length : Int) > 80
  · exact ExQ.congr (fun k => by rw [if_neg h8, decide_eq_true h9]) g
  refine ExQ.congr (f := fun k => Ct.j0 k a false x.f0 x.f1 x.f2 x.f3 x.f4 v.f0 v.f1 v.f2 v.f3 l) (fun k => by rw [if_neg h8, decide_eq_false h9]) ?_; have key : ∀ d i, i + d = l.length → ∀ ys : List S30, ys.length = a.length + 1 + i → (∀ y ∈ ys, okV n y) → (∀ y ∈ (v :: a), y ∈ ys) → (∀ j, j < i → (AA l (j : Int)).f1 ∈ ys) → ExQ (fun k => Ct.l0 k ys l (l.length : Int) (i : Int) x.f0 x.f1 x.f2 x.f3 x.f4) (fun t => t = true → l.length ≤ 80 ∧ a.length ≤ 80 ∧ smV n v ∧ (∀ y ∈ a, smV n y) ∧ ∀ y ∈ l, smV n y.f1) := by
    intro d; induction d with
    | zero =>
      intro i hi ys u q b p; refine ExQ.step (fun k => by rw [Ct.l0, nO]) (ExQ.bind (OH n x z ys (by omega) n q) fun t w => ⟨t, Ev.now t, fun e => ?_⟩); have hall : ∀ y ∈ ys, smV n y := by
        intro y s; obtain ⟨j, c, o⟩ := List.mem_iff_getElem.mp s; have := w e j c; unfold AB at this; rw [List.getD_eq_getElem?_getD, show ((j : Int)).toNat = j from rfl, List.getElem?_eq_getElem c] at this; exact o ▸ this
      refine ⟨by omega, by omega, hall _ (b v (by simp)), fun y h => hall _ (b y (by simp [h])), fun y h => ?_⟩; obtain ⟨j, c, o⟩ := List.mem_iff_getElem.mp h; have := hall _ (p j (by omega)); unfold AA at this; rw [List.getD_eq_getElem?_getD, show ((j : Int)).toNat = j from rfl, List.getElem?_eq_getElem c] at this; exact o ▸ this
    | succ d B =>
      intro i hi ys u q b p; have m : AA l (i : Int) ∈ l := by
        unfold AA; rw [List.getD_eq_getElem?_getD, show ((i : Int)).toNat = i from rfl, List.getElem?_eq_getElem (by omega)]; exact List.getElem_mem _
      refine ExQ.step (fun k => by rw [Ct.l0, pO, pO, pO, pO, wO (n := (i : Int) + 1), IU] <;> rfl) (B (i + 1) (by omega) (ys ++ [(AA l (i : Int)).f1]) (by rw [List.length_append, u]; rfl) (fun y h => ?_) (fun y h => List.mem_append_left _ (b y h)) (fun j h => ?_))
      · rcases List.mem_append.mp h with h | h
        · exact q y h
        · rw [List.mem_singleton.mp h]; exact hl _ m
      · by_cases e : j = i
        · rw [e]; exact List.mem_append_right _ (by simp)
        · exact List.mem_append_left _ (p j (by omega))
  refine ExQ.step (fun k => ?_) (key l.length 0 (by omega) (v :: a) (by simp) (fun y h => ?_) (fun y h => h) (by omega))
  · rw [Ct.j0, nS, Option.bind_some, if_pos (by simp; omega), IU]; rfl
  · rcases List.mem_cons.mp h with rfl | h
    · exact hv
    · exact r y h
theorem Gj {l : List S30} {i : Nat} (h : i < l.length) : AB l (i : Int) = l[i] := by
  unfold AB; rw [List.getD_eq_getElem?_getD, show ((i : Int)).toNat = i from rfl, List.getElem?_eq_getElem h]; rfl
theorem F7 {l : List S63} {i : Nat} (h : i < l.length) : AA l (i : Int) = l[i] := by
  unfold AA; rw [List.getD_eq_getElem?_getD, show ((i : Int)).toNat = i from rfl, List.getElem?_eq_getElem h]; rfl
theorem J5 : ∀ m (v : S30), smV m v → Ev (fun k => Bl.f k v.f0 v.f1 v.f2 v.f3) (v.f0, v.f1, v.f2, v.f3)
  | 0, _, h => h.elim
  | m + 1, v, ⟨h1, h2, h3⟩ => by
    have hm := ml; refine Ev.step (fun k => by rw [Bl.f, Option.bind_some, if_pos (by simp; omega)]) ?_; have key : ∀ d i, i + d = v.f3.length → Ev (fun k => Bl.l0 k v.f3 (v.f3.length : Int) (i : Int) v.f0 v.f1 v.f2 (v.f3.take i)) (v.f0, v.f1, v.f2, v.f3) := by
      intro d; induction d with
      | zero =>
        intro i hi; rw [List.take_of_length_le (by omega)]; exact Ev.step (f := fun _ => some (v.f0, v.f1, v.f2, v.f3)) (fun k => by rw [Bl.l0, nO]) (Ev.now _)
      | succ d b =>
        intro i hi; have a : i < v.f3.length := by omega
        refine Ev.step (fun k => by rw [Bl.l0, pO, pO, pO, wO (n := (i : Int) + 1)]) (Ev.bind (J5 m _ (h3 _ (EB a))) ?_); refine Ev.congr (f := fun k => Bl.l0 k v.f3 (v.f3.length : Int) ((i + 1 : Nat) : Int) v.f0 v.f1 v.f2 (v.f3.take (i + 1))) (fun k => ?_) (b (i + 1) (by omega)); rw [if_pos (by rw [List.length_take]; omega), List.take_succ_eq_append_getElem a, IU, Gj a]; rfl
    simpa using key v.f3.length 0 (by omega)
theorem OI (x : S63) : (⟨x.f0, x.f1⟩ : S63) = x := by cases x; rfl
theorem Pv (m : Nat) (v : S30) (hv : smV m v) (l : List S63) (hl : l.length ≤ 100) (b : ∀ y ∈ l, smV m y.f1) : Ev (fun k => Cz.f k v.f0 v.f1 v.f2 v.f3 l) (v.f0, v.f1, v.f2, v.f3, l) := by
  have hm := ml; unfold Cz.f; refine Ev.bind (J5 m v hv) ?_; have key : ∀ d i, i + d = l.length → Ev (fun k => Cz.l0 k l (l.length : Int) (i : Int) v.f0 v.f1 v.f2 v.f3 (l.take i)) (v.f0, v.f1, v.f2, v.f3, l) := by
    intro d; induction d with
    | zero =>
      intro i hi; rw [List.take_of_length_le (by omega)]; exact Ev.step (f := fun _ => some (v.f0, v.f1, v.f2, v.f3, l)) (fun k => by rw [Cz.l0, nO]) (Ev.now _)
    | succ d c =>
      intro i hi; have a : i < l.length := by omega
      refine Ev.step (fun k => by rw [Cz.l0, pO, pO, pO, wO (n := (i : Int) + 1)]) (Ev.bind (J5 m _ (b _ (Gi a))) ?_); refine Ev.congr (f := fun k => Cz.l0 k l (l.length : Int) ((i + 1 : Nat) : Int) v.f0 v.f1 v.f2 v.f3 (l.take (i + 1))) (fun k => ?_) (c (i + 1) (by omega)); rw [if_pos (by rw [List.length_take]; omega), List.take_succ_eq_append_getElem a, IU, OI, F7 a]; rfl
  simpa using key l.length 0 (by omega)
theorem OJ (l : List Int) (hl : l.length ≤ maxLen) : Ev (fun k => r01Same.f k l l) true := by
  have hm := ml; have key : ∀ d i, i + d = l.length → Ev (fun k => r01Same.l0 k l l (l.length : Int) (i : Int)) true := by
    intro d; induction d with
    | zero => intro i hi; exact Ev.step (f := fun _ => some true) (fun k => by rw [r01Same.l0, nO]) (Ev.now _)
    | succ d a =>
      intro i hi; refine Ev.step (f := fun k => r01Same.l0 k l l (l.length : Int) ((i + 1 : Nat) : Int)) (fun k => ?_) (a (i + 1) (by omega)); rw [r01Same.l0, pO, pO, pO, pO, if_pos rfl, Bi (by omega) (by omega)]; rfl
  exact Ev.congr (fun k => by unfold r01Same.f; rw [if_pos rfl]; rfl) (key l.length 0 (by omega))
theorem JI : ∀ m (v : S30), smV m v → Ev (fun k => PGn.BX.f k v.f0 v.f1 v.f2 v.f3 v.f0 v.f1 v.f2 v.f3) true
  | 0, _, h => h.elim
  | m + 1, v, ⟨h1, h2, h3⟩ => by
    have hm := ml; refine Ev.step (fun k => by rw [PGn.BX.f, if_pos rfl, if_pos rfl]) (Ev.bind (OJ v.f2 (by omega)) (Ev.congr (fun k => by rw [if_pos rfl, bne_self_eq_false]) (Ev.step (fun k => by rw [PGn.BX.j0, nS]) ?_))); have key : ∀ d i, i + d = v.f3.length → Ev (fun k => PGn.BX.l0 k (v.f3.length : Int) (i : Int) v.f0 v.f1 v.f2 v.f3 v.f0 v.f1 v.f2 v.f3) true := by
      intro d; induction d with
      | zero => intro i hi; exact Ev.step (f := fun _ => some true) (fun k => by rw [PGn.BX.l0, nO]) (Ev.now _)
      | succ d a =>
        intro i hi; exact Ev.step (fun k => by rw [PGn.BX.l0, pO, pO, pO, pO, wO (n := (i : Int) + 1)]) (Ev.bind (JI m _ (h3 _ (EB (i := i) (by omega)))) (Ev.congr (fun k => by rw [if_pos rfl]; rfl) (a (i + 1) (by omega))))
    exact key v.f3.length 0 (by omega)
theorem LF (m : Nat) (v : S30) (hv : smV m v) (l : List S63) (hl : l.length ≤ maxLen) (a : ∀ y ∈ l, smV m y.f1) : Ev (fun k => Bz.f k v.f0 v.f1 v.f2 v.f3 l v.f0 v.f1 v.f2 v.f3 l) true := by
  have hm := ml; unfold Bz.f; refine Ev.bind (JI m v hv) (Ev.congr (fun k => by rw [if_pos rfl, bne_self_eq_false]) (Ev.step (fun k => by rw [Bz.j0, nS]) ?_)); have key : ∀ d i, i + d = l.length → Ev (fun k => Bz.l0 k (l.length : Int) (i : Int) v.f0 v.f1 v.f2 v.f3 l v.f0 v.f1 v.f2 v.f3 l) true := by
    intro d; induction d with
    | zero => intro i hi; exact Ev.step (f := fun _ => some true) (fun k => by rw [Bz.l0, nO]) (Ev.now _)
    | succ d b =>
      intro i hi; exact Ev.step (fun k => by rw [Bz.l0, pO, pO, pO, pO, if_pos rfl, wO (n := (i : Int) + 1)]) (Ev.bind (JI m _ (a _ (Gi (i := i) (by omega)))) (Ev.congr (fun k => by rw [if_pos rfl]; rfl) (b (i + 1) (by omega))))
  exact key l.length 0 (by omega)
end Go.Proofs.Ytojankgmedccdaa.Pure
end
section
namespace Go.Proofs.Ytojankgmedccdaa.Pure
open Go.RowKit Own PTy Hand PIs RowV Wo
open PAw (drivers_copied.f logic_isBit.f logic_both.f logic_both.j0 logic_Resolve.f logic_Resolve.l0 r01Same.f r01Same.l0)
open PRs
theorem GM (l : List Int) (i : Nat) (h : i < l.length) : rd l (i : Int) = l[i] := by
  unfold rd; rw [List.getD_eq_getElem?_getD, show ((i : Int)).toNat = i from rfl, List.getElem?_eq_getElem h]; rfl
end Go.Proofs.Ytojankgmedccdaa.Pure
end
section
namespace Go.Proofs.Ytojankgmedccdaa.Pure
open Go.RowKit Own PTy Hand PIs RowV Wo
open PAw (drivers_copied.f logic_isBit.f logic_both.f logic_both.j0 logic_Resolve.f logic_Resolve.l0 r01Same.f r01Same.l0)
open PRs
theorem FJ (x : S26) (v : S30) (h : DF x v = true) : v.f0 = x.f0 ∧ v.f3 = [] ∧ (x.f0 = 1 → v.f2.length = 1) ∧ (x.f0 ≠ 1 → v.f2 = []) ∧ ∀ b ∈ v.f2, b ≤ 3 := by
  unfold DF at h; rw [Bool.and_eq_true, decide_eq_true_iff] at h; obtain ⟨h0, h⟩ := h; by_cases k1 : x.f0 = 1
  · rw [if_pos k1] at h; simp only [Bool.and_eq_true, decide_eq_true_iff] at h; obtain ⟨⟨_, d⟩, hi, c⟩ := h; refine ⟨h0, List.length_eq_zero_iff.mp d, fun _ => c, fun h => absurd k1 h, fun b a => ?_⟩; unfold isF at hi; simp only [Bool.and_eq_true, List.all_eq_true, decide_eq_true_iff] at hi; exact hi.2 b a
  · rw [if_neg k1] at h; simp only [Bool.and_eq_true, decide_eq_true_iff] at h; have e := List.length_eq_zero_iff.mp h.1.1; exact ⟨h0, List.length_eq_zero_iff.mp h.1.2, fun h => absurd h k1, fun _ => e, fun b a => by rw [e] at a; cases a⟩
theorem Oz (l : List Int) (h : l.length = 1) : [rd l 0] = l := by
  match l, h with
  | [a], _ => rfl
end Go.Proofs.Ytojankgmedccdaa.Pure
end
section
namespace Go.Proofs.Ytojankgmedccdaa.Pure
open Go.RowKit Own PTy Hand PIs RowV Wo
open PAw (drivers_behind.f drivers_copied.f api_Bit_96.f api_Bit_96.l0)
open PGn
def okL (x : S26) : Int → List S63 → Prop
  | _, [] => True
  | u, c :: r => u < c.f0 ∧ c.f0 ≤ 2000000 ∧ DF x c.f1 = true ∧ okL x c.f0 r
theorem Mc (x : S26) (l : List S63) : ∀ d i u, i + d = l.length → Gh x l d i u = true → okL x u (l.drop i) := by
  intro d; induction d with
  | zero => intro i u hi _; rw [List.drop_eq_nil_of_le (by omega)]; trivial
  | succ d b =>
    intro i u hi h; have a : i < l.length := by omega
    rw [List.drop_eq_getElem_cons a]; simp only [Gh, Bool.and_eq_true, Bool.not_eq_true', decide_eq_false_iff_not, F7 a] at h; exact ⟨by omega, by omega, h.2.2.1, b (i + 1) _ (by omega) h.2.2.2⟩
theorem Hu {x : S26} : ∀ {u : Int} {l : List S63}, okL x u l → ∀ y ∈ l, u < y.f0 ∧ y.f0 ≤ 2000000 ∧ DF x y.f1 = true
  | _, [], _, _, h => by cases h
  | u, c :: r, ⟨h1, h2, h3, h4⟩, y, h => by
    rcases List.mem_cons.mp h with rfl | h
    · exact ⟨h1, h2, h3⟩
    · obtain ⟨d, a, b⟩ := Hu h4 y h; exact ⟨by omega, a, b⟩
theorem Kg {x : S26} {v : S30} {l : List S63} (h : GL x v l = true) : scB x = true ∧ DF x v = true ∧ l.length ≤ 64 ∧ okL x (-1) l := by
  unfold GL at h; simp only [Bool.and_eq_true, decide_eq_true_iff] at h; exact ⟨h.1, h.2.1, h.2.2.1, by simpa using Mc x l l.length 0 (-1) (by omega) h.2.2.2⟩
theorem J6 {x : S26} {v : S30} (h : DF x v = true) : v.f2.length ≤ 1 := by
  obtain ⟨c, d, a, b, e⟩ := FJ x v h; by_cases k1 : x.f0 = 1
  · rw [a k1]; omega
  · rw [b k1]; simp
def eqV (v w : S30) : Bool := decide (v.f1 = w.f1) && decide (v.f2 = w.f2)
theorem O0 (l m : List Int) (hl : l.length ≤ maxLen) (c : m.length ≤ maxLen) : Ev (fun k => api_Bit_96.f k l m) (decide (l = m)) := by
  have hm := ml; unfold api_Bit_96.f; by_cases h : l.length = m.length
  · have key : ∀ d i, i + d = l.length → Ev (fun k => api_Bit_96.l0 k l m (l.length : Int) (i : Int)) (decide (l.drop i = m.drop i)) := by
      intro d; induction d with
      | zero =>
        intro i hi; rw [List.drop_eq_nil_of_le (by omega), List.drop_eq_nil_of_le (by omega)]; exact Ev.step (f := fun _ => some true) (fun k => by rw [api_Bit_96.l0, nO]) (by simpa using Ev.now _)
      | succ d g =>
        intro i hi; have a : i < l.length := by omega
        have b : i < m.length := by omega
        rw [List.drop_eq_getElem_cons a, List.drop_eq_getElem_cons b]; have hd : l[i] = m[i] → decide (l[i] :: l.drop (i + 1) = m[i] :: m.drop (i + 1)) = decide (l.drop (i + 1) = m.drop (i + 1)) := fun e => by rw [e]; exact decide_eq_decide.mpr ⟨fun h => (List.cons.inj h).2, fun h => by rw [h]⟩
        have hn : l[i] ≠ m[i] → decide (l[i] :: l.drop (i + 1) = m[i] :: m.drop (i + 1)) = false := fun e => decide_eq_false fun h => e (List.cons.inj h).1; by_cases e : l[i] = m[i]
        · refine Ev.step (f := fun k => api_Bit_96.l0 k l m (l.length : Int) ((i + 1 : Nat) : Int)) (fun k => ?_) (by rw [hd e]; exact g (i + 1) (by omega)); rw [api_Bit_96.l0, pO, pO, pO, pO, GM l i a, GM m i b, if_pos e, Bi (by omega) (by omega)]; rfl
        · refine Ev.step (f := fun _ => some false) (fun k => ?_) (by rw [hn e]; exact Ev.now _); rw [api_Bit_96.l0, pO, pO, pO, pO, GM l i a, GM m i b, if_neg e]
    exact Ev.congr (fun k => by rw [pO]) (by simpa using key l.length 0 (by omega))
  · have e : decide (l = m) = false := decide_eq_false fun e => h (by rw [e]); rw [e]; exact Ev.congr (fun k => by rw [nO]) (Ev.now _)
theorem OL (x : S26) (g : scB x = true) (d : x.f3.length ≤ maxLen) (v w : S30) (hv : DF x v = true) (c : DF x w = true) : Ev (fun k => PGn.Ck.f k x.f0 x.f1 x.f2 x.f3 x.f4 v.f0 v.f1 v.f2 v.f3 w.f0 w.f1 w.f2 w.f3) (eqV v w) := by
  have hm := ml; have l1 := J6 hv; have l2 := J6 c; have h := (FJ x v hv).2.1; have i := (FJ x w c).2.1; have a := IC x v g d; have b := IC x w g d; rw [hv] at a; rw [c] at b; have key : Ev (fun k => PGn.Dm.f k v.f0 v.f1 v.f2 v.f3 w.f0 w.f1 w.f2 w.f3) (eqV v w) := by
    refine Ev.step (fun k => by rw [PGn.Dm.f]) ?_; unfold eqV; by_cases e : v.f1 = w.f1
    · refine Ev.congr (fun k => by rw [if_pos e]) (Ev.bind (O0 v.f2 w.f2 (by omega) (by omega)) ?_); rw [decide_eq_true e, Bool.true_and]; by_cases e2 : v.f2 = w.f2
      · rw [decide_eq_true e2]; exact Ev.congr (fun k => by rw [if_pos rfl, h, i]; rfl) (Ev.now true)
      · rw [decide_eq_false e2]; exact Ev.congr (fun k => by rw [nS]) (Ev.now false)
    · rw [decide_eq_false e, Bool.false_and]; exact Ev.congr (fun k => by rw [if_neg e]) (Ev.now false)
  unfold PGn.Ck.f PGn.EC.f; refine Ev.bind (a := (eqV v w, 0)) (Ev.bind a (Ev.congr (fun k => by rw [if_pos rfl]) (Ev.bind b (Ev.congr (fun k => by rw [if_pos rfl]) (Ev.bind key (Ev.now _)))))) ?_; cases eqV v w with
  | true => exact Ev.congr (fun k => by rw [if_pos rfl]; rfl) (Ev.now _)
  | false => exact Ev.congr (fun k => by rw [nS]) (Ev.now _)
theorem OM (x : S26) (v w : S30) (hv : DF x v = true) (g : DF x w = true) : FC.f v.f0 v.f1 v.f2 v.f3 w.f0 w.f1 w.f2 w.f3 = some (eqV v w) := by
  obtain ⟨h, _, l, m, _⟩ := FJ x v hv; obtain ⟨p, _, n, o, _⟩ := FJ x w g; unfold FC.f eqV; by_cases k1 : x.f0 = 1
  · have a := l k1; have b := n k1; rw [if_pos (h.trans k1), pO, pO]; obtain ⟨c, k⟩ := List.length_eq_one_iff.mp a; obtain ⟨d, hd⟩ := List.length_eq_one_iff.mp b; have i : v.f1 = 0 := by
      unfold DF at hv; rw [if_pos k1] at hv; simp only [Bool.and_eq_true, decide_eq_true_iff] at hv; exact hv.2.1.1
    have j : w.f1 = 0 := by
      unfold DF at g; rw [if_pos k1] at g; simp only [Bool.and_eq_true, decide_eq_true_iff] at g; exact g.2.1.1
    rw [k, hd, i, j]; congr 1; rw [Bool.eq_iff_iff]; show (c == d) = true ↔ _; simp
  · have a := m k1; have b := o k1; rw [if_neg (fun e => k1 (h.symm.trans e)), a, b]; congr 1; rw [Bool.eq_iff_iff]; simp
theorem J7 (x : S26) (v : S30) (hv : DF x v = true) : FY.f v.f0 v.f1 v.f2 v.f3 = some (v.f0, v.f1, v.f2, v.f3) := by
  obtain ⟨b, d, c, g, _⟩ := FJ x v hv; unfold FY.f; rw [d]; by_cases k1 : x.f0 = 1
  · have a := c k1; rw [if_pos (b.trans k1), pO, Oz _ a]
  · rw [if_neg (fun e => k1 (b.symm.trans e)), g k1]
theorem IE (x : S26) (v : S30) (hv : DF x v = true) : drivers_copied.f v.f0 v.f1 v.f2 v.f3 = some (v.f0, v.f1, v.f2, v.f3) := by
  have := J6 hv; unfold drivers_copied.f Ej.f; rw [pO]; rfl
def Fe (l : List S63) (now : Int) : Bool := match l with | [] => false | c :: _ => decide (c.f0 < now)
theorem Md (a b : Int) (m : List Int) (p : List S30) (l : List S63) (now : Int) : drivers_behind.f a b m p l now = some (Fe l now) := by
  unfold drivers_behind.f Fe; cases l with
  | nil => rfl
  | cons c r => rw [if_pos (by simp)]; first | rfl | (rw [if_pos (by simp)]; rfl)
theorem LG (a b : Int) (m : List Int) (p : List S30) (l : List S63) (now : Int) : EQ.f a b m p l now = some (Fe l now) := by
  unfold EQ.f Fe; cases l with
  | nil => rfl
  | cons c r => rw [if_pos (by simp)]; first | rfl | (rw [if_pos (by simp)]; rfl)
end Go.Proofs.Ytojankgmedccdaa.Pure
end
section
namespace Go.Proofs.Ytojankgmedccdaa.Pure
open Go.RowKit Own PTy Hand PIs RowV Wo
open PAw (drivers_all.f drivers_all.l0 drivers_rising.f drivers_rising.l0)
open PGn
theorem O1 (x : S26) (l : List S63) (hl : l.length ≤ 100) (hv : ∀ y ∈ l, DF x y.f1 = true) : Ev (fun k => drivers_all.f k l) l := by
  have hm := ml; unfold drivers_all.f; have key : ∀ d i, i + d = l.length → Ev (fun k => drivers_all.l0 k (l.take i) l (l.length : Int) (i : Int)) l := by
    intro d; induction d with
    | zero =>
      intro i hi; rw [List.take_of_length_le (by omega)]; exact Ev.step (f := fun _ => some l) (fun k => by rw [drivers_all.l0, nO]) (Ev.now _)
    | succ d b =>
      intro i hi; have a : i < l.length := by omega
      have hg : AA l (i : Int) = l[i] := F7 a; refine Ev.step (f := fun k => drivers_all.l0 k (l.take (i + 1)) l (l.length : Int) ((i + 1 : Nat) : Int)) (fun k => ?_) (b (i + 1) (by omega)); rw [drivers_all.l0, pO, pO, pO, hg, IE x _ (hv _ (List.getElem_mem a)), Option.bind_some, if_pos (by rw [List.length_take]; omega), wO (n := (i : Int) + 1), IU, OI, List.take_succ_eq_append_getElem a]; rfl
  exact Ev.congr (fun k => by rw [pO, pO]) (by simpa using key l.length 0 (by omega))
def ER : Int → List Int → Bool
  | _, [] => true
  | u, n :: r => !decide (n ≤ u) && (!decide (n > 1000000) && ER n r)
theorem Hw : ∀ {u : Int} {l : List Int}, ER u l = true → ∀ n ∈ l, u < n ∧ n ≤ 1000000
  | _, [], _, _, h => by cases h
  | u, a :: r, hr, n, h => by
    simp only [ER, Bool.and_eq_true, Bool.not_eq_true', decide_eq_false_iff_not] at hr; rcases List.mem_cons.mp h with rfl | h
    · exact ⟨by omega, by omega⟩
    · obtain ⟨c, b⟩ := Hw hr.2.2 n h; exact ⟨by omega, b⟩
theorem Me (l : List Int) (hl : l.length ≤ maxLen) : Ev (fun k => drivers_rising.f k l) (ER (-1) l) := by
  have hm := ml; unfold drivers_rising.f; have key : ∀ d i u, i + d = l.length → Ev (fun k => drivers_rising.l0 k u l (l.length : Int) (i : Int)) (ER u (l.drop i)) := by
    intro d; induction d with
    | zero =>
      intro i u hi; rw [List.drop_eq_nil_of_le (by omega)]; exact Ev.step (f := fun _ => some true) (fun k => by rw [drivers_rising.l0, nO]) (Ev.now _)
    | succ d b =>
      intro i u hi; have a : i < l.length := by omega
      rw [List.drop_eq_getElem_cons a]; have hg := GM l i a; show Ev _ (!decide (l[i] ≤ u) && (!decide (l[i] > 1000000) && ER l[i] (l.drop (i + 1)))); by_cases h1 : l[i] ≤ u
      · rw [decide_eq_true h1]; exact Ev.step (f := fun _ => some false) (fun k => by rw [drivers_rising.l0, pO, pO, pO, hg, if_pos h1]) (Ev.now _)
      by_cases h2 : l[i] > 1000000
      · rw [decide_eq_true h2, decide_eq_false h1]; exact Ev.step (f := fun _ => some false) (fun k => by rw [drivers_rising.l0, pO, pO, pO, hg, if_neg h1, if_pos h2]) (Ev.now _)
      rw [decide_eq_false h1, decide_eq_false h2]; exact Ev.step (fun k => by rw [drivers_rising.l0, pO, pO, pO, hg, if_neg h1, if_neg h2, wO (n := (i : Int) + 1)] <;> rfl) (b (i + 1) l[i] (by omega))
  exact key l.length 0 (-1) (by omega)
theorem OO (l : List Int) (hl : l.length ≤ maxLen) : Ev (fun k => DK.f k l) (ER (-1) l) := by
  have hm := ml; unfold DK.f; have key : ∀ d i u, i + d = l.length → Ev (fun k => DK.l0 k u l (l.length : Int) (i : Int)) (ER u (l.drop i)) := by
    intro d; induction d with
    | zero =>
      intro i u hi; rw [List.drop_eq_nil_of_le (by omega)]; exact Ev.step (f := fun _ => some true) (fun k => by rw [DK.l0, nO]) (Ev.now _)
    | succ d b =>
      intro i u hi; have a : i < l.length := by omega
      rw [List.drop_eq_getElem_cons a]; have hg := GM l i a; show Ev _ (!decide (l[i] ≤ u) && (!decide (l[i] > 1000000) && ER l[i] (l.drop (i + 1)))); by_cases h1 : l[i] ≤ u
      · rw [decide_eq_true h1]; exact Ev.step (f := fun _ => some false) (fun k => by rw [DK.l0, pO, pO, pO, hg, if_pos h1]) (Ev.now _)
      by_cases h2 : l[i] > 1000000
      · rw [decide_eq_true h2, decide_eq_false h1]; exact Ev.step (f := fun _ => some false) (fun k => by rw [DK.l0, pO, pO, pO, hg, if_neg h1, if_pos h2]) (Ev.now _)
      rw [decide_eq_false h1, decide_eq_false h2]; exact Ev.step (fun k => by rw [DK.l0, pO, pO, pO, hg, if_neg h1, if_neg h2, wO (n := (i : Int) + 1)] <;> rfl) (b (i + 1) l[i] (by omega))
  exact key l.length 0 (-1) (by omega)
def Es (l : List S63) (t : Int) : Nat := l.findIdx fun c => decide (t ≤ c.f0)
theorem Lr (l : List S63) (t : Int) : Es l t ≤ l.length := List.findIdx_le_length
theorem Kh (l : List S63) (t : Int) (i : Nat) (h : i < Es l t) (hi : i < l.length) : l[i].f0 < t := by
  have := List.not_of_lt_findIdx (p := fun c : S63 => decide (t ≤ c.f0)) (xs := l) h; simpa using this
theorem O3 (l : List S63) (t : Int) (h : Es l t < l.length) : t ≤ (l[Es l t]).f0 := by
  exact of_decide_eq_true (List.findIdx_getElem (p := fun c : S63 => decide (t ≤ c.f0)) (xs := l) (w := h))
def JJ (l : List S63) (v0 : S30) : Nat → Nat
  | 0 => 0
  | n + 1 => if eqV ((AA l (n : Int)).f1) v0 = true then JJ l v0 n else n + 1
def F8 (now : Int) (vals : List S30) (after : List Int) : List S63 := List.zipWith (fun v n => (⟨now + n, v⟩ : S63)) vals after
def Mf (l : List S63) (now : Int) (vals : List S30) (after : List Int) (tr : Bool) : Nat := if tr = true then 0 else JJ l (AB vals 0) (Es l (now + rd after 0))
def IX (v : S30) (l : List S63) (now : Int) (vals : List S30) (after : List Int) (s f : Nat) : Int × Int × List Int × List S30 × List S63 × Int :=
  if s - f + vals.length > 64 then (0, 0, [], [], [], 3) else (v.f0, v.f1, v.f2, v.f3, (l.take s).drop f ++ F8 now vals after, 0)
def GN (x : S26) (v : S30) (l : List S63) (now : Int) (vals : List S30) (after : List Int) (tr : Bool) : Int × Int × List Int × List S30 × List S63 × Int :=
  if GL x v l = true ∧ 0 ≤ now ∧ now ≤ 1000000 ∧ 1 ≤ vals.length ∧ vals.length ≤ 64 ∧ after.length = vals.length ∧ ER (-1) after = true ∧ vals.all (DF x) = true then
    (if Fe l now = true then (0, 0, [], [], [], 5) else IX v l now vals after (Es l (now + rd after 0)) (Mf l now vals after tr))
  else (0, 0, [], [], [], 2)
theorem Mg (x : S26) (v : S30) (now : Int) (h0 : 0 ≤ now) (h1 : now ≤ 1000000) (vals : List S30) (hn : vals.length ≤ 64) (after : List Int) (ha : after.length = vals.length) (hr : ER (-1) after = true) (hall : ∀ y ∈ vals, DF x y = true) : ∀ d i out, i + d = vals.length → out.length ≤ 64 + i →
    Ev (fun k => PGn.AL.l2 k vals (vals.length : Int) (i : Int) now after v.f0 v.f1 v.f2 v.f3 out) (v.f0, v.f1, v.f2, v.f3, out ++ F8 now (vals.drop i) (after.drop i), 0) := by
  have hm := ml; intro d; induction d with
  | zero =>
    intro i out hi ho; rw [List.drop_eq_nil_of_le (show vals.length ≤ i by omega)]; exact Ev.step (f := fun _ => some (v.f0, v.f1, v.f2, v.f3, out, 0)) (fun k => by rw [PGn.AL.l2, nO]) (by simpa [F8] using Ev.now _)
  | succ d g =>
    intro i out hi ho; have a : i < vals.length := by omega
    have b : i < after.length := by omega
    have hg := Gj (l := vals) a; have c := GM after i b; have h := Hw hr _ (List.getElem_mem b); have e := g (i + 1) (out ++ [⟨now + after[i], vals[i]⟩]) (by omega) (Nat.le_trans (Nat.le_of_eq (List.length_append ..)) (by show out.length + 1 ≤ 64 + (i + 1); omega)); rw [List.drop_eq_getElem_cons a, List.drop_eq_getElem_cons b]; show Ev _ (v.f0, v.f1, v.f2, v.f3, out ++ (⟨now + after[i], vals[i]⟩ :: F8 now (vals.drop (i + 1)) (after.drop (i + 1))), 0); rw [List.append_assoc, List.singleton_append] at e; refine Ev.step (f := fun k => PGn.AL.l2 k vals (vals.length : Int) ((i + 1 : Nat) : Int) now after v.f0 v.f1 v.f2 v.f3 (out ++ [⟨now + after[i], vals[i]⟩])) (fun k => ?_) e; rw [PGn.AL.l2, pO, pO, pO, pO, hg, c, IE x _ (hall _ (List.getElem_mem a)), Option.bind_some, pO, wO (n := (i : Int) + 1), wO (n := now + after[i]), IU]; rfl
theorem IG (x : S26) (v : S30) (hv : DF x v = true) (l : List S63) (hl : l.length ≤ 64) (hok : okL x (-1) l) (now : Int) (h0 : 0 ≤ now) (h1 : now ≤ 1000000) (vals : List S30) (hn : vals.length ≤ 64) (after : List Int) (ha : after.length = vals.length) (hr : ER (-1) after = true) (hall : ∀ y ∈ vals, DF x y = true) (s f : Nat) (c : s ≤ l.length) (g : f ≤ s) : Ev (fun k => PGn.AL.j4 k vals (s : Int) (f : Int) v.f0 v.f1 v.f2 v.f3 l now after) (IX v l now vals after s f) := by
  have hm := ml; have b : wrap64 (wrap64 ((s : Int) - (f : Int)) + (vals.length : Int)) = ((s - f + vals.length : Nat) : Int) := by rw [wO (n := (s : Int) - (f : Int)), Bi (by omega) (by omega)]; omega
  unfold IX; by_cases h : s - f + vals.length > 64
  · rw [if_pos h]; exact Ev.step (f := fun _ => some (0, 0, [], [], [], 3)) (fun k => by rw [PGn.AL.j4, b, pO]) (Ev.now _)
  · rw [if_neg h]; have a : ((l.take s).drop f).length = s - f := by rw [List.length_drop, List.length_take]; omega
    have e := Mg x v now h0 h1 vals hn after ha hr hall vals.length 0 ((l.take s).drop f) (by omega) (by omega); rw [List.drop_zero, List.drop_zero] at e; refine Ev.step (fun k => by rw [PGn.AL.j4, b, nO, IE x v hv, Option.bind_some, pO, pO, pO, show ((s : Int)).toNat = s from rfl, show ((f : Int)).toNat = f from rfl] <;> rfl) (Ev.bind (O1 x _ (by omega) fun y d => (Hu hok y (List.mem_of_mem_take (List.mem_of_mem_drop d))).2.2) e)
theorem Mh (x : S26) (m : scB x = true) (d : x.f3.length ≤ maxLen) (v : S30) (hv : DF x v = true) (l : List S63) (hl : l.length ≤ 64) (hok : okL x (-1) l) (now : Int) (h0 : 0 ≤ now) (h1 : now ≤ 1000000) (vals : List S30) (j : 1 ≤ vals.length) (hn : vals.length ≤ 64) (after : List Int) (ha : after.length = vals.length) (hr : ER (-1) after = true) (hall : ∀ y ∈ vals, DF x y = true) (s : Nat) (a : s ≤ l.length) : ∀ n, n ≤ s → Ev (fun k => PGn.AL.l1 k vals (s : Int) (n : Int) x.f0 x.f1 x.f2 x.f3 x.f4 v.f0 v.f1 v.f2 v.f3 l now after) (IX v l now vals after s (JJ l (AB vals 0) n)) := by
  have hm := ml; intro n; induction n with
  | zero =>
    intro _; exact Ev.step (fun k => by rw [PGn.AL.l1, nO]) (IG x v hv l hl hok now h0 h1 vals hn after ha hr hall s 0 a (by omega))
  | succ n p =>
    intro c; have o : wrap64 (((n + 1 : Nat) : Int) - 1) = (n : Int) := by rw [Bi (by omega) (by omega)]; omega
    have g := (Hu hok _ (Gi (l := l) (i := n) (by omega))).2.2; have h := hall _ (EB (l := vals) (i := 0) (by omega)); refine Ev.step (fun k => by rw [PGn.AL.l1, o, pO, pO, pO, pO] <;> rfl) (Ev.bind (OL x m d _ _ g h) ?_); unfold JJ; by_cases e : eqV ((AA l (n : Int)).f1) (AB vals ((0 : Nat) : Int)) = true
    · have b : eqV ((AA l (n : Int)).f1) (AB vals 0) = true := e; rw [if_pos b]; exact Ev.congr (fun k => by rw [e, if_pos rfl]) (p (by omega))
    · have b : ¬ eqV ((AA l (n : Int)).f1) (AB vals 0) = true := e; rw [if_neg b]; exact Ev.congr (fun k => by rw [if_neg e]) (IG x v hv l hl hok now h0 h1 vals hn after ha hr hall s (n + 1) a c)
end Go.Proofs.Ytojankgmedccdaa.Pure
end
section
namespace Go.Proofs.Ytojankgmedccdaa.Pure
open Go.RowKit Own PTy Hand PIs RowV Wo
open PGn
def Ls (v : S30) (l : List S63) (now : Int) (vals : List S30) (after : List Int) (tr : Bool) : Int × Int × List Int × List S30 × List S63 × Int :=
  if Fe l now = true then (0, 0, [], [], [], 5) else IX v l now vals after (Es l (now + rd after 0)) (Mf l now vals after tr)
theorem rd0 (after : List Int) (h : 0 < after.length) (hr : ER (-1) after = true) : 0 ≤ rd after 0 ∧ rd after 0 ≤ 1000000 := by
  have e : rd after 0 = after[0] := GM after 0 h; have := Hw hr _ (List.getElem_mem h); rw [e]; omega
theorem Mi (x : S26) (d : scB x = true) (c : x.f3.length ≤ maxLen) (v : S30) (hv : DF x v = true) (l : List S63) (hl : l.length ≤ 64) (hok : okL x (-1) l) (now : Int) (h0 : 0 ≤ now) (h1 : now ≤ 1000000) (vals : List S30) (b : 1 ≤ vals.length) (hn : vals.length ≤ 64) (after : List Int) (ha : after.length = vals.length) (hr : ER (-1) after = true) (hall : ∀ y ∈ vals, DF x y = true) (tr : Bool) (s : Nat) (a : s ≤ l.length) :
    Ev (fun k => PGn.AL.j2 k vals tr (s : Int) x.f0 x.f1 x.f2 x.f3 x.f4 v.f0 v.f1 v.f2 v.f3 l now after) (IX v l now vals after s (if tr = true then 0 else JJ l (AB vals 0) s)) := by
  cases tr with
  | true => exact Ev.step (fun k => by rw [PGn.AL.j2, if_pos rfl] <;> rfl) (IG x v hv l hl hok now h0 h1 vals hn after ha hr hall s 0 a (by omega))
  | false => exact Ev.step (fun k => by rw [PGn.AL.j2, nS]) (Mh x d c v hv l hl hok now h0 h1 vals b hn after ha hr hall s a s (by omega))
theorem Mj (x : S26) (r : scB x = true) (b : x.f3.length ≤ maxLen) (v : S30) (hv : DF x v = true) (l : List S63) (hl : l.length ≤ 64) (hok : okL x (-1) l) (now : Int) (h0 : 0 ≤ now) (h1 : now ≤ 1000000) (vals : List S30) (p : 1 ≤ vals.length) (hn : vals.length ≤ 64) (after : List Int) (ha : after.length = vals.length) (hr : ER (-1) after = true) (tr : Bool) :
    ∀ d i, i + d = vals.length → (∀ j, j < i → DF x (AB vals (j : Int)) = true) → Ev (fun k => PGn.AL.l0 k now vals after tr vals (vals.length : Int) (i : Int) x.f0 x.f1 x.f2 x.f3 x.f4 v.f0 v.f1 v.f2 v.f3 l now after) (if vals.all (DF x) = true then Ls v l now vals after tr else (0, 0, [], [], [], 2)) := by
  have hm := ml; intro d; induction d with
  | zero =>
    intro i hi m; have hall : ∀ y ∈ vals, DF x y = true := by
      intro y B; obtain ⟨j, o, u⟩ := List.mem_iff_getElem.mp B; have := m j (by omega); rw [Gj o] at this; exact u ▸ this
    rw [if_pos (List.all_eq_true.mpr hall)]; refine Ev.step (fun k => by rw [PGn.AL.l0, nO, Md, Option.bind_some]) ?_; unfold Ls; cases Fe l now with
    | true =>
      show Ev _ ((0 : Int), (0 : Int), ([] : List Int), ([] : List S30), ([] : List S63), (5 : Int)); exact Ev.congr (fun k => by rw [if_pos rfl]) (Ev.now _)
    | false =>
      rw [nS]; obtain ⟨G, I⟩ := rd0 after (by omega) hr; have z : wrap64 (now + rd after 0) = now + rd after 0 := Bi (by omega) (by omega); have s := Lr l (now + rd after 0); have e := Mi x r b v hv l hl hok now h0 h1 vals p hn after ha hr hall tr (Es l (now + rd after 0)) s; unfold Mf; refine Ev.congr (fun k => ?_) e; rw [nS]; unfold FI.f; rw [pO, Option.bind_some, z]; cases hf : l.findIdx? (fun c => decide (now + rd after 0 ≤ c.f0)) with
      | none =>
        have a : Es l (now + rd after 0) = l.length := List.findIdx?_eq_none_iff_findIdx_eq.mp hf; rw [if_pos (by simp), a]
      | some i =>
        have a : Es l (now + rd after 0) = i := (List.findIdx?_eq_some_iff_findIdx_eq.mp hf).2; rw [nS, a]
  | succ d D =>
    intro i hi m; have g : i < vals.length := by omega
    cases hh : DF x (AB vals (i : Int)) with
    | false =>
      have q : ¬ vals.all (DF x) = true := fun h => by
        have := List.all_eq_true.mp h _ (EB g); rw [hh] at this; cases this
      rw [if_neg q]; refine Ev.step (fun k => by rw [PGn.AL.l0, pO, pO, pO]) (Ev.bind (IC x (AB vals (i : Int)) r b) ?_); rw [hh]; exact Ev.congr (fun k => by rw [nS]) (Ev.now _)
    | true =>
      refine Ev.step (fun k => by rw [PGn.AL.l0, pO, pO, pO]) (Ev.bind (IC x (AB vals (i : Int)) r b) ?_); rw [hh]; refine Ev.congr (fun k => by rw [if_pos rfl, wO (n := (i : Int) + 1)] <;> rfl) (D (i + 1) (by omega) fun j w => ?_); by_cases e : j = i
      · rw [e]; exact hh
      · exact m j (by omega)
theorem Mk (x : S26) (d : x.f3.length ≤ maxLen) (v : S30) (l : List S63) (hl : l.length ≤ maxLen) (now : Int) (vals : List S30) (after : List Int) (c : after.length ≤ maxLen) (tr : Bool) :
    Ev (fun k => PGn.AL.f k x.f0 x.f1 x.f2 x.f3 x.f4 v.f0 v.f1 v.f2 v.f3 l now vals after tr) (GN x v l now vals after tr) := by
  have hm := ml; have a : Ev (fun k => PGn.AL.j0 k now vals after tr true x.f0 x.f1 x.f2 x.f3 x.f4 v.f0 v.f1 v.f2 v.f3 l now after) (0, 0, [], [], [], 2) := Ev.step (f := fun _ => some (0, 0, [], [], [], 2)) (fun k => by rw [PGn.AL.j0, if_pos rfl]) (Ev.now _); unfold PGn.AL.f GN; refine Ev.bind (QY x d v l hl) ?_; cases hp : GL x v l with
  | false => rw [nS]; exact Ev.congr (fun k => by rw [nS]) a
  | true =>
    refine Ev.congr (fun k => by rw [if_pos rfl]) ?_; by_cases a1 : now < 0
    · rw [nO]; exact Ev.congr (fun k => by rw [if_pos a1]) a
    by_cases a2 : now > 1000000
    · rw [nO]; exact Ev.congr (fun k => by rw [if_neg a1, if_pos a2]) a
    by_cases a3 : (vals.length : Int) < 1
    · rw [nO]; exact Ev.congr (fun k => by rw [if_neg a1, if_neg a2, if_pos a3]) a
    by_cases a4 : (vals.length : Int) > 64
    · rw [nO]; exact Ev.congr (fun k => by rw [if_neg a1, if_neg a2, if_neg a3, if_pos a4]) a
    by_cases a5 : (after.length : Int) = (vals.length : Int)
    · refine Ev.congr (fun k => by rw [if_neg a1, if_neg a2, if_neg a3, if_neg a4, if_pos a5]) (Ev.bind (Me after c) ?_); cases hr : ER (-1) after with
      | false => rw [nS]; exact a
      | true =>
        obtain ⟨g, hv, b, hok⟩ := Kg hp; have e := Mj x g d v hv l b hok now (by omega) (by omega) vals (by omega) (by omega) after (by omega) hr tr vals.length 0 (by omega) (by omega); refine Ev.step (f := fun k => PGn.AL.l0 k now vals after tr vals (vals.length : Int) ((0 : Nat) : Int) x.f0 x.f1 x.f2 x.f3 x.f4 v.f0 v.f1 v.f2 v.f3 l now after) (fun k => by rw [PGn.AL.j0, nS]; rfl) ?_; by_cases hall : vals.all (DF x) = true
        · rw [if_pos hall] at e; rw [if_pos ⟨rfl, by omega, by omega, by omega, by omega, by omega, rfl, hall⟩]; exact e
        · rw [if_neg hall] at e; rw [if_neg (fun h => hall h.2.2.2.2.2.2.2)]; exact e
    · rw [nO]; exact Ev.congr (fun k => by rw [if_neg a1, if_neg a2, if_neg a3, if_neg a4, if_neg a5]) a
theorem OP (now : Int) (vals : List S30) (after : List Int) (h : after.length = vals.length) : (F8 now vals after).length = vals.length := by unfold F8; rw [List.length_zipWith, h, Nat.min_self]
section
variable (x : S26) (v : S30) (now : Int) (h0 : 0 ≤ now) (h1 : now ≤ 1000000) (vals : List S30) (hn : vals.length ≤ 64) (after : List Int) (ha : after.length = vals.length) (hr : ER (-1) after = true) (hall : ∀ y ∈ vals, DF x y = true)
include h0 h1 hn ha hr hall
theorem LH : ∀ d i out, i + d = vals.length → out.length ≤ 64 + i →
    Ev (fun k => AQ.l4 k now after vals (vals.length : Int) (i : Int) v.f0 v.f1 v.f2 v.f3 out) (if (out ++ F8 now (vals.drop i) (after.drop i)).length > 64 then (0, 0, [], [], [], 3) else (v.f0, v.f1, v.f2, v.f3, out ++ F8 now (vals.drop i) (after.drop i), 0)) := by
  have hm := ml; intro d; induction d with
  | zero =>
    intro i out hi ho; have e : out ++ F8 now (vals.drop i) (after.drop i) = out := by rw [List.drop_eq_nil_of_le (show vals.length ≤ i by omega)]; simp [F8]
    rw [e]; by_cases h : out.length > 64
    · rw [if_pos h]; exact Ev.step (f := fun _ => some (0, 0, [], [], [], 3)) (fun k => by rw [AQ.l4, nO, pO]) (Ev.now _)
    · rw [if_neg h]; exact Ev.step (f := fun _ => some (v.f0, v.f1, v.f2, v.f3, out, 0)) (fun k => by rw [AQ.l4, nO, nO]) (Ev.now _)
  | succ d j =>
    intro i out hi ho; have a : i < vals.length := by omega
    have b : i < after.length := by omega
    have hg := Gj (l := vals) a; have c := GM after i b; have m := Hw hr _ (List.getElem_mem b); have e := j (i + 1) (out ++ [⟨now + after[i], vals[i]⟩]) (by omega) (Nat.le_trans (Nat.le_of_eq (List.length_append ..)) (by show out.length + 1 ≤ 64 + (i + 1); omega)); have g : out ++ F8 now (vals.drop i) (after.drop i) = (out ++ [⟨now + after[i], vals[i]⟩]) ++ F8 now (vals.drop (i + 1)) (after.drop (i + 1)) := by
      rw [List.drop_eq_getElem_cons a, List.drop_eq_getElem_cons b, List.append_assoc, List.singleton_append]; rfl
    rw [g]; refine Ev.step (f := fun k => AQ.l4 k now after vals (vals.length : Int) ((i + 1 : Nat) : Int) v.f0 v.f1 v.f2 v.f3 (out ++ [⟨now + after[i], vals[i]⟩])) (fun k => ?_) e; rw [AQ.l4, pO, pO, pO, pO, hg, c, J7 x _ (hall _ (List.getElem_mem a)), Option.bind_some, pO, wO (n := (i : Int) + 1), wO (n := now + after[i]), IU]; rfl
theorem LJ (g : List S63) (c : g.length ≤ 64) (b : ∀ y ∈ g, DF x y.f1 = true) : ∀ d i, i + d = g.length →
    Ev (fun k => AQ.l3 k now vals after g (g.length : Int) (i : Int) v.f0 v.f1 v.f2 v.f3 (g.take i)) (if (g ++ F8 now vals after).length > 64 then (0, 0, [], [], [], 3) else (v.f0, v.f1, v.f2, v.f3, g ++ F8 now vals after, 0)) := by
  have hm := ml; intro d; induction d with
  | zero =>
    intro i hi; rw [List.take_of_length_le (by omega)]; have e := LH x v now h0 h1 vals hn after ha hr hall vals.length 0 g (by omega) (by omega); rw [List.drop_zero, List.drop_zero] at e; exact Ev.step (fun k => by rw [AQ.l3, nO] <;> rfl) e
  | succ d h =>
    intro i hi; have a : i < g.length := by omega
    have hg : AA g (i : Int) = g[i] := F7 a; refine Ev.step (f := fun k => AQ.l3 k now vals after g (g.length : Int) ((i + 1 : Nat) : Int) v.f0 v.f1 v.f2 v.f3 (g.take (i + 1))) (fun k => ?_) (h (i + 1) (by omega)); rw [AQ.l3, pO, pO, pO, hg, J7 x _ (b _ (List.getElem_mem a)), Option.bind_some, if_pos (by rw [List.length_take]; omega), wO (n := (i : Int) + 1), IU, OI, List.take_succ_eq_append_getElem a]; rfl
variable (hv : DF x v = true) (l : List S63) (hl : l.length ≤ 64) (hok : okL x (-1) l)
include hv hl hok
theorem Hd (s f : Nat) (b : s ≤ l.length) (d : f ≤ s) : Ev (fun k => AQ.j5 k now vals after (s : Int) (f : Int) v.f0 v.f1 v.f2 v.f3 l) (IX v l now vals after s f) := by
  have a : ((l.take s).drop f).length = s - f := by rw [List.length_drop, List.length_take]; omega
  have e := LJ x v now h0 h1 vals hn after ha hr hall ((l.take s).drop f) (by omega) (fun y c => (Hu hok y (List.mem_of_mem_take (List.mem_of_mem_drop c))).2.2) ((l.take s).drop f).length 0 (by omega); rw [List.length_append, OP now vals after ha, a] at e; unfold IX; refine Ev.step (fun k => ?_) e; rw [AQ.j5, J7 x v hv, Option.bind_some, pO, pO, pO, Option.bind_some, show ((s : Int)).toNat = s from rfl, show ((f : Int)).toNat = f from rfl, a]; rfl
theorem LK (j : 1 ≤ vals.length) (s : Nat) (a : s ≤ l.length) : ∀ n, n ≤ s → Ev (fun k => AQ.l2 k now vals after (s : Int) (n : Int) v.f0 v.f1 v.f2 v.f3 l) (IX v l now vals after s (JJ l (AB vals 0) n)) := by
  have hm := ml; intro n; induction n with
  | zero =>
    intro _; exact Ev.step (fun k => by rw [AQ.l2, nO]) (Hd x v now h0 h1 vals hn after ha hr hall hv l hl hok s 0 a (by omega))
  | succ n m =>
    intro c; have d : wrap64 (((n + 1 : Nat) : Int) - 1) = (n : Int) := by rw [Bi (by omega) (by omega)]; omega
    have g := (Hu hok _ (Gi (l := l) (i := n) (by omega))).2.2; have h : DF x (AB vals 0) = true := hall _ (EB (l := vals) (i := 0) (by omega)); have b := OM x _ _ g h; unfold JJ; by_cases e : eqV ((AA l (n : Int)).f1) (AB vals 0) = true
    · rw [if_pos e]; exact Ev.step (fun k => by rw [AQ.l2, d, pO, pO, pO, pO, b, Option.bind_some, if_pos e]) (m (by omega))
    · rw [if_neg e]; exact Ev.step (fun k => by rw [AQ.l2, d, pO, pO, pO, pO, b, Option.bind_some, if_neg e]) (Hd x v now h0 h1 vals hn after ha hr hall hv l hl hok s (n + 1) a c)
theorem LM (e : 1 ≤ vals.length) (tr : Bool) : ∀ d i, i + d = Es l (now + rd after 0) → Ev (fun k => AQ.l1 k now vals after tr (i : Int) v.f0 v.f1 v.f2 v.f3 l) (IX v l now vals after (Es l (now + rd after 0)) (Mf l now vals after tr)) := by
  have hm := ml; have c := Lr l (now + rd after 0); obtain ⟨o, p⟩ := rd0 after (by omega) hr; have g : wrap64 (now + rd after 0) = now + rd after 0 := Bi (by omega) (by omega); have b : Ev (fun k => AQ.j3 k now vals after tr ((Es l (now + rd after 0) : Nat) : Int) v.f0 v.f1 v.f2 v.f3 l) (IX v l now vals after (Es l (now + rd after 0)) (Mf l now vals after tr)) := by
    unfold Mf; cases tr with
    | true => exact Ev.step (fun k => by rw [AQ.j3, if_pos rfl] <;> rfl) (Hd x v now h0 h1 vals hn after ha hr hall hv l hl hok _ 0 c (by omega))
    | false => exact Ev.step (fun k => by rw [AQ.j3, nS]) (LK x v now h0 h1 vals hn after ha hr hall hv l hl hok e _ c _ (by omega))
  intro d; induction d with
  | zero =>
    intro i hi; obtain rfl : i = Es l (now + rd after 0) := by omega
    by_cases hlt : Es l (now + rd after 0) < l.length
    · have h := O3 l (now + rd after 0) hlt; have hg := F7 (l := l) hlt; exact Ev.step (fun k => by rw [AQ.l1, pO, pO, pO, hg, g, nO]) b
    · exact Ev.step (fun k => by rw [AQ.l1, nO]) b
  | succ d j =>
    intro i hi; have a : i < l.length := by omega
    have m := Kh l (now + rd after 0) i (by omega) a; have hg := F7 (l := l) a; exact Ev.step (fun k => by rw [AQ.l1, pO, pO, pO, hg, g, pO, wO (n := (i : Int) + 1)] <;> rfl) (j (i + 1) (by omega))
end
theorem LP (n : Nat) (x : S26) (r : okT n x) (q : scB x = true) (v : S30) (hv : DF x v = true) (l : List S63) (hl : l.length ≤ 64) (hok : okL x (-1) l) (now : Int) (h0 : 0 ≤ now) (h1 : now ≤ 1000000) (vals : List S30) (p : ∀ y ∈ vals, okV n y) (m : 1 ≤ vals.length) (hn : vals.length ≤ 64) (after : List Int) (ha : after.length = vals.length) (hr : ER (-1) after = true) (tr : Bool) :
    ∀ d i, i + d = vals.length → (∀ j, j < i → DF x (AB vals (j : Int)) = true) → Ev (fun k => AQ.l0 k now vals after tr vals (vals.length : Int) (i : Int) x.f0 x.f1 x.f2 x.f3 x.f4 v.f0 v.f1 v.f2 v.f3 l) (if vals.all (DF x) = true then Ls v l now vals after tr else (0, 0, [], [], [], 2)) := by
  have hm := ml; intro d; induction d with
  | zero =>
    intro i hi c; have hall : ∀ y ∈ vals, DF x y = true := by
      intro y w; obtain ⟨j, g, s⟩ := List.mem_iff_getElem.mp w; have := c j (by omega); rw [Gj g] at this; exact s ▸ this
    rw [if_pos (List.all_eq_true.mpr hall)]; refine Ev.step (fun k => by rw [AQ.l0, nO, LG, Option.bind_some]) ?_; unfold Ls; cases Fe l now with
    | true =>
      show Ev _ ((0 : Int), (0 : Int), ([] : List Int), ([] : List S30), ([] : List S63), (5 : Int)); exact Ev.congr (fun k => by rw [if_pos rfl]) (Ev.now _)
    | false =>
      rw [nS]; exact Ev.congr (fun k => by rw [nS] <;> rfl) (LM x v now h0 h1 vals hn after ha hr hall hv l hl hok m tr (Es l (now + rd after 0)) 0 (by omega))
  | succ d z =>
    intro i hi c; have a : i < vals.length := by omega
    have b := p _ (EB a); cases hh : DF x (AB vals (i : Int)) with
    | false =>
      have o : ¬ vals.all (DF x) = true := fun h => by
        have := List.all_eq_true.mp h _ (EB a); rw [hh] at this; cases this
      rw [if_neg o]; refine Ev.step (fun k => by rw [AQ.l0, pO, pO, pO]) (Ev.bind (Gr n x r (AB vals (i : Int)) b q) ?_); rw [hh]; exact Ev.congr (fun k => by rw [nS]) (Ev.now _)
    | true =>
      refine Ev.step (fun k => by rw [AQ.l0, pO, pO, pO]) (Ev.bind (Gr n x r (AB vals (i : Int)) b q) ?_); rw [hh]; refine Ev.congr (fun k => by rw [if_pos rfl, wO (n := (i : Int) + 1)] <;> rfl) (z (i + 1) (by omega) fun j u => ?_); by_cases e : j = i
      · rw [e]; exact hh
      · exact c j (by omega)
theorem LQ (n : Nat) (x : S26) (i : okT n x) (v : S30) (hv : okV n v) (l : List S63) (hl : l.length ≤ maxLen) (m : ∀ y ∈ l, okV n y.f1) (now : Int) (vals : List S30) (g : ∀ y ∈ vals, okV n y) (after : List Int) (c : after.length ≤ maxLen) (tr : Bool) :
    Ev (fun k => AQ.f k x.f0 x.f1 x.f2 x.f3 x.f4 v.f0 v.f1 v.f2 v.f3 l now vals after tr) (GN x v l now vals after tr) := by
  have hm := ml; have a : Ev (fun k => AQ.j0 k now vals after tr true x.f0 x.f1 x.f2 x.f3 x.f4 v.f0 v.f1 v.f2 v.f3 l) (0, 0, [], [], [], 2) := Ev.step (f := fun _ => some (0, 0, [], [], [], 2)) (fun k => by rw [AQ.j0, if_pos rfl]) (Ev.now _); unfold AQ.f GN; refine Ev.bind (OE n x i v hv l hl m) ?_; cases hp : GL x v l with
  | false => rw [nS]; exact Ev.congr (fun k => by rw [nS]) a
  | true =>
    refine Ev.congr (fun k => by rw [if_pos rfl]) ?_; by_cases a1 : now < 0
    · rw [nO]; exact Ev.congr (fun k => by rw [if_pos a1]) a
    by_cases a2 : now > 1000000
    · rw [nO]; exact Ev.congr (fun k => by rw [if_neg a1, if_pos a2]) a
    by_cases a3 : (vals.length : Int) < 1
    · rw [nO]; exact Ev.congr (fun k => by rw [if_neg a1, if_neg a2, if_pos a3]) a
    by_cases a4 : (vals.length : Int) > 64
    · rw [nO]; exact Ev.congr (fun k => by rw [if_neg a1, if_neg a2, if_neg a3, if_pos a4]) a
    by_cases a5 : (after.length : Int) = (vals.length : Int)
    · refine Ev.congr (fun k => by rw [if_neg a1, if_neg a2, if_neg a3, if_neg a4, if_pos a5]) (Ev.bind (OO after c) ?_); cases hr : ER (-1) after with
      | false => rw [nS]; exact a
      | true =>
        obtain ⟨j, d, b, hok⟩ := Kg hp; have e := LP n x i j v d l b hok now (by omega) (by omega) vals g (by omega) (by omega) after (by omega) hr tr vals.length 0 (by omega) (by omega); refine Ev.step (f := fun k => AQ.l0 k now vals after tr vals (vals.length : Int) ((0 : Nat) : Int) x.f0 x.f1 x.f2 x.f3 x.f4 v.f0 v.f1 v.f2 v.f3 l) (fun k => by rw [AQ.j0, nS]; rfl) ?_; by_cases hall : vals.all (DF x) = true
        · rw [if_pos hall] at e; rw [if_pos ⟨rfl, by omega, by omega, by omega, by omega, by omega, rfl, hall⟩]; exact e
        · rw [if_neg hall] at e; rw [if_neg (fun h => hall h.2.2.2.2.2.2.2)]; exact e
    · rw [nO]; exact Ev.congr (fun k => by rw [if_neg a1, if_neg a2, if_neg a3, if_neg a4, if_neg a5]) a
theorem Ki (now : Int) : ∀ (vals : List S30) (after : List Int), ∀ y ∈ F8 now vals after, y.f1 ∈ vals
  | [], _, y, h => by simp [F8] at h
  | a :: r, [], y, h => by simp [F8] at h
  | a :: r, n :: q, y, h => by
    rcases List.mem_cons.mp (show y ∈ (⟨now + n, a⟩ : S63) :: F8 now r q from h) with rfl | h
    · exact List.mem_cons_self
    · exact List.mem_cons_of_mem _ (Ki now r q y h)
theorem O4 (now : Int) (vals : List S30) (after : List Int) : (F8 now vals after).length ≤ vals.length := by unfold F8; rw [List.length_zipWith]; omega
theorem LU (m : Nat) (x : S26) (v : S30) (hv : smV m v) (l : List S63) (hl : l.length ≤ 100) (c : ∀ y ∈ l, smV m y.f1) (now : Int) (vals : List S30) (hn : vals.length ≤ 100) (a : ∀ y ∈ vals, smV m y) (after : List Int) (tr : Bool) :
    ∃ (u : S30) (r : List S63) (e : Int), GN x v l now vals after tr = (u.f0, u.f1, u.f2, u.f3, r, e) ∧ smV m u ∧ r.length ≤ 200 ∧ ∀ y ∈ r, smV m y.f1 := by
  have b : smV m ⟨0, 0, [], []⟩ := by cases m with | zero => exact hv.elim | succ m => exact ⟨by simp, by simp, by simp⟩
  unfold GN; split
  · split
    · exact ⟨⟨0, 0, [], []⟩, [], 5, rfl, b, by simp, by simp⟩
    · unfold IX; split
      · exact ⟨⟨0, 0, [], []⟩, [], 3, rfl, b, by simp, by simp⟩
      · refine ⟨v, _, 0, rfl, hv, ?_, fun y h => ?_⟩
        · have := O4 now vals after; rw [List.length_append, List.length_drop, List.length_take]; omega
        · rcases List.mem_append.mp h with h | h
          · exact c y (List.mem_of_mem_take (List.mem_of_mem_drop h))
          · exact a _ (Ki now vals after y h)
  · exact ⟨⟨0, 0, [], []⟩, [], 2, rfl, b, by simp, by simp⟩
theorem LV (n : Nat) (x : S26) (c : okT n x) (v : S30) (hv : okV n v) (l : List S63) (hl : ∀ y ∈ l, okV n y.f1) (now : Int) (vals : List S30) (a : ∀ y ∈ vals, okV n y) (after : List Int) (tr : Bool) :
    ExQ (fun k => Dr.f k x.f0 x.f1 x.f2 x.f3 x.f4 v.f0 v.f1 v.f2 v.f3 l now vals after tr) (fun t => t = true → l.length ≤ 80 ∧ vals.length ≤ 80 ∧ smV n v ∧ (∀ y ∈ vals, smV n y) ∧ (∀ y ∈ l, smV n y.f1) ∧ after.length ≤ 100) := by
  unfold Dr.f; refine ExQ.bind (Pt n x c v hv l hl vals a) fun t b => ?_; cases t with
  | false => exact ExQ.congr (fun k => by rw [nS]) (ExQ.now false (by simp))
  | true =>
    obtain ⟨d, e, g, i, j⟩ := b rfl; exact ExQ.congr (fun k => by rw [if_pos rfl]) (ExQ.now (decide ((after.length : Int) ≤ 100)) fun h => ⟨d, e, g, i, j, by have := of_decide_eq_true h; omega⟩)
theorem Kj (n : Nat) (x : S26) (b : x.f3.length ≤ maxLen) (v : S30) (g : smV n v) (l : List S63) (c : l.length ≤ 80) (e : ∀ y ∈ l, smV n y.f1) (now : Int) (vals : List S30) (after : List Int) (d : after.length ≤ 100) (tr a : Bool) :
    Ev (fun k => Bg.f k x.f0 x.f1 x.f2 x.f3 x.f4 v.f0 v.f1 v.f2 v.f3 l now vals after a tr) (GN x v l now vals after tr) := by
  have hm := ml; unfold Bg.f; exact Ev.bind (Pv n v g l (by omega) e) (Ev.bind (Mk x b v l (by omega) now vals after (by omega) tr) (Ev.now _))
theorem Kk (n : Nat) (x : S26) (b : okT n x) (v : S30) (hv : okV n v) (l : List S63) (hl : l.length ≤ maxLen) (h : ∀ y ∈ l, okV n y.f1) (now : Int) (vals : List S30) (a : ∀ y ∈ vals, okV n y) (after : List Int) (tr : Bool) :
    ∃ K, C8.f K x.f0 x.f1 x.f2 x.f3 x.f4 v.f0 v.f1 v.f2 v.f3 l now vals after tr = some true := by
  have hm := ml; have m : x.f3.length ≤ maxLen := by
    cases n with
    | zero => exact b.elim
    | succ n => exact b.2.2.2.2.1
  refine Ev.rounds (g := fun k => C8.f k x.f0 x.f1 x.f2 x.f3 x.f4 v.f0 v.f1 v.f2 v.f3 l now vals after tr) ?_; unfold C8.f; obtain ⟨t, q, o⟩ := LV n x b v hv l h now vals a after tr; have ha : Ev (fun k => (Eb.f k).bind fun t => some t) true := Ev.now true; refine Ev.bind q ?_; cases t with
  | false => exact Ev.congr (fun k => by rw [nS]) ha
  | true =>
    obtain ⟨z, I, i, B, j, D⟩ := o rfl; obtain ⟨u, r, e, p, s, G, w⟩ := LU n x v i l (by omega) j now vals (by omega) B after tr; have c := Kj n x m v i l z j now vals after D tr tr; have d := LQ n x b v hv l hl h now vals a after (by omega) tr; rw [p] at c d; refine Ev.congr (fun k => by rw [if_pos rfl]) (Ev.bind c (Ev.bind d (Ev.bind (LF n u s r (by omega) w) ?_))); exact Ev.congr (fun k => by rw [if_pos rfl, if_pos rfl]) ha
end Go.Proofs.Ytojankgmedccdaa.Pure
end
