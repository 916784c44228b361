/- Lemmas. -/
import Derived.Test.YtojankgmedccdaaYLPuG
import Derived.Test.YtojankgmedccdaaYLPRsx5
import Derived.Test.YtojankgmedccdaaYLPGnF12
section
namespace Go.Proofs.Ytojankgmedccdaa.Pure
open Go.RowKit Own PTy Hand PIs RowV Wo
theorem Oh (b : Int) (h : 0 ≤ b) : GM.f b = some (decide (b ≤ 3)) := by
  unfold GM.f; by_cases h0 : b = 0
  · rw [if_pos h0, decide_eq_true (by omega)]
  by_cases h1 : b = 1
  · rw [if_neg h0, if_pos h1, decide_eq_true (by omega)]
  by_cases h2 : b = 2
  · rw [if_neg h0, if_neg h1, if_pos h2, decide_eq_true (by omega)]
  rw [if_neg h0, if_neg h1, if_neg h2]; congr 1; rw [Bool.eq_iff_iff]; simp; omega
theorem NS (l : List Int) (hl : l.length ≤ maxLen) (hp : ∀ b ∈ l, 0 ≤ b) : Ev (fun k => D9.f k l) (isF l) := by
  have hm := ml; have key : ∀ d i, i + d = l.length → Ev (fun k => D9.l0 k l l (l.length : Int) (i : Int)) ((l.drop i).all (fun x => decide (x ≤ 3)) && (decide (1 ≤ l.length) && decide (l.length ≤ 64))) := by
    intro d; induction d with
    | zero =>
      intro i hi; rw [List.drop_eq_nil_of_le (by omega)]; refine Ev.step (f := fun _ => some (decide (1 ≤ l.length) && decide (l.length ≤ 64))) (fun k => ?_) (by simpa using Ev.now _); rw [D9.l0, if_neg (by omega)]; by_cases h : (l.length : Int) ≥ 1
      · rw [if_pos h, decide_eq_true (show 1 ≤ l.length by omega), Bool.true_and]; congr 1; rw [Bool.eq_iff_iff]; simp; omega
      · rw [if_neg h, decide_eq_false (show ¬ 1 ≤ l.length by omega)]; rfl
    | succ d g =>
      intro i hi; have a : i < l.length := by omega
      have c : rd l (i : Int) = l[i] := by
        unfold rd; rw [List.getD_eq_getElem?_getD, show ((i : Int)).toNat = i from rfl, List.getElem?_eq_getElem a]; rfl
      rw [List.drop_eq_getElem_cons a, List.all_cons]; by_cases h3 : l[i] ≤ 3
      · refine Ev.step (f := fun k => D9.l0 k l l (l.length : Int) ((i + 1 : Nat) : Int)) (fun k => ?_) (by simpa [h3] using g (i + 1) (by omega)); rw [D9.l0, if_pos (by omega), if_pos (by omega), if_pos (by omega), c, Oh _ (hp _ (List.getElem_mem a)), decide_eq_true h3, Option.bind_some, if_pos rfl, CQ (by omega) (by omega)]; rfl
      · refine Ev.step (f := fun _ => some false) (fun k => ?_) (by simpa [h3] using Ev.now _); rw [D9.l0, if_pos (by omega), if_pos (by omega), if_pos (by omega), c, Oh _ (hp _ (List.getElem_mem a)), decide_eq_false h3, Option.bind_some, if_neg (by simp)]
  have := key l.length 0 (by omega); have e : ((l.drop 0).all (fun x => decide (x ≤ 3)) && (decide (1 ≤ l.length) && decide (l.length ≤ 64))) = isF l := by
    unfold isF; rw [List.drop_zero, Bool.and_comm]
  rw [e] at this; exact this
def D6 (x : S26) (v : S30) : Bool := decide (v.f0 = x.f0) && (if x.f0 = 1 then (decide (v.f1 = 0) && decide (v.f3.length = 0) && (isF v.f2 && decide (v.f2.length = 1))) else (decide (v.f2.length = 0) && decide (v.f3.length = 0) && (if x.f0 = 2 then (decide (v.f1 = 0) || decide (v.f1 = 1)) else if x.f0 = 3 then (decide (-2147483648 ≤ v.f1) && decide (v.f1 ≤ 2147483647)) else (decide (0 ≤ v.f1) && decide (v.f1 < (x.f3.length : Int))))))
theorem PG (v : S30) : CE.f v.f0 v.f1 v.f2 v.f3 false true false = some (decide (v.f1 = 0) && decide (v.f3.length = 0)) := by
  unfold CE.f; by_cases h1 : v.f1 = 0 <;> simp [h1, EY]
theorem PH (v : S30) : CE.f v.f0 v.f1 v.f2 v.f3 true false false = some (decide (v.f2.length = 0) && decide (v.f3.length = 0)) := by
  unfold CE.f; by_cases h1 : v.f2.length = 0 <;> simp [h1, EY]; all_goals simp_all [EY]
theorem Pz (x : S26) (h : scB x = true) : x.f1 = 0 := by
  unfold scB HY F6 at h; split at h <;> simp_all
theorem IR (x : S26) (h : scB x = true) : Ep x = true ∨ x.f0 = 5 := by
  by_cases hx : Ep x = true ∨ x.f0 = 5
  · exact hx
  · rw [ND x hx] at h; cases h
theorem PI (x : S26) (v : S30) (a : scB x = true) : Ev (fun k => Ck.f k x.f0 x.f1 x.f2 x.f3 x.f4 v.f0 v.f1 v.f2 v.f3) (D6 x v) := by
  have b := IR x a; have h1 := Pz x a; rw [EI] at b; by_cases h0 : v.f0 = x.f0
  · unfold D6; rw [decide_eq_true h0, Bool.true_and]; by_cases k1 : x.f0 = 1
    · rw [if_pos k1]; refine Ev.congr (f := fun k => Ck.j0 k x.f0 true x.f0 x.f1 x.f2 x.f3 x.f4 v.f0 v.f1 v.f2 v.f3) (fun k => ?_) (Ev.step (f := fun _ => some (decide (v.f1 = 0) && decide (v.f3.length = 0) && (isF v.f2 && decide (v.f2.length = 1)))) (fun k => ?_) (Ev.now _))
      · unfold Ck.f; rw [if_pos h0, if_pos k1, k1]; rfl
      · rw [Ck.j0, if_pos rfl, PG, h1]; have hm : mx 0 1 = 1 := rfl; cases hb : (decide (v.f1 = 0) && decide (v.f3.length = 0)) with
        | false => simp
        | true =>
          rw [Option.bind_some, if_pos rfl, Fg.f, Option.bind_some, hm, Bool.true_and]; cases isF v.f2 with
          | false => rfl
          | true =>
            rw [if_pos rfl, Bool.true_and]; congr 1; rw [Bool.eq_iff_iff]; simp; omega
    · rw [if_neg k1]; refine Ev.congr (f := fun k => Ck.j0 k x.f0 false x.f0 x.f1 x.f2 x.f3 x.f4 v.f0 v.f1 v.f2 v.f3) (fun k => ?_) (Ev.step (f := fun _ => some (decide (v.f2.length = 0) && decide (v.f3.length = 0) && (if x.f0 = 2 then (decide (v.f1 = 0) || decide (v.f1 = 1)) else if x.f0 = 3 then (decide (-2147483648 ≤ v.f1) && decide (v.f1 ≤ 2147483647)) else (decide (0 ≤ v.f1) && decide (v.f1 < (x.f3.length : Int)))))) (fun k => ?_) (Ev.now _))
      · unfold Ck.f; rw [if_pos h0, if_neg k1, show (x.f0 == 4) = false from beq_eq_false_iff_ne.mpr (by omega)]
      · rw [Ck.j0, if_neg (by simp), PH]; cases hb : (decide (v.f2.length = 0) && decide (v.f3.length = 0)) with
        | false =>
          by_cases k2 : x.f0 = 2
          · rw [if_pos k2]; rfl
          by_cases k3 : x.f0 = 3
          · rw [if_neg k2, if_pos k3]; rfl
          rw [if_neg k2, if_neg k3, if_pos (by omega)]; rfl
        | true =>
          by_cases k2 : x.f0 = 2
          · rw [if_pos k2, if_pos k2, Option.bind_some, if_pos rfl, Bool.true_and]; by_cases q : v.f1 = 0
            · rw [if_pos q, decide_eq_true q]; rfl
            · rw [if_neg q, decide_eq_false q, Bool.false_or]; rfl
          by_cases k3 : x.f0 = 3
          · rw [if_neg k2, if_pos k3, if_neg k2, if_pos k3, Option.bind_some, if_pos rfl, Bool.true_and]; by_cases q : -2147483648 ≤ v.f1
            · rw [if_pos q, decide_eq_true q, Bool.true_and]
            · rw [if_neg q, decide_eq_false q]; rfl
          rw [if_neg k2, if_neg k3, if_pos (show x.f0 = 5 by omega), if_neg k2, if_neg k3, Option.bind_some, if_pos rfl, Bool.true_and]; by_cases q : 0 ≤ v.f1
          · rw [if_pos q, decide_eq_true q, Bool.true_and]
          · rw [if_neg q, decide_eq_false q]; rfl
  · have e : D6 x v = false := by unfold D6; rw [decide_eq_false h0]; rfl
    rw [e]; exact Ev.congr (fun k => by unfold Ck.f; rw [if_neg h0]) (Ev.now _)
theorem L6 (x : S26) (v : S30) (d : scB x = true) (hl : v.f2.length ≤ maxLen) (hp : ∀ b ∈ v.f2, 0 ≤ b) : Ev (fun k => CX.j0 k (v.f0 != x.f0) x.f0 x.f1 x.f2 x.f3 x.f4 v.f0 v.f1 v.f2 v.f3) (D6 x v) := by
  have c := IR x d; rw [EI] at c; by_cases h0 : v.f0 = x.f0
  · have a : (v.f0 != x.f0) = false := by simp [h0]
    rw [a]; unfold D6; rw [decide_eq_true h0, Bool.true_and]; by_cases k1 : x.f0 = 1
    · rw [if_pos k1]; refine Ev.step (f := fun k => if v.f1 = 0 then (if (v.f2.length : Int) = 1 then ((D9.f k v.f2).bind fun t208 => (if t208 = true then (some ((v.f3.length : Int) == 0)) else (some false))) else (some false)) else (some false)) (fun k => by rw [CX.j0, if_neg (by simp), if_pos k1]) ?_; by_cases q1 : v.f1 = 0
      · by_cases q2 : v.f2.length = 1
        · rw [decide_eq_true q1, decide_eq_true q2]; refine Ev.congr (f := fun k => (D9.f k v.f2).bind fun t208 => (if t208 = true then (some ((v.f3.length : Int) == 0)) else (some false))) (fun k => by rw [if_pos q1, if_pos (by omega)]) (Ev.bind (NS _ hl hp) ?_); refine Ev.congr (f := fun _ => some (true && decide (v.f3.length = 0) && (isF v.f2 && true))) (fun k => ?_) (Ev.now _); cases isF v.f2 with
          | false => simp
          | true => simp [EY]
        · rw [decide_eq_false q2]; exact Ev.congr (fun k => by rw [if_pos q1, if_neg (by omega)]) (by simpa using Ev.now _)
      · rw [decide_eq_false q1]; exact Ev.congr (fun k => by rw [if_neg q1]) (by simpa using Ev.now _)
    · rw [if_neg k1]; by_cases k2 : x.f0 = 2
      · rw [if_pos k2]; refine Ev.step (f := fun _ => some (decide (v.f2.length = 0) && decide (v.f3.length = 0) && (decide (v.f1 = 0) || decide (v.f1 = 1)))) (fun k => ?_) (Ev.now _); rw [CX.j0, if_neg (by simp), if_neg k1, if_pos k2]; by_cases q1 : v.f1 = 0
        · by_cases q2 : v.f2.length = 0
          · rw [if_pos q1, if_pos (by omega), EY]; simp [q1, q2]
          · rw [if_pos q1, if_neg (by omega)]; simp [show ¬ v.f2 = [] from fun e => q2 (by rw [e]; rfl)]
        · by_cases q3 : v.f1 = 1
          · by_cases q2 : v.f2.length = 0
            · rw [if_neg q1, if_pos q3, if_pos (by omega), EY]; simp [q3, q2]
            · rw [if_neg q1, if_pos q3, if_neg (by omega)]; simp [show ¬ v.f2 = [] from fun e => q2 (by rw [e]; rfl)]
          · rw [if_neg q1, if_neg q3]; simp [q1, q3]
      · rw [if_neg k2]; by_cases k3 : x.f0 = 3
        · rw [if_pos k3]; refine Ev.step (f := fun _ => some (decide (v.f2.length = 0) && decide (v.f3.length = 0) && (decide (-2147483648 ≤ v.f1) && decide (v.f1 ≤ 2147483647)))) (fun k => ?_) (Ev.now _); rw [CX.j0, if_neg (by simp), if_neg k1, if_neg k2, if_pos k3]; unfold FM.f; by_cases q1 : -2147483648 ≤ v.f1
          · by_cases q3 : v.f1 ≤ 2147483647
            · rw [if_pos q1, decide_eq_true q1, decide_eq_true q3, Option.bind_some, if_pos rfl]; by_cases q2 : v.f2.length = 0
              · rw [if_pos (by omega), EY]; simp [q2]
              · rw [if_neg (by omega)]; simp [show ¬ v.f2 = [] from fun e => q2 (by rw [e]; rfl)]
            · rw [if_pos q1, decide_eq_false q3]; simp
          · rw [if_neg q1, decide_eq_false q1]; simp
        · rw [if_neg k3]; refine Ev.step (f := fun _ => some (decide (v.f2.length = 0) && decide (v.f3.length = 0) && (decide (0 ≤ v.f1) && decide (v.f1 < (x.f3.length : Int))))) (fun k => ?_) (Ev.now _); rw [CX.j0, if_neg (by simp), if_neg k1, if_neg k2, if_neg k3, if_neg (by omega), if_pos (show x.f0 = 5 by omega)]; by_cases q1 : 0 ≤ v.f1
          · by_cases q3 : v.f1 < (x.f3.length : Int)
            · rw [if_pos q1, if_pos q3, decide_eq_true q1, decide_eq_true q3]; by_cases q2 : v.f2.length = 0
              · rw [if_pos (by omega), EY]; simp [q2]
              · rw [if_neg (by omega)]; simp [show ¬ v.f2 = [] from fun e => q2 (by rw [e]; rfl)]
            · rw [if_pos q1, if_neg q3, decide_eq_false q3]; simp
          · rw [if_neg q1, decide_eq_false q1]; simp
  · have e : D6 x v = false := by unfold D6; rw [decide_eq_false h0]; rfl
    rw [e]; exact Ev.step (f := fun _ => some false) (fun k => by rw [CX.j0, if_pos (by simpa using h0)]) (Ev.now _)
theorem Jr (x : S26) (v : S30) (a : scB x = true) (hl : x.f3.length ≤ maxLen) : Ev (fun k => CV.f k x.f0 x.f1 x.f2 x.f3 x.f4 v.f0 v.f1 v.f2 v.f3) (D6 x v) := by
  unfold CV.f; refine Ev.bind (KO x (IR x a) hl) ?_; rw [a]; exact Ev.congr (fun k => by rw [if_pos rfl]) (Ev.bind (PI x v a) (Ev.now _))
theorem JR (n : Nat) (x : S26) (d : okT n x) (v : S30) (hv : okV n v) (c : scB x = true) : Ev (fun k => CX.f k x.f0 x.f1 x.f2 x.f3 x.f4 v.f0 v.f1 v.f2 v.f3) (D6 x v) := by
  cases n with
  | zero => exact d.elim
  | succ n =>
    obtain ⟨_, _, e, _, hl, _, _⟩ := d; obtain ⟨_, _, g, a, _, _⟩ := hv; refine Ev.step (fun k => by rw [CX.f]) (Ev.bind (NC x (IR x c) e hl) ?_); rw [c]; refine Ev.congr (fun k => by rw [if_pos rfl]) (L6 x v c a fun b h => ?_); have := g b h; unfold Lit.wf at this; rw [Bool.and_eq_true, decide_eq_true_iff] at this; exact this.1
def Fa (x : S26) (l : List S63) : Nat → Nat → Int → Bool
  | 0, _, _ => true
  | d + 1, i, u => !decide ((AA l (i : Int)).f0 ≤ u) && (!decide ((AA l (i : Int)).f0 > 2000000) && (D6 x (AA l (i : Int)).f1 && Fa x l d (i + 1) (AA l (i : Int)).f0))
theorem I1 {l : List S63} {i : Nat} (h : i < l.length) : AA l (i : Int) ∈ l := by
  unfold AA; rw [List.getD_eq_getElem?_getD, show ((i : Int)).toNat = i from rfl, List.getElem?_eq_getElem h]; exact List.getElem_mem h
theorem P5 (x : S26) (b : scB x = true) (a : x.f3.length ≤ maxLen) (l : List S63) (hl : l.length ≤ maxLen) : ∀ d i u, i + d = l.length → Ev (fun k => BN.l0 k u l (l.length : Int) (i : Int) x.f0 x.f1 x.f2 x.f3 x.f4) (Fa x l d i u) := by
  have hm := ml; intro d; induction d with
  | zero =>
    intro i u hi; exact Ev.step (f := fun _ => some true) (fun k => by rw [BN.l0, if_neg (by omega)]) (Ev.now _)
  | succ d c =>
    intro i u hi; simp only [Fa]; by_cases h1 : (AA l (i : Int)).f0 ≤ u
    · exact Ev.step (f := fun _ => some false) (fun k => by rw [BN.l0, if_pos (by omega), if_pos (by omega), if_pos (by omega), if_pos h1]) (by simpa [h1] using Ev.now _)
    by_cases h2 : (AA l (i : Int)).f0 > 2000000
    · exact Ev.step (f := fun _ => some false) (fun k => by rw [BN.l0, if_pos (by omega), if_pos (by omega), if_pos (by omega), if_neg h1, if_pos h2]) (by simpa [h2] using Ev.now _)
    rw [decide_eq_false h1, decide_eq_false h2]; refine Ev.step (fun k => by rw [BN.l0, if_pos (by omega), if_pos (by omega), if_pos (by omega), if_neg h1, if_neg h2, CQ (by omega) (by omega)]) (Ev.bind (Jr x (AA l (i : Int)).f1 b a) ?_); cases D6 x (AA l (i : Int)).f1 with
    | false => exact Ev.congr (fun k => by rw [if_neg (by simp)]) (by simpa using Ev.now _)
    | true => exact Ev.congr (fun k => by rw [if_pos rfl]) (by simpa using c (i + 1) _ (by omega))
theorem NT (n : Nat) (x : S26) (b : okT n x) (a : scB x = true) (l : List S63) (hl : l.length ≤ maxLen) (hv : ∀ y ∈ l, okV n y.f1) : ∀ d i u, i + d = l.length → Ev (fun k => Db.l0 k u l (l.length : Int) (i : Int) x.f0 x.f1 x.f2 x.f3 x.f4) (Fa x l d i u) := by
  have hm := ml; intro d; induction d with
  | zero =>
    intro i u hi; exact Ev.step (f := fun _ => some true) (fun k => by rw [Db.l0, if_neg (by omega)]) (Ev.now _)
  | succ d c =>
    intro i u hi; simp only [Fa]; by_cases h1 : (AA l (i : Int)).f0 ≤ u
    · exact Ev.step (f := fun _ => some false) (fun k => by rw [Db.l0, if_pos (by omega), if_pos (by omega), if_pos (by omega), if_pos h1]) (by simpa [h1] using Ev.now _)
    by_cases h2 : (AA l (i : Int)).f0 > 2000000
    · exact Ev.step (f := fun _ => some false) (fun k => by rw [Db.l0, if_pos (by omega), if_pos (by omega), if_pos (by omega), if_neg h1, if_pos h2]) (by simpa [h2] using Ev.now _)
    rw [decide_eq_false h1, decide_eq_false h2]; refine Ev.step (fun k => by rw [Db.l0, if_pos (by omega), if_pos (by omega), if_pos (by omega), if_neg h1, if_neg h2, CQ (by omega) (by omega)]) (Ev.bind (JR n x b (AA l (i : Int)).f1 (hv _ (I1 (by omega))) a) ?_); cases D6 x (AA l (i : Int)).f1 with
    | false => exact Ev.congr (fun k => by rw [if_neg (by simp)]) (by simpa using Ev.now _)
    | true => exact Ev.congr (fun k => by rw [if_pos rfl]) (by simpa using c (i + 1) _ (by omega))
def EB (x : S26) (v : S30) (l : List S63) : Bool := scB x && (D6 x v && (decide (l.length ≤ 64) && Fa x l l.length 0 (-1)))
theorem NU (l : List S63) : (decide ((l.length : Int) > 64)) = !decide (l.length ≤ 64) := by rw [Bool.eq_iff_iff]; simp; omega
theorem NV (x : S26) (a : x.f3.length ≤ maxLen) (v : S30) (l : List S63) (hl : l.length ≤ maxLen) : Ev (fun k => BN.f k x.f0 x.f1 x.f2 x.f3 x.f4 v.f0 v.f1 v.f2 v.f3 l) (EB x v l) := by
  unfold BN.f EB; have b : Ev (fun k => BN.j0 k true x.f0 x.f1 x.f2 x.f3 x.f4 v.f0 v.f1 v.f2 v.f3 l) false := Ev.step (f := fun _ => some false) (fun k => by rw [BN.j0, if_pos rfl]) (Ev.now _); refine Ev.bind (Ls x a) ?_; cases hs : scB x with
  | false => exact Ev.congr (fun k => by rw [if_neg (by simp)]) (by simpa using b)
  | true =>
    refine Ev.congr (fun k => by rw [if_pos rfl]) (Ev.bind (Jr x v hs a) ?_); cases D6 x v with
    | false => exact Ev.congr (fun k => by rw [if_neg (by simp)]) (by simpa using b)
    | true =>
      refine Ev.congr (fun k => by rw [if_pos rfl, NU]) ?_; cases decide (l.length ≤ 64) with
      | false => simpa using b
      | true => exact Ev.step (f := fun k => BN.l0 k (-1) l (l.length : Int) ((0 : Nat) : Int) x.f0 x.f1 x.f2 x.f3 x.f4) (fun k => by rw [BN.j0, if_neg (by simp)]; rfl) (by simpa using P5 x hs a l hl l.length 0 (-1) (by omega))
theorem NW (n : Nat) (x : S26) (b : okT n x) (v : S30) (hv : okV n v) (l : List S63) (hl : l.length ≤ maxLen) (c : ∀ y ∈ l, okV n y.f1) : Ev (fun k => Db.f k x.f0 x.f1 x.f2 x.f3 x.f4 v.f0 v.f1 v.f2 v.f3 l) (EB x v l) := by
  unfold Db.f EB; have a : Ev (fun k => Db.j0 k true x.f0 x.f1 x.f2 x.f3 x.f4 v.f0 v.f1 v.f2 v.f3 l) false := Ev.step (f := fun _ => some false) (fun k => by rw [Db.j0, if_pos rfl]) (Ev.now _); refine Ev.bind (Ky n x b) ?_; cases hs : scB x with
  | false => exact Ev.congr (fun k => by rw [if_neg (by simp)]) (by simpa using a)
  | true =>
    refine Ev.congr (fun k => by rw [if_pos rfl]) (Ev.bind (JR n x b v hv hs) ?_); cases D6 x v with
    | false => exact Ev.congr (fun k => by rw [if_neg (by simp)]) (by simpa using a)
    | true =>
      refine Ev.congr (fun k => by rw [if_pos rfl, NU]) ?_; cases decide (l.length ≤ 64) with
      | false => simpa using a
      | true => exact Ev.step (f := fun k => Db.l0 k (-1) l (l.length : Int) ((0 : Nat) : Int) x.f0 x.f1 x.f2 x.f3 x.f4) (fun k => by rw [Db.j0, if_neg (by simp)]; rfl) (by simpa using NT n x b hs l hl c l.length 0 (-1) (by omega))
end Go.Proofs.Ytojankgmedccdaa.Pure
end
section
namespace Go.Proofs.Ytojankgmedccdaa.Pure
open Go.RowKit Own PTy Hand PIs RowV Wo
open PAw (r01Same.f r01Same.l0)
open PGn
def ExQ {α : Type} (g : Nat → Option α) (Q : α → Prop) : Prop := ∃ t, Ev g t ∧ Q t
section
variable {α β : Type} {g f : Nat → Option α} {Q : α → Prop}
theorem ExQ.now (t : α) (h : Q t) : ExQ (fun _ => some t) Q := ⟨t, Ev.now t, h⟩
theorem ExQ.step (h : ∀ k, g (k + 1) = f k) (a : ExQ f Q) : ExQ g Q := ⟨a.choose, Ev.step h a.choose_spec.1, a.choose_spec.2⟩
theorem ExQ.congr (h : ∀ k, g k = f k) (a : ExQ f Q) : ExQ g Q := ⟨a.choose, Ev.congr h a.choose_spec.1, a.choose_spec.2⟩
theorem ExQ.ite {c : Prop} [Decidable c] (h1 : c → ExQ g Q) (a : ¬ c → ExQ f Q) : ExQ (fun k => if c then g k else f k) Q := by
  by_cases h : c
  · simpa [h] using h1 h
  · simpa [h] using a h
theorem ExQ.bind {R : β → Prop} {g : Nat → Option β} {f : Nat → β → Option α} (h : ExQ g R) (b : ∀ t, R t → ExQ (fun k => f k t) Q) : ExQ (fun k => (g k).bind (f k)) Q := by
  obtain ⟨t, d, hr⟩ := h; obtain ⟨r, a, c⟩ := b t hr; exact ⟨r, Ev.bind d a, c⟩
theorem ExQ.of (h : Ex g) : ExQ g (fun _ => True) := ⟨h.choose, h.choose_spec, trivial⟩
end
def smV : Nat → S30 → Prop
  | 0, _ => False
  | m + 1, v => v.f2.length ≤ 9000 ∧ v.f3.length ≤ 9000 ∧ ∀ y ∈ v.f3, smV m y
theorem KS : ∀ m (v : S30), okV m v → ∀ a : Int, 0 ≤ a → a ≤ 9000 → ExQ (fun k => CR.f k v.f0 v.f1 v.f2 v.f3 a) (fun r => r < a ∧ (0 ≤ r → smV m v))
  | 0, _, h, _, _, _ => h.elim
  | m + 1, v, ⟨_, _, _, h4, h5, h6⟩, a, ha, ha9 => by
    have hm := ml; refine ExQ.step (fun k => by rw [CR.f]) ?_; obtain ⟨g, u⟩ : ∃ g, g = a - 1 - (v.f2.length : Int) := ⟨_, rfl⟩; have x : wrap64 (a - wrap64 (1 + (v.f2.length : Int))) = g := by unfold wrap64; omega
    rw [x]; have key : ∀ d i, i + d = v.f3.length → ∀ b : Int, b ≤ 9000 → ExQ (fun k => CR.l0 k b v.f3 (v.f3.length : Int) (i : Int)) (fun r => r ≤ b ∧ (0 ≤ r → (d : Int) ≤ b - r ∧ ∀ j, i ≤ j → j < v.f3.length → smV m (AB v.f3 (j : Int)))) := by
      intro d; induction d with
      | zero =>
        intro i hi b q; refine ExQ.step (f := fun _ => some b) (fun k => by rw [CR.l0, if_neg (by omega)]) (ExQ.now b ⟨by omega, fun _ => ⟨by omega, fun j h1 p => by omega⟩⟩)
      | succ d B =>
        intro i hi b q; by_cases hn : b < 0
        · exact ExQ.step (f := fun _ => some b) (fun k => by rw [CR.l0, if_pos (by omega), if_pos (by omega), if_pos (by omega), if_pos hn]) (ExQ.now b ⟨by omega, fun h => by omega⟩)
        · refine ExQ.step (fun k => by rw [CR.l0, if_pos (by omega), if_pos (by omega), if_pos (by omega), if_neg hn, CQ (n := (i : Int) + 1) (by omega) (by omega)]) (ExQ.bind (KS m _ (h6 _ (Fp (i := i) (by omega))) b (by omega) q) fun t w => ?_); obtain ⟨r, hr, l, c⟩ := B (i + 1) (by omega) t (by omega); refine ⟨r, hr, by omega, fun h0 => ?_⟩; obtain ⟨D, o⟩ := c h0; refine ⟨by omega, fun j h1 p => ?_⟩; by_cases e : j = i
          · rw [e]; exact w.2 (by omega)
          · exact o j (by omega) p
    obtain ⟨r, hr, l, c⟩ := key v.f3.length 0 (by omega) g (by omega); refine ⟨r, hr, by omega, fun h0 => ?_⟩; obtain ⟨D, o⟩ := c h0; refine ⟨by omega, by omega, fun y z => ?_⟩; obtain ⟨j, s, e⟩ := List.mem_iff_getElem.mp z; have := o j (by omega) s; unfold AB at this; rw [List.getD_eq_getElem?_getD, show ((j : Int)).toNat = j from rfl, List.getElem?_eq_getElem s] at this; exact e ▸ this
theorem NY (l : List S30) (hl : l.length ≤ maxLen) (m : Nat) (hv : ∀ y ∈ l, okV m y) : ExQ (fun k => BI.l2 k l (l.length : Int) 0) (fun t => t = true → ∀ j, j < l.length → smV m (AB l (j : Int))) := by
  have hm := ml; have key : ∀ d i, i + d = l.length → ExQ (fun k => BI.l2 k l (l.length : Int) (i : Int)) (fun t => t = true → ∀ j, i ≤ j → j < l.length → smV m (AB l (j : Int))) := by
    intro d; induction d with
    | zero => exact fun i hi => ExQ.step (f := fun _ => some true) (fun k => by rw [BI.l2, if_neg (by omega)]) (ExQ.now _ fun _ j h1 b => by omega)
    | succ d g =>
      intro i hi; refine ExQ.step (fun k => by rw [BI.l2, if_pos (by omega), if_pos (by omega), if_pos (by omega), CQ (n := (i : Int) + 1) (by omega) (by omega)]) (ExQ.bind (KS m _ (hv _ (Fp (i := i) (by omega))) 9000 (by omega) (by omega)) fun t c => ExQ.ite (fun _ => ExQ.now false (by simp)) fun h0 => ?_); obtain ⟨r, hr, a⟩ := g (i + 1) (by omega); refine ⟨r, hr, fun e j h1 b => ?_⟩; by_cases ej : j = i
      · rw [ej]; exact c.2 (by omega)
      · exact a e j (by omega) b
  obtain ⟨r, hr, a⟩ := key l.length 0 (by omega); exact ⟨r, hr, fun e j h => a e j (by omega) h⟩
theorem NZ (n : Nat) (x : S26) (e : okT n x) (l : List S30) (hl : l.length ≤ maxLen) (m : Nat) (hv : ∀ y ∈ l, okV m y) : ExQ (fun k => BI.f k x.f0 x.f1 x.f2 x.f3 x.f4 l) (fun t => t = true → ∀ j, j < l.length → smV m (AB l (j : Int))) := by
  have hm := ml; cases n with
  | zero => exact e.elim
  | succ n =>
    obtain ⟨_, _, _, _, h, o, g⟩ := e; have h1 : ∀ d i, i + d = x.f4.length → ExQ (fun k => BI.l1 k l x.f4 (x.f4.length : Int) (i : Int)) (fun t => t = true → ∀ j, j < l.length → smV m (AB l (j : Int))) := by
      intro d; induction d with
      | zero => exact fun i hi => ExQ.step (fun k => by rw [BI.l1, if_neg (by omega)] <;> rfl) (NY l hl m hv)
      | succ d c =>
        intro i hi; exact ExQ.step (fun k => by rw [BI.l1, if_pos (by omega), if_pos (by omega), if_pos (by omega), CQ (n := (i : Int) + 1) (by omega) (by omega)] <;> rfl) (ExQ.ite (fun _ => ExQ.now false (by simp)) fun _ => ExQ.bind (ExQ.of (KI n _ (g _ (Iz (i := i) (by omega))) [] (by simp) 0 (by simp))) fun t _ => ExQ.ite (fun _ => c (i + 1) (by omega)) fun _ => ExQ.now false (by simp))
    have h0 : ∀ d i, i + d = x.f3.length → ExQ (fun k => BI.l0 k l x.f3 (x.f3.length : Int) (i : Int) x.f0 x.f1 x.f2 x.f3 x.f4) (fun t => t = true → ∀ j, j < l.length → smV m (AB l (j : Int))) := by
      intro d; induction d with
      | zero => exact fun i hi => ExQ.step (fun k => by rw [BI.l0, if_neg (by omega)] <;> rfl) (h1 x.f4.length 0 (by omega))
      | succ d c =>
        intro i hi; exact ExQ.step (fun k => by rw [BI.l0, if_pos (by omega), if_pos (by omega), if_pos (by omega), CQ (n := (i : Int) + 1) (by omega) (by omega)] <;> rfl) (ExQ.ite (fun _ => ExQ.now false (by simp)) fun _ => c (i + 1) (by omega))
    have a : ∀ b, ExQ (fun k => BI.j0 k l b x.f0 x.f1 x.f2 x.f3 x.f4) (fun t => t = true → ∀ j, j < l.length → smV m (AB l (j : Int))) := fun b =>
      ExQ.step (fun k => by rw [BI.j0] <;> rfl) (ExQ.ite (fun _ => ExQ.now false (by simp)) fun _ => h0 x.f3.length 0 (by omega))
    exact ExQ.step (fun k => by rw [BI.f]) (ExQ.ite (fun _ => a _) fun _ => ExQ.ite (fun _ => a _) fun _ => a _)
theorem PK (n : Nat) (x : S26) (z : okT n x) (v : S30) (hv : okV n v) (l : List S63) (hl : ∀ y ∈ l, okV n y.f1) (a : List S30) (r : ∀ y ∈ a, okV n y) :
    ExQ (fun k => Cv.f k x.f0 x.f1 x.f2 x.f3 x.f4 v.f0 v.f1 v.f2 v.f3 l a) (fun t => t = true → l.length ≤ 80 ∧ a.length ≤ 80 ∧ smV n v ∧ (∀ y ∈ a, smV n y) ∧ ∀ y ∈ l, smV n y.f1) := by
  have hm := ml; have g : ExQ (fun k => Cv.j0 k a true x.f0 x.f1 x.f2 x.f3 x.f4 v.f0 v.f1 v.f2 v.f3 l) (fun t => t = true → l.length ≤ 80 ∧ a.length ≤ 80 ∧ smV n v ∧ (∀ y ∈ a, smV n y) ∧ ∀ y ∈ l, smV n y.f1) :=
    ExQ.step (f := fun _ => some false) (fun k => by rw [Cv.j0, if_pos rfl]) (ExQ.now _ (by simp))
  unfold Cv.f; by_cases h8 : (l.length : Int) > 80
  · exact ExQ.congr (fun k => by rw [if_pos h8]) g
  by_cases h9 : (a.length : Int) > 80
  · exact ExQ.congr (fun k => by rw [if_neg h8, decide_eq_true h9]) g
  refine ExQ.congr (f := fun k => Cv.j0 k a false x.f0 x.f1 x.f2 x.f3 x.f4 v.f0 v.f1 v.f2 v.f3 l) (fun k => by rw [if_neg h8, decide_eq_false h9]) ?_; have key : ∀ d i, i + d = l.length → ∀ ys : List S30, ys.length = a.length + 1 + i → (∀ y ∈ ys, okV n y) → (∀ y ∈ (v :: a), y ∈ ys) → (∀ j, j < i → (AA l (j : Int)).f1 ∈ ys) → ExQ (fun k => Cv.l0 k ys l (l.length : Int) (i : Int) x.f0 x.f1 x.f2 x.f3 x.f4) (fun t => t = true → l.length ≤ 80 ∧ a.length ≤ 80 ∧ smV n v ∧ (∀ y ∈ a, smV n y) ∧ ∀ y ∈ l, smV n y.f1) := by
    intro d; induction d with
    | zero =>
      intro i hi ys u q b p; refine ExQ.step (fun k => by rw [Cv.l0, if_neg (by omega)]) (ExQ.bind (NZ n x z ys (by omega) n q) fun t w => ⟨t, Ev.now t, fun e => ?_⟩); have hall : ∀ y ∈ ys, smV n y := by
        intro y s; obtain ⟨j, c, o⟩ := List.mem_iff_getElem.mp s; have := w e j c; unfold AB at this; rw [List.getD_eq_getElem?_getD, show ((j : Int)).toNat = j from rfl, List.getElem?_eq_getElem c] at this; exact o ▸ this
      refine ⟨by omega, by omega, hall _ (b v (by simp)), fun y h => hall _ (b y (by simp [h])), fun y h => ?_⟩; obtain ⟨j, c, o⟩ := List.mem_iff_getElem.mp h; have := hall _ (p j (by omega)); unfold AA at this; rw [List.getD_eq_getElem?_getD, show ((j : Int)).toNat = j from rfl, List.getElem?_eq_getElem c] at this; exact o ▸ this
    | succ d B =>
      intro i hi ys u q b p; have m : AA l (i : Int) ∈ l := by
        unfold AA; rw [List.getD_eq_getElem?_getD, show ((i : Int)).toNat = i from rfl, List.getElem?_eq_getElem (by omega)]; exact List.getElem_mem _
      refine ExQ.step (fun k => by rw [Cv.l0, if_pos (by omega), if_pos (by omega), if_pos (by omega), if_pos (by omega), CQ (n := (i : Int) + 1) (by omega) (by omega), IC] <;> rfl) (B (i + 1) (by omega) (ys ++ [(AA l (i : Int)).f1]) (by rw [List.length_append, u]; rfl) (fun y h => ?_) (fun y h => List.mem_append_left _ (b y h)) (fun j h => ?_))
      · rcases List.mem_append.mp h with h | h
        · exact q y h
        · rw [List.mem_singleton.mp h]; exact hl _ m
      · by_cases e : j = i
        · rw [e]; exact List.mem_append_right _ (by simp)
        · exact List.mem_append_left _ (p j (by omega))
  refine ExQ.step (fun k => ?_) (key l.length 0 (by omega) (v :: a) (by simp) (fun y h => ?_) (fun y h => h) (by omega))
  · rw [Cv.j0, if_neg (by simp), Option.bind_some, if_pos (by simp; omega), IC]; rfl
  · rcases List.mem_cons.mp h with rfl | h
    · exact hv
    · exact r y h
theorem Na {l : List S30} {i : Nat} (h : i < l.length) : AB l (i : Int) = l[i] := by
  unfold AB; rw [List.getD_eq_getElem?_getD, show ((i : Int)).toNat = i from rfl, List.getElem?_eq_getElem h]; rfl
theorem Fu {l : List S63} {i : Nat} (h : i < l.length) : AA l (i : Int) = l[i] := by
  unfold AA; rw [List.getD_eq_getElem?_getD, show ((i : Int)).toNat = i from rfl, List.getElem?_eq_getElem h]; rfl
theorem Js : ∀ m (v : S30), smV m v → Ev (fun k => Bu.f k v.f0 v.f1 v.f2 v.f3) (v.f0, v.f1, v.f2, v.f3)
  | 0, _, h => h.elim
  | m + 1, v, ⟨h1, h2, h3⟩ => by
    have hm := ml; refine Ev.step (fun k => by rw [Bu.f, Option.bind_some, if_pos (by simp; omega)]) ?_; have key : ∀ d i, i + d = v.f3.length → Ev (fun k => Bu.l0 k v.f3 (v.f3.length : Int) (i : Int) v.f0 v.f1 v.f2 (v.f3.take i)) (v.f0, v.f1, v.f2, v.f3) := by
      intro d; induction d with
      | zero =>
        intro i hi; rw [List.take_of_length_le (by omega)]; exact Ev.step (f := fun _ => some (v.f0, v.f1, v.f2, v.f3)) (fun k => by rw [Bu.l0, if_neg (by omega)]) (Ev.now _)
      | succ d b =>
        intro i hi; have a : i < v.f3.length := by omega
        refine Ev.step (fun k => by rw [Bu.l0, if_pos (by omega), if_pos (by omega), if_pos (by omega), CQ (n := (i : Int) + 1) (by omega) (by omega)]) (Ev.bind (Js m _ (h3 _ (Fp a))) ?_); refine Ev.congr (f := fun k => Bu.l0 k v.f3 (v.f3.length : Int) ((i + 1 : Nat) : Int) v.f0 v.f1 v.f2 (v.f3.take (i + 1))) (fun k => ?_) (b (i + 1) (by omega)); rw [if_pos (by rw [List.length_take]; omega), List.take_succ_eq_append_getElem a, IC, Na a]; rfl
    simpa using key v.f3.length 0 (by omega)
theorem KT (x : S63) : (⟨x.f0, x.f1⟩ : S63) = x := by cases x; rfl
theorem Nb (m : Nat) (v : S30) (hv : smV m v) (l : List S63) (hl : l.length ≤ 100) (b : ∀ y ∈ l, smV m y.f1) : Ev (fun k => Cm.f k v.f0 v.f1 v.f2 v.f3 l) (v.f0, v.f1, v.f2, v.f3, l) := by
  have hm := ml; unfold Cm.f; refine Ev.bind (Js m v hv) ?_; have key : ∀ d i, i + d = l.length → Ev (fun k => Cm.l0 k l (l.length : Int) (i : Int) v.f0 v.f1 v.f2 v.f3 (l.take i)) (v.f0, v.f1, v.f2, v.f3, l) := by
    intro d; induction d with
    | zero =>
      intro i hi; rw [List.take_of_length_le (by omega)]; exact Ev.step (f := fun _ => some (v.f0, v.f1, v.f2, v.f3, l)) (fun k => by rw [Cm.l0, if_neg (by omega)]) (Ev.now _)
    | succ d c =>
      intro i hi; have a : i < l.length := by omega
      refine Ev.step (fun k => by rw [Cm.l0, if_pos (by omega), if_pos (by omega), if_pos (by omega), CQ (n := (i : Int) + 1) (by omega) (by omega)]) (Ev.bind (Js m _ (b _ (I1 a))) ?_); refine Ev.congr (f := fun k => Cm.l0 k l (l.length : Int) ((i + 1 : Nat) : Int) v.f0 v.f1 v.f2 v.f3 (l.take (i + 1))) (fun k => ?_) (c (i + 1) (by omega)); rw [if_pos (by rw [List.length_take]; omega), List.take_succ_eq_append_getElem a, IC, KT, Fu a]; rfl
  simpa using key l.length 0 (by omega)
theorem Nc (l : List Int) (hl : l.length ≤ maxLen) : Ev (fun k => r01Same.f k l l) true := by
  have hm := ml; have key : ∀ d i, i + d = l.length → Ev (fun k => r01Same.l0 k l l (l.length : Int) (i : Int)) true := by
    intro d; induction d with
    | zero => intro i hi; exact Ev.step (f := fun _ => some true) (fun k => by rw [r01Same.l0, if_neg (by omega)]) (Ev.now _)
    | succ d a =>
      intro i hi; refine Ev.step (f := fun k => r01Same.l0 k l l (l.length : Int) ((i + 1 : Nat) : Int)) (fun k => ?_) (a (i + 1) (by omega)); rw [r01Same.l0, if_pos (by omega), if_pos (by omega), if_pos (by omega), if_pos (by omega), if_pos rfl, CQ (by omega) (by omega)]; rfl
  exact Ev.congr (fun k => by unfold r01Same.f; rw [if_pos rfl]; rfl) (key l.length 0 (by omega))
theorem I4 : ∀ m (v : S30), smV m v → Ev (fun k => PGn.Bc.f k v.f0 v.f1 v.f2 v.f3 v.f0 v.f1 v.f2 v.f3) true
  | 0, _, h => h.elim
  | m + 1, v, ⟨h1, h2, h3⟩ => by
    have hm := ml; refine Ev.step (fun k => by rw [PGn.Bc.f, if_pos rfl, if_pos rfl]) (Ev.bind (Nc v.f2 (by omega)) (Ev.congr (fun k => by rw [if_pos rfl, bne_self_eq_false]) (Ev.step (fun k => by rw [PGn.Bc.j0, if_neg (by simp)]) ?_))); have key : ∀ d i, i + d = v.f3.length → Ev (fun k => PGn.Bc.l0 k (v.f3.length : Int) (i : Int) v.f0 v.f1 v.f2 v.f3 v.f0 v.f1 v.f2 v.f3) true := by
      intro d; induction d with
      | zero => intro i hi; exact Ev.step (f := fun _ => some true) (fun k => by rw [PGn.Bc.l0, if_neg (by omega)]) (Ev.now _)
      | succ d a =>
        intro i hi; exact Ev.step (fun k => by rw [PGn.Bc.l0, if_pos (by omega), if_pos (by omega), if_pos (by omega), if_pos (by omega), CQ (n := (i : Int) + 1) (by omega) (by omega)]) (Ev.bind (I4 m _ (h3 _ (Fp (i := i) (by omega)))) (Ev.congr (fun k => by rw [if_pos rfl]; rfl) (a (i + 1) (by omega))))
    exact key v.f3.length 0 (by omega)
theorem I5 (m : Nat) (v : S30) (hv : smV m v) (l : List S63) (hl : l.length ≤ maxLen) (a : ∀ y ∈ l, smV m y.f1) : Ev (fun k => CL.f k v.f0 v.f1 v.f2 v.f3 l v.f0 v.f1 v.f2 v.f3 l) true := by
  have hm := ml; unfold CL.f; refine Ev.bind (I4 m v hv) (Ev.congr (fun k => by rw [if_pos rfl, bne_self_eq_false]) (Ev.step (fun k => by rw [CL.j0, if_neg (by simp)]) ?_)); have key : ∀ d i, i + d = l.length → Ev (fun k => CL.l0 k (l.length : Int) (i : Int) v.f0 v.f1 v.f2 v.f3 l v.f0 v.f1 v.f2 v.f3 l) true := by
    intro d; induction d with
    | zero => intro i hi; exact Ev.step (f := fun _ => some true) (fun k => by rw [CL.l0, if_neg (by omega)]) (Ev.now _)
    | succ d b =>
      intro i hi; exact Ev.step (fun k => by rw [CL.l0, if_pos (by omega), if_pos (by omega), if_pos (by omega), if_pos (by omega), if_pos rfl, CQ (n := (i : Int) + 1) (by omega) (by omega)]) (Ev.bind (I4 m _ (a _ (I1 (i := i) (by omega)))) (Ev.congr (fun k => by rw [if_pos rfl]; rfl) (b (i + 1) (by omega))))
  exact key l.length 0 (by omega)
theorem JS (m : Nat) (l : List S63) (hl : l.length ≤ maxLen) (a : ∀ y ∈ l, smV m y.f1) : Ev (fun k => DK.f k l l) true := by
  unfold DK.f; cases m with
  | zero =>
    have : l = [] := List.eq_nil_iff_forall_not_mem.mpr fun y h => a y h; subst this; exact Ev.bind (I5 1 ⟨0, 0, [], []⟩ ⟨by simp, by simp, by simp⟩ [] hl (by simp)) (Ev.now _)
  | succ m => exact Ev.bind (I5 (m + 1) ⟨0, 0, [], []⟩ ⟨by simp, by simp, by simp⟩ l hl a) (Ev.now _)
end Go.Proofs.Ytojankgmedccdaa.Pure
end
section
namespace Go.Proofs.Ytojankgmedccdaa.Pure
open Go.RowKit Own PTy Hand PIs RowV Wo
open PAw (drivers_copied.f logic_isBit.f logic_both.f logic_both.j0 logic_Resolve.f logic_Resolve.l0 r01Same.f r01Same.l0)
open PRs
theorem Jt (l : List Int) (i : Nat) (h : i < l.length) : rd l (i : Int) = l[i] := by
  unfold rd; rw [List.getD_eq_getElem?_getD, show ((i : Int)).toNat = i from rfl, List.getElem?_eq_getElem h]; rfl
end Go.Proofs.Ytojankgmedccdaa.Pure
end
section
namespace Go.Proofs.Ytojankgmedccdaa.Pure
open Go.RowKit Own PTy Hand PIs RowV Wo
open PAw (drivers_copied.f logic_isBit.f logic_both.f logic_both.j0 logic_Resolve.f logic_Resolve.l0 r01Same.f r01Same.l0)
open PRs
theorem Hu (x : S26) (v : S30) (h : D6 x v = true) : v.f0 = x.f0 ∧ v.f3 = [] ∧ (x.f0 = 1 → v.f2.length = 1) ∧ (x.f0 ≠ 1 → v.f2 = []) ∧ ∀ b ∈ v.f2, b ≤ 3 := by
  unfold D6 at h; rw [Bool.and_eq_true, decide_eq_true_iff] at h; obtain ⟨h0, h⟩ := h; by_cases k1 : x.f0 = 1
  · rw [if_pos k1] at h; simp only [Bool.and_eq_true, decide_eq_true_iff] at h; obtain ⟨⟨_, d⟩, hi, c⟩ := h; refine ⟨h0, List.length_eq_zero_iff.mp d, fun _ => c, fun h => absurd k1 h, fun b a => ?_⟩; unfold isF at hi; simp only [Bool.and_eq_true, List.all_eq_true, decide_eq_true_iff] at hi; exact hi.2 b a
  · rw [if_neg k1] at h; simp only [Bool.and_eq_true, decide_eq_true_iff] at h; have e := List.length_eq_zero_iff.mp h.1.1; exact ⟨h0, List.length_eq_zero_iff.mp h.1.2, fun h => absurd h k1, fun _ => e, fun b a => by rw [e] at a; cases a⟩
end Go.Proofs.Ytojankgmedccdaa.Pure
end
section
namespace Go.Proofs.Ytojankgmedccdaa.Pure
open Go.RowKit Own PTy Hand PIs RowV Wo
open PAw (drivers_behind.f drivers_copied.f api_Bit_96.f api_Bit_96.l0)
open PGn
def okL (x : S26) : Int → List S63 → Prop
  | _, [] => True
  | u, c :: r => u < c.f0 ∧ c.f0 ≤ 2000000 ∧ D6 x c.f1 = true ∧ okL x c.f0 r
theorem L8 (x : S26) (l : List S63) : ∀ d i u, i + d = l.length → Fa x l d i u = true → okL x u (l.drop i) := by
  intro d; induction d with
  | zero => intro i u hi _; rw [List.drop_eq_nil_of_le (by omega)]; trivial
  | succ d b =>
    intro i u hi h; have a : i < l.length := by omega
    rw [List.drop_eq_getElem_cons a]; simp only [Fa, Bool.and_eq_true, Bool.not_eq_true', decide_eq_false_iff_not, Fu a] at h; exact ⟨by omega, by omega, h.2.2.1, b (i + 1) _ (by omega) h.2.2.2⟩
theorem Ju {x : S26} : ∀ {u : Int} {l : List S63}, okL x u l → ∀ y ∈ l, u < y.f0 ∧ y.f0 ≤ 2000000 ∧ D6 x y.f1 = true
  | _, [], _, _, h => by cases h
  | u, c :: r, ⟨h1, h2, h3, h4⟩, y, h => by
    rcases List.mem_cons.mp h with rfl | h
    · exact ⟨h1, h2, h3⟩
    · obtain ⟨d, a, b⟩ := Ju h4 y h; exact ⟨by omega, a, b⟩
theorem PM {x : S26} {u a : Int} {l : List S63} (h : okL x u l) (b : a ≤ u) : okL x a l := by
  cases l with
  | nil => trivial
  | cons c r => exact ⟨by have := h.1; omega, h.2⟩
theorem Fv {x : S26} {v : S30} {l : List S63} (h : EB x v l = true) : scB x = true ∧ D6 x v = true ∧ l.length ≤ 64 ∧ okL x (-1) l := by
  unfold EB at h; simp only [Bool.and_eq_true, decide_eq_true_iff] at h; exact ⟨h.1, h.2.1, h.2.2.1, by simpa using L8 x l l.length 0 (-1) (by omega) h.2.2.2⟩
theorem Ha {x : S26} {v : S30} (h : D6 x v = true) : v.f2.length ≤ 1 := by
  obtain ⟨c, d, a, b, e⟩ := Hu x v h; by_cases k1 : x.f0 = 1
  · rw [a k1]; omega
  · rw [b k1]; simp
def eqV (v w : S30) : Bool := decide (v.f1 = w.f1) && decide (v.f2 = w.f2)
theorem OU (l m : List Int) (hl : l.length ≤ maxLen) (c : m.length ≤ maxLen) : Ev (fun k => api_Bit_96.f k l m) (decide (l = m)) := by
  have hm := ml; unfold api_Bit_96.f; by_cases h : l.length = m.length
  · have key : ∀ d i, i + d = l.length → Ev (fun k => api_Bit_96.l0 k l m (l.length : Int) (i : Int)) (decide (l.drop i = m.drop i)) := by
      intro d; induction d with
      | zero =>
        intro i hi; rw [List.drop_eq_nil_of_le (by omega), List.drop_eq_nil_of_le (by omega)]; exact Ev.step (f := fun _ => some true) (fun k => by rw [api_Bit_96.l0, if_neg (by omega)]) (by simpa using Ev.now _)
      | succ d g =>
        intro i hi; have a : i < l.length := by omega
        have b : i < m.length := by omega
        rw [List.drop_eq_getElem_cons a, List.drop_eq_getElem_cons b]; have hd : l[i] = m[i] → decide (l[i] :: l.drop (i + 1) = m[i] :: m.drop (i + 1)) = decide (l.drop (i + 1) = m.drop (i + 1)) := fun e => by rw [e]; exact decide_eq_decide.mpr ⟨fun h => (List.cons.inj h).2, fun h => by rw [h]⟩
        have hn : l[i] ≠ m[i] → decide (l[i] :: l.drop (i + 1) = m[i] :: m.drop (i + 1)) = false := fun e => decide_eq_false fun h => e (List.cons.inj h).1; by_cases e : l[i] = m[i]
        · refine Ev.step (f := fun k => api_Bit_96.l0 k l m (l.length : Int) ((i + 1 : Nat) : Int)) (fun k => ?_) (by rw [hd e]; exact g (i + 1) (by omega)); rw [api_Bit_96.l0, if_pos (by omega), if_pos (by omega), if_pos (by omega), if_pos (by omega), Jt l i a, Jt m i b, if_pos e, CQ (by omega) (by omega)]; rfl
        · refine Ev.step (f := fun _ => some false) (fun k => ?_) (by rw [hn e]; exact Ev.now _); rw [api_Bit_96.l0, if_pos (by omega), if_pos (by omega), if_pos (by omega), if_pos (by omega), Jt l i a, Jt m i b, if_neg e]
    exact Ev.congr (fun k => by rw [if_pos (by omega)]) (by simpa using key l.length 0 (by omega))
  · have e : decide (l = m) = false := decide_eq_false fun e => h (by rw [e]); rw [e]; exact Ev.congr (fun k => by rw [if_neg (by omega)]) (Ev.now _)
theorem Nf (x : S26) (g : scB x = true) (d : x.f3.length ≤ maxLen) (v w : S30) (hv : D6 x v = true) (c : D6 x w = true) : Ev (fun k => PGn.Cs.f k x.f0 x.f1 x.f2 x.f3 x.f4 v.f0 v.f1 v.f2 v.f3 w.f0 w.f1 w.f2 w.f3) (eqV v w) := by
  have hm := ml; have l1 := Ha hv; have l2 := Ha c; have h := (Hu x v hv).2.1; have i := (Hu x w c).2.1; have a := Jr x v g d; have b := Jr x w g d; rw [hv] at a; rw [c] at b; have key : Ev (fun k => PGn.Dc.f k v.f0 v.f1 v.f2 v.f3 w.f0 w.f1 w.f2 w.f3) (eqV v w) := by
    refine Ev.step (fun k => by rw [PGn.Dc.f]) ?_; unfold eqV; by_cases e : v.f1 = w.f1
    · refine Ev.congr (fun k => by rw [if_pos e]) (Ev.bind (OU v.f2 w.f2 (by omega) (by omega)) ?_); rw [decide_eq_true e, Bool.true_and]; by_cases e2 : v.f2 = w.f2
      · rw [decide_eq_true e2]; exact Ev.congr (fun k => by rw [if_pos rfl, h, i]; rfl) (Ev.now true)
      · rw [decide_eq_false e2]; exact Ev.congr (fun k => by rw [if_neg (by simp)]) (Ev.now false)
    · rw [decide_eq_false e, Bool.false_and]; exact Ev.congr (fun k => by rw [if_neg e]) (Ev.now false)
  unfold PGn.Cs.f PGn.EA.f; refine Ev.bind (a := (eqV v w, 0)) (Ev.bind a (Ev.congr (fun k => by rw [if_pos rfl]) (Ev.bind b (Ev.congr (fun k => by rw [if_pos rfl]) (Ev.bind key (Ev.now _)))))) ?_; cases eqV v w with
  | true => exact Ev.congr (fun k => by rw [if_pos rfl]; rfl) (Ev.now _)
  | false => exact Ev.congr (fun k => by rw [if_neg (by simp)]) (Ev.now _)
theorem Hw (x : S26) (v : S30) (hv : D6 x v = true) : drivers_copied.f v.f0 v.f1 v.f2 v.f3 = some (v.f0, v.f1, v.f2, v.f3) := by
  have := Ha hv; unfold drivers_copied.f Eg.f; rw [if_pos (by omega)]; rfl
def Gd (l : List S63) (now : Int) : Bool := match l with | [] => false | c :: _ => decide (c.f0 < now)
theorem JU (a b : Int) (m : List Int) (p : List S30) (l : List S63) (now : Int) : drivers_behind.f a b m p l now = some (Gd l now) := by
  unfold drivers_behind.f Gd; cases l with
  | nil => rfl
  | cons c r => rw [if_pos (by simp)]; first | rfl | (rw [if_pos (by simp)]; rfl)
def EP (e : Int) : S30 → List S63 → List S63
  | _, [] => []
  | v, c :: r => if c.f0 > e then [] else if eqV v c.f1 = true then EP e c.f1 r else c :: EP e c.f1 r
theorem Gs (e : Int) : ∀ (l : List S63) (v : S30), ∀ y ∈ EP e v l, y ∈ l
  | [], _, y, h => by cases h
  | c :: r, v, y, h => by
    unfold EP at h; split at h
    · cases h
    · split at h
      · exact List.mem_cons_of_mem _ (Gs e r _ y h)
      · rcases List.mem_cons.mp h with rfl | h
        · exact List.mem_cons_self
        · exact List.mem_cons_of_mem _ (Gs e r _ y h)
theorem Ng (x : S26) (h : scB x = true) (g : x.f3.length ≤ maxLen) (e : Int) (l : List S63) (hl : l.length ≤ 100) : ∀ d i u out (v : S30), i + d = l.length → out.length ≤ i → okL x u (l.drop i) → D6 x v = true →
    Ev (fun k => PGn.Ag.l0 k e out l (l.length : Int) (i : Int) x.f0 x.f1 x.f2 x.f3 x.f4 v.f0 v.f1 v.f2 v.f3) (out ++ EP e v (l.drop i), 0) := by
  have hm := ml; intro d; induction d with
  | zero =>
    intro i u out v hi ho _ hv; rw [List.drop_eq_nil_of_le (by omega)]; exact Ev.step (f := fun _ => some (out, 0)) (fun k => by rw [PGn.Ag.l0, if_neg (by omega)]) (by simpa [EP] using Ev.now _)
  | succ d c =>
    intro i u out v hi ho hok hv; have a : i < l.length := by omega
    rw [List.drop_eq_getElem_cons a] at hok ⊢; obtain ⟨_, _, b, hr⟩ := hok; have hg : AA l (i : Int) = l[i] := Fu a; by_cases h1 : l[i].f0 > e
    · unfold EP; rw [if_pos h1]; exact Ev.step (f := fun _ => some (out, 0)) (fun k => by rw [PGn.Ag.l0, if_pos (by omega), if_pos (by omega), if_pos (by omega), hg, if_pos h1]) (by simpa using Ev.now _)
    · unfold EP; rw [if_neg h1]; refine Ev.step (fun k => by rw [PGn.Ag.l0, if_pos (by omega), if_pos (by omega), if_pos (by omega), hg, if_neg h1, CQ (n := (i : Int) + 1) (by omega) (by omega)]) (Ev.bind (Nf x h g v l[i].f1 hv b) ?_); cases he : eqV v l[i].f1 with
      | true => exact Ev.congr (fun k => by rw [if_pos rfl] <;> rfl) (by simpa using c (i + 1) _ out l[i].f1 (by omega) (by omega) hr b)
      | false =>
        refine Ev.congr (f := fun k => PGn.Ag.l0 k e (out ++ [l[i]]) l (l.length : Int) ((i + 1 : Nat) : Int) x.f0 x.f1 x.f2 x.f3 x.f4 l[i].f1.f0 l[i].f1.f1 l[i].f1.f2 l[i].f1.f3) (fun k => ?_) (by simpa using c (i + 1) _ (out ++ [l[i]]) l[i].f1 (by omega) (Nat.le_trans (Nat.le_of_eq (List.length_append ..)) (by show out.length + 1 ≤ i + 1; omega)) hr b); rw [if_neg (by simp), Hw x _ b, Option.bind_some, if_pos (by omega), IC, KT] <;> rfl
def Jv (x : S26) (v : S30) (l : List S63) (a b : Int) : List S63 × Int :=
  if EB x v l = true ∧ (0 ≤ a ∧ 0 ≤ b) ∧ a ≤ 2000000 ∧ b ≤ 2000000 then (if Gd l a = true then ([], 5) else (EP b v l, 0)) else ([], 2)
theorem Nh (x : S26) (d : x.f3.length ≤ maxLen) (v : S30) (l : List S63) (hl : l.length ≤ maxLen) (a b : Int) : Ev (fun k => PGn.Ag.f k x.f0 x.f1 x.f2 x.f3 x.f4 v.f0 v.f1 v.f2 v.f3 l a b) (Jv x v l a b) := by
  have c : Ev (fun k => PGn.Ag.j0 k a b true x.f0 x.f1 x.f2 x.f3 x.f4 v.f0 v.f1 v.f2 v.f3 l) ([], 2) := Ev.step (f := fun _ => some ([], 2)) (fun k => by rw [PGn.Ag.j0, if_pos rfl]) (Ev.now _); unfold PGn.Ag.f Jv; refine Ev.bind (NV x d v l hl) ?_; cases hp : EB x v l with
  | false => rw [if_neg (by simp)]; exact Ev.congr (fun k => by rw [if_neg (by simp)]) c
  | true =>
    refine Ev.congr (fun k => by rw [if_pos rfl]) ?_; by_cases h1 : mn a b < 0
    · rw [if_neg (by unfold mn at h1; split at h1 <;> omega)]; exact Ev.congr (fun k => by rw [if_pos h1]) c
    by_cases h2 : mx a b > 2000000
    · rw [if_neg (by unfold mx at h2; split at h2 <;> omega)]; exact Ev.congr (fun k => by rw [if_neg h1, decide_eq_true h2]) c
    rw [if_pos ⟨rfl, ⟨by unfold mn at h1; split at h1 <;> omega, by unfold mn at h1; split at h1 <;> omega⟩, by unfold mx at h2; split at h2 <;> omega, by unfold mx at h2; split at h2 <;> omega⟩]; refine Ev.congr (fun k => by rw [if_neg h1, decide_eq_false h2]) (Ev.step (fun k => by rw [PGn.Ag.j0, if_neg (by simp), JU, Option.bind_some]) ?_); cases hb : Gd l a with
    | true =>
      show Ev _ (([] : List S63), (5 : Int)); exact Ev.congr (fun k => by rw [if_pos rfl]) (Ev.now _)
    | false =>
      obtain ⟨g, hv, e, hok⟩ := Fv hp; exact Ev.congr (fun k => by rw [if_neg (by simp)]) (by simpa using Ng x g d b l (by omega) l.length 0 (-1) [] v (by omega) (by simp) hok hv)
end Go.Proofs.Ytojankgmedccdaa.Pure
end
section
namespace Go.Proofs.Ytojankgmedccdaa.Pure
open Go.RowKit Own PTy Hand PIs RowV Wo
open PAw (drivers_all.f drivers_all.l0 drivers_rising.f drivers_rising.l0)
open PGn
theorem OV (x : S26) (l : List S63) (hl : l.length ≤ 100) (hv : ∀ y ∈ l, D6 x y.f1 = true) : Ev (fun k => drivers_all.f k l) l := by
  have hm := ml; unfold drivers_all.f; have key : ∀ d i, i + d = l.length → Ev (fun k => drivers_all.l0 k (l.take i) l (l.length : Int) (i : Int)) l := by
    intro d; induction d with
    | zero =>
      intro i hi; rw [List.take_of_length_le (by omega)]; exact Ev.step (f := fun _ => some l) (fun k => by rw [drivers_all.l0, if_neg (by omega)]) (Ev.now _)
    | succ d b =>
      intro i hi; have a : i < l.length := by omega
      have hg : AA l (i : Int) = l[i] := Fu a; refine Ev.step (f := fun k => drivers_all.l0 k (l.take (i + 1)) l (l.length : Int) ((i + 1 : Nat) : Int)) (fun k => ?_) (b (i + 1) (by omega)); rw [drivers_all.l0, if_pos (by omega), if_pos (by omega), if_pos (by omega), hg, Hw x _ (hv _ (List.getElem_mem a)), Option.bind_some, if_pos (by rw [List.length_take]; omega), CQ (n := (i : Int) + 1) (by omega) (by omega), IC, KT, List.take_succ_eq_append_getElem a]; rfl
  exact Ev.congr (fun k => by rw [if_pos (by omega), if_pos (by omega)]) (by simpa using key l.length 0 (by omega))
def Oi : Int → List Int → Bool
  | _, [] => true
  | u, n :: r => !decide (n ≤ u) && (!decide (n > 1000000) && Oi n r)
end Go.Proofs.Ytojankgmedccdaa.Pure
end
section
namespace Go.Proofs.Ytojankgmedccdaa.Pure
open Go.RowKit Own PTy Hand PIs RowV Wo
open PGn
section
variable (x : S26) (v : S30) (now : Int) (h0 : 0 ≤ now) (h1 : now ≤ 1000000) (vals : List S30) (hn : vals.length ≤ 64) (after : List Int) (ha : after.length = vals.length) (hr : Oi (-1) after = true) (hall : ∀ y ∈ vals, D6 x y = true)
include h0 h1 hn ha hr hall
variable (hv : D6 x v = true) (l : List S63) (hl : l.length ≤ 64) (hok : okL x (-1) l)
include hv hl hok
end
end Go.Proofs.Ytojankgmedccdaa.Pure
end
section
namespace Go.Proofs.Ytojankgmedccdaa.Pure
open Go.RowKit Own PTy Hand PIs RowV Wo
open PGn
theorem L9 (x : S26) (l : List S63) : ∀ d i u, i + d = l.length → okL x u (l.drop i) → Fa x l d i u = true := by
  intro d; induction d with
  | zero => intro i u _ _; rfl
  | succ d e =>
    intro i u hi h; have a : i < l.length := by omega
    rw [List.drop_eq_getElem_cons a] at h; obtain ⟨h1, g, b, c⟩ := h; simp only [Fa, Bool.and_eq_true, Bool.not_eq_true', decide_eq_false_iff_not, Fu a]; exact ⟨by omega, by omega, b, e (i + 1) _ (by omega) c⟩
theorem Nk {x : S26} {v : S30} {l : List S63} (b : scB x = true) (hv : D6 x v = true) (a : l.length ≤ 64) (hok : okL x (-1) l) : EB x v l = true := by
  unfold EB; rw [b, hv, decide_eq_true a, L9 x l l.length 0 (-1) (by omega) (by simpa using hok)]; rfl
end Go.Proofs.Ytojankgmedccdaa.Pure
end
section
namespace Go.Proofs.Ytojankgmedccdaa.Pure
open Go.RowKit Own PTy Hand PIs RowV Wo
open PAw (drivers_all.f drivers_all.l0)
open PGn
theorem JV (x : S26) (a : x.f3.length ≤ maxLen) (v : S30) (l : List S63) (hl : l.length ≤ maxLen) (hp : EB x v l = true) : Ev (fun k => PGn.Ca.f k x.f0 x.f1 x.f2 x.f3 x.f4 v.f0 v.f1 v.f2 v.f3 l) (match l with | [] => (0, 4) | c :: _ => (c.f0, 0)) := by
  unfold PGn.Ca.f; refine Ev.bind (NV x a v l hl) ?_; rw [hp]; cases l with
  | nil => exact Ev.congr (fun k => by rw [if_pos rfl, if_pos (by simp)]) (Ev.now _)
  | cons c r => exact Ev.congr (fun k => by rw [if_pos rfl, if_neg (by simp; omega), if_pos (by simp)]; rfl) (Ev.now _)
theorem MB (x : S26) (e : x.f3.length ≤ maxLen) (v : S30) (c : S63) (r : List S63) (hp : EB x v (c :: r) = true) : Ev (fun k => Av.f k x.f0 x.f1 x.f2 x.f3 x.f4 v.f0 v.f1 v.f2 v.f3 (c :: r) c.f0) (c.f1.f0, c.f1.f1, c.f1.f2, c.f1.f3, r, true, 0) := by
  have hm := ml; obtain ⟨i, hv, b, hok⟩ := Fv hp; have d : ∀ y ∈ c :: r, D6 x y.f1 = true := fun y h => (Ju hok y h).2.2; obtain ⟨j, l, m, n⟩ := hok; unfold Av.f; refine Ev.bind (NV x e v (c :: r) (by omega)) ?_; rw [hp]; refine Ev.congr (fun k => by rw [if_pos rfl, if_neg (show ¬ c.f0 < 0 by omega), decide_eq_false (show ¬ c.f0 > 2000000 by omega)]) (Ev.step (fun k => by rw [Av.j0, if_neg (by simp), JU, Option.bind_some]) ?_); rw [show Gd (c :: r) c.f0 = false from decide_eq_false (by omega)]; have g := d c List.mem_cons_self; refine Ev.congr (f := fun k => Av.j1 k false v.f0 v.f1 v.f2 v.f3 (c :: r)) (fun k => ?_) ?_
  · rw [if_neg (by simp), if_neg (by simp; omega), if_pos (by simp), show AA (c :: r) 0 = c from rfl, show (c.f0 != c.f0) = false from bne_eq_false_iff_eq.mpr rfl]
  refine Ev.step (f := fun k => (drivers_all.f k r).bind fun a => (some (c.f1.f0, c.f1.f1, c.f1.f2, c.f1.f3, a, true, 0))) (fun k => ?_) (Ev.bind (OV x r (by simp at b; omega) fun y h => d y (List.mem_cons_of_mem _ h)) (Ev.now _)); rw [Av.j1, if_neg (by simp), if_pos (by simp), show AA (c :: r) 0 = c from rfl, Hw x c.f1 g, Option.bind_some, if_pos (by simp; omega)]; rfl
theorem Nl (x : S26) (a : x.f3.length ≤ maxLen) (v : S30) (l : List S63) (hp : EB x v l = true) : Ev (fun k => Cu.f k x.f0 x.f1 x.f2 x.f3 x.f4 v.f0 v.f1 v.f2 v.f3 l) (l, true) := by
  have hm := ml; have key : ∀ (r : List S63) (v : S30) (i : Nat) (out : List S63), EB x v r = true → i + r.length ≤ 64 → out.length ≤ i → Ev (fun k => Cu.l0 k out (i : Int) x.f0 x.f1 x.f2 x.f3 x.f4 v.f0 v.f1 v.f2 v.f3 r) (out ++ r, true) := by
    intro r; induction r with
    | nil =>
      intro v i out hp hi ho; rw [List.append_nil]; refine Ev.step (fun k => by rw [Cu.l0, if_pos (by simp at hi; omega)]) (Ev.bind (JV x a v [] (by simp) hp) ?_); exact Ev.congr (fun k => by rw [if_pos rfl]) (Ev.now _)
    | cons c r h =>
      intro v i out hp hi ho; rw [List.length_cons] at hi; obtain ⟨g, hv, d, hok⟩ := Fv hp; have b : EB x c.f1 r = true := Nk g hok.2.2.1 (by omega) (PM hok.2.2.2 (by have := hok.1; omega)); have e := h c.f1 (i + 1) (out ++ [c]) b (by omega) (by rw [List.length_append]; simp; omega); rw [List.append_assoc, List.singleton_append] at e; refine Ev.step (fun k => by rw [Cu.l0, if_pos (by omega)]) (Ev.bind (JV x a v (c :: r) (by simp; omega) hp) ?_); refine Ev.congr (fun k => by rw [if_neg (show ¬ ((c.f0, (0 : Int)).2 = 4) by simp)]) (Ev.bind (MB x a v c r hp) ?_); refine Ev.congr (fun k => ?_) e; rw [if_pos rfl, if_pos rfl, if_pos rfl, if_pos (by omega), CQ (n := (i : Int) + 1) (by omega) (by omega), IC, KT]; rfl
  unfold Cu.f; have := key l v 0 [] hp (by have := (Fv hp).2.2.1; omega) (by simp); simpa using this
end Go.Proofs.Ytojankgmedccdaa.Pure
end
section
namespace Go.Proofs.Ytojankgmedccdaa.Pure
open Go.RowKit Own PTy Hand PIs RowV Wo
open PAw (r01Same.f r01Same.l0)
open PGn
theorem Nn (l m : List Int) (hl : l.length ≤ 1) (hm : m.length ≤ 1) : Ev (fun k => r01Same.f k l m) (decide (l = m)) := by
  unfold r01Same.f; match l, m, hl, hm with
  | [], [], _, _ => exact Ev.congr (fun k => by rw [if_pos rfl]) (Ev.step (f := fun _ => some true) (fun k => by rw [r01Same.l0, if_neg (by simp)]) (Ev.now _))
  | [_], [], _, _ => exact Ev.congr (f := fun _ => some false) (fun k => by rw [if_neg (by simp)]) (Ev.now _)
  | [], [_], _, _ => exact Ev.congr (f := fun _ => some false) (fun k => by rw [if_neg (by simp)]) (Ev.now _)
  | [a], [b], _, _ =>
    refine Ev.congr (f := fun k => r01Same.l0 k [a] [b] 1 0) (fun k => if_pos rfl) ?_
    by_cases e : a = b
    · subst e; refine Ev.step (fun k => by rw [r01Same.l0, if_pos (by simp), if_pos (by omega), if_pos (by simp), if_pos (by simp), if_pos rfl, show wrap64 (0 + 1) = 1 from CQ (by omega) (by omega)]) ?_; rw [decide_eq_true rfl]; exact Ev.step (f := fun _ => some true) (fun k => by rw [r01Same.l0, if_neg (by simp)]) (Ev.now _)
    · rw [decide_eq_false (by simpa using e)]; exact Ev.step (f := fun _ => some false) (fun k => by rw [r01Same.l0, if_pos (by simp), if_pos (by omega), if_pos (by simp), if_pos (by simp), if_neg (show ¬ rd [a] 0 = rd [b] 0 from e)]) (Ev.now _)
theorem MC (x : S26) (v w : S30) (hv : D6 x v = true) (i : D6 x w = true) : Ev (fun k => PGn.Bc.f k v.f0 v.f1 v.f2 v.f3 w.f0 w.f1 w.f2 w.f3) (eqV v w) := by
  have e : ∀ u, D6 x u = true → u.f0 = x.f0 ∧ u.f3 = [] := by
    intro u g; unfold D6 at g; simp only [Bool.and_eq_true, decide_eq_true_eq] at g; refine ⟨g.1, ?_⟩; have := g.2; split at this <;> simp only [Bool.and_eq_true, decide_eq_true_eq] at this
    · exact List.length_eq_zero_iff.mp this.1.2
    · exact List.length_eq_zero_iff.mp this.1.2
  obtain ⟨a, b⟩ := e v hv; obtain ⟨c, d⟩ := e w i; have h : ∀ a b l m c d p q, Ev (fun k => PGn.Bc.j0 k true a b l m c d p q) false := fun a b l m c d p q => Ev.step (f := fun _ => some false) (fun k => by rw [PGn.Bc.j0, if_pos rfl]) (Ev.now _); unfold eqV; by_cases e1 : v.f1 = w.f1
  · rw [decide_eq_true e1, Bool.true_and]; refine Ev.step (fun k => by rw [PGn.Bc.f, if_pos (a.trans c.symm), if_pos e1]) (Ev.bind (Nn v.f2 w.f2 (Ha hv) (Ha i)) ?_); by_cases e2 : v.f2 = w.f2
    · rw [decide_eq_true e2, b, d]; refine Ev.congr (fun k => by rw [if_pos rfl, bne_self_eq_false]) (Ev.step (fun k => by rw [PGn.Bc.j0, if_neg (by simp)]) ?_); exact Ev.step (f := fun _ => some true) (fun k => by rw [PGn.Bc.l0, if_neg (by simp)]) (Ev.now _)
    · rw [decide_eq_false e2]; exact Ev.congr (fun k => by rw [if_neg (by simp)]) (h _ _ _ _ _ _ _ _)
  · rw [decide_eq_false e1, Bool.false_and]; exact Ev.step (fun k => by rw [PGn.Bc.f, if_pos (a.trans c.symm), if_neg e1]) (h _ _ _ _ _ _ _ _)
theorem KU (e : Int) (v : S30) (c : S63) (r : List S63) : EP e v (c :: r) = if c.f0 > e then [] else if eqV v c.f1 = true then EP e c.f1 r else c :: EP e c.f1 r := rfl
theorem PN (n : Nat) (x : S26) (q : x.f3.length ≤ maxLen) (v : S30) (l : List S63) (hp : EB x v l = true) (z : smV n v) (p : ∀ y ∈ l, smV n y.f1) :
    ∀ d i (u : S30) (out : List S63), i + d = l.length → out.length ≤ i → D6 x u = true → out ++ EP 2000000 u (l.drop i) = EP 2000000 v l → Ev (fun k => AZ.l0 k out l (l.length : Int) (i : Int) x.f0 x.f1 x.f2 x.f3 x.f4 v.f0 v.f1 v.f2 v.f3 l u.f0 u.f1 u.f2 u.f3) true := by
  have hm := ml; obtain ⟨B, hv, s, hok⟩ := Fv hp; have g : Ev (fun k => (EJ.f k).bind fun t => some t) true := Ev.now true; intro d; induction d with
  | zero =>
    intro i u out hi ho m a; rw [List.drop_eq_nil_of_le (by omega), show EP 2000000 u [] = [] from rfl, List.append_nil] at a; have w : Gd l 0 = false := by
      cases l with
      | nil => rfl
      | cons c r => exact decide_eq_false (by have := hok.1; omega)
    have t := Nh x q v l (by omega) 0 2000000; rw [show Jv x v l 0 2000000 = (out, 0) from by unfold Jv; rw [if_pos ⟨hp, ⟨by omega, by omega⟩, by omega, by omega⟩, w, if_neg (by simp), a]] at t; refine Ev.step (fun k => by rw [AZ.l0, if_neg (by omega)]) (Ev.bind (Nb n v z l (by omega) p) (Ev.bind t ?_)); refine Ev.congr (fun k => by rw [if_pos rfl]) (Ev.bind (JS n out (by omega) (fun y h => p y (Gs 2000000 l v y (by rw [← a]; exact h)))) ?_); exact Ev.congr (fun k => by rw [if_pos rfl]) g
  | succ d o =>
    intro i u out hi ho m a; have b : i < l.length := by omega
    have hg := Fu (l := l) b; have j := Ju hok _ (List.getElem_mem b); rw [List.drop_eq_getElem_cons b] at a; rw [KU, if_neg (by omega)] at a; refine Ev.step (fun k => by rw [AZ.l0, if_pos (by omega), if_pos (by omega), if_pos (by omega), hg]) (Ev.bind (MC x u _ m j.2.2) ?_); by_cases e : eqV u l[i].f1 = true
    · rw [if_pos e] at a; exact Ev.congr (fun k => by rw [if_pos e, CQ (n := (i : Int) + 1) (by omega) (by omega)] <;> rfl) (o (i + 1) _ out (by omega) (by omega) j.2.2 a)
    · rw [if_neg e] at a; exact Ev.congr (fun k => by rw [if_neg e, if_pos (by omega), CQ (n := (i : Int) + 1) (by omega) (by omega), IC, KT] <;> rfl) (o (i + 1) _ (out ++ [l[i]]) (by omega) (by rw [List.length_append]; simp; omega) j.2.2 (by rw [List.append_assoc, List.singleton_append]; exact a))
theorem OW (n : Nat) (x : S26) (a : okT n x) (v : S30) (hv : okV n v) (l : List S63) (hl : l.length ≤ maxLen) (e : ∀ y ∈ l, okV n y.f1) :
    ∃ K, AZ.f K x.f0 x.f1 x.f2 x.f3 x.f4 v.f0 v.f1 v.f2 v.f3 l = some true := by
  have hm := ml; have c : x.f3.length ≤ maxLen := by
    cases n with
    | zero => exact a.elim
    | succ n => exact a.2.2.2.2.1
  refine Ev.rounds (g := fun k => AZ.f k x.f0 x.f1 x.f2 x.f3 x.f4 v.f0 v.f1 v.f2 v.f3 l) ?_; unfold AZ.f; obtain ⟨t, j, i⟩ := PK n x a v hv l e [] (by simp); have ha : Ev (fun k => (EJ.f k).bind fun t => some t) true := Ev.now true; have d : Ev (fun k => AZ.j0 k true x.f0 x.f1 x.f2 x.f3 x.f4 v.f0 v.f1 v.f2 v.f3 l) true := Ev.step (fun k => by rw [AZ.j0, if_pos rfl]) ha; refine Ev.bind j ?_; cases t with
  | false => exact Ev.congr (fun k => by rw [if_neg (by simp)]) d
  | true =>
    obtain ⟨m, _, h, _, b⟩ := i rfl; refine Ev.congr (fun k => by rw [if_pos rfl]) (Ev.bind (NW n x a v hv l hl e) ?_); cases hp : EB x v l with
    | false => exact d
    | true =>
      refine Ev.step (fun k => by rw [AZ.j0, if_neg (by simp)]) (Ev.bind (Nb n v h l (by omega) b) (Ev.bind (Nl x c v l hp) ?_)); refine Ev.congr (fun k => by rw [if_pos rfl]) (Ev.bind (JS n l hl b) ?_); refine Ev.step (fun k => by rw [AZ.j1, if_neg (by simp)]) ?_; exact PN n x c v l hp h b l.length 0 v [] (Nat.zero_add _) (by simp) (Fv hp).2.1 (by simp)
end Go.Proofs.Ytojankgmedccdaa.Pure
end
