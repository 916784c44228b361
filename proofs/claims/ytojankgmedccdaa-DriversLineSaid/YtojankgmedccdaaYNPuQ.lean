/- Lemmas. -/
import Derived.Test.YtojankgmedccdaaYNPuG
import Derived.Test.YtojankgmedccdaaYNPRsx5
import Derived.Test.YtojankgmedccdaaYNPGnF11
section
namespace Go.Proofs.Ytojankgmedccdaa.Pure
open Go.RowKit Own PTy Hand PIs RowV Wo
theorem zzm {α : Sort _} {c : Prop} [Decidable c] {a b : α} (h : c := by omega) : (if c then a else b) = a := if_pos h
theorem zzn {α : Sort _} {c : Prop} [Decidable c] {a b : α} (h : ¬c := by omega) : (if c then a else b) = b := if_neg h
theorem zzo {α : Sort _} {c : Prop} [Decidable c] {a b : α} (h : ¬c := by simp) : (if c then a else b) = b := if_neg h
theorem PM (b : Int) (h : 0 ≤ b) : Gn.f b = some (decide (b ≤ 3)) := by
  unfold Gn.f; by_cases h0 : b = 0
  · rw [if_pos h0, decide_eq_true (by omega)]
  by_cases h1 : b = 1
  · rw [if_neg h0, if_pos h1, decide_eq_true (by omega)]
  by_cases h2 : b = 2
  · rw [if_neg h0, if_neg h1, if_pos h2, decide_eq_true (by omega)]
  rw [if_neg h0, if_neg h1, if_neg h2]; congr 1; rw [Bool.eq_iff_iff]; simp; omega
theorem OC (l : List Int) (hl : l.length ≤ maxLen) (hp : ∀ b ∈ l, 0 ≤ b) : Ev (fun k => EJ.f k l) (isF l) := by
  have hm := ml; have key : ∀ d i, i + d = l.length → Ev (fun k => EJ.l0 k l l (l.length : Int) (i : Int)) ((l.drop i).all (fun x => decide (x ≤ 3)) && (decide (1 ≤ l.length) && decide (l.length ≤ 64))) := by
    intro d; induction d with
    | zero =>
      intro i hi; rw [List.drop_eq_nil_of_le (by omega)]; refine Ev.step (f := fun _ => some (decide (1 ≤ l.length) && decide (l.length ≤ 64))) (fun k => ?_) (by simpa using Ev.now _); rw [EJ.l0, zzn]; by_cases h : (l.length : Int) ≥ 1
      · rw [if_pos h, decide_eq_true (show 1 ≤ l.length by omega), Bool.true_and]; congr 1; rw [Bool.eq_iff_iff]; simp; omega
      · rw [if_neg h, decide_eq_false (show ¬ 1 ≤ l.length by omega)]; rfl
    | succ d g =>
      intro i hi; have a : i < l.length := by omega
      have c : rd l (i : Int) = l[i] := by
        unfold rd; rw [List.getD_eq_getElem?_getD, show ((i : Int)).toNat = i from rfl, List.getElem?_eq_getElem a]; rfl
      rw [List.drop_eq_getElem_cons a, List.all_cons]; by_cases h3 : l[i] ≤ 3
      · refine Ev.step (f := fun k => EJ.l0 k l l (l.length : Int) ((i + 1 : Nat) : Int)) (fun k => ?_) (by simpa [h3] using g (i + 1) (by omega)); rw [EJ.l0, zzm, zzm, zzm, c, PM _ (hp _ (List.getElem_mem a)), decide_eq_true h3, Option.bind_some, if_pos rfl, Bv (by omega) (by omega)]; rfl
      · refine Ev.step (f := fun _ => some false) (fun k => ?_) (by simpa [h3] using Ev.now _); rw [EJ.l0, zzm, zzm, zzm, c, PM _ (hp _ (List.getElem_mem a)), decide_eq_false h3, Option.bind_some, zzo]
  have := key l.length 0 (by omega); have e : ((l.drop 0).all (fun x => decide (x ≤ 3)) && (decide (1 ≤ l.length) && decide (l.length ≤ 64))) = isF l := by
    unfold isF; rw [List.drop_zero, Bool.and_comm]
  rw [e] at this; exact this
def Db (x : S26) (v : S30) : Bool := decide (v.f0 = x.f0) && (if x.f0 = 1 then (decide (v.f1 = 0) && decide (v.f3.length = 0) && (isF v.f2 && decide (v.f2.length = 1))) else (decide (v.f2.length = 0) && decide (v.f3.length = 0) && (if x.f0 = 2 then (decide (v.f1 = 0) || decide (v.f1 = 1)) else if x.f0 = 3 then (decide (-2147483648 ≤ v.f1) && decide (v.f1 ≤ 2147483647)) else (decide (0 ≤ v.f1) && decide (v.f1 < (x.f3.length : Int))))))
theorem Po (v : S30) : CF.f v.f0 v.f1 v.f2 v.f3 false true false = some (decide (v.f1 = 0) && decide (v.f3.length = 0)) := by
  unfold CF.f; by_cases h1 : v.f1 = 0 <;> simp [h1, Ei]
theorem Pp (v : S30) : CF.f v.f0 v.f1 v.f2 v.f3 true false false = some (decide (v.f2.length = 0) && decide (v.f3.length = 0)) := by
  unfold CF.f; by_cases h1 : v.f2.length = 0 <;> simp [h1, Ei]; all_goals simp_all [Ei]
theorem QY (x : S26) (h : scB x = true) : x.f1 = 0 := by
  unfold scB IE GZ at h; split at h <;> simp_all
theorem Iy (x : S26) (h : scB x = true) : FE x = true ∨ x.f0 = 5 := by
  by_cases hx : FE x = true ∨ x.f0 = 5
  · exact hx
  · rw [Ns x hx] at h; cases h
theorem Ps (x : S26) (v : S30) (hs : scB x = true) : Ev (fun k => Co.f k x.f0 x.f1 x.f2 x.f3 x.f4 v.f0 v.f1 v.f2 v.f3) (Db x v) := by
  have a := Iy x hs; have h1 := QY x hs; rw [ES] at a; by_cases h0 : v.f0 = x.f0
  · unfold Db; rw [decide_eq_true h0, Bool.true_and]; by_cases k1 : x.f0 = 1
    · rw [if_pos k1]; refine Ev.congr (f := fun k => Co.j0 k x.f0 true x.f0 x.f1 x.f2 x.f3 x.f4 v.f0 v.f1 v.f2 v.f3) (fun k => ?_) (Ev.step (f := fun _ => some (decide (v.f1 = 0) && decide (v.f3.length = 0) && (isF v.f2 && decide (v.f2.length = 1)))) (fun k => ?_) (Ev.now _))
      · unfold Co.f; rw [if_pos h0, if_pos k1, k1]; rfl
      · rw [Co.j0, if_pos rfl, Po, h1]; have hm : mx 0 1 = 1 := rfl; cases hb : (decide (v.f1 = 0) && decide (v.f3.length = 0)) with
        | false => simp
        | true =>
          rw [Option.bind_some, if_pos rfl, GD.f, Option.bind_some, hm, Bool.true_and]; cases isF v.f2 with
          | false => rfl
          | true =>
            rw [if_pos rfl, Bool.true_and]; congr 1; rw [Bool.eq_iff_iff]; simp; omega
    · rw [if_neg k1]; refine Ev.congr (f := fun k => Co.j0 k x.f0 false x.f0 x.f1 x.f2 x.f3 x.f4 v.f0 v.f1 v.f2 v.f3) (fun k => ?_) (Ev.step (f := fun _ => some (decide (v.f2.length = 0) && decide (v.f3.length = 0) && (if x.f0 = 2 then (decide (v.f1 = 0) || decide (v.f1 = 1)) else if x.f0 = 3 then (decide (-2147483648 ≤ v.f1) && decide (v.f1 ≤ 2147483647)) else (decide (0 ≤ v.f1) && decide (v.f1 < (x.f3.length : Int)))))) (fun k => ?_) (Ev.now _))
      · unfold Co.f; rw [if_pos h0, if_neg k1, show (x.f0 == 4) = false from beq_eq_false_iff_ne.mpr (by omega)]
      · rw [Co.j0, zzo, Pp]; cases hb : (decide (v.f2.length = 0) && decide (v.f3.length = 0)) with
        | false =>
          by_cases k2 : x.f0 = 2
          · rw [if_pos k2]; rfl
          by_cases k3 : x.f0 = 3
          · rw [if_neg k2, if_pos k3]; rfl
          rw [if_neg k2, if_neg k3, zzm]; rfl
        | true =>
          by_cases k2 : x.f0 = 2
          · rw [if_pos k2, if_pos k2, Option.bind_some, if_pos rfl, Bool.true_and]; by_cases q : v.f1 = 0
            · rw [if_pos q, decide_eq_true q]; rfl
            · rw [if_neg q, decide_eq_false q, Bool.false_or]; rfl
          by_cases k3 : x.f0 = 3
          · rw [if_neg k2, if_pos k3, if_neg k2, if_pos k3, Option.bind_some, if_pos rfl, Bool.true_and]; by_cases q : -2147483648 ≤ v.f1
            · rw [if_pos q, decide_eq_true q, Bool.true_and]
            · rw [if_neg q, decide_eq_false q]; rfl
          rw [if_neg k2, if_neg k3, if_pos (show x.f0 = 5 by omega), if_neg k2, if_neg k3, Option.bind_some, if_pos rfl, Bool.true_and]; by_cases q : 0 ≤ v.f1
          · rw [if_pos q, decide_eq_true q, Bool.true_and]
          · rw [if_neg q, decide_eq_false q]; rfl
  · have e : Db x v = false := by unfold Db; rw [decide_eq_false h0]; rfl
    rw [e]; exact Ev.congr (fun k => by unfold Co.f; rw [if_neg h0]) (Ev.now _)
theorem Mc (x : S26) (v : S30) (hs : scB x = true) (hl : v.f2.length ≤ maxLen) (hp : ∀ b ∈ v.f2, 0 ≤ b) : Ev (fun k => CW.j0 k (v.f0 != x.f0) x.f0 x.f1 x.f2 x.f3 x.f4 v.f0 v.f1 v.f2 v.f3) (Db x v) := by
  have c := Iy x hs; rw [ES] at c; by_cases h0 : v.f0 = x.f0
  · have a : (v.f0 != x.f0) = false := by simp [h0]
    rw [a]; unfold Db; rw [decide_eq_true h0, Bool.true_and]; by_cases k1 : x.f0 = 1
    · rw [if_pos k1]; refine Ev.step (f := fun k => if v.f1 = 0 then (if (v.f2.length : Int) = 1 then ((EJ.f k v.f2).bind fun t208 => (if t208 = true then (some ((v.f3.length : Int) == 0)) else (some false))) else (some false)) else (some false)) (fun k => by rw [CW.j0, zzo, if_pos k1]) ?_; by_cases q1 : v.f1 = 0
      · by_cases q2 : v.f2.length = 1
        · rw [decide_eq_true q1, decide_eq_true q2]; refine Ev.congr (f := fun k => (EJ.f k v.f2).bind fun t208 => (if t208 = true then (some ((v.f3.length : Int) == 0)) else (some false))) (fun k => by rw [if_pos q1, zzm]) (Ev.bind (OC _ hl hp) ?_); refine Ev.congr (f := fun _ => some (true && decide (v.f3.length = 0) && (isF v.f2 && true))) (fun k => ?_) (Ev.now _); cases isF v.f2 with
          | false => simp
          | true => simp [Ei]
        · rw [decide_eq_false q2]; exact Ev.congr (fun k => by rw [if_pos q1, zzn]) (by simpa using Ev.now _)
      · rw [decide_eq_false q1]; exact Ev.congr (fun k => by rw [if_neg q1]) (by simpa using Ev.now _)
    · rw [if_neg k1]; by_cases k2 : x.f0 = 2
      · rw [if_pos k2]; refine Ev.step (f := fun _ => some (decide (v.f2.length = 0) && decide (v.f3.length = 0) && (decide (v.f1 = 0) || decide (v.f1 = 1)))) (fun k => ?_) (Ev.now _); rw [CW.j0, zzo, if_neg k1, if_pos k2]; by_cases q1 : v.f1 = 0
        · by_cases q2 : v.f2.length = 0
          · rw [if_pos q1, zzm, Ei]; simp [q1, q2]
          · rw [if_pos q1, zzn]; simp [show ¬ v.f2 = [] from fun e => q2 (by rw [e]; rfl)]
        · by_cases q3 : v.f1 = 1
          · by_cases q2 : v.f2.length = 0
            · rw [if_neg q1, if_pos q3, zzm, Ei]; simp [q3, q2]
            · rw [if_neg q1, if_pos q3, zzn]; simp [show ¬ v.f2 = [] from fun e => q2 (by rw [e]; rfl)]
          · rw [if_neg q1, if_neg q3]; simp [q1, q3]
      · rw [if_neg k2]; by_cases k3 : x.f0 = 3
        · rw [if_pos k3]; refine Ev.step (f := fun _ => some (decide (v.f2.length = 0) && decide (v.f3.length = 0) && (decide (-2147483648 ≤ v.f1) && decide (v.f1 ≤ 2147483647)))) (fun k => ?_) (Ev.now _); rw [CW.j0, zzo, if_neg k1, if_neg k2, if_pos k3]; unfold Fu.f; by_cases q1 : -2147483648 ≤ v.f1
          · by_cases q3 : v.f1 ≤ 2147483647
            · rw [if_pos q1, decide_eq_true q1, decide_eq_true q3, Option.bind_some, if_pos rfl]; by_cases q2 : v.f2.length = 0
              · rw [zzm, Ei]; simp [q2]
              · rw [zzn]; simp [show ¬ v.f2 = [] from fun e => q2 (by rw [e]; rfl)]
            · rw [if_pos q1, decide_eq_false q3]; simp
          · rw [if_neg q1, decide_eq_false q1]; simp
        · rw [if_neg k3]; refine Ev.step (f := fun _ => some (decide (v.f2.length = 0) && decide (v.f3.length = 0) && (decide (0 ≤ v.f1) && decide (v.f1 < (x.f3.length : Int))))) (fun k => ?_) (Ev.now _); rw [CW.j0, zzo, if_neg k1, if_neg k2, if_neg k3, zzn, if_pos (show x.f0 = 5 by omega)]; by_cases q1 : 0 ≤ v.f1
          · by_cases q3 : v.f1 < (x.f3.length : Int)
            · rw [if_pos q1, if_pos q3, decide_eq_true q1, decide_eq_true q3]; by_cases q2 : v.f2.length = 0
              · rw [zzm, Ei]; simp [q2]
              · rw [zzn]; simp [show ¬ v.f2 = [] from fun e => q2 (by rw [e]; rfl)]
            · rw [if_pos q1, if_neg q3, decide_eq_false q3]; simp
          · rw [if_neg q1, decide_eq_false q1]; simp
  · have e : Db x v = false := by unfold Db; rw [decide_eq_false h0]; rfl
    rw [e]; exact Ev.step (f := fun _ => some false) (fun k => by rw [CW.j0, if_pos (by simpa using h0)]) (Ev.now _)
theorem IZ (x : S26) (v : S30) (hs : scB x = true) (hl : x.f3.length ≤ maxLen) : Ev (fun k => Ca.f k x.f0 x.f1 x.f2 x.f3 x.f4 v.f0 v.f1 v.f2 v.f3) (Db x v) := by
  unfold Ca.f; refine Ev.bind (Ki x (Iy x hs) hl) ?_; rw [hs]; exact Ev.congr (fun k => by rw [if_pos rfl]) (Ev.bind (Ps x v hs) (Ev.now _))
theorem Ia (n : Nat) (x : S26) (hx : okT n x) (v : S30) (hv : okV n v) (hs : scB x = true) : Ev (fun k => CW.f k x.f0 x.f1 x.f2 x.f3 x.f4 v.f0 v.f1 v.f2 v.f3) (Db x v) := by
  cases n with
  | zero => exact hx.elim
  | succ n =>
    obtain ⟨_, _, c, _, hl, _, _⟩ := hx; obtain ⟨_, _, d, a, _, _⟩ := hv; refine Ev.step (fun k => by rw [CW.f]) (Ev.bind (Nr x (Iy x hs) c hl) ?_); rw [hs]; refine Ev.congr (fun k => by rw [if_pos rfl]) (Mc x v hs a fun b h => ?_); have := d b h; unfold Lit.wf at this; rw [Bool.and_eq_true, decide_eq_true_iff] at this; exact this.1
def F5 (x : S26) (l : List S63) : Nat → Nat → Int → Bool
  | 0, _, _ => true
  | d + 1, i, u => !decide ((AA l (i : Int)).f0 ≤ u) && (!decide ((AA l (i : Int)).f0 > 2000000) && (Db x (AA l (i : Int)).f1 && F5 x l d (i + 1) (AA l (i : Int)).f0))
theorem IJ {l : List S63} {i : Nat} (h : i < l.length) : AA l (i : Int) ∈ l := by
  unfold AA; rw [List.getD_eq_getElem?_getD, show ((i : Int)).toNat = i from rfl, List.getElem?_eq_getElem h]; exact List.getElem_mem h
theorem QZ (x : S26) (hs : scB x = true) (h3 : x.f3.length ≤ maxLen) (l : List S63) (hl : l.length ≤ maxLen) : ∀ d i u, i + d = l.length → Ev (fun k => BI.l0 k u l (l.length : Int) (i : Int) x.f0 x.f1 x.f2 x.f3 x.f4) (F5 x l d i u) := by
  have hm := ml; intro d; induction d with
  | zero =>
    intro i u hi; exact Ev.step (f := fun _ => some true) (fun k => by rw [BI.l0, zzn]) (Ev.now _)
  | succ d a =>
    intro i u hi; simp only [F5]; by_cases h1 : (AA l (i : Int)).f0 ≤ u
    · exact Ev.step (f := fun _ => some false) (fun k => by rw [BI.l0, zzm, zzm, zzm, if_pos h1]) (by simpa [h1] using Ev.now _)
    by_cases h2 : (AA l (i : Int)).f0 > 2000000
    · exact Ev.step (f := fun _ => some false) (fun k => by rw [BI.l0, zzm, zzm, zzm, if_neg h1, if_pos h2]) (by simpa [h2] using Ev.now _)
    rw [decide_eq_false h1, decide_eq_false h2]; refine Ev.step (fun k => by rw [BI.l0, zzm, zzm, zzm, if_neg h1, if_neg h2, Bv (by omega) (by omega)]) (Ev.bind (IZ x (AA l (i : Int)).f1 hs h3) ?_); cases Db x (AA l (i : Int)).f1 with
    | false => exact Ev.congr (fun k => by rw [zzo]) (by simpa using Ev.now _)
    | true => exact Ev.congr (fun k => by rw [if_pos rfl]) (by simpa using a (i + 1) _ (by omega))
theorem OD (n : Nat) (x : S26) (hx : okT n x) (hs : scB x = true) (l : List S63) (hl : l.length ≤ maxLen) (hv : ∀ y ∈ l, okV n y.f1) : ∀ d i u, i + d = l.length → Ev (fun k => Dn.l0 k u l (l.length : Int) (i : Int) x.f0 x.f1 x.f2 x.f3 x.f4) (F5 x l d i u) := by
  have hm := ml; intro d; induction d with
  | zero =>
    intro i u hi; exact Ev.step (f := fun _ => some true) (fun k => by rw [Dn.l0, zzn]) (Ev.now _)
  | succ d a =>
    intro i u hi; simp only [F5]; by_cases h1 : (AA l (i : Int)).f0 ≤ u
    · exact Ev.step (f := fun _ => some false) (fun k => by rw [Dn.l0, zzm, zzm, zzm, if_pos h1]) (by simpa [h1] using Ev.now _)
    by_cases h2 : (AA l (i : Int)).f0 > 2000000
    · exact Ev.step (f := fun _ => some false) (fun k => by rw [Dn.l0, zzm, zzm, zzm, if_neg h1, if_pos h2]) (by simpa [h2] using Ev.now _)
    rw [decide_eq_false h1, decide_eq_false h2]; refine Ev.step (fun k => by rw [Dn.l0, zzm, zzm, zzm, if_neg h1, if_neg h2, Bv (by omega) (by omega)]) (Ev.bind (Ia n x hx (AA l (i : Int)).f1 (hv _ (IJ (by omega))) hs) ?_); cases Db x (AA l (i : Int)).f1 with
    | false => exact Ev.congr (fun k => by rw [zzo]) (by simpa using Ev.now _)
    | true => exact Ev.congr (fun k => by rw [if_pos rfl]) (by simpa using a (i + 1) _ (by omega))
def DW (x : S26) (v : S30) (l : List S63) : Bool := scB x && (Db x v && (decide (l.length ≤ 64) && F5 x l l.length 0 (-1)))
theorem OE (l : List S63) : (decide ((l.length : Int) > 64)) = !decide (l.length ≤ 64) := by rw [Bool.eq_iff_iff]; simp; omega
theorem OG (x : S26) (h3 : x.f3.length ≤ maxLen) (v : S30) (l : List S63) (hl : l.length ≤ maxLen) : Ev (fun k => BI.f k x.f0 x.f1 x.f2 x.f3 x.f4 v.f0 v.f1 v.f2 v.f3 l) (DW x v l) := by
  unfold BI.f DW; have a : Ev (fun k => BI.j0 k true x.f0 x.f1 x.f2 x.f3 x.f4 v.f0 v.f1 v.f2 v.f3 l) false := Ev.step (f := fun _ => some false) (fun k => by rw [BI.j0, if_pos rfl]) (Ev.now _); refine Ev.bind (MV x h3) ?_; cases hs : scB x with
  | false => exact Ev.congr (fun k => by rw [zzo]) (by simpa using a)
  | true =>
    refine Ev.congr (fun k => by rw [if_pos rfl]) (Ev.bind (IZ x v hs h3) ?_); cases Db x v with
    | false => exact Ev.congr (fun k => by rw [zzo]) (by simpa using a)
    | true =>
      refine Ev.congr (fun k => by rw [if_pos rfl, OE]) ?_; cases decide (l.length ≤ 64) with
      | false => simpa using a
      | true => exact Ev.step (f := fun k => BI.l0 k (-1) l (l.length : Int) ((0 : Nat) : Int) x.f0 x.f1 x.f2 x.f3 x.f4) (fun k => by rw [BI.j0, zzo]; rfl) (by simpa using QZ x hs h3 l hl l.length 0 (-1) (by omega))
theorem OH (n : Nat) (x : S26) (hx : okT n x) (v : S30) (hv : okV n v) (l : List S63) (hl : l.length ≤ maxLen) (b : ∀ y ∈ l, okV n y.f1) : Ev (fun k => Dn.f k x.f0 x.f1 x.f2 x.f3 x.f4 v.f0 v.f1 v.f2 v.f3 l) (DW x v l) := by
  unfold Dn.f DW; have a : Ev (fun k => Dn.j0 k true x.f0 x.f1 x.f2 x.f3 x.f4 v.f0 v.f1 v.f2 v.f3 l) false := Ev.step (f := fun _ => some false) (fun k => by rw [Dn.j0, if_pos rfl]) (Ev.now _); refine Ev.bind (LU n x hx) ?_; cases hs : scB x with
  | false => exact Ev.congr (fun k => by rw [zzo]) (by simpa using a)
  | true =>
    refine Ev.congr (fun k => by rw [if_pos rfl]) (Ev.bind (Ia n x hx v hv hs) ?_); cases Db x v with
    | false => exact Ev.congr (fun k => by rw [zzo]) (by simpa using a)
    | true =>
      refine Ev.congr (fun k => by rw [if_pos rfl, OE]) ?_; cases decide (l.length ≤ 64) with
      | false => simpa using a
      | true => exact Ev.step (f := fun k => Dn.l0 k (-1) l (l.length : Int) ((0 : Nat) : Int) x.f0 x.f1 x.f2 x.f3 x.f4) (fun k => by rw [Dn.j0, zzo]; rfl) (by simpa using OD n x hx hs l hl b l.length 0 (-1) (by omega))
end Go.Proofs.Ytojankgmedccdaa.Pure
end
section
namespace Go.Proofs.Ytojankgmedccdaa.Pure
open Go.RowKit Own PTy Hand PIs RowV Wo
open PAw (r01Same.f r01Same.l0)
open PGn
def ExQ {α : Type} (g : Nat → Option α) (Q : α → Prop) : Prop := ∃ t, Ev g t ∧ Q t
section
variable {α β : Type} {g f : Nat → Option α} {Q : α → Prop}
theorem ExQ.now (t : α) (h : Q t) : ExQ (fun _ => some t) Q := ⟨t, Ev.now t, h⟩
theorem ExQ.step (h : ∀ k, g (k + 1) = f k) (a : ExQ f Q) : ExQ g Q := ⟨a.choose, Ev.step h a.choose_spec.1, a.choose_spec.2⟩
theorem ExQ.congr (h : ∀ k, g k = f k) (a : ExQ f Q) : ExQ g Q := ⟨a.choose, Ev.congr h a.choose_spec.1, a.choose_spec.2⟩
theorem ExQ.ite {c : Prop} [Decidable c] (h1 : c → ExQ g Q) (a : ¬ c → ExQ f Q) : ExQ (fun k => if c then g k else f k) Q := by
  by_cases h : c
  · simpa [h] using h1 h
  · simpa [h] using a h
theorem ExQ.bind {R : β → Prop} {g : Nat → Option β} {f : Nat → β → Option α} (h : ExQ g R) (b : ∀ t, R t → ExQ (fun k => f k t) Q) : ExQ (fun k => (g k).bind (f k)) Q := by
  obtain ⟨t, d, hr⟩ := h; obtain ⟨r, a, c⟩ := b t hr; exact ⟨r, Ev.bind d a, c⟩
theorem ExQ.of (h : Ex g) : ExQ g (fun _ => True) := ⟨h.choose, h.choose_spec, trivial⟩
end
def smV : Nat → S30 → Prop
  | 0, _ => False
  | m + 1, v => v.f2.length ≤ 9000 ∧ v.f3.length ≤ 9000 ∧ ∀ y ∈ v.f3, smV m y
theorem Kn : ∀ m (v : S30), okV m v → ∀ a : Int, 0 ≤ a → a ≤ 9000 → ExQ (fun k => CZ.f k v.f0 v.f1 v.f2 v.f3 a) (fun r => r < a ∧ (0 ≤ r → smV m v))
  | 0, _, h, _, _, _ => h.elim
  | m + 1, v, ⟨_, _, _, h4, h5, h6⟩, a, ha, ha9 => by
    have hm := ml; refine ExQ.step (fun k => by rw [CZ.f]) ?_; obtain ⟨g, u⟩ : ∃ g, g = a - 1 - (v.f2.length : Int) := ⟨_, rfl⟩; have x : wrap64 (a - wrap64 (1 + (v.f2.length : Int))) = g := by unfold wrap64; omega
    rw [x]; have key : ∀ d i, i + d = v.f3.length → ∀ b : Int, b ≤ 9000 → ExQ (fun k => CZ.l0 k b v.f3 (v.f3.length : Int) (i : Int)) (fun r => r ≤ b ∧ (0 ≤ r → (d : Int) ≤ b - r ∧ ∀ j, i ≤ j → j < v.f3.length → smV m (AB v.f3 (j : Int)))) := by
      intro d; induction d with
      | zero =>
        intro i hi b q; refine ExQ.step (f := fun _ => some b) (fun k => by rw [CZ.l0, zzn]) (ExQ.now b ⟨by omega, fun _ => ⟨by omega, fun j h1 p => by omega⟩⟩)
      | succ d B =>
        intro i hi b q; by_cases hn : b < 0
        · exact ExQ.step (f := fun _ => some b) (fun k => by rw [CZ.l0, zzm, zzm, zzm, if_pos hn]) (ExQ.now b ⟨by omega, fun h => by omega⟩)
        · refine ExQ.step (fun k => by rw [CZ.l0, zzm, zzm, zzm, if_neg hn, Bv (n := (i : Int) + 1) (by omega) (by omega)]) (ExQ.bind (Kn m _ (h6 _ (FC (i := i) (by omega))) b (by omega) q) fun t w => ?_); obtain ⟨r, hr, l, c⟩ := B (i + 1) (by omega) t (by omega); refine ⟨r, hr, by omega, fun h0 => ?_⟩; obtain ⟨D, o⟩ := c h0; refine ⟨by omega, fun j h1 p => ?_⟩; by_cases e : j = i
          · rw [e]; exact w.2 (by omega)
          · exact o j (by omega) p
    obtain ⟨r, hr, l, c⟩ := key v.f3.length 0 (by omega) g (by omega); refine ⟨r, hr, by omega, fun h0 => ?_⟩; obtain ⟨D, o⟩ := c h0; refine ⟨by omega, by omega, fun y z => ?_⟩; obtain ⟨j, s, e⟩ := List.mem_iff_getElem.mp z; have := o j (by omega) s; unfold AB at this; rw [List.getD_eq_getElem?_getD, show ((j : Int)).toNat = j from rfl, List.getElem?_eq_getElem s] at this; exact e ▸ this
theorem OI (l : List S30) (hl : l.length ≤ maxLen) (m : Nat) (hv : ∀ y ∈ l, okV m y) : ExQ (fun k => BL.l2 k l (l.length : Int) 0) (fun t => t = true → ∀ j, j < l.length → smV m (AB l (j : Int))) := by
  have hm := ml; have key : ∀ d i, i + d = l.length → ExQ (fun k => BL.l2 k l (l.length : Int) (i : Int)) (fun t => t = true → ∀ j, i ≤ j → j < l.length → smV m (AB l (j : Int))) := by
    intro d; induction d with
    | zero => exact fun i hi => ExQ.step (f := fun _ => some true) (fun k => by rw [BL.l2, zzn]) (ExQ.now _ fun _ j h1 b => by omega)
    | succ d g =>
      intro i hi; refine ExQ.step (fun k => by rw [BL.l2, zzm, zzm, zzm, Bv (n := (i : Int) + 1) (by omega) (by omega)]) (ExQ.bind (Kn m _ (hv _ (FC (i := i) (by omega))) 9000 (by omega) (by omega)) fun t c => ExQ.ite (fun _ => ExQ.now false (by simp)) fun h0 => ?_); obtain ⟨r, hr, a⟩ := g (i + 1) (by omega); refine ⟨r, hr, fun e j h1 b => ?_⟩; by_cases ej : j = i
      · rw [ej]; exact c.2 (by omega)
      · exact a e j (by omega) b
  obtain ⟨r, hr, a⟩ := key l.length 0 (by omega); exact ⟨r, hr, fun e j h => a e j (by omega) h⟩
theorem OJ (n : Nat) (x : S26) (hx : okT n x) (l : List S30) (hl : l.length ≤ maxLen) (m : Nat) (hv : ∀ y ∈ l, okV m y) : ExQ (fun k => BL.f k x.f0 x.f1 x.f2 x.f3 x.f4 l) (fun t => t = true → ∀ j, j < l.length → smV m (AB l (j : Int))) := by
  have hm := ml; cases n with
  | zero => exact hx.elim
  | succ n =>
    obtain ⟨_, _, _, _, g, h, e⟩ := hx; have h1 : ∀ d i, i + d = x.f4.length → ExQ (fun k => BL.l1 k l x.f4 (x.f4.length : Int) (i : Int)) (fun t => t = true → ∀ j, j < l.length → smV m (AB l (j : Int))) := by
      intro d; induction d with
      | zero => exact fun i hi => ExQ.step (fun k => by rw [BL.l1, zzn] <;> rfl) (OI l hl m hv)
      | succ d c =>
        intro i hi; exact ExQ.step (fun k => by rw [BL.l1, zzm, zzm, zzm, Bv (n := (i : Int) + 1) (by omega) (by omega)] <;> rfl) (ExQ.ite (fun _ => ExQ.now false (by simp)) fun _ => ExQ.bind (ExQ.of (Ka n _ (e _ (JR (i := i) (by omega))) [] (by simp) 0 (by simp))) fun t _ => ExQ.ite (fun _ => c (i + 1) (by omega)) fun _ => ExQ.now false (by simp))
    have h0 : ∀ d i, i + d = x.f3.length → ExQ (fun k => BL.l0 k l x.f3 (x.f3.length : Int) (i : Int) x.f0 x.f1 x.f2 x.f3 x.f4) (fun t => t = true → ∀ j, j < l.length → smV m (AB l (j : Int))) := by
      intro d; induction d with
      | zero => exact fun i hi => ExQ.step (fun k => by rw [BL.l0, zzn] <;> rfl) (h1 x.f4.length 0 (by omega))
      | succ d c =>
        intro i hi; exact ExQ.step (fun k => by rw [BL.l0, zzm, zzm, zzm, Bv (n := (i : Int) + 1) (by omega) (by omega)] <;> rfl) (ExQ.ite (fun _ => ExQ.now false (by simp)) fun _ => c (i + 1) (by omega))
    have a : ∀ b, ExQ (fun k => BL.j0 k l b x.f0 x.f1 x.f2 x.f3 x.f4) (fun t => t = true → ∀ j, j < l.length → smV m (AB l (j : Int))) := fun b =>
      ExQ.step (fun k => by rw [BL.j0] <;> rfl) (ExQ.ite (fun _ => ExQ.now false (by simp)) fun _ => h0 x.f3.length 0 (by omega))
    exact ExQ.step (fun k => by rw [BL.f]) (ExQ.ite (fun _ => a _) fun _ => ExQ.ite (fun _ => a _) fun _ => a _)
theorem Pt (n : Nat) (x : S26) (hx : okT n x) (v : S30) (hv : okV n v) (l : List S63) (hl : ∀ y ∈ l, okV n y.f1) (vs : List S30) (hvs : ∀ y ∈ vs, okV n y) :
    ExQ (fun k => C9.f k x.f0 x.f1 x.f2 x.f3 x.f4 v.f0 v.f1 v.f2 v.f3 l vs) (fun t => t = true → l.length ≤ 80 ∧ vs.length ≤ 80 ∧ smV n v ∧ (∀ y ∈ vs, smV n y) ∧ ∀ y ∈ l, smV n y.f1) := by
  have hm := ml; have c : ExQ (fun k => C9.j0 k vs true x.f0 x.f1 x.f2 x.f3 x.f4 v.f0 v.f1 v.f2 v.f3 l) (fun t => t = true → l.length ≤ 80 ∧ vs.length ≤ 80 ∧ smV n v ∧ (∀ y ∈ vs, smV n y) ∧ ∀ y ∈ l, smV n y.f1) :=
    ExQ.step (f := fun _ => some false) (fun k => by rw [C9.j0, if_pos rfl]) (ExQ.now _ (by simp))
  unfold C9.f; by_cases h8 : (l.length : Int) > 80
  · exact ExQ.congr (fun k => by rw [if_pos h8]) c
  by_cases h9 : (vs.length : Int) > 80
  · exact ExQ.congr (fun k => by rw [if_neg h8, decide_eq_true h9]) c
  refine ExQ.congr (f := fun k => C9.j0 k vs false x.f0 x.f1 x.f2 x.f3 x.f4 v.f0 v.f1 v.f2 v.f3 l) (fun k => by rw [if_neg h8, decide_eq_false h9]) ?_; have key : ∀ d i, i + d = l.length → ∀ ys : List S30, ys.length = vs.length + 1 + i → (∀ y ∈ ys, okV n y) → (∀ y ∈ (v :: vs), y ∈ ys) → (∀ j, j < i → (AA l (j : Int)).f1 ∈ ys) → ExQ (fun k => C9.l0 k ys l (l.length : Int) (i : Int) x.f0 x.f1 x.f2 x.f3 x.f4) (fun t => t = true → l.length ≤ 80 ∧ vs.length ≤ 80 ∧ smV n v ∧ (∀ y ∈ vs, smV n y) ∧ ∀ y ∈ l, smV n y.f1) := by
    intro d; induction d with
    | zero =>
      intro i hi ys r p a o; refine ExQ.step (fun k => by rw [C9.l0, zzn]) (ExQ.bind (OJ n x hx ys (by omega) n p) fun t s => ⟨t, Ev.now t, fun e => ?_⟩); have hall : ∀ y ∈ ys, smV n y := by
        intro y q; obtain ⟨j, b, m⟩ := List.mem_iff_getElem.mp q; have := s e j b; unfold AB at this; rw [List.getD_eq_getElem?_getD, show ((j : Int)).toNat = j from rfl, List.getElem?_eq_getElem b] at this; exact m ▸ this
      refine ⟨by omega, by omega, hall _ (a v (by simp)), fun y h => hall _ (a y (by simp [h])), fun y h => ?_⟩; obtain ⟨j, b, m⟩ := List.mem_iff_getElem.mp h; have := hall _ (o j (by omega)); unfold AA at this; rw [List.getD_eq_getElem?_getD, show ((j : Int)).toNat = j from rfl, List.getElem?_eq_getElem b] at this; exact m ▸ this
    | succ d u =>
      intro i hi ys r p a o; have g : AA l (i : Int) ∈ l := by
        unfold AA; rw [List.getD_eq_getElem?_getD, show ((i : Int)).toNat = i from rfl, List.getElem?_eq_getElem (by omega)]; exact List.getElem_mem _
      refine ExQ.step (fun k => by rw [C9.l0, zzm, zzm, zzm, zzm, Bv (n := (i : Int) + 1) (by omega) (by omega), IC] <;> rfl) (u (i + 1) (by omega) (ys ++ [(AA l (i : Int)).f1]) (by rw [List.length_append, r]; rfl) (fun y h => ?_) (fun y h => List.mem_append_left _ (a y h)) (fun j h => ?_))
      · rcases List.mem_append.mp h with h | h
        · exact p y h
        · rw [List.mem_singleton.mp h]; exact hl _ g
      · by_cases e : j = i
        · rw [e]; exact List.mem_append_right _ (by simp)
        · exact List.mem_append_left _ (o j (by omega))
  refine ExQ.step (fun k => ?_) (key l.length 0 (by omega) (v :: vs) (by simp) (fun y h => ?_) (fun y h => h) (by omega))
  · rw [C9.j0, zzo, Option.bind_some, if_pos (by simp; omega), IC]; rfl
  · rcases List.mem_cons.mp h with rfl | h
    · exact hv
    · exact hvs y h
theorem IK {l : List S30} {i : Nat} (h : i < l.length) : AB l (i : Int) = l[i] := by
  unfold AB; rw [List.getD_eq_getElem?_getD, show ((i : Int)).toNat = i from rfl, List.getElem?_eq_getElem h]; rfl
theorem IL {l : List S63} {i : Nat} (h : i < l.length) : AA l (i : Int) = l[i] := by
  unfold AA; rw [List.getD_eq_getElem?_getD, show ((i : Int)).toNat = i from rfl, List.getElem?_eq_getElem h]; rfl
theorem Iz : ∀ m (v : S30), smV m v → Ev (fun k => Bu.f k v.f0 v.f1 v.f2 v.f3) (v.f0, v.f1, v.f2, v.f3)
  | 0, _, h => h.elim
  | m + 1, v, ⟨h1, h2, h3⟩ => by
    have hm := ml; refine Ev.step (fun k => by rw [Bu.f, Option.bind_some, if_pos (by simp; omega)]) ?_; have key : ∀ d i, i + d = v.f3.length → Ev (fun k => Bu.l0 k v.f3 (v.f3.length : Int) (i : Int) v.f0 v.f1 v.f2 (v.f3.take i)) (v.f0, v.f1, v.f2, v.f3) := by
      intro d; induction d with
      | zero =>
        intro i hi; rw [List.take_of_length_le (by omega)]; exact Ev.step (f := fun _ => some (v.f0, v.f1, v.f2, v.f3)) (fun k => by rw [Bu.l0, zzn]) (Ev.now _)
      | succ d b =>
        intro i hi; have a : i < v.f3.length := by omega
        refine Ev.step (fun k => by rw [Bu.l0, zzm, zzm, zzm, Bv (n := (i : Int) + 1) (by omega) (by omega)]) (Ev.bind (Iz m _ (h3 _ (FC a))) ?_); refine Ev.congr (f := fun k => Bu.l0 k v.f3 (v.f3.length : Int) ((i + 1 : Nat) : Int) v.f0 v.f1 v.f2 (v.f3.take (i + 1))) (fun k => ?_) (b (i + 1) (by omega)); rw [if_pos (by rw [List.length_take]; omega), List.take_succ_eq_append_getElem a, IC, IK a]; rfl
    simpa using key v.f3.length 0 (by omega)
theorem Lu (x : S63) : (⟨x.f0, x.f1⟩ : S63) = x := by cases x; rfl
theorem Pv (m : Nat) (v : S30) (hv : smV m v) (l : List S63) (hl : l.length ≤ 100) (b : ∀ y ∈ l, smV m y.f1) : Ev (fun k => DJ.f k v.f0 v.f1 v.f2 v.f3 l) (v.f0, v.f1, v.f2, v.f3, l) := by
  have hm := ml; unfold DJ.f; refine Ev.bind (Iz m v hv) ?_; have key : ∀ d i, i + d = l.length → Ev (fun k => DJ.l0 k l (l.length : Int) (i : Int) v.f0 v.f1 v.f2 v.f3 (l.take i)) (v.f0, v.f1, v.f2, v.f3, l) := by
    intro d; induction d with
    | zero =>
      intro i hi; rw [List.take_of_length_le (by omega)]; exact Ev.step (f := fun _ => some (v.f0, v.f1, v.f2, v.f3, l)) (fun k => by rw [DJ.l0, zzn]) (Ev.now _)
    | succ d c =>
      intro i hi; have a : i < l.length := by omega
      refine Ev.step (fun k => by rw [DJ.l0, zzm, zzm, zzm, Bv (n := (i : Int) + 1) (by omega) (by omega)]) (Ev.bind (Iz m _ (b _ (IJ a))) ?_); refine Ev.congr (f := fun k => DJ.l0 k l (l.length : Int) ((i + 1 : Nat) : Int) v.f0 v.f1 v.f2 v.f3 (l.take (i + 1))) (fun k => ?_) (c (i + 1) (by omega)); rw [if_pos (by rw [List.length_take]; omega), List.take_succ_eq_append_getElem a, IC, Lu, IL a]; rfl
  simpa using key l.length 0 (by omega)
theorem OL (l : List Int) (hl : l.length ≤ maxLen) : Ev (fun k => r01Same.f k l l) true := by
  have hm := ml; have key : ∀ d i, i + d = l.length → Ev (fun k => r01Same.l0 k l l (l.length : Int) (i : Int)) true := by
    intro d; induction d with
    | zero => intro i hi; exact Ev.step (f := fun _ => some true) (fun k => by rw [r01Same.l0, zzn]) (Ev.now _)
    | succ d a =>
      intro i hi; refine Ev.step (f := fun k => r01Same.l0 k l l (l.length : Int) ((i + 1 : Nat) : Int)) (fun k => ?_) (a (i + 1) (by omega)); rw [r01Same.l0, zzm, zzm, zzm, zzm, if_pos rfl, Bv (by omega) (by omega)]; rfl
  exact Ev.congr (fun k => by unfold r01Same.f; rw [if_pos rfl]; rfl) (key l.length 0 (by omega))
theorem JS : ∀ m (v : S30), smV m v → Ev (fun k => PGn.Bi.f k v.f0 v.f1 v.f2 v.f3 v.f0 v.f1 v.f2 v.f3) true
  | 0, _, h => h.elim
  | m + 1, v, ⟨h1, h2, h3⟩ => by
    have hm := ml; refine Ev.step (fun k => by rw [PGn.Bi.f, if_pos rfl, if_pos rfl]) (Ev.bind (OL v.f2 (by omega)) (Ev.congr (fun k => by rw [if_pos rfl, bne_self_eq_false]) (Ev.step (fun k => by rw [PGn.Bi.j0, zzo]) ?_))); have key : ∀ d i, i + d = v.f3.length → Ev (fun k => PGn.Bi.l0 k (v.f3.length : Int) (i : Int) v.f0 v.f1 v.f2 v.f3 v.f0 v.f1 v.f2 v.f3) true := by
      intro d; induction d with
      | zero => intro i hi; exact Ev.step (f := fun _ => some true) (fun k => by rw [PGn.Bi.l0, zzn]) (Ev.now _)
      | succ d a =>
        intro i hi; exact Ev.step (fun k => by rw [PGn.Bi.l0, zzm, zzm, zzm, zzm, Bv (n := (i : Int) + 1) (by omega) (by omega)]) (Ev.bind (JS m _ (h3 _ (FC (i := i) (by omega)))) (Ev.congr (fun k => by rw [if_pos rfl]; rfl) (a (i + 1) (by omega))))
    exact key v.f3.length 0 (by omega)
theorem JU (m : Nat) (v : S30) (hv : smV m v) (l : List S63) (hl : l.length ≤ maxLen) (a : ∀ y ∈ l, smV m y.f1) : Ev (fun k => CR.f k v.f0 v.f1 v.f2 v.f3 l v.f0 v.f1 v.f2 v.f3 l) true := by
  have hm := ml; unfold CR.f; refine Ev.bind (JS m v hv) (Ev.congr (fun k => by rw [if_pos rfl, bne_self_eq_false]) (Ev.step (fun k => by rw [CR.j0, zzo]) ?_)); have key : ∀ d i, i + d = l.length → Ev (fun k => CR.l0 k (l.length : Int) (i : Int) v.f0 v.f1 v.f2 v.f3 l v.f0 v.f1 v.f2 v.f3 l) true := by
    intro d; induction d with
    | zero => intro i hi; exact Ev.step (f := fun _ => some true) (fun k => by rw [CR.l0, zzn]) (Ev.now _)
    | succ d b =>
      intro i hi; exact Ev.step (fun k => by rw [CR.l0, zzm, zzm, zzm, zzm, if_pos rfl, Bv (n := (i : Int) + 1) (by omega) (by omega)]) (Ev.bind (JS m _ (a _ (IJ (i := i) (by omega)))) (Ev.congr (fun k => by rw [if_pos rfl]; rfl) (b (i + 1) (by omega))))
  exact key l.length 0 (by omega)
theorem Md (m : Nat) (l : List S63) (hl : l.length ≤ maxLen) (a : ∀ y ∈ l, smV m y.f1) : Ev (fun k => EN.f k l l) true := by
  unfold EN.f; cases m with
  | zero =>
    have : l = [] := List.eq_nil_iff_forall_not_mem.mpr fun y h => a y h; subst this; exact Ev.bind (JU 1 ⟨0, 0, [], []⟩ ⟨by simp, by simp, by simp⟩ [] hl (by simp)) (Ev.now _)
  | succ m => exact Ev.bind (JU (m + 1) ⟨0, 0, [], []⟩ ⟨by simp, by simp, by simp⟩ l hl a) (Ev.now _)
end Go.Proofs.Ytojankgmedccdaa.Pure
end
section
namespace Go.Proofs.Ytojankgmedccdaa.Pure
open Go.RowKit Own PTy Hand PIs RowV Wo
open PAw (drivers_copied.f logic_isBit.f logic_both.f logic_both.j0 logic_Resolve.f logic_Resolve.l0 r01Same.f r01Same.l0)
open PRs
theorem Gs (l : List Int) (i : Nat) (h : i < l.length) : rd l (i : Int) = l[i] := by
  unfold rd; rw [List.getD_eq_getElem?_getD, show ((i : Int)).toNat = i from rfl, List.getElem?_eq_getElem h]; rfl
end Go.Proofs.Ytojankgmedccdaa.Pure
end
section
namespace Go.Proofs.Ytojankgmedccdaa.Pure
open Go.RowKit Own PTy Hand PIs RowV Wo
open PAw (drivers_copied.f logic_isBit.f logic_both.f logic_both.j0 logic_Resolve.f logic_Resolve.l0 r01Same.f r01Same.l0)
open PRs
theorem Ib (x : S26) (v : S30) (h : Db x v = true) : v.f0 = x.f0 ∧ v.f3 = [] ∧ (x.f0 = 1 → v.f2.length = 1) ∧ (x.f0 ≠ 1 → v.f2 = []) ∧ ∀ b ∈ v.f2, b ≤ 3 := by
  unfold Db at h; rw [Bool.and_eq_true, decide_eq_true_iff] at h; obtain ⟨h0, h⟩ := h; by_cases k1 : x.f0 = 1
  · rw [if_pos k1] at h; simp only [Bool.and_eq_true, decide_eq_true_iff] at h; obtain ⟨⟨_, h3⟩, hi, c⟩ := h; refine ⟨h0, List.length_eq_zero_iff.mp h3, fun _ => c, fun h => absurd k1 h, fun b a => ?_⟩; unfold isF at hi; simp only [Bool.and_eq_true, List.all_eq_true, decide_eq_true_iff] at hi; exact hi.2 b a
  · rw [if_neg k1] at h; simp only [Bool.and_eq_true, decide_eq_true_iff] at h; have e := List.length_eq_zero_iff.mp h.1.1; exact ⟨h0, List.length_eq_zero_iff.mp h.1.2, fun h => absurd h k1, fun _ => e, fun b a => by rw [e] at a; cases a⟩
end Go.Proofs.Ytojankgmedccdaa.Pure
end
section
namespace Go.Proofs.Ytojankgmedccdaa.Pure
open Go.RowKit Own PTy Hand PIs RowV Wo
open PAw (drivers_behind.f drivers_copied.f api_Bit_96.f api_Bit_96.l0)
open PGn
def okL (x : S26) : Int → List S63 → Prop
  | _, [] => True
  | u, c :: r => u < c.f0 ∧ c.f0 ≤ 2000000 ∧ Db x c.f1 = true ∧ okL x c.f0 r
theorem Me (x : S26) (l : List S63) : ∀ d i u, i + d = l.length → F5 x l d i u = true → okL x u (l.drop i) := by
  intro d; induction d with
  | zero => intro i u hi _; rw [List.drop_eq_nil_of_le (by omega)]; trivial
  | succ d b =>
    intro i u hi h; have a : i < l.length := by omega
    rw [List.drop_eq_getElem_cons a]; simp only [F5, Bool.and_eq_true, Bool.not_eq_true', decide_eq_false_iff_not, IL a] at h; exact ⟨by omega, by omega, h.2.2.1, b (i + 1) _ (by omega) h.2.2.2⟩
theorem IM {x : S26} : ∀ {u : Int} {l : List S63}, okL x u l → ∀ y ∈ l, u < y.f0 ∧ y.f0 ≤ 2000000 ∧ Db x y.f1 = true
  | _, [], _, _, h => by cases h
  | u, c :: r, ⟨h1, h2, h3, h4⟩, y, h => by
    rcases List.mem_cons.mp h with rfl | h
    · exact ⟨h1, h2, h3⟩
    · obtain ⟨d, a, b⟩ := IM h4 y h; exact ⟨by omega, a, b⟩
theorem KG {x : S26} {u a : Int} {l : List S63} (h : okL x u l) (b : a ≤ u) : okL x a l := by
  cases l with
  | nil => trivial
  | cons c r => exact ⟨by have := h.1; omega, h.2⟩
theorem FH {x : S26} {v : S30} {l : List S63} (h : DW x v l = true) : scB x = true ∧ Db x v = true ∧ l.length ≤ 64 ∧ okL x (-1) l := by
  unfold DW at h; simp only [Bool.and_eq_true, decide_eq_true_iff] at h; exact ⟨h.1, h.2.1, h.2.2.1, by simpa using Me x l l.length 0 (-1) (by omega) h.2.2.2⟩
theorem KH {x : S26} {v : S30} (h : Db x v = true) : v.f2.length ≤ 1 := by
  obtain ⟨c, d, a, b, e⟩ := Ib x v h; by_cases k1 : x.f0 = 1
  · rw [a k1]; omega
  · rw [b k1]; simp
def eqV (v w : S30) : Bool := decide (v.f1 = w.f1) && decide (v.f2 = w.f2)
theorem O5 (l m : List Int) (hl : l.length ≤ maxLen) (c : m.length ≤ maxLen) : Ev (fun k => api_Bit_96.f k l m) (decide (l = m)) := by
  have hm := ml; unfold api_Bit_96.f; by_cases h : l.length = m.length
  · have key : ∀ d i, i + d = l.length → Ev (fun k => api_Bit_96.l0 k l m (l.length : Int) (i : Int)) (decide (l.drop i = m.drop i)) := by
      intro d; induction d with
      | zero =>
        intro i hi; rw [List.drop_eq_nil_of_le (by omega), List.drop_eq_nil_of_le (by omega)]; exact Ev.step (f := fun _ => some true) (fun k => by rw [api_Bit_96.l0, zzn]) (by simpa using Ev.now _)
      | succ d g =>
        intro i hi; have a : i < l.length := by omega
        have b : i < m.length := by omega
        rw [List.drop_eq_getElem_cons a, List.drop_eq_getElem_cons b]; have hd : l[i] = m[i] → decide (l[i] :: l.drop (i + 1) = m[i] :: m.drop (i + 1)) = decide (l.drop (i + 1) = m.drop (i + 1)) := fun e => by rw [e]; exact decide_eq_decide.mpr ⟨fun h => (List.cons.inj h).2, fun h => by rw [h]⟩
        have hn : l[i] ≠ m[i] → decide (l[i] :: l.drop (i + 1) = m[i] :: m.drop (i + 1)) = false := fun e => decide_eq_false fun h => e (List.cons.inj h).1; by_cases e : l[i] = m[i]
        · refine Ev.step (f := fun k => api_Bit_96.l0 k l m (l.length : Int) ((i + 1 : Nat) : Int)) (fun k => ?_) (by rw [hd e]; exact g (i + 1) (by omega)); rw [api_Bit_96.l0, zzm, zzm, zzm, zzm, Gs l i a, Gs m i b, if_pos e, Bv (by omega) (by omega)]; rfl
        · refine Ev.step (f := fun _ => some false) (fun k => ?_) (by rw [hn e]; exact Ev.now _); rw [api_Bit_96.l0, zzm, zzm, zzm, zzm, Gs l i a, Gs m i b, if_neg e]
    exact Ev.congr (fun k => by rw [zzm]) (by simpa using key l.length 0 (by omega))
  · have e : decide (l = m) = false := decide_eq_false fun e => h (by rw [e]); rw [e]; exact Ev.congr (fun k => by rw [zzn]) (Ev.now _)
theorem OM (x : S26) (hs : scB x = true) (h3 : x.f3.length ≤ maxLen) (v w : S30) (hv : Db x v = true) (c : Db x w = true) : Ev (fun k => PGn.Cz.f k x.f0 x.f1 x.f2 x.f3 x.f4 v.f0 v.f1 v.f2 v.f3 w.f0 w.f1 w.f2 w.f3) (eqV v w) := by
  have hm := ml; have l1 := KH hv; have l2 := KH c; have d := (Ib x v hv).2.1; have g := (Ib x w c).2.1; have a := IZ x v hs h3; have b := IZ x w hs h3; rw [hv] at a; rw [c] at b; have key : Ev (fun k => PGn.Du.f k v.f0 v.f1 v.f2 v.f3 w.f0 w.f1 w.f2 w.f3) (eqV v w) := by
    refine Ev.step (fun k => by rw [PGn.Du.f]) ?_; unfold eqV; by_cases e : v.f1 = w.f1
    · refine Ev.congr (fun k => by rw [if_pos e]) (Ev.bind (O5 v.f2 w.f2 (by omega) (by omega)) ?_); rw [decide_eq_true e, Bool.true_and]; by_cases e2 : v.f2 = w.f2
      · rw [decide_eq_true e2]; exact Ev.congr (fun k => by rw [if_pos rfl, d, g]; rfl) (Ev.now true)
      · rw [decide_eq_false e2]; exact Ev.congr (fun k => by rw [zzo]) (Ev.now false)
    · rw [decide_eq_false e, Bool.false_and]; exact Ev.congr (fun k => by rw [if_neg e]) (Ev.now false)
  unfold PGn.Cz.f PGn.EK.f; refine Ev.bind (a := (eqV v w, 0)) (Ev.bind a (Ev.congr (fun k => by rw [if_pos rfl]) (Ev.bind b (Ev.congr (fun k => by rw [if_pos rfl]) (Ev.bind key (Ev.now _)))))) ?_; cases eqV v w with
  | true => exact Ev.congr (fun k => by rw [if_pos rfl]; rfl) (Ev.now _)
  | false => exact Ev.congr (fun k => by rw [zzo]) (Ev.now _)
theorem G6 (x : S26) (v : S30) (hv : Db x v = true) : drivers_copied.f v.f0 v.f1 v.f2 v.f3 = some (v.f0, v.f1, v.f2, v.f3) := by
  have := KH hv; unfold drivers_copied.f Es.f; rw [zzm]; rfl
def GX (l : List S63) (now : Int) : Bool := match l with | [] => false | c :: _ => decide (c.f0 < now)
theorem Js (a b : Int) (m : List Int) (p : List S30) (l : List S63) (now : Int) : drivers_behind.f a b m p l now = some (GX l now) := by
  unfold drivers_behind.f GX; cases l with
  | nil => rfl
  | cons c r => rw [if_pos (by simp)]; first | rfl | (rw [if_pos (by simp)]; rfl)
end Go.Proofs.Ytojankgmedccdaa.Pure
end
section
namespace Go.Proofs.Ytojankgmedccdaa.Pure
open Go.RowKit Own PTy Hand PIs RowV Wo
open PAw (drivers_all.f drivers_all.l0 drivers_rising.f drivers_rising.l0)
open PGn
theorem Lv (x : S26) (l : List S63) (hl : l.length ≤ 100) (hv : ∀ y ∈ l, Db x y.f1 = true) : Ev (fun k => drivers_all.f k l) l := by
  have hm := ml; unfold drivers_all.f; have key : ∀ d i, i + d = l.length → Ev (fun k => drivers_all.l0 k (l.take i) l (l.length : Int) (i : Int)) l := by
    intro d; induction d with
    | zero =>
      intro i hi; rw [List.take_of_length_le (by omega)]; exact Ev.step (f := fun _ => some l) (fun k => by rw [drivers_all.l0, zzn]) (Ev.now _)
    | succ d b =>
      intro i hi; have a : i < l.length := by omega
      have hg : AA l (i : Int) = l[i] := IL a; refine Ev.step (f := fun k => drivers_all.l0 k (l.take (i + 1)) l (l.length : Int) ((i + 1 : Nat) : Int)) (fun k => ?_) (b (i + 1) (by omega)); rw [drivers_all.l0, zzm, zzm, zzm, hg, G6 x _ (hv _ (List.getElem_mem a)), Option.bind_some, if_pos (by rw [List.length_take]; omega), Bv (n := (i : Int) + 1) (by omega) (by omega), IC, Lu, List.take_succ_eq_append_getElem a]; rfl
  exact Ev.congr (fun k => by rw [zzm, zzm]) (by simpa using key l.length 0 (by omega))
def EL : Int → List Int → Bool
  | _, [] => true
  | u, n :: r => !decide (n ≤ u) && (!decide (n > 1000000) && EL n r)
theorem Gt : ∀ {u : Int} {l : List Int}, EL u l = true → ∀ n ∈ l, u < n ∧ n ≤ 1000000
  | _, [], _, _, h => by cases h
  | u, a :: r, hr, n, h => by
    simp only [EL, Bool.and_eq_true, Bool.not_eq_true', decide_eq_false_iff_not] at hr; rcases List.mem_cons.mp h with rfl | h
    · exact ⟨by omega, by omega⟩
    · obtain ⟨c, b⟩ := Gt hr.2.2 n h; exact ⟨by omega, b⟩
theorem Mf (l : List Int) (hl : l.length ≤ maxLen) : Ev (fun k => drivers_rising.f k l) (EL (-1) l) := by
  have hm := ml; unfold drivers_rising.f; have key : ∀ d i u, i + d = l.length → Ev (fun k => drivers_rising.l0 k u l (l.length : Int) (i : Int)) (EL u (l.drop i)) := by
    intro d; induction d with
    | zero =>
      intro i u hi; rw [List.drop_eq_nil_of_le (by omega)]; exact Ev.step (f := fun _ => some true) (fun k => by rw [drivers_rising.l0, zzn]) (Ev.now _)
    | succ d b =>
      intro i u hi; have a : i < l.length := by omega
      rw [List.drop_eq_getElem_cons a]; have hg := Gs l i a; show Ev _ (!decide (l[i] ≤ u) && (!decide (l[i] > 1000000) && EL l[i] (l.drop (i + 1)))); by_cases h1 : l[i] ≤ u
      · rw [decide_eq_true h1]; exact Ev.step (f := fun _ => some false) (fun k => by rw [drivers_rising.l0, zzm, zzm, zzm, hg, if_pos h1]) (Ev.now _)
      by_cases h2 : l[i] > 1000000
      · rw [decide_eq_true h2, decide_eq_false h1]; exact Ev.step (f := fun _ => some false) (fun k => by rw [drivers_rising.l0, zzm, zzm, zzm, hg, if_neg h1, if_pos h2]) (Ev.now _)
      rw [decide_eq_false h1, decide_eq_false h2]; exact Ev.step (fun k => by rw [drivers_rising.l0, zzm, zzm, zzm, hg, if_neg h1, if_neg h2, Bv (n := (i : Int) + 1) (by omega) (by omega)] <;> rfl) (b (i + 1) l[i] (by omega))
  exact key l.length 0 (-1) (by omega)
def Ff (l : List S63) (t : Int) : Nat := l.findIdx fun c => decide (t ≤ c.f0)
theorem KI (l : List S63) (t : Int) : Ff l t ≤ l.length := List.findIdx_le_length
theorem Ko (l : List S63) (t : Int) (i : Nat) (h : i < Ff l t) (hi : i < l.length) : l[i].f0 < t := by
  have := List.not_of_lt_findIdx (p := fun c : S63 => decide (t ≤ c.f0)) (xs := l) h; simpa using this
theorem O6 (l : List S63) (t : Int) (h : Ff l t < l.length) : t ≤ (l[Ff l t]).f0 := by
  exact of_decide_eq_true (List.findIdx_getElem (p := fun c : S63 => decide (t ≤ c.f0)) (xs := l) (w := h))
def Kq (l : List S63) (v0 : S30) : Nat → Nat
  | 0 => 0
  | n + 1 => if eqV ((AA l (n : Int)).f1) v0 = true then Kq l v0 n else n + 1
def Gu (now : Int) (vals : List S30) (after : List Int) : List S63 := List.zipWith (fun v n => (⟨now + n, v⟩ : S63)) vals after
def Kr (l : List S63) (now : Int) (vals : List S30) (after : List Int) (tr : Bool) : Nat := if tr = true then 0 else Kq l (AB vals 0) (Ff l (now + rd after 0))
def LY (v : S30) (l : List S63) (now : Int) (vals : List S30) (after : List Int) (s f : Nat) : Int × Int × List Int × List S30 × List S63 × Int :=
  if s - f + vals.length > 64 then (0, 0, [], [], [], 3) else (v.f0, v.f1, v.f2, v.f3, (l.take s).drop f ++ Gu now vals after, 0)
def I1 (x : S26) (v : S30) (l : List S63) (now : Int) (vals : List S30) (after : List Int) (tr : Bool) : Int × Int × List Int × List S30 × List S63 × Int :=
  if DW x v l = true ∧ 0 ≤ now ∧ now ≤ 1000000 ∧ 1 ≤ vals.length ∧ vals.length ≤ 64 ∧ after.length = vals.length ∧ EL (-1) after = true ∧ vals.all (Db x) = true then
    (if GX l now = true then (0, 0, [], [], [], 5) else LY v l now vals after (Ff l (now + rd after 0)) (Kr l now vals after tr))
  else (0, 0, [], [], [], 2)
theorem Mg (x : S26) (v : S30) (now : Int) (h0 : 0 ≤ now) (h1 : now ≤ 1000000) (vals : List S30) (hn : vals.length ≤ 64) (after : List Int) (ha : after.length = vals.length) (hr : EL (-1) after = true) (hall : ∀ y ∈ vals, Db x y = true) : ∀ d i out, i + d = vals.length → out.length ≤ 64 + i →
    Ev (fun k => PGn.AC.l2 k vals (vals.length : Int) (i : Int) now after v.f0 v.f1 v.f2 v.f3 out) (v.f0, v.f1, v.f2, v.f3, out ++ Gu now (vals.drop i) (after.drop i), 0) := by
  have hm := ml; intro d; induction d with
  | zero =>
    intro i out hi ho; rw [List.drop_eq_nil_of_le (show vals.length ≤ i by omega)]; exact Ev.step (f := fun _ => some (v.f0, v.f1, v.f2, v.f3, out, 0)) (fun k => by rw [PGn.AC.l2, zzn]) (by simpa [Gu] using Ev.now _)
  | succ d g =>
    intro i out hi ho; have a : i < vals.length := by omega
    have b : i < after.length := by omega
    have hg := IK (l := vals) a; have c := Gs after i b; have h := Gt hr _ (List.getElem_mem b); have e := g (i + 1) (out ++ [⟨now + after[i], vals[i]⟩]) (by omega) (Nat.le_trans (Nat.le_of_eq (List.length_append ..)) (by show out.length + 1 ≤ 64 + (i + 1); omega)); rw [List.drop_eq_getElem_cons a, List.drop_eq_getElem_cons b]; show Ev _ (v.f0, v.f1, v.f2, v.f3, out ++ (⟨now + after[i], vals[i]⟩ :: Gu now (vals.drop (i + 1)) (after.drop (i + 1))), 0); rw [List.append_assoc, List.singleton_append] at e; refine Ev.step (f := fun k => PGn.AC.l2 k vals (vals.length : Int) ((i + 1 : Nat) : Int) now after v.f0 v.f1 v.f2 v.f3 (out ++ [⟨now + after[i], vals[i]⟩])) (fun k => ?_) e; rw [PGn.AC.l2, zzm, zzm, zzm, zzm, hg, c, G6 x _ (hall _ (List.getElem_mem a)), Option.bind_some, zzm, Bv (n := (i : Int) + 1) (by omega) (by omega), Bv (n := now + after[i]) (by omega) (by omega), IC]; rfl
theorem Ic (x : S26) (v : S30) (hv : Db x v = true) (l : List S63) (hl : l.length ≤ 64) (hok : okL x (-1) l) (now : Int) (h0 : 0 ≤ now) (h1 : now ≤ 1000000) (vals : List S30) (hn : vals.length ≤ 64) (after : List Int) (ha : after.length = vals.length) (hr : EL (-1) after = true) (hall : ∀ y ∈ vals, Db x y = true) (s f : Nat) (c : s ≤ l.length) (g : f ≤ s) : Ev (fun k => PGn.AC.j4 k vals (s : Int) (f : Int) v.f0 v.f1 v.f2 v.f3 l now after) (LY v l now vals after s f) := by
  have hm := ml; have b : wrap64 (wrap64 ((s : Int) - (f : Int)) + (vals.length : Int)) = ((s - f + vals.length : Nat) : Int) := by rw [Bv (n := (s : Int) - (f : Int)) (by omega) (by omega), Bv (by omega) (by omega)]; omega
  unfold LY; by_cases h : s - f + vals.length > 64
  · rw [if_pos h]; exact Ev.step (f := fun _ => some (0, 0, [], [], [], 3)) (fun k => by rw [PGn.AC.j4, b, zzm]) (Ev.now _)
  · rw [if_neg h]; have a : ((l.take s).drop f).length = s - f := by rw [List.length_drop, List.length_take]; omega
    have e := Mg x v now h0 h1 vals hn after ha hr hall vals.length 0 ((l.take s).drop f) (by omega) (by omega); rw [List.drop_zero, List.drop_zero] at e; refine Ev.step (fun k => by rw [PGn.AC.j4, b, zzn, G6 x v hv, Option.bind_some, zzm, zzm, zzm, show ((s : Int)).toNat = s from rfl, show ((f : Int)).toNat = f from rfl] <;> rfl) (Ev.bind (Lv x _ (by omega) fun y d => (IM hok y (List.mem_of_mem_take (List.mem_of_mem_drop d))).2.2) e)
theorem Mh (x : S26) (hs : scB x = true) (h3 : x.f3.length ≤ maxLen) (v : S30) (hv : Db x v = true) (l : List S63) (hl : l.length ≤ 64) (hok : okL x (-1) l) (now : Int) (h0 : 0 ≤ now) (h1 : now ≤ 1000000) (vals : List S30) (h : 1 ≤ vals.length) (hn : vals.length ≤ 64) (after : List Int) (ha : after.length = vals.length) (hr : EL (-1) after = true) (hall : ∀ y ∈ vals, Db x y = true) (s : Nat) (a : s ≤ l.length) : ∀ n, n ≤ s → Ev (fun k => PGn.AC.l1 k vals (s : Int) (n : Int) x.f0 x.f1 x.f2 x.f3 x.f4 v.f0 v.f1 v.f2 v.f3 l now after) (LY v l now vals after s (Kq l (AB vals 0) n)) := by
  have hm := ml; intro n; induction n with
  | zero =>
    intro _; exact Ev.step (fun k => by rw [PGn.AC.l1, zzn]) (Ic x v hv l hl hok now h0 h1 vals hn after ha hr hall s 0 a (by omega))
  | succ n m =>
    intro c; have j : wrap64 (((n + 1 : Nat) : Int) - 1) = (n : Int) := by rw [Bv (by omega) (by omega)]; omega
    have d := (IM hok _ (IJ (l := l) (i := n) (by omega))).2.2; have g := hall _ (FC (l := vals) (i := 0) (by omega)); refine Ev.step (fun k => by rw [PGn.AC.l1, j, zzm, zzm, zzm, zzm] <;> rfl) (Ev.bind (OM x hs h3 _ _ d g) ?_); unfold Kq; by_cases e : eqV ((AA l (n : Int)).f1) (AB vals ((0 : Nat) : Int)) = true
    · have b : eqV ((AA l (n : Int)).f1) (AB vals 0) = true := e; rw [if_pos b]; exact Ev.congr (fun k => by rw [e, if_pos rfl]) (m (by omega))
    · have b : ¬ eqV ((AA l (n : Int)).f1) (AB vals 0) = true := e; rw [if_neg b]; exact Ev.congr (fun k => by rw [if_neg e]) (Ic x v hv l hl hok now h0 h1 vals hn after ha hr hall s (n + 1) a c)
end Go.Proofs.Ytojankgmedccdaa.Pure
end
section
namespace Go.Proofs.Ytojankgmedccdaa.Pure
open Go.RowKit Own PTy Hand PIs RowV Wo
open PGn
def PN (v : S30) (l : List S63) (now : Int) (vals : List S30) (after : List Int) (tr : Bool) : Int × Int × List Int × List S30 × List S63 × Int :=
  if GX l now = true then (0, 0, [], [], [], 5) else LY v l now vals after (Ff l (now + rd after 0)) (Kr l now vals after tr)
theorem rd0 (after : List Int) (h : 0 < after.length) (hr : EL (-1) after = true) : 0 ≤ rd after 0 ∧ rd after 0 ≤ 1000000 := by
  have e : rd after 0 = after[0] := Gs after 0 h; have := Gt hr _ (List.getElem_mem h); rw [e]; omega
theorem Mi (x : S26) (hs : scB x = true) (h3 : x.f3.length ≤ maxLen) (v : S30) (hv : Db x v = true) (l : List S63) (hl : l.length ≤ 64) (hok : okL x (-1) l) (now : Int) (h0 : 0 ≤ now) (h1 : now ≤ 1000000) (vals : List S30) (b : 1 ≤ vals.length) (hn : vals.length ≤ 64) (after : List Int) (ha : after.length = vals.length) (hr : EL (-1) after = true) (hall : ∀ y ∈ vals, Db x y = true) (tr : Bool) (s : Nat) (a : s ≤ l.length) :
    Ev (fun k => PGn.AC.j2 k vals tr (s : Int) x.f0 x.f1 x.f2 x.f3 x.f4 v.f0 v.f1 v.f2 v.f3 l now after) (LY v l now vals after s (if tr = true then 0 else Kq l (AB vals 0) s)) := by
  cases tr with
  | true => exact Ev.step (fun k => by rw [PGn.AC.j2, if_pos rfl] <;> rfl) (Ic x v hv l hl hok now h0 h1 vals hn after ha hr hall s 0 a (by omega))
  | false => exact Ev.step (fun k => by rw [PGn.AC.j2, zzo]) (Mh x hs h3 v hv l hl hok now h0 h1 vals b hn after ha hr hall s a s (by omega))
theorem Mj (x : S26) (hs : scB x = true) (h3 : x.f3.length ≤ maxLen) (v : S30) (hv : Db x v = true) (l : List S63) (hl : l.length ≤ 64) (hok : okL x (-1) l) (now : Int) (h0 : 0 ≤ now) (h1 : now ≤ 1000000) (vals : List S30) (o : 1 ≤ vals.length) (hn : vals.length ≤ 64) (after : List Int) (ha : after.length = vals.length) (hr : EL (-1) after = true) (tr : Bool) :
    ∀ d i, i + d = vals.length → (∀ j, j < i → Db x (AB vals (j : Int)) = true) → Ev (fun k => PGn.AC.l0 k now vals after tr vals (vals.length : Int) (i : Int) x.f0 x.f1 x.f2 x.f3 x.f4 v.f0 v.f1 v.f2 v.f3 l now after) (if vals.all (Db x) = true then PN v l now vals after tr else (0, 0, [], [], [], 2)) := by
  have hm := ml; intro d; induction d with
  | zero =>
    intro i hi g; have hall : ∀ y ∈ vals, Db x y = true := by
      intro y w; obtain ⟨j, m, r⟩ := List.mem_iff_getElem.mp w; have := g j (by omega); rw [IK m] at this; exact r ▸ this
    rw [if_pos (List.all_eq_true.mpr hall)]; refine Ev.step (fun k => by rw [PGn.AC.l0, zzn, Js, Option.bind_some]) ?_; unfold PN; cases GX l now with
    | true =>
      show Ev _ ((0 : Int), (0 : Int), ([] : List Int), ([] : List S30), ([] : List S63), (5 : Int)); exact Ev.congr (fun k => by rw [if_pos rfl]) (Ev.now _)
    | false =>
      rw [zzo]; obtain ⟨B, D⟩ := rd0 after (by omega) hr; have u : wrap64 (now + rd after 0) = now + rd after 0 := Bv (by omega) (by omega); have q := KI l (now + rd after 0); have e := Mi x hs h3 v hv l hl hok now h0 h1 vals o hn after ha hr hall tr (Ff l (now + rd after 0)) q; unfold Kr; refine Ev.congr (fun k => ?_) e; rw [zzo]; unfold FR.f; rw [zzm, Option.bind_some, u]; cases hf : l.findIdx? (fun c => decide (now + rd after 0 ≤ c.f0)) with
      | none =>
        have a : Ff l (now + rd after 0) = l.length := List.findIdx?_eq_none_iff_findIdx_eq.mp hf; rw [if_pos (by simp), a]
      | some i =>
        have a : Ff l (now + rd after 0) = i := (List.findIdx?_eq_some_iff_findIdx_eq.mp hf).2; rw [zzo, a]
  | succ d z =>
    intro i hi g; have b : i < vals.length := by omega
    cases hh : Db x (AB vals (i : Int)) with
    | false =>
      have p : ¬ vals.all (Db x) = true := fun h => by
        have := List.all_eq_true.mp h _ (FC b); rw [hh] at this; cases this
      rw [if_neg p]; refine Ev.step (fun k => by rw [PGn.AC.l0, zzm, zzm, zzm]) (Ev.bind (IZ x (AB vals (i : Int)) hs h3) ?_); rw [hh]; exact Ev.congr (fun k => by rw [zzo]) (Ev.now _)
    | true =>
      refine Ev.step (fun k => by rw [PGn.AC.l0, zzm, zzm, zzm]) (Ev.bind (IZ x (AB vals (i : Int)) hs h3) ?_); rw [hh]; refine Ev.congr (fun k => by rw [if_pos rfl, Bv (n := (i : Int) + 1) (by omega) (by omega)] <;> rfl) (z (i + 1) (by omega) fun j s => ?_); by_cases e : j = i
      · rw [e]; exact hh
      · exact g j (by omega)
theorem Mk (x : S26) (h3 : x.f3.length ≤ maxLen) (v : S30) (l : List S63) (hl : l.length ≤ maxLen) (now : Int) (vals : List S30) (after : List Int) (c : after.length ≤ maxLen) (tr : Bool) :
    Ev (fun k => PGn.AC.f k x.f0 x.f1 x.f2 x.f3 x.f4 v.f0 v.f1 v.f2 v.f3 l now vals after tr) (I1 x v l now vals after tr) := by
  have hm := ml; have a : Ev (fun k => PGn.AC.j0 k now vals after tr true x.f0 x.f1 x.f2 x.f3 x.f4 v.f0 v.f1 v.f2 v.f3 l now after) (0, 0, [], [], [], 2) := Ev.step (f := fun _ => some (0, 0, [], [], [], 2)) (fun k => by rw [PGn.AC.j0, if_pos rfl]) (Ev.now _); unfold PGn.AC.f I1; refine Ev.bind (OG x h3 v l hl) ?_; cases hp : DW x v l with
  | false => rw [zzo]; exact Ev.congr (fun k => by rw [zzo]) a
  | true =>
    refine Ev.congr (fun k => by rw [if_pos rfl]) ?_; by_cases a1 : now < 0
    · rw [zzn]; exact Ev.congr (fun k => by rw [if_pos a1]) a
    by_cases a2 : now > 1000000
    · rw [zzn]; exact Ev.congr (fun k => by rw [if_neg a1, if_pos a2]) a
    by_cases a3 : (vals.length : Int) < 1
    · rw [zzn]; exact Ev.congr (fun k => by rw [if_neg a1, if_neg a2, if_pos a3]) a
    by_cases a4 : (vals.length : Int) > 64
    · rw [zzn]; exact Ev.congr (fun k => by rw [if_neg a1, if_neg a2, if_neg a3, if_pos a4]) a
    by_cases a5 : (after.length : Int) = (vals.length : Int)
    · refine Ev.congr (fun k => by rw [if_neg a1, if_neg a2, if_neg a3, if_neg a4, if_pos a5]) (Ev.bind (Mf after c) ?_); cases hr : EL (-1) after with
      | false => rw [zzo]; exact a
      | true =>
        obtain ⟨hs, hv, b, hok⟩ := FH hp; have e := Mj x hs h3 v hv l b hok now (by omega) (by omega) vals (by omega) (by omega) after (by omega) hr tr vals.length 0 (by omega) (by omega); refine Ev.step (f := fun k => PGn.AC.l0 k now vals after tr vals (vals.length : Int) ((0 : Nat) : Int) x.f0 x.f1 x.f2 x.f3 x.f4 v.f0 v.f1 v.f2 v.f3 l now after) (fun k => by rw [PGn.AC.j0, zzo]; rfl) ?_; by_cases hall : vals.all (Db x) = true
        · rw [if_pos hall] at e; rw [if_pos ⟨rfl, by omega, by omega, by omega, by omega, by omega, rfl, hall⟩]; exact e
        · rw [if_neg hall] at e; rw [if_neg (fun h => hall h.2.2.2.2.2.2.2)]; exact e
    · rw [zzn]; exact Ev.congr (fun k => by rw [if_neg a1, if_neg a2, if_neg a3, if_neg a4, if_neg a5]) a
theorem OO (now : Int) (vals : List S30) (after : List Int) (h : after.length = vals.length) : (Gu now vals after).length = vals.length := by unfold Gu; rw [List.length_zipWith, h, Nat.min_self]
section
variable (x : S26) (v : S30) (now : Int) (h0 : 0 ≤ now) (h1 : now ≤ 1000000) (vals : List S30) (hn : vals.length ≤ 64) (after : List Int) (ha : after.length = vals.length) (hr : EL (-1) after = true) (hall : ∀ y ∈ vals, Db x y = true)
include h0 h1 hn ha hr hall
variable (hv : Db x v = true) (l : List S63) (hl : l.length ≤ 64) (hok : okL x (-1) l)
include hv hl hok
end
end Go.Proofs.Ytojankgmedccdaa.Pure
end
section
namespace Go.Proofs.Ytojankgmedccdaa.Pure
open Go.RowKit Own PTy Hand PIs RowV Wo
open PGn
theorem Ml (x : S26) (l : List S63) : ∀ d i u, i + d = l.length → okL x u (l.drop i) → F5 x l d i u = true := by
  intro d; induction d with
  | zero => intro i u _ _; rfl
  | succ d c =>
    intro i u hi h; have a : i < l.length := by omega
    rw [List.drop_eq_getElem_cons a] at h; obtain ⟨h1, e, h3, b⟩ := h; simp only [F5, Bool.and_eq_true, Bool.not_eq_true', decide_eq_false_iff_not, IL a]; exact ⟨by omega, by omega, h3, c (i + 1) _ (by omega) b⟩
theorem JV {x : S26} {v : S30} {l : List S63} (hs : scB x = true) (hv : Db x v = true) (a : l.length ≤ 64) (hok : okL x (-1) l) : DW x v l = true := by
  unfold DW; rw [hs, hv, decide_eq_true a, Ml x l l.length 0 (-1) (by omega) (by simpa using hok)]; rfl
theorem Kt {x : S26} : ∀ {u : Int} {l : List S63} (s : Nat), okL x u l → okL x u (l.take s)
  | _, [], s, _ => by simp [okL]
  | _, _ :: _, 0, _ => trivial
  | _, c :: r, s + 1, ⟨h1, h2, h3, h4⟩ => ⟨h1, h2, h3, Kt s h4⟩
theorem Ku {x : S26} : ∀ {u : Int} {l : List S63} (s : Nat), okL x u l → okL x u (l.drop s)
  | _, [], s, _ => by simp [okL]
  | _, _ :: _, 0, h => h
  | u, c :: r, s + 1, ⟨h1, _, _, h4⟩ => KG (Ku s h4) (by omega)
theorem JW {x : S26} : ∀ {u w : Int} {a b : List S63}, okL x u a → (∀ y ∈ a, y.f0 ≤ w) → u ≤ w → okL x w b → okL x u (a ++ b)
  | _, _, [], _, _, _, hu, hb => KG hb hu
  | _, w, c :: a, b, ⟨h1, h2, h3, h4⟩, hw, hu, hb => ⟨h1, h2, h3, JW h4 (fun y h => hw y (List.mem_cons_of_mem _ h)) (hw c List.mem_cons_self) hb⟩
theorem Kv (x : S26) (now : Int) (h1 : now ≤ 1000000) : ∀ (m : Int) (vals : List S30) (after : List Int), EL m after = true → (∀ y ∈ vals, Db x y = true) → okL x (now + m) (Gu now vals after)
  | _, [], _, _, _ => by simp [Gu, okL]
  | _, _ :: _, [], _, _ => trivial
  | m, a :: r, n :: q, hr, hv => by
    have b := Gt hr n List.mem_cons_self; simp only [EL, Bool.and_eq_true, Bool.not_eq_true', decide_eq_false_iff_not] at hr; exact ⟨by show now + m < now + n; omega, by show now + n ≤ 2000000; omega, hv a List.mem_cons_self, Kv x now h1 n r q hr.2.2 fun y h => hv y (List.mem_cons_of_mem _ h)⟩
theorem Lx (now : Int) : ∀ (m : Int) (vals : List S30) (after : List Int), EL m after = true → ∀ y ∈ Gu now vals after, now + rd after 0 ≤ y.f0
  | _, [], _, _, y, h => by simp [Gu] at h
  | _, _ :: _, [], _, y, h => by simp [Gu] at h
  | m, a :: r, n :: q, hr, y, h => by
    have e : rd (n :: q) 0 = n := rfl; rw [e]; simp only [EL, Bool.and_eq_true, Bool.not_eq_true', decide_eq_false_iff_not] at hr; rcases List.mem_cons.mp (show y ∈ (⟨now + n, a⟩ : S63) :: Gu now r q from h) with rfl | h
    · exact Int.le_refl _
    · cases q with
      | nil => cases r <;> simp [Gu] at h
      | cons b c =>
        have := Lx now n r (b :: c) hr.2.2 y h; have g := Gt hr.2.2 b List.mem_cons_self; have d : rd (b :: c) 0 = b := rfl; rw [d] at this; omega
theorem KJ (x : S26) (v : S30) (l : List S63) (now : Int) (vals : List S30) (after : List Int) (tr : Bool)
    (g : DW x v l = true ∧ 0 ≤ now ∧ now ≤ 1000000 ∧ 1 ≤ vals.length ∧ vals.length ≤ 64 ∧ after.length = vals.length ∧ EL (-1) after = true ∧ vals.all (Db x) = true) (m : Ff l (now + rd after 0) - Kr l now vals after tr + vals.length ≤ 64) :
    DW x v ((l.take (Ff l (now + rd after 0))).drop (Kr l now vals after tr) ++ Gu now vals after) = true := by
  obtain ⟨hp, h0, h1, j, hn, ha, hr, hall⟩ := g; obtain ⟨hs, hv, d, hok⟩ := FH hp; obtain ⟨n, o⟩ := rd0 after (by omega) hr; have k := KI l (now + rd after 0); refine JV hs hv ?_ ?_
  · rw [List.length_append, OO now vals after ha, List.length_drop, List.length_take]; omega
  · have b : okL x (now + rd after 0 - 1) (Gu now vals after) := by
      have := Kv x now h1 (-1) vals after hr (List.all_eq_true.mp hall); have a := Lx now (-1) vals after hr; cases hq : Gu now vals after with
      | nil => trivial
      | cons c q =>
        rw [hq] at this a; exact ⟨by have := a c List.mem_cons_self; omega, this.2⟩
    refine JW (Ku _ (Kt _ hok)) (fun y h => ?_) (by omega) b; have hm := List.mem_of_mem_drop h; obtain ⟨i, hi, e⟩ := List.mem_iff_getElem.mp hm; rw [List.length_take] at hi; rw [List.getElem_take] at e; have := Ko l (now + rd after 0) i (by omega) (by omega); rw [e] at this; omega
end Go.Proofs.Ytojankgmedccdaa.Pure
end
section
namespace Go.Proofs.Ytojankgmedccdaa.Pure
open Go.RowKit Own PTy Hand PIs RowV Wo
open PAw (drivers_all.f drivers_all.l0)
open PGn
theorem G7 (x : S26) (h3 : x.f3.length ≤ maxLen) (v : S30) (l : List S63) (hl : l.length ≤ maxLen) (hp : DW x v l = true) : Ev (fun k => PGn.CX.f k x.f0 x.f1 x.f2 x.f3 x.f4 v.f0 v.f1 v.f2 v.f3 l) (match l with | [] => (0, 4) | c :: _ => (c.f0, 0)) := by
  unfold PGn.CX.f; refine Ev.bind (OG x h3 v l hl) ?_; rw [hp]; cases l with
  | nil => exact Ev.congr (fun k => by rw [if_pos rfl, if_pos (by simp)]) (Ev.now _)
  | cons c r => exact Ev.congr (fun k => by rw [if_pos rfl, if_neg (by simp; omega), if_pos (by simp)]; rfl) (Ev.now _)
theorem Jt (x : S26) (h3 : x.f3.length ≤ maxLen) (v : S30) (c : S63) (r : List S63) (hp : DW x v (c :: r) = true) : Ev (fun k => Ao.f k x.f0 x.f1 x.f2 x.f3 x.f4 v.f0 v.f1 v.f2 v.f3 (c :: r) c.f0) (c.f1.f0, c.f1.f1, c.f1.f2, c.f1.f3, r, true, 0) := by
  have hm := ml; obtain ⟨hs, hv, b, hok⟩ := FH hp; have d : ∀ y ∈ c :: r, Db x y.f1 = true := fun y h => (IM hok y h).2.2; obtain ⟨g, i, j, l⟩ := hok; unfold Ao.f; refine Ev.bind (OG x h3 v (c :: r) (by omega)) ?_; rw [hp]; refine Ev.congr (fun k => by rw [if_pos rfl, if_neg (show ¬ c.f0 < 0 by omega), decide_eq_false (show ¬ c.f0 > 2000000 by omega)]) (Ev.step (fun k => by rw [Ao.j0, zzo, Js, Option.bind_some]) ?_); rw [show GX (c :: r) c.f0 = false from decide_eq_false (by omega)]; have e := d c List.mem_cons_self; refine Ev.congr (f := fun k => Ao.j1 k false v.f0 v.f1 v.f2 v.f3 (c :: r)) (fun k => ?_) ?_
  · rw [zzo, if_neg (by simp; omega), if_pos (by simp), show AA (c :: r) 0 = c from rfl, show (c.f0 != c.f0) = false from bne_eq_false_iff_eq.mpr rfl]
  refine Ev.step (f := fun k => (drivers_all.f k r).bind fun a => (some (c.f1.f0, c.f1.f1, c.f1.f2, c.f1.f3, a, true, 0))) (fun k => ?_) (Ev.bind (Lv x r (by simp at b; omega) fun y h => d y (List.mem_cons_of_mem _ h)) (Ev.now _)); rw [Ao.j1, zzo, if_pos (by simp), show AA (c :: r) 0 = c from rfl, G6 x c.f1 e, Option.bind_some, if_pos (by simp; omega)]; rfl
theorem OP (x : S26) (h3 : x.f3.length ≤ maxLen) (v : S30) (l : List S63) (hp : DW x v l = true) : Ev (fun k => DK.f k x.f0 x.f1 x.f2 x.f3 x.f4 v.f0 v.f1 v.f2 v.f3 l) (l, true) := by
  have hm := ml; have key : ∀ (r : List S63) (v : S30) (i : Nat) (out : List S63), DW x v r = true → i + r.length ≤ 64 → out.length ≤ i → Ev (fun k => DK.l0 k out (i : Int) x.f0 x.f1 x.f2 x.f3 x.f4 v.f0 v.f1 v.f2 v.f3 r) (out ++ r, true) := by
    intro r; induction r with
    | nil =>
      intro v i out hp hi ho; rw [List.append_nil]; refine Ev.step (fun k => by rw [DK.l0, if_pos (by simp at hi; omega)]) (Ev.bind (G7 x h3 v [] (by simp) hp) ?_); exact Ev.congr (fun k => by rw [if_pos rfl]) (Ev.now _)
    | cons c r d =>
      intro v i out hp hi ho; rw [List.length_cons] at hi; obtain ⟨hs, hv, b, hok⟩ := FH hp; have a : DW x c.f1 r = true := JV hs hok.2.2.1 (by omega) (KG hok.2.2.2 (by have := hok.1; omega)); have e := d c.f1 (i + 1) (out ++ [c]) a (by omega) (by rw [List.length_append]; simp; omega); rw [List.append_assoc, List.singleton_append] at e; refine Ev.step (fun k => by rw [DK.l0, zzm]) (Ev.bind (G7 x h3 v (c :: r) (by simp; omega) hp) ?_); refine Ev.congr (fun k => by rw [if_neg (show ¬ ((c.f0, (0 : Int)).2 = 4) by simp)]) (Ev.bind (Jt x h3 v c r hp) ?_); refine Ev.congr (fun k => ?_) e; rw [if_pos rfl, if_pos rfl, if_pos rfl, zzm, Bv (n := (i : Int) + 1) (by omega) (by omega), IC, Lu]; rfl
  unfold DK.f; have := key l v 0 [] hp (by have := (FH hp).2.2.1; omega) (by simp); simpa using this
end Go.Proofs.Ytojankgmedccdaa.Pure
end
section
namespace Go.Proofs.Ytojankgmedccdaa.Pure
open Go.RowKit Own PTy Hand PIs RowV Wo
open PGn
theorem Kw (x : S26) (v u : S30) (l : List S63) (now dl : Int) (hp : DW x v l = true) (o : Db x u = true) (h0 : 0 ≤ now) (h1 : now ≤ 1000000) (d0 : 0 ≤ dl) (d1 : dl ≤ 1000000) (m : l.length + 1 ≤ 64) (i : ∀ y ∈ l, now < y.f0) (h : ∀ y ∈ l, y.f0 < now + dl) :
    I1 x v l now [u] [dl] true = (v.f0, v.f1, v.f2, v.f3, l ++ [⟨now + dl, u⟩], 0) ∧ DW x v (l ++ [⟨now + dl, u⟩]) = true := by
  have hr : EL (-1) [dl] = true := by simp [EL]; omega
  have hall : ([u] : List S30).all (Db x) = true := by simp [o]
  have n : GX l now = false := by
    cases l with
    | nil => rfl
    | cons c r => exact decide_eq_false (by have := i c List.mem_cons_self; omega)
  have b : Ff l (now + rd [dl] 0) = l.length := by
    have e : rd [dl] 0 = dl := rfl; rw [e]; have p := KI l (now + dl); by_cases h3 : Ff l (now + dl) < l.length
    · have := O6 l (now + dl) h3; have := h _ (List.getElem_mem h3); omega
    · omega
  have j : DW x v l = true ∧ 0 ≤ now ∧ now ≤ 1000000 ∧ 1 ≤ ([u] : List S30).length ∧ ([u] : List S30).length ≤ 64 ∧ ([dl] : List Int).length = ([u] : List S30).length ∧ EL (-1) [dl] = true ∧ ([u] : List S30).all (Db x) = true := ⟨hp, h0, h1, by simp, by simp, by simp, hr, hall⟩; have a : Kr l now [u] [dl] true = 0 := by unfold Kr; rw [if_pos rfl]
  have d : Gu now [u] [dl] = [⟨now + dl, u⟩] := rfl; have k : Ff l (now + rd [dl] 0) - Kr l now [u] [dl] true + ([u] : List S30).length ≤ 64 := by rw [b, a]; simp; omega
  have g := KJ x v l now [u] [dl] true j k; rw [b, a, d, List.take_length, List.drop_zero] at g; refine ⟨?_, g⟩; unfold I1; rw [if_pos j, n, zzo]; unfold LY; rw [if_neg (by rw [b, a]; simp; omega), b, a, d, List.take_length, List.drop_zero]
section
variable (n : Nat) (x : S26) (hx : okT n x) (h3 : x.f3.length ≤ maxLen) (hs : scB x = true) (gaps : List Int) (hg : ∀ z ∈ gaps, 0 ≤ z ∧ z < 65536) (dl : Int) (d0 : 0 ≤ dl) (d1 : dl < 65536) (vals : List S30) (h50 : vals.length ≤ 50) (hgl : vals.length ≤ gaps.length) (hgm : gaps.length ≤ maxLen) (hvs : ∀ y ∈ vals, okV n y) (sm : ∀ y ∈ vals, smV n y)
include hx h3 hs hg d0 d1 h50 hgl hgm hvs sm
omit hx hs hg d0 d1 h50 hgl hgm hvs sm in
theorem OQ (v : S30) (l : List S63) (hp : DW x v l = true) (want got : List S63) (c : got ++ l = want) (d : want.length ≤ 50) (b : ∀ y ∈ want, smV n y.f1) (now : Int) :
    Ev (fun k => AV.l0 k gaps dl want got now vals (vals.length : Int) (vals.length : Int) x.f0 x.f1 x.f2 x.f3 x.f4 v.f0 v.f1 v.f2 v.f3 l) true := by
  have hm := ml; have a : Ev (fun k => (Dl.f k).bind fun t => some t) true := Ev.now true; have hl : got.length + l.length = want.length := by rw [← c, List.length_append]
  refine Ev.step (fun k => by rw [AV.l0, zzn]) (Ev.bind (OP x h3 v l hp) ?_); refine Ev.congr (fun k => by rw [if_pos rfl, if_pos (show got.length + l.length < 1954687338268 by omega), c]) (Ev.bind (Md n want (by omega) b) ?_); exact Ev.congr (fun k => by rw [if_pos rfl]) a
theorem O7 : ∀ d i (v : S30) (l want got : List S63) (now : Int), i + d = vals.length → DW x v l = true → smV n v → got ++ l = want → want.length = i → (∀ y ∈ want, smV n y.f1) → 0 ≤ now → now ≤ 1000 * i → (∀ y ∈ l, y.f0 ≤ now + dl) →
    Ev (fun k => AV.l0 k gaps dl want got now vals (vals.length : Int) (i : Int) x.f0 x.f1 x.f2 x.f3 x.f4 v.f0 v.f1 v.f2 v.f3 l) true := by
  have hm := ml; have w : Ev (fun k => (Dl.f k).bind fun t => some t) true := Ev.now true; intro d; induction d with
  | zero =>
    intro i v l want got now hi hp p g Y o L O b; obtain rfl : i = vals.length := by omega
    exact OQ n x h3 gaps dl vals v l hp want got g (by omega) o now
  | succ d ih =>
    intro i v l want got now hi hp p g Y o L O b; have m : i < vals.length := by omega
    have q : i < gaps.length := by omega
    have G := IK (l := vals) m; have D := Gs gaps i q; have B := hg _ (List.getElem_mem q); have U := hvs _ (List.getElem_mem m); refine Ev.step (fun k => by rw [AV.l0, zzm, zzm, zzm, G]) (Ev.bind (Ia n x hx _ U hs) ?_); cases hu : Db x vals[i] with
    | false => exact Ev.congr (fun k => by rw [zzo]) w
    | true =>
      obtain ⟨a, Z, m0, m1⟩ : ∃ a, wrap64 (now + (wrap64 (1 + (Int.tmod (wrap64 gaps[i]) 1000)))) = a ∧ now < a ∧ a ≤ 1000 * ((i + 1 : Nat) : Int) := by
        refine ⟨_, rfl, ?_, ?_⟩ <;> rw [Bv (n := gaps[i]) (by omega) (by omega), Int.tmod_eq_emod_of_nonneg B.1, Bv (n := 1 + gaps[i] % 1000) (by omega) (by omega), Bv (by omega) (by omega)] <;> omega
      refine Ev.congr (fun k => by rw [if_pos rfl, zzm, D, Z]) ?_; have I : ∀ (l : List S63) (v : S30) (got : List S63), DW x v l = true → smV n v → got ++ l = want → (∀ y ∈ l, y.f0 ≤ now + dl) → Ev (fun k => AV.l1 k gaps dl want got a vals (vals.length : Int) (i : Int) x.f0 x.f1 x.f2 x.f3 x.f4 v.f0 v.f1 v.f2 v.f3 l vals[i].f0 vals[i].f1 vals[i].f2 vals[i].f3) true := by
        have j : ∀ (l : List S63) (v : S30) (got : List S63) (at_ e : Int), DW x v l = true → smV n v → got ++ l = want → (∀ y ∈ l, y.f0 ≤ now + dl) → (∀ y ∈ l, a < y.f0) → Ev (fun k => AV.j3 k gaps dl want got a at_ e vals (vals.length : Int) (i : Int) true x.f0 x.f1 x.f2 x.f3 x.f4 v.f0 v.f1 v.f2 v.f3 l vals[i].f0 vals[i].f1 vals[i].f2 vals[i].f3) true := by
          intro l v got at_ e hp p g b J; have s : got.length + l.length = want.length := by rw [← g, List.length_append]
          obtain ⟨q1, q2⟩ := Kw x v vals[i] l a dl hp hu (by omega) (by omega) d0 (by omega) (by omega) J (fun y h => by have := b y h; omega); have t := Mk x h3 v l (by have := (FH hp).2.2.1; omega) a [vals[i]] [dl] (by simp; omega) true; rw [q1] at t; have W : wrap64 dl = dl := Bv (by omega) (by omega); refine Ev.step (fun k => by rw [AV.j3, if_pos rfl]) (Ev.bind (Iz n _ (sm _ (List.getElem_mem m))) (Ev.congr (fun k => by rw [W, IC]) (Ev.bind t ?_))); have r := ih (i + 1) v (l ++ [⟨a + dl, vals[i]⟩]) (want ++ [⟨a + dl, vals[i]⟩]) got a (by omega) q2 p (by rw [← List.append_assoc, g]) (by rw [List.length_append, Y]; rfl) (fun y h => by
            rcases List.mem_append.mp h with h | h
            · exact o y h
            · rw [List.mem_singleton.mp h]; exact sm _ (List.getElem_mem m)) (by omega) m1 (fun y h => by
            rcases List.mem_append.mp h with h | h
            · have := b y h; omega
            · rw [List.mem_singleton.mp h]; exact Int.le_refl _)
          refine Ev.congr (fun k => ?_) r; rw [if_pos rfl, zzm, Bv (n := a + dl) (by omega) (by omega), Bv (n := (i : Int) + 1) (by omega) (by omega)]; rfl
        intro l; induction l with
        | nil =>
          intro v got hp p g b; refine Ev.step (fun k => by rw [AV.l1]) (Ev.bind (G7 x h3 v [] (by simp) hp) ?_); exact Ev.congr (fun k => by rw [if_pos rfl]) (j [] v got 0 4 hp p g b (by simp))
        | cons c r X =>
          intro v got hp p g b; obtain ⟨_, aB, u, hok⟩ := FH hp; refine Ev.step (fun k => by rw [AV.l1]) (Ev.bind (G7 x h3 v (c :: r) (by omega) hp) ?_); refine Ev.congr (fun k => by rw [if_neg (show ¬ ((c.f0, (0 : Int)).2 = 4) by simp), if_pos rfl]) ?_; by_cases hc : c.f0 > a
          · refine Ev.congr (fun k => by rw [decide_eq_true hc]) (j (c :: r) v got c.f0 0 hp p g b (fun y h => ?_)); rcases List.mem_cons.mp h with rfl | h
            · omega
            · have := (IM hok.2.2.2 y h).1; omega
          · have T : DW x c.f1 r = true := JV hs hok.2.2.1 (by rw [List.length_cons] at u; omega) (KG hok.2.2.2 (by have := hok.1; omega)); have z : c ∈ want := by rw [← g]; exact List.mem_append_right _ List.mem_cons_self
            have e := X c.f1 (got ++ [c]) T (o c z) (by rw [List.append_assoc, List.singleton_append]; exact g) (fun y h => b y (List.mem_cons_of_mem _ h)); refine Ev.congr (fun k => by rw [decide_eq_false hc]) (Ev.step (fun k => by rw [AV.j3, zzo]) (Ev.bind (Jt x h3 v c r hp) ?_)); have s : got.length + (r.length + 1) = want.length := by rw [← g, List.length_append, List.length_cons]
            exact Ev.congr (fun k => by rw [if_pos rfl, if_pos rfl, if_pos rfl, zzm, IC, Lu]) e
      exact I l v got hp p g b
end
theorem OT (n : Nat) (x : S26) (hx : okT n x) (v : S30) (hv : okV n v) (l : List S63) (now : Int) (vals : List S30) (e : vals.length ≤ maxLen) (hvs : ∀ y ∈ vals, okV n y) (after : List Int) (tr : Bool) (gaps : List Int) (hgm : gaps.length ≤ maxLen) (hg : ∀ z ∈ gaps, 0 ≤ z ∧ z < 65536) (dl : Int) (d0 : 0 ≤ dl) (d1 : dl < 65536) :
    ∃ K, AV.f K x.f0 x.f1 x.f2 x.f3 x.f4 v.f0 v.f1 v.f2 v.f3 l now vals after tr gaps dl = some true := by
  have hm := ml; have h3 : x.f3.length ≤ maxLen := by
    cases n with
    | zero => exact hx.elim
    | succ n => exact hx.2.2.2.2.1
  refine Ev.rounds (g := fun k => AV.f k x.f0 x.f1 x.f2 x.f3 x.f4 v.f0 v.f1 v.f2 v.f3 l now vals after tr gaps dl) ?_; unfold AV.f; obtain ⟨t, d, c⟩ := Pt n x hx v hv [] (by simp) vals hvs; have ha : Ev (fun k => (Dl.f k).bind fun t => some t) true := Ev.now true; have a : Ev (fun k => AV.j0 k gaps dl vals true x.f0 x.f1 x.f2 x.f3 x.f4 v.f0 v.f1 v.f2 v.f3 l now vals after tr x.f0 x.f1 x.f2 x.f3 x.f4) true := Ev.step (fun k => by rw [AV.j0, if_pos rfl]) ha; refine Ev.bind d ?_; cases t with
  | false => exact Ev.congr (fun k => by rw [zzo]) a
  | true =>
    obtain ⟨_, _, b, h, _⟩ := c rfl; refine Ev.congr (fun k => by rw [if_pos rfl]) ?_; by_cases c1 : (vals.length : Int) > 50
    · exact Ev.congr (fun k => by rw [if_pos c1]) a
    by_cases c2 : (gaps.length : Int) < (vals.length : Int)
    · exact Ev.congr (fun k => by rw [if_neg c1, decide_eq_true c2]) a
    refine Ev.congr (fun k => by rw [if_neg c1, decide_eq_false c2]) (Ev.step (fun k => by rw [AV.j0, zzo]) (Ev.bind (OH n x hx v hv [] (by simp) (by simp)) ?_)); cases hp : DW x v [] with
    | false => exact Ev.congr (fun k => by rw [zzo]) ha
    | true =>
      refine Ev.congr (fun k => by rw [if_pos rfl]) (Ev.bind (Pv n v b [] (by simp) (by simp)) ?_); exact O7 n x hx h3 (FH hp).1 gaps hg dl d0 d1 vals (by omega) (by omega) hgm hvs h vals.length 0 v [] [] [] 0 (Nat.zero_add _) hp b rfl rfl (by simp) (by omega) (by omega) (by simp)
end Go.Proofs.Ytojankgmedccdaa.Pure
end
