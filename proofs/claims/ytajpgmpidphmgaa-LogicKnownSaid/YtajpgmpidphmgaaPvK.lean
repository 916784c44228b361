/- Plain facts: the law of known bits. -/
import Derived.Test.YtajpgmpidphmgaaPvH
import Derived.Test.YtajpgmpidphmgaaPVecF11
namespace Go.Proofs.Ytajpgmpidphmgaa.Pure
open Go.RowKit Go.Proofs.Ytajpgmpidphmgaa.Hand Go.Proofs.Ytajpgmpidphmgaa.PAll Go.Proofs.Ytajpgmpidphmgaa.PVec Go.Proofs.YtajpgmpidphmgaaW.PrintWords Go.Proofs.YtajpgmpidphmgaaW.PrintLast
/-- A bit that is not known is put in. -/
def putB (a c : Int) : Int := if 1 < a then c else a
theorem known_l0 (a0 : ByteArray) (a b c d : List Int) (hab : a.length = b.length) (hac : a.length = c.length) (had : a.length = d.length) (hl : a.length < 140737488355328) (r : Bool)
    (hr : Ev (fun k => netwrightlaw01_LogicKnown.l0 k a0 a b c d (List.zipWith putB a c) (List.zipWith putB b d) (a.length : Int) (a.length : Int)) r) : ∀ (n i : Nat) (v w : List Int), i ≤ a.length → a.length - i = n →
    v.length = i → w.length = i → v ++ List.zipWith putB (a.drop i) (c.drop i) = List.zipWith putB a c → w ++ List.zipWith putB (b.drop i) (d.drop i) = List.zipWith putB b d →
    Ev (fun k => netwrightlaw01_LogicKnown.l0 k a0 a b c d v w (a.length : Int) (i : Int)) r := by
  intro n
  induction n with
  | zero =>
    intro i v w hi hn hv hw ev ew
    obtain rfl : i = a.length := by omega
    rw [List.drop_of_length_le (Nat.le_refl _), List.zipWith_nil_left, List.append_nil] at ev
    rw [List.drop_of_length_le (show b.length ≤ a.length by omega), List.zipWith_nil_left, List.append_nil] at ew
    rw [ev, ew]
    exact hr
  | succ n ih =>
    intro i v w hi hn hv hw ev ew
    have h1 : i < a.length := by omega
    have h2 : i < b.length := by omega
    have h3 : i < c.length := by omega
    have h4 : i < d.length := by omega
    rw [List.drop_eq_getElem_cons h1, List.drop_eq_getElem_cons h3, List.zipWith_cons_cons, List.append_cons] at ev
    rw [List.drop_eq_getElem_cons h2, List.drop_eq_getElem_cons h4, List.zipWith_cons_cons, List.append_cons] at ew
    refine Ev.step (f := fun k => netwrightlaw01_LogicKnown.l0 k a0 a b c d (v ++ [putB a[i] c[i]]) (w ++ [putB b[i] d[i]]) (a.length : Int) ((i + 1 : Nat) : Int)) (fun k => ?_) (ih (i + 1) (v ++ [putB a[i] c[i]]) (w ++ [putB b[i] d[i]]) (by omega) (by omega) (by simp; omega) (by simp; omega) ev ew)
    simp only [netwrightlaw01_LogicKnown.l0]
    rw [if_pos (by omega), if_pos (by omega), if_pos (by omega), if_pos (by omega), rd_nat a i h1, rd_nat b i h2, rd_nat c i h3, rd_nat d i h4, wrap_succ i (by omega)]
    have hv' : v.length < 140737488355328 := by omega
    have hw' : w.length < 140737488355328 := by omega
    unfold putB
    by_cases q1 : 1 < a[i]
    · rw [if_pos q1, if_pos (show a[i] > 1 from q1), if_pos (show (i : Int) < (c.length : Int) by omega)]
      by_cases q2 : 1 < b[i]
      · rw [if_pos q2, if_pos (show b[i] > 1 from q2), if_pos (show (i : Int) < (d.length : Int) by omega), if_pos hv', if_pos hw']
      · rw [if_neg q2, if_neg (show ¬ b[i] > 1 from q2), if_pos hv', if_pos hw']
    · rw [if_neg q1, if_neg (show ¬ a[i] > 1 from q1)]
      by_cases q2 : 1 < b[i]
      · rw [if_pos q2, if_pos (show b[i] > 1 from q2), if_pos (show (i : Int) < (d.length : Int) by omega), if_pos hv', if_pos hw']
      · rw [if_neg q2, if_neg (show ¬ b[i] > 1 from q2), if_pos hv', if_pos hw']
theorem all_zip {p : Int → Int → Bool} : ∀ {l m : List Int}, (∀ i (h1 : i < l.length) (h2 : i < m.length), p l[i] m[i] = true) → (List.zipWith p l m).all id = true
  | [], _, _ => rfl
  | _ :: _, [], _ => rfl
  | x :: l, y :: m, h => by
    rw [List.zipWith_cons_cons, List.all_cons]
    have h0 := h 0 (by simp) (by simp)
    simp only [List.getElem_cons_zero] at h0
    rw [show id (p x y) = true from h0, Bool.true_and]
    refine all_zip (fun i h1 h2 => ?_)
    have := h (i + 1) (by simpa using h1) (by simpa using h2)
    simpa using this
/-- One table: what it says of known bits it says whatever is put in for the others; it says bits. -/
def monoOk (T : List Int) : Bool := (List.range 4).all fun a => (List.range 4).all fun b => (List.range 4).all fun c => (List.range 4).all fun d =>
  covB (opT T (a : Int) (b : Int)) (opT T (putB (a : Int) (c : Int)) (putB (b : Int) (d : Int))) && (decide (0 ≤ opT T (a : Int) (b : Int)) && decide (opT T (a : Int) (b : Int) ≤ 3))
theorem mono_at {T : List Int} (h : monoOk T = true) (a b c d : Int) (ha : 0 ≤ a ∧ a ≤ 3) (hb : 0 ≤ b ∧ b ≤ 3) (hc : 0 ≤ c ∧ c ≤ 3) (hd : 0 ≤ d ∧ d ≤ 3) : covB (opT T a b) (opT T (putB a c) (putB b d)) = true ∧ 0 ≤ opT T a b ∧ opT T a b ≤ 3 := by
  obtain ⟨a, rfl⟩ := Int.eq_ofNat_of_zero_le ha.1
  obtain ⟨b, rfl⟩ := Int.eq_ofNat_of_zero_le hb.1
  obtain ⟨c, rfl⟩ := Int.eq_ofNat_of_zero_le hc.1
  obtain ⟨d, rfl⟩ := Int.eq_ofNat_of_zero_le hd.1
  unfold monoOk at h
  have := List.all_eq_true.1 (List.all_eq_true.1 (List.all_eq_true.1 (List.all_eq_true.1 h a (by simp; omega)) b (by simp; omega)) c (by simp; omega)) d (by simp; omega)
  simpa using this
theorem mono_tables (x : List UInt8) (h : (ofF x).2 = true) : monoOk (ofF x).1 = true := by
  unfold ofF at h ⊢
  by_cases c1 : x = ([97, 110, 100] : List UInt8)
  · rw [if_pos c1]; decide +kernel
  by_cases c2 : x = ([111, 114] : List UInt8)
  · rw [if_neg c1, if_pos c2]; decide +kernel
  by_cases c3 : x = ([120, 111, 114] : List UInt8)
  · rw [if_neg c1, if_neg c2, if_pos c3]; decide +kernel
  by_cases c4 : x = ([110, 97, 110, 100] : List UInt8)
  · rw [if_neg c1, if_neg c2, if_neg c3, if_pos c4]; decide +kernel
  by_cases c5 : x = ([110, 111, 114] : List UInt8)
  · rw [if_neg c1, if_neg c2, if_neg c3, if_neg c4, if_pos c5]; decide +kernel
  by_cases c6 : x = ([120, 110, 111, 114] : List UInt8)
  · rw [if_neg c1, if_neg c2, if_neg c3, if_neg c4, if_neg c5, if_pos c6]; decide +kernel
  · rw [if_neg c1, if_neg c2, if_neg c3, if_neg c4, if_neg c5, if_neg c6] at h
    cases h
theorem putB_in {a c : Int} (ha : 0 ≤ a ∧ a ≤ 3) (hc : 0 ≤ c ∧ c ≤ 3) : 0 ≤ putB a c ∧ putB a c ≤ 3 := by
  unfold putB
  split
  · exact hc
  · exact ha
theorem zip_in {f : Int → Int → Int} {l m : List Int} (hl : isF l = true) (h : l.length = m.length) (hf : ∀ i (h1 : i < l.length) (h2 : i < m.length), 0 ≤ f l[i] m[i] ∧ f l[i] m[i] ≤ 3) : isF (List.zipWith f l m) = true := by
  obtain ⟨p1, p2, _⟩ := isF_parts hl
  refine isF_mk (by rw [List.length_zipWith]; omega) (by rw [List.length_zipWith]; omega) (fun x hx => ?_)
  obtain ⟨i, hi, rfl⟩ := List.mem_iff_getElem.1 hx
  rw [List.getElem_zipWith]
  rw [List.length_zipWith] at hi
  exact (hf i (by omega) (by omega)).2
theorem covers_yes {l m : List Int} (hl : isF l = true) (hm : isF m = true) (h : l.length = m.length) (hc : ∀ i (h1 : i < l.length) (h2 : i < m.length), covB l[i] m[i] = true) : coversF l m = (true, 0) := by
  unfold coversF areF
  rw [hl, hm, decide_eq_true h]
  simp only [Bool.and_self, if_true]
  rw [all_zip hc]
theorem refis_l0' (l : List Int) (hu : U8 l) (hl : l.length ≤ 9223372036854775807) : ∀ (n i : Nat), i ≤ l.length → l.length - i = n → Ev (fun k => netwrightref01_Is.l0 k l l (l.length : Int) (i : Int)) (((l.drop i).all fun x => decide (x ≤ 3)) && (decide (1 ≤ l.length) && decide (l.length ≤ 64))) := by
  intro n
  induction n with
  | zero =>
    intro i hi hn
    rw [List.drop_of_length_le (by omega), List.all_nil, Bool.true_and]
    by_cases h1 : 1 ≤ l.length
    · refine Ev.step (f := fun _ => some (decide ((l.length : Int) ≤ 64))) (fun k => by simp only [netwrightref01_Is.l0]; rw [if_neg (by omega), if_pos (by omega)]) ?_
      rw [decide_eq_true h1, Bool.true_and, show decide ((l.length : Int) ≤ 64) = decide (l.length ≤ 64) from decide_eq_decide.2 (by omega)]
      exact Ev.now _
    · refine Ev.step (f := fun _ => some false) (fun k => by simp only [netwrightref01_Is.l0]; rw [if_neg (by omega), if_neg (by omega)]) ?_
      rw [decide_eq_false h1, Bool.false_and]
      exact Ev.now _
  | succ n ih =>
    intro i hi hn
    have h1 : i < l.length := by omega
    rw [List.drop_eq_getElem_cons h1]
    by_cases he : l[i] ≤ 3
    · refine Ev.step (f := fun k => netwrightref01_Is.l0 k l l (l.length : Int) ((i + 1 : Nat) : Int)) (fun k => by simp only [netwrightref01_Is.l0]; rw [if_pos (by omega), if_pos (by omega), if_pos (by omega), rd_nat l i h1, bit_f _ (hu.at_ i h1).1, decide_eq_true he, wrap_succ i (by omega)]; simp) ?_
      rw [all_yes (decide_eq_true he)]
      exact ih (i + 1) (by omega) (by omega)
    · refine Ev.step (f := fun _ => some false) (fun k => by simp only [netwrightref01_Is.l0]; rw [if_pos (by omega), if_pos (by omega), if_pos (by omega), rd_nat l i h1, bit_f _ (hu.at_ i h1).1, decide_eq_false he]; simp) ?_
      rw [all_no (decide_eq_false he), Bool.false_and]
      exact Ev.now _
theorem refis_ev' (l : List Int) (hu : U8 l) (hl : l.length ≤ 9223372036854775807) : Ev (fun k => netwrightref01_Is.f k l) (isF l) := by
  have := refis_l0' l hu hl l.length 0 (by omega) (by omega)
  unfold isF
  rw [Bool.and_comm]
  exact this
theorem known_pure (a0 : ByteArray) (a b c d : List Int) (ha : U8 a) (hb : U8 b) (hc : U8 c) (hd : U8 d) (la : a.length ≤ 9223372036854775807) (lb : b.length ≤ 9223372036854775807) (lc : c.length ≤ 9223372036854775807) (ld : d.length ≤ 9223372036854775807) : ∃ k, netwrightlaw01_LogicKnown.f k a0 a b c d = some true := by
  obtain ⟨K, hK⟩ := awake_ev
  obtain ⟨K1, h1⟩ := refis_ev' a ha la
  obtain ⟨K2, h2⟩ := refis_ev' b hb lb
  obtain ⟨K3, h3⟩ := refis_ev' c hc lc
  obtain ⟨K4, h4⟩ := refis_ev' d hd ld
  have no : ∀ k, K ≤ k → netwrightlaw01_LogicKnown.j0 (k + 1) a0 a b c d true = some true := by
    intro k hk
    simp only [netwrightlaw01_LogicKnown.j0, hK k hk, if_true, Option.bind_some]
  have g1 : ∀ k, K1 ≤ k → netwrightref01_Is.f k a = some (isF a) := h1
  have g2 : ∀ k, K2 ≤ k → netwrightref01_Is.f k b = some (isF b) := h2
  have g3 : ∀ k, K3 ≤ k → netwrightref01_Is.f k c = some (isF c) := h3
  have g4 : ∀ k, K4 ≤ k → netwrightref01_Is.f k d = some (isF d) := h4
  by_cases hall : isF a = true ∧ isF b = true ∧ a.length = b.length ∧ a.length = c.length ∧ a.length = d.length ∧ isF c = true ∧ isF d = true
  · obtain ⟨q1, q2, q3, q4, q5, q6, q7⟩ := hall
    have sa := small ha q1
    have sb := small hb q2
    have sc := small hc q6
    have sd := small hd q7
    have hp := (isF_parts q1).2.1
    -- what is put together
    obtain ⟨v, hv⟩ : ∃ v, v = List.zipWith putB a c := ⟨_, rfl⟩
    obtain ⟨w, hw⟩ : ∃ w, w = List.zipWith putB b d := ⟨_, rfl⟩
    have vF : isF v = true := by rw [hv]; exact zip_in q1 q4 (fun i h1 h2 => putB_in (sa _ (List.getElem_mem h1)) (sc _ (List.getElem_mem h2)))
    have wF : isF w = true := by rw [hw]; exact zip_in q2 (by omega) (fun i h1 h2 => putB_in (sb _ (List.getElem_mem h1)) (sd _ (List.getElem_mem h2)))
    have vL : v.length = a.length := by rw [hv, List.length_zipWith]; omega
    have wL : w.length = a.length := by rw [hw, List.length_zipWith]; omega
    have vU : U8 v := by
      intro x hx
      rw [hv] at hx
      obtain ⟨i, hi, rfl⟩ := List.mem_iff_getElem.1 hx
      rw [List.getElem_zipWith]
      rw [List.length_zipWith] at hi
      have := putB_in (sa _ (List.getElem_mem (show i < a.length by omega))) (sc _ (List.getElem_mem (show i < c.length by omega)))
      omega
    have wU : U8 w := by
      intro x hx
      rw [hw] at hx
      obtain ⟨i, hi, rfl⟩ := List.mem_iff_getElem.1 hx
      rw [List.getElem_zipWith]
      rw [List.length_zipWith] at hi
      have := putB_in (sb _ (List.getElem_mem (show i < b.length by omega))) (sd _ (List.getElem_mem (show i < d.length by omega)))
      omega
    have cov1 : coversF a v = (true, 0) := by
      refine covers_yes q1 vF vL.symm (fun i h1 h2 => ?_)
      subst hv
      rw [List.getElem_zipWith]
      unfold covB putB
      by_cases q : 1 < a[i]
      · rw [decide_eq_true q]; rfl
      · rw [if_neg q, decide_eq_true (show a[i] = a[i] from rfl), Bool.or_true]
    obtain ⟨K5, h5⟩ := covers_ev a v
    obtain ⟨K6, h6⟩ := map_ev a0 a b ha hb
    obtain ⟨K7, h7⟩ := map_ev a0 v w vU wU
    have g5 : ∀ k, K5 ≤ k → PVec.logic_Covers.f k a v = some (true, 0) := by rw [← cov1]; exact h5
    have g6 : ∀ k, K6 ≤ k → logic_Map.f k a0 a b = some (mapF a0 a b) := h6
    have g7 : ∀ k, K7 ≤ k → logic_Map.f k a0 v w = some (mapF a0 v w) := h7
    have ar1 : areF a b = true := by unfold areF; rw [q1, q2, decide_eq_true q3]; rfl
    have ar2 : areF v w = true := by unfold areF; rw [vF, wF, decide_eq_true (show v.length = w.length by omega)]; rfl
    have tail : Ev (fun k => netwrightlaw01_LogicKnown.j2 k a0 a b v w false) true := by
      by_cases hT : (ofF a0.toList).2 = true
      · have m1 : mapF a0 a b = (List.zipWith (opT (ofF a0.toList).1) a b, 0) := by unfold mapF; rw [if_pos hT, if_pos ar1]
        have m2 : mapF a0 v w = (List.zipWith (opT (ofF a0.toList).1) v w, 0) := by unfold mapF; rw [if_pos hT, if_pos ar2]
        have hm := mono_tables a0.toList hT
        have pF : isF (List.zipWith (opT (ofF a0.toList).1) a b) = true := zip_in q1 q3 (fun i h1 h2 => by
          have := mono_at hm _ _ _ _ (sa _ (List.getElem_mem h1)) (sb _ (List.getElem_mem h2)) (sa _ (List.getElem_mem h1)) (sb _ (List.getElem_mem h2))
          exact this.2)
        have qF : isF (List.zipWith (opT (ofF a0.toList).1) v w) = true := zip_in vF (by omega) (fun i h1 h2 => by
          have := mono_at hm _ _ _ _ (small vU vF _ (List.getElem_mem h1)) (small wU wF _ (List.getElem_mem h2)) (small vU vF _ (List.getElem_mem h1)) (small wU wF _ (List.getElem_mem h2))
          exact this.2)
        have cov2 : coversF (List.zipWith (opT (ofF a0.toList).1) a b) (List.zipWith (opT (ofF a0.toList).1) v w) = (true, 0) := by
          refine covers_yes pF qF (by rw [List.length_zipWith, List.length_zipWith]; omega) (fun i h1 h2 => ?_)
          rw [List.length_zipWith] at h1
          subst hv hw
          simp only [List.getElem_zipWith]
          exact (mono_at hm _ _ _ _ (sa _ (List.getElem_mem (show i < a.length by omega))) (sb _ (List.getElem_mem (show i < b.length by omega))) (sc _ (List.getElem_mem (show i < c.length by omega))) (sd _ (List.getElem_mem (show i < d.length by omega)))).1
        obtain ⟨K8, h8⟩ := covers_ev (List.zipWith (opT (ofF a0.toList).1) a b) (List.zipWith (opT (ofF a0.toList).1) v w)
        have g8 : ∀ k, K8 ≤ k → PVec.logic_Covers.f k (List.zipWith (opT (ofF a0.toList).1) a b) (List.zipWith (opT (ofF a0.toList).1) v w) = some (true, 0) := by rw [← cov2]; exact h8
        refine ⟨K + K6 + K7 + K8 + 2, fun k hk => ?_⟩
        obtain ⟨k, rfl⟩ : ∃ m, k = m + 2 := ⟨k - 2, by omega⟩
        show netwrightlaw01_LogicKnown.j2 (k + 1 + 1) a0 a b v w false = _
        have e3 : netwrightlaw01_LogicKnown.j3 (k + 1) 0 (List.zipWith (opT (ofF a0.toList).1) a b) (List.zipWith (opT (ofF a0.toList).1) v w) false = some true := by
          simp only [netwrightlaw01_LogicKnown.j3, Bool.false_eq_true, if_false, if_true, g8 k (by omega), hK k (by omega), Option.bind_some]
        simp only [netwrightlaw01_LogicKnown.j2, Bool.false_eq_true, if_false, g6 (k + 1) (by omega), g7 (k + 1) (by omega), m1, m2, Option.bind_some, if_true, e3]
      · have m1 : mapF a0 a b = ([], 2) := by unfold mapF; rw [if_neg hT]
        have m2 : mapF a0 v w = ([], 2) := by unfold mapF; rw [if_neg hT]
        refine ⟨K + K6 + K7 + 2, fun k hk => ?_⟩
        obtain ⟨k, rfl⟩ : ∃ m, k = m + 2 := ⟨k - 2, by omega⟩
        show netwrightlaw01_LogicKnown.j2 (k + 1 + 1) a0 a b v w false = _
        have e3 : netwrightlaw01_LogicKnown.j3 (k + 1) 2 [] [] false = some true := by
          simp only [netwrightlaw01_LogicKnown.j3, Bool.false_eq_true, if_false, hK k (by omega), Option.bind_some, List.length_nil]
          rfl
        simp only [netwrightlaw01_LogicKnown.j2, Bool.false_eq_true, if_false, g6 (k + 1) (by omega), g7 (k + 1) (by omega), m1, m2, Option.bind_some, if_true]
        exact e3
    have loop := known_l0 a0 a b c d q3 q4 q5 (by omega) true (by
      rw [← hv, ← hw]
      obtain ⟨J, hJ⟩ := tail
      have hJ' : ∀ k, J ≤ k → netwrightlaw01_LogicKnown.j2 k a0 a b v w false = some true := hJ
      refine ⟨J + K5 + 1, fun k hk => ?_⟩
      obtain ⟨k, rfl⟩ : ∃ m, k = m + 1 := ⟨k - 1, by omega⟩
      simp only [netwrightlaw01_LogicKnown.l0]
      rw [if_neg (by omega), copied_f a (by omega), copied_f v (by omega)]
      simp only [Option.bind_some, g5 k (by omega), if_true, bne_self_eq_false, hJ' k (by omega)]) a.length 0 [] [] (by omega) (by omega) rfl rfl (by simp) (by simp)
    obtain ⟨L, hL⟩ := loop
    have hL' : netwrightlaw01_LogicKnown.l0 (L + K1 + K2 + K3 + K4) a0 a b c d [] [] (a.length : Int) 0 = some true := hL (L + K1 + K2 + K3 + K4) (by omega)
    refine ⟨L + K1 + K2 + K3 + K4 + 1, ?_⟩
    unfold netwrightlaw01_LogicKnown.f
    simp only [g1 _ (show K1 ≤ L + K1 + K2 + K3 + K4 + 1 by omega), g2 _ (show K2 ≤ L + K1 + K2 + K3 + K4 + 1 by omega), g3 _ (show K3 ≤ L + K1 + K2 + K3 + K4 + 1 by omega), g4 _ (show K4 ≤ L + K1 + K2 + K3 + K4 + 1 by omega), q1, q2, q6, q7, Option.bind_some, if_true]
    rw [if_pos (by omega), if_pos (by omega), if_pos (by omega)]
    simp only [Bool.not_true, netwrightlaw01_LogicKnown.j0, Bool.false_eq_true, if_false, hL']
  · refine ⟨K + K1 + K2 + K3 + K4 + 1, ?_⟩
    have nn := no (K + K1 + K2 + K3 + K4) (by omega)
    unfold netwrightlaw01_LogicKnown.f
    simp only [g1 _ (show K1 ≤ K + K1 + K2 + K3 + K4 + 1 by omega), g2 _ (show K2 ≤ K + K1 + K2 + K3 + K4 + 1 by omega), g3 _ (show K3 ≤ K + K1 + K2 + K3 + K4 + 1 by omega), g4 _ (show K4 ≤ K + K1 + K2 + K3 + K4 + 1 by omega), Option.bind_some]
    cases e1 : isF a with
    | false => simpa using nn
    | true =>
      cases e2 : isF b with
      | false => simpa using nn
      | true =>
        simp only [if_true]
        by_cases q3 : a.length = b.length
        · rw [if_pos (by omega)]
          by_cases q4 : a.length = c.length
          · rw [if_pos (by omega)]
            by_cases q5 : a.length = d.length
            · rw [if_pos (by omega)]
              cases e3 : isF c with
              | false => simpa using nn
              | true =>
                cases e4 : isF d with
                | false => simpa using nn
                | true => exact absurd ⟨e1, e2, q3, q4, q5, e3, e4⟩ hall
            · rw [if_neg (by omega)]; exact nn
          · rw [if_neg (by omega)]; exact nn
        · rw [if_neg (by omega)]; exact nn
end Go.Proofs.Ytajpgmpidphmgaa.Pure
