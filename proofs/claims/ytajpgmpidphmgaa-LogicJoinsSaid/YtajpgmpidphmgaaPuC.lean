/- Plain facts on the printed functions of package logic and its reference: vectors, texts, reading. -/
import Derived.Test.YtajpgmpidphmgaaPuB
namespace Go.Proofs.Ytajpgmpidphmgaa.Pure
open Go.RowKit Go.Proofs.Ytajpgmpidphmgaa.Hand Go.Proofs.Ytajpgmpidphmgaa.PAll Go.Proofs.YtajpgmpidphmgaaW.PrintWords Go.Proofs.YtajpgmpidphmgaaW.PrintLast
/-! #### Is -/
theorem refis_l0 (l : List Int) (hu : U8 l) (hl : l.length < 9223372036854775807) : ∀ (n i : Nat), i ≤ l.length → l.length - i = n → Ev (fun k => netwrightref01_Is.l0 k l l (l.length : Int) (i : Int)) (((l.drop i).all fun x => decide (x ≤ 3)) && (decide (1 ≤ l.length) && decide (l.length ≤ 64))) := by
  intro n
  induction n with
  | zero =>
    intro i hi hn
    rw [List.drop_of_length_le (by omega), List.all_nil, Bool.true_and]
    by_cases h1 : 1 ≤ l.length
    · refine Ev.step (f := fun _ => some (decide ((l.length : Int) ≤ 64))) (fun k => by simp only [netwrightref01_Is.l0]; rw [if_neg (by omega), if_pos (by omega)]) ?_
      rw [decide_eq_true h1, Bool.true_and, show decide ((l.length : Int) ≤ 64) = decide (l.length ≤ 64) from decide_eq_decide.2 (by omega)]
      exact Ev.now _
    · refine Ev.step (f := fun _ => some false) (fun k => by simp only [netwrightref01_Is.l0]; rw [if_neg (by omega), if_neg (by omega)]) ?_
      rw [decide_eq_false h1, Bool.false_and]
      exact Ev.now _
  | succ n ih =>
    intro i hi hn
    have h1 : i < l.length := by omega
    rw [List.drop_eq_getElem_cons h1]
    by_cases he : l[i] ≤ 3
    · refine Ev.step (f := fun k => netwrightref01_Is.l0 k l l (l.length : Int) ((i + 1 : Nat) : Int)) (fun k => by simp only [netwrightref01_Is.l0]; rw [if_pos (by omega), if_pos (by omega), if_pos (by omega), rd_nat l i h1, bit_f _ (hu.at_ i h1).1, decide_eq_true he, wrap_succ i (by omega)]; simp) ?_
      rw [all_yes (decide_eq_true he)]
      exact ih (i + 1) (by omega) (by omega)
    · refine Ev.step (f := fun _ => some false) (fun k => by simp only [netwrightref01_Is.l0]; rw [if_pos (by omega), if_pos (by omega), if_pos (by omega), rd_nat l i h1, bit_f _ (hu.at_ i h1).1, decide_eq_false he]; simp) ?_
      rw [all_no (decide_eq_false he), Bool.false_and]
      exact Ev.now _
theorem refis_ev (l : List Int) (hu : U8 l) (hl : l.length < 9223372036854775807) : Ev (fun k => netwrightref01_Is.f k l) (isF l) := by
  have := refis_l0 l hu hl l.length 0 (by omega) (by omega)
  unfold isF
  rw [Bool.and_comm]
  exact this
theorem isF_parts {l : List Int} (h : isF l = true) : 1 ≤ l.length ∧ l.length ≤ 64 ∧ ∀ x ∈ l, x ≤ 3 := by
  unfold isF at h
  simp only [Bool.and_eq_true, decide_eq_true_eq] at h
  exact ⟨h.1.1, h.1.2, fun x hx => of_decide_eq_true (List.all_eq_true.1 h.2 x hx)⟩
theorem isF_mk {l : List Int} (h1 : 1 ≤ l.length) (h2 : l.length ≤ 64) (h3 : ∀ x ∈ l, x ≤ 3) : isF l = true := by
  unfold isF
  simp only [Bool.and_eq_true, decide_eq_true_eq]
  exact ⟨⟨h1, h2⟩, List.all_eq_true.2 fun x hx => decide_eq_true (h3 x hx)⟩
theorem text_f (l : List Int) (hu : U8 l) (h : isF l = true) : logic_Text.f l = some (⟨(textB l).toArray⟩, 0) := by
  unfold logic_Text.f
  rw [if_pos h, if_pos (List.all_eq_true.2 fun x hx => decide_eq_true (hu x hx).1)]
/-! #### Letters -/
/-- The bit of a letter. -/
def codeOf (c : UInt8) : Option Int := if c = 48 then some 0 else if c = 49 then some 1 else if c = 120 then some 2 else if c = 122 then some 3 else none
def codes : List UInt8 → Option (List Int)
  | [] => some []
  | c :: t => (codeOf c).bind fun x => (codes t).bind fun r => some (x :: r)
theorem codes_cons (c : UInt8) (t : List UInt8) : codes (c :: t) = (codeOf c).bind fun x => (codes t).bind fun r => some (x :: r) := rfl
theorem byte_all {p : UInt8 → Bool} (h : ((List.range 256).all fun n => p (UInt8.ofNat n)) = true) (c : UInt8) : p c = true := by
  have := List.all_eq_true.1 h c.toNat (by simp; exact c.toNat_lt)
  simpa using this
theorem index_code (c : UInt8) : strings_IndexByte.f (⟨#[48, 49, 120, 122]⟩ : ByteArray) (c.toNat : Int) = some ((codeOf c).getD (-1)) := by
  have := byte_all (p := fun c => strings_IndexByte.f (⟨#[48, 49, 120, 122]⟩ : ByteArray) (c.toNat : Int) == some ((codeOf c).getD (-1))) (by decide +kernel) c
  simpa using this
theorem of_code (c : UInt8) : netwrightref01_of.f (c.toNat : Int) = some ((codeOf c).getD 0, (codeOf c).isSome) := by
  have := byte_all (p := fun c => netwrightref01_of.f (c.toNat : Int) == some ((codeOf c).getD 0, (codeOf c).isSome)) (by decide +kernel) c
  simpa using this
theorem code_range {c : UInt8} {x : Int} (h : codeOf c = some x) : 0 ≤ x ∧ x ≤ 3 := by
  unfold codeOf at h
  repeat' split at h
  all_goals first | (injection h with h; omega) | cases h
theorem code_letter {c : UInt8} {x : Int} (h : codeOf c = some x) : letB (bitOf x) = c := by
  unfold codeOf at h
  repeat' split at h
  all_goals first | (injection h with h; subst h; subst_vars; decide) | cases h
theorem letter_code (x : Int) (h0 : 0 ≤ x) (h3 : x ≤ 3) : codeOf (letB (bitOf x)) = some x := by
  obtain rfl | rfl | rfl | rfl : x = 0 ∨ x = 1 ∨ x = 2 ∨ x = 3 := by omega
  all_goals decide
theorem codes_len : ∀ {l : List UInt8} {r : List Int}, codes l = some r → r.length = l.length
  | [], r, h => by injection h with h; subst h; rfl
  | c :: t, r, h => by
    obtain ⟨x, _, h⟩ := Option.bind_eq_some_iff.1 h
    obtain ⟨q, hq, h⟩ := Option.bind_eq_some_iff.1 h
    injection h with h
    subst h
    simp [codes_len hq]
theorem codes_bits : ∀ {l : List UInt8} {r : List Int}, codes l = some r → ∀ x ∈ r, 0 ≤ x ∧ x ≤ 3
  | [], r, h => by injection h with h; subst h; simp
  | c :: t, r, h => by
    obtain ⟨x, hx, h⟩ := Option.bind_eq_some_iff.1 h
    obtain ⟨q, hq, h⟩ := Option.bind_eq_some_iff.1 h
    injection h with h
    subst h
    intro y hy
    rcases List.mem_cons.1 hy with rfl | hy
    · exact code_range hx
    · exact codes_bits hq y hy
theorem codes_letters : ∀ {l : List UInt8} {r : List Int}, codes l = some r → r.map (fun x => letB (bitOf x)) = l
  | [], r, h => by injection h with h; subst h; rfl
  | c :: t, r, h => by
    obtain ⟨x, hx, h⟩ := Option.bind_eq_some_iff.1 h
    obtain ⟨q, hq, h⟩ := Option.bind_eq_some_iff.1 h
    injection h with h
    subst h
    rw [List.map_cons, code_letter hx, codes_letters hq]
theorem letters_codes : ∀ {r : List Int}, (∀ x ∈ r, 0 ≤ x ∧ x ≤ 3) → codes (r.map fun x => letB (bitOf x)) = some r
  | [], _ => rfl
  | x :: t, h => by
    have hx := h x (by simp)
    have ht := letters_codes (r := t) (fun y hy => h y (by simp [hy]))
    rw [List.map_cons, codes_cons, letter_code x hx.1 hx.2, ht]
    rfl
theorem codes_append : ∀ (a b : List UInt8), codes (a ++ b) = (codes a).bind fun x => (codes b).bind fun y => some (x ++ y)
  | [], b => by simp [codes]
  | c :: t, b => by
    rw [List.cons_append, codes_cons, codes_cons, codes_append t b]
    cases codeOf c with
    | none => rfl
    | some x =>
      cases codes t with
      | none => rfl
      | some y =>
        cases codes b with
        | none => rfl
        | some z => rfl
theorem codes_reverse : ∀ (l : List UInt8), codes l.reverse = (codes l).bind fun x => some x.reverse
  | [] => rfl
  | c :: t => by
    rw [List.reverse_cons, codes_append, codes_reverse t, codes_cons, codes_cons]
    cases codeOf c with
    | none => cases codes t <;> rfl
    | some x =>
      cases codes t with
      | none => rfl
      | some y => simp [codes]
/-! #### Parse -/
theorem bt_nat (s : ByteArray) (i : Nat) (h : i < s.data.toList.length) : bt s (i : Int) = ((s.data.toList[i]).toNat : Int) := by
  have h2 : i < s.size := by rw [← ByteArray.size_data]; simpa using h
  unfold bt
  simp only [Int.toNat_natCast]
  rw [dif_pos h2]
  rfl
theorem size_len (s : ByteArray) : s.size = s.data.toList.length := by rw [← ByteArray.size_data]; simp
/-- What is read of the letters that are left, behind what has been read. -/
def tailF (bs : List UInt8) (done : List Int) : List Int × Int := match codes bs with | some r => (r.reverse ++ done, 0) | none => ([], 44)
theorem tail_cons {c : UInt8} {t : List UInt8} {done : List Int} {x : Int} (h : codeOf c = some x) : tailF (c :: t) done = tailF t (x :: done) := by
  have hc : codes (c :: t) = (codes t).bind fun r => some (x :: r) := by rw [codes_cons, h]; rfl
  unfold tailF
  rw [hc]
  cases codes t with
  | none => rfl
  | some r => simp
theorem tail_bad {c : UInt8} {t : List UInt8} {done : List Int} (h : codeOf c = none) : tailF (c :: t) done = ([], 44) := by
  have hc : codes (c :: t) = none := by rw [codes_cons, h]; rfl
  unfold tailF
  rw [hc]
theorem parse_l0 (s : ByteArray) (hl : s.data.toList.length ≤ 64) : ∀ (n i : Nat) (done : List Int), i ≤ s.data.toList.length → s.data.toList.length - i = n → done.length = i → Ev (fun k => logic_Parse.l0 k s (List.replicate n 0 ++ done) (s.data.toList.length : Int) (i : Int)) (tailF (s.data.toList.drop i) done) := by
  have hs := size_len s
  intro n
  induction n with
  | zero =>
    intro i done hi hn hd
    refine Ev.step (f := fun _ => some (done, 0)) (fun k => by simp only [logic_Parse.l0]; rw [if_neg (by omega)]; simp) ?_
    rw [List.drop_of_length_le (by omega)]
    exact Ev.now _
  | succ n ih =>
    intro i done hi hn hd
    have h1 : i < s.data.toList.length := by omega
    rw [List.drop_eq_getElem_cons h1]
    cases hc : codeOf (s.data.toList[i]) with
    | some x =>
      have hx := code_range hc
      have hat : wrap64 ((wrap64 ((s.size : Int) - 1)) - (i : Int)) = (n : Int) := by unfold wrap64; omega
      have hset : (List.replicate (n + 1) (0 : Int) ++ done).set n x = List.replicate n 0 ++ (x :: done) := by
        rw [List.replicate_succ', List.append_assoc, List.set_append_right _ _ (by simp)]
        simp
      refine Ev.step (f := fun k => logic_Parse.l0 k s (List.replicate n 0 ++ (x :: done)) (s.data.toList.length : Int) ((i + 1 : Nat) : Int)) (fun k => by
        simp only [logic_Parse.l0]
        rw [if_pos (by omega), if_pos (by omega), if_pos (by omega), bt_nat s i h1, index_code, hc]
        simp only [Option.bind_some, Option.getD_some]
        rw [if_neg (by omega), hat, if_pos (by omega), if_pos (by simp; omega), wrap_succ i (by omega)]
        simp only [Int.toNat_natCast]
        rw [show x % 256 = x by omega, hset]) ?_
      rw [tail_cons hc]
      exact ih (i + 1) (x :: done) (by omega) (by omega) (by simp; omega)
    | none =>
      refine Ev.step (f := fun _ => some ([], 44)) (fun k => by
        simp only [logic_Parse.l0]
        rw [if_pos (by omega), if_pos (by omega), if_pos (by omega), bt_nat s i h1, index_code, hc]
        simp) ?_
      rw [tail_bad hc]
      exact Ev.now _
/-- What is read of a string. -/
def parseF (bs : List UInt8) : List Int × Int := if 1 ≤ bs.length ∧ bs.length ≤ 64 then tailF bs [] else ([], 44)
theorem parse_ev (s : ByteArray) : Ev (fun k => logic_Parse.f k s) (parseF s.data.toList) := by
  have hs := size_len s
  unfold parseF
  by_cases h1 : 1 ≤ s.data.toList.length
  · by_cases h2 : s.data.toList.length ≤ 64
    · rw [if_pos ⟨h1, h2⟩]
      have := parse_l0 s h2 s.data.toList.length 0 [] (by omega) (by omega) rfl
      refine Ev.step (f := fun k => logic_Parse.l0 k s (List.replicate s.data.toList.length 0 ++ []) (s.data.toList.length : Int) ((0 : Nat) : Int)) (fun k => by
        unfold logic_Parse.f
        rw [if_neg (by omega)]
        simp only [logic_Parse.j0]
        rw [if_neg (by simp; omega), if_pos (by omega), if_pos (by omega), List.append_nil, hs]
        rfl) ?_
      exact this
    · rw [if_neg (by omega)]
      refine Ev.step (f := fun _ => some ([], 44)) (fun k => by
        unfold logic_Parse.f
        rw [if_neg (by omega)]
        simp only [logic_Parse.j0]
        rw [if_pos (decide_eq_true (by omega))]) (Ev.now _)
  · rw [if_neg (by omega)]
    refine Ev.step (f := fun _ => some ([], 44)) (fun k => by
      unfold logic_Parse.f
      rw [if_pos (by omega)]
      simp only [logic_Parse.j0]
      rw [if_pos trivial]) (Ev.now _)
/-- What the reference reads of the letters that are left, behind what it has read. -/
def tailR (bs : List UInt8) (acc : List Int) : List Int × Int := match codes bs with | some r => (acc ++ r, 0) | none => ([], 44)
theorem refparse_l0 (s : ByteArray) (hl : s.data.toList.length ≤ 64) : ∀ (n i : Nat) (acc : List Int), i ≤ s.data.toList.length → s.data.toList.length - i = n → acc.length = i → Ev (fun k => netwrightref01_Parse.l0 k s acc (s.data.toList.length : Int) (i : Int)) (tailR (s.data.toList.reverse.drop i) acc) := by
  have hs := size_len s
  intro n
  induction n with
  | zero =>
    intro i acc hi hn hd
    refine Ev.step (f := fun _ => some (acc, 0)) (fun k => by simp only [netwrightref01_Parse.l0]; rw [if_neg (by omega)]) ?_
    rw [List.drop_of_length_le (by simp; omega)]
    simp only [tailR, codes, List.append_nil]
    exact Ev.now _
  | succ n ih =>
    intro i acc hi hn hd
    have h1 : n < s.data.toList.length := by omega
    have h2 : i < s.data.toList.reverse.length := by simp; omega
    have hat : wrap64 ((wrap64 ((s.size : Int) - 1)) - (i : Int)) = (n : Int) := by unfold wrap64; omega
    have hrev : s.data.toList.reverse[i] = s.data.toList[n] := by
      rw [List.getElem_reverse]
      congr 1
      omega
    rw [List.drop_eq_getElem_cons h2, hrev]
    cases hc : codeOf (s.data.toList[n]) with
    | some x =>
      have hx := code_range hc
      have ht : tailR (s.data.toList[n] :: s.data.toList.reverse.drop (i + 1)) acc = tailR (s.data.toList.reverse.drop (i + 1)) (acc ++ [x]) := by
        unfold tailR
        rw [show codes (s.data.toList[n] :: s.data.toList.reverse.drop (i + 1)) = (codes (s.data.toList.reverse.drop (i + 1))).bind fun r => some (x :: r) from by rw [codes_cons, hc]; rfl]
        cases codes (s.data.toList.reverse.drop (i + 1)) with
        | none => rfl
        | some r => simp
      refine Ev.step (f := fun k => netwrightref01_Parse.l0 k s (acc ++ [x]) (s.data.toList.length : Int) ((i + 1 : Nat) : Int)) (fun k => by
        simp only [netwrightref01_Parse.l0]
        rw [if_pos (by omega), hat, if_pos (by omega), if_pos (by omega), bt_nat s n h1, of_code, hc]
        simp only [Option.bind_some, Option.getD_some, Option.isSome_some, if_true]
        rw [if_pos (by omega), wrap_succ i (by omega)]) ?_
      rw [ht]
      exact ih (i + 1) (acc ++ [x]) (by omega) (by omega) (by simp; omega)
    | none =>
      have ht : tailR (s.data.toList[n] :: s.data.toList.reverse.drop (i + 1)) acc = ([], 44) := by
        unfold tailR
        rw [show codes (s.data.toList[n] :: s.data.toList.reverse.drop (i + 1)) = none from by rw [codes_cons, hc]; rfl]
      refine Ev.step (f := fun _ => some ([], 44)) (fun k => by
        simp only [netwrightref01_Parse.l0]
        rw [if_pos (by omega), hat, if_pos (by omega), if_pos (by omega), bt_nat s n h1, of_code, hc]
        simp) ?_
      rw [ht]
      exact Ev.now _
theorem tail_same (bs : List UInt8) : tailR bs.reverse [] = tailF bs [] := by
  unfold tailR tailF
  rw [codes_reverse]
  cases codes bs with
  | none => rfl
  | some r => simp
theorem refparse_ev (s : ByteArray) : Ev (fun k => netwrightref01_Parse.f k s) (parseF s.data.toList) := by
  have hs := size_len s
  unfold parseF
  by_cases h1 : 1 ≤ s.data.toList.length
  · by_cases h2 : s.data.toList.length ≤ 64
    · rw [if_pos ⟨h1, h2⟩, ← tail_same]
      have := refparse_l0 s h2 s.data.toList.length 0 [] (by omega) (by omega) rfl
      refine Ev.step (f := fun k => netwrightref01_Parse.l0 k s [] (s.data.toList.length : Int) ((0 : Nat) : Int)) (fun k => by
        unfold netwrightref01_Parse.f
        rw [if_neg (by omega)]
        simp only [netwrightref01_Parse.j0]
        rw [if_neg (by simp; omega), hs]
        rfl) ?_
      exact this
    · rw [if_neg (by omega)]
      refine Ev.step (f := fun _ => some ([], 44)) (fun k => by
        unfold netwrightref01_Parse.f
        rw [if_neg (by omega)]
        simp only [netwrightref01_Parse.j0]
        rw [if_pos (decide_eq_true (by omega))]) (Ev.now _)
  · rw [if_neg (by omega)]
    refine Ev.step (f := fun _ => some ([], 44)) (fun k => by
      unfold netwrightref01_Parse.f
      rw [if_pos (by omega)]
      simp only [netwrightref01_Parse.j0]
      rw [if_pos trivial]) (Ev.now _)
theorem parse_len (bs : List UInt8) : (parseF bs).1.length ≤ 64 := by
  unfold parseF
  split
  · rename_i h
    unfold tailF
    split
    · rename_i r hr
      simp [codes_len hr]
      exact h.2
    · simp
  · simp
/-- What has been read is a vector whose letters are the string. -/
theorem parse_ok {bs : List UInt8} (h : (parseF bs).2 = 0) : isF (parseF bs).1 = true ∧ U8 (parseF bs).1 ∧ textB (parseF bs).1 = bs := by
  unfold parseF at h ⊢
  by_cases hl : 1 ≤ bs.length ∧ bs.length ≤ 64
  · rw [if_pos hl] at h ⊢
    unfold tailF at h ⊢
    cases hc : codes bs with
    | none => rw [hc] at h; exact absurd h (by decide)
    | some r =>
      have hlen := codes_len hc
      have hb := codes_bits hc
      simp only [List.append_nil]
      refine ⟨isF_mk (by simp; omega) (by simp; omega) (fun x hx => (hb x (List.mem_reverse.1 hx)).2), fun x hx => ?_, ?_⟩
      · have := hb x (List.mem_reverse.1 hx)
        omega
      · unfold textB
        rw [List.reverse_reverse]
        exact codes_letters hc
  · rw [if_neg hl] at h
    exact absurd h (by decide)
theorem reads_pure : netwrightlaw01_LogicReads.Pure := by
  intro s _
  have hs := size_len s
  obtain ⟨K, hK⟩ := awake_ev
  by_cases h2 : 200 < s.size
  · refine ⟨K, ?_⟩
    unfold netwrightlaw01_LogicReads.f
    rw [if_pos (by omega)]
    simp [hK K (Nat.le_refl _)]
  · obtain ⟨K1, h3⟩ := parse_ev s
    obtain ⟨K2, h4⟩ := refparse_ev s
    have hlen := parse_len s.data.toList
    obtain ⟨K3, h5⟩ := same_self (parseF s.data.toList).1 (by omega)
    obtain ⟨k, hk⟩ : ∃ k, k = K + K1 + K2 + K3 + 1 := ⟨_, rfl⟩
    have e1 := h3 k (by omega)
    have e2 := h4 k (by omega)
    have e3 := h5 k (by omega)
    have e4 := hK (k - 1) (by omega)
    simp only [] at e1 e2 e3
    refine ⟨k, ?_⟩
    unfold netwrightlaw01_LogicReads.f
    rw [if_neg (by omega), e1]
    simp only [Option.bind_some]
    rw [e2]
    simp only [Option.bind_some]
    rw [e3]
    simp only [Option.bind_some, if_true]
    obtain ⟨m, rfl⟩ : ∃ m, k = m + 1 := ⟨k - 1, by omega⟩
    simp only [netwrightlaw01_LogicReads.j0]
    rw [if_neg (by simp)]
    simp only [Nat.add_sub_cancel] at e4
    by_cases h0 : (parseF s.data.toList).2 = 0
    · obtain ⟨p1, p2, p3⟩ := parse_ok h0
      rw [if_pos h0, text_f _ p2 p1, p3]
      simp only [Option.bind_some]
      rw [if_pos trivial, if_pos trivial, e4]
      rfl
    · rw [if_neg h0, e4]
      rfl
/-- A vector's letters are read as the vector. -/
theorem parse_text {l : List Int} (hu : U8 l) (h : isF l = true) : parseF (textB l) = (l, 0) := by
  obtain ⟨h1, h2, h3⟩ := isF_parts h
  have hlen : (textB l).length = l.length := by simp [textB]
  unfold parseF
  rw [if_pos (by omega)]
  unfold tailF textB
  rw [letters_codes (fun x hx => ⟨(hu x (List.mem_reverse.1 hx)).1, h3 x (List.mem_reverse.1 hx)⟩)]
  simp
theorem texts_pure : netwrightlaw01_LogicTexts.Pure := by
  intro l _ hl hw
  have hu := u8_list hw
  obtain ⟨K, hK⟩ := awake_ev
  obtain ⟨K1, h1⟩ := refis_ev l hu (by omega)
  cases hi : isF l with
  | false =>
    rw [hi] at h1
    refine ⟨K + K1, ?_⟩
    have e1 := h1 (K + K1) (by omega)
    unfold netwrightlaw01_LogicTexts.f
    simp only [] at e1
    rw [e1]
    simp only [Option.bind_some, Bool.false_eq_true, if_false]
    rw [hK (K + K1) (by omega)]
    rfl
  | true =>
    rw [hi] at h1
    obtain ⟨p1, p2, p3⟩ := isF_parts hi
    obtain ⟨K2, h2⟩ := parse_ev (⟨(textB l).toArray⟩ : ByteArray)
    simp only [parse_text hu hi] at h2
    obtain ⟨K3, h3⟩ := same_self l (by omega)
    obtain ⟨k, hk⟩ : ∃ k, k = K + K1 + K2 + K3 := ⟨_, rfl⟩
    have e1 := h1 k (by omega)
    have e2 := h2 k (by omega)
    have e3 := h3 k (by omega)
    simp only [] at e1 e2 e3
    refine ⟨k, ?_⟩
    unfold netwrightlaw01_LogicTexts.f
    rw [e1]
    simp only [Option.bind_some, if_true]
    rw [copied_f l (by omega)]
    simp only [Option.bind_some]
    rw [text_f l hu hi]
    simp only [Option.bind_some]
    rw [e2]
    simp only [Option.bind_some]
    rw [if_pos trivial, if_pos trivial, if_pos (by rw [size_len]; simp [textB]), e3, hK k (by omega)]
    rfl
end Go.Proofs.Ytajpgmpidphmgaa.Pure
