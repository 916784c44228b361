/- Plain facts: the order of inputs does not matter. -/
import Derived.Test.YtajpgmpidphmgaaPuB
import Derived.Test.YtajpgmpidphmgaaPOrdx2
namespace Go.Proofs.Ytajpgmpidphmgaa.Pure
open Go.RowKit Go.Proofs.Ytajpgmpidphmgaa.Hand Go.Proofs.Ytajpgmpidphmgaa.PAll Go.Proofs.Ytajpgmpidphmgaa.POrd Go.Proofs.YtajpgmpidphmgaaW.PrintWords Go.Proofs.YtajpgmpidphmgaaW.PrintLast
/-- The six names of the first loop. -/
def N6 : List ByteArray := [(⟨#[97, 110, 100]⟩ : ByteArray), (⟨#[111, 114]⟩ : ByteArray), (⟨#[120, 111, 114]⟩ : ByteArray), (⟨#[110, 97, 110, 100]⟩ : ByteArray), (⟨#[110, 111, 114]⟩ : ByteArray), (⟨#[120, 110, 111, 114]⟩ : ByteArray)]
/-- The two names of the second. -/
def N2 : List ByteArray := [(⟨#[97, 110, 100]⟩ : ByteArray), (⟨#[111, 114]⟩ : ByteArray)]
/-- One name's operation does not mind the order of two bits. -/
def swapOk (s : ByteArray) (a b : Int) : Bool :=
  match logic_Op.f s a b, logic_Op.f s b a with
  | some p, some q => decide (p.1 = q.1) && (decide (p.2 = 0) && decide (q.2 = 0))
  | _, _ => false
theorem swap_all : ((List.range 4).all fun i => (List.range 4).all fun j => (List.range 6).all fun n => swapOk (rdOf ByteArray.empty N6 (n : Int)) (i : Int) (j : Int)) = true := by decide +kernel
/-- Nor where the brackets stand. -/
def assocOk (s : ByteArray) (a b c : Int) : Bool :=
  match logic_Op.f s a b, logic_Op.f s b c with
  | some p, some q => (match logic_Op.f s p.1 c, logic_Op.f s a q.1 with
    | some x, some y => decide (x.1 = y.1)
    | _, _ => false)
  | _, _ => false
theorem assoc_all : ((List.range 4).all fun i => (List.range 4).all fun j => (List.range 4).all fun m => (List.range 2).all fun n => assocOk (rdOf ByteArray.empty N2 (n : Int)) (i : Int) (j : Int) (m : Int)) = true := by decide +kernel
theorem ord_l0 (l : List Int) (a2 a b c : Int) (ha : 0 ≤ a ∧ a ≤ 3) (hb : 0 ≤ b ∧ b ≤ 3) (k n : Nat) (hn : n < 6) :
    netwrightlaw01_LogicOrders.l0 (k + 1) l a2 a b c N6 6 (n : Int) = netwrightlaw01_LogicOrders.l0 k l a2 a b c N6 6 ((n + 1 : Nat) : Int) := by
  obtain ⟨i, rfl⟩ := Int.eq_ofNat_of_zero_le ha.1
  obtain ⟨j, rfl⟩ := Int.eq_ofNat_of_zero_le hb.1
  have h := List.all_eq_true.1 (List.all_eq_true.1 (List.all_eq_true.1 swap_all i (by simp; omega)) j (by simp; omega)) n (by simp; omega)
  unfold swapOk at h
  split at h
  · rename_i p q e1 e2
    simp only [Bool.and_eq_true, decide_eq_true_eq] at h
    conv => lhs; unfold netwrightlaw01_LogicOrders.l0
    rw [if_pos (by omega), if_pos (by omega), if_pos (show (n : Int) < ((N6.length : Nat) : Int) from by show (n : Int) < ((6 : Nat) : Int); omega), e1, e2]
    simp only [Option.bind_some]
    rw [if_pos h.1, if_pos h.2.1, if_pos h.2.2, wrap_succ n (by omega)]
  · cases h
theorem ord_l0_all (l : List Int) (a2 a b c : Int) (ha : 0 ≤ a ∧ a ≤ 3) (hb : 0 ≤ b ∧ b ≤ 3) (k : Nat) :
    netwrightlaw01_LogicOrders.l0 (k + 7) l a2 a b c N6 6 0 = netwrightlaw01_LogicOrders.l1 k l a2 a b c N2 2 0 := by
  have e0 := ord_l0 l a2 a b c ha hb (k + 6) 0 (by omega)
  have e1 := ord_l0 l a2 a b c ha hb (k + 5) 1 (by omega)
  have e2 := ord_l0 l a2 a b c ha hb (k + 4) 2 (by omega)
  have e3 := ord_l0 l a2 a b c ha hb (k + 3) 3 (by omega)
  have e4 := ord_l0 l a2 a b c ha hb (k + 2) 4 (by omega)
  have e5 := ord_l0 l a2 a b c ha hb (k + 1) 5 (by omega)
  have e6 : netwrightlaw01_LogicOrders.l0 (k + 1) l a2 a b c N6 6 ((6 : Nat) : Int) = netwrightlaw01_LogicOrders.l1 k l a2 a b c N2 2 0 := by
    conv => lhs; unfold netwrightlaw01_LogicOrders.l0
    rw [if_neg (by omega)]
    rfl
  exact ((((((e0.trans e1).trans e2).trans e3).trans e4).trans e5).trans e6)
theorem ord_l1 (l : List Int) (a2 a b c : Int) (ha : 0 ≤ a ∧ a ≤ 3) (hb : 0 ≤ b ∧ b ≤ 3) (hc : 0 ≤ c ∧ c ≤ 3) (k n : Nat) (hn : n < 2) :
    netwrightlaw01_LogicOrders.l1 (k + 1) l a2 a b c N2 2 (n : Int) = netwrightlaw01_LogicOrders.l1 k l a2 a b c N2 2 ((n + 1 : Nat) : Int) := by
  obtain ⟨i, rfl⟩ := Int.eq_ofNat_of_zero_le ha.1
  obtain ⟨j, rfl⟩ := Int.eq_ofNat_of_zero_le hb.1
  obtain ⟨m, rfl⟩ := Int.eq_ofNat_of_zero_le hc.1
  have h := List.all_eq_true.1 (List.all_eq_true.1 (List.all_eq_true.1 (List.all_eq_true.1 assoc_all i (by simp; omega)) j (by simp; omega)) m (by simp; omega)) n (by simp; omega)
  unfold assocOk at h
  split at h
  · rename_i p q e1 e2
    split at h
    · rename_i x y e3 e4
      simp only [decide_eq_true_eq] at h
      conv => lhs; unfold netwrightlaw01_LogicOrders.l1
      rw [if_pos (by omega), if_pos (by omega), if_pos (show (n : Int) < ((N2.length : Nat) : Int) from by show (n : Int) < ((2 : Nat) : Int); omega), e1, e2]
      simp only [Option.bind_some]
      rw [e3, e4]
      simp only [Option.bind_some]
      rw [if_pos h, wrap_succ n (by omega)]
    · cases h
  · cases h
theorem bothF_swap (z x y : Int) : bothF (bothF z x) y = bothF (bothF z y) x := by
  unfold bothF
  repeat' split
  all_goals omega
theorem resF_perm {l m : List Int} (h : l.Perm m) : resF 3 l = resF 3 m := by
  unfold resF
  rw [h.all_eq, h.foldl_eq' (fun x _ y _ z => bothF_swap z x y)]
theorem tmod_in (a2 : Int) (n : Nat) (h0 : 0 < n) (h1 : n ≤ 200) : ∃ t : Nat, t < n ∧ Int.tmod (wrap64 (Int.tmod a2 (n : Int) + (n : Int))) (n : Int) = (t : Int) := by
  have h2 := Int.tmod_lt_of_pos a2 (show (0 : Int) < (n : Int) by omega)
  have h3 := Int.lt_tmod_of_pos a2 (show (0 : Int) < (n : Int) by omega)
  have h4 : wrap64 (Int.tmod a2 (n : Int) + (n : Int)) = Int.tmod a2 (n : Int) + (n : Int) := by unfold wrap64; omega
  rw [h4]
  have h5 := Int.tmod_lt_of_pos (Int.tmod a2 (n : Int) + (n : Int)) (show (0 : Int) < (n : Int) by omega)
  have h6 := Int.tmod_nonneg (a := Int.tmod a2 (n : Int) + (n : Int)) (n : Int) (by omega)
  exact ⟨(Int.tmod (Int.tmod a2 (n : Int) + (n : Int)) (n : Int)).toNat, by omega, by omega⟩
theorem ord_l2 (l m : List Int) (hp : m.Perm l) (h1 : l.length ≤ 200) : ∀ (d i : Nat) (acc : List Int), i ≤ l.length → l.length - i = d → acc = (l.drop d).reverse → Ev (fun k => netwrightlaw01_LogicOrders.l2 k l m acc (l.length : Int) (i : Int)) true := by
  intro d
  induction d with
  | zero =>
    intro i acc hi hd ha
    obtain ⟨K, hK⟩ := awake_ev
    obtain ⟨K1, hK1⟩ := resolve_ev l (by omega)
    obtain ⟨K2, hK2⟩ := resolve_ev m (by rw [hp.length_eq]; omega)
    obtain ⟨K3, hK3⟩ := resolve_ev acc (by rw [ha, List.drop_zero, List.length_reverse]; omega)
    have e2 : resF 3 m = resF 3 l := resF_perm hp
    have e3 : resF 3 acc = resF 3 l := resF_perm (by rw [ha, List.drop_zero]; exact List.reverse_perm l)
    refine ⟨K + K1 + K2 + K3 + 1, fun k hk => ?_⟩
    obtain ⟨k, rfl⟩ : ∃ j, k = j + 1 := ⟨k - 1, by omega⟩
    simp only [netwrightlaw01_LogicOrders.l2]
    rw [if_neg (by omega), copied_f l (by omega)]
    simp only [Option.bind_some]
    have q1 : logic_Resolve.f k l = _ := hK1 k (by omega)
    have q2 : logic_Resolve.f k m = _ := hK2 k (by omega)
    have q3 : logic_Resolve.f k acc = _ := hK3 k (by omega)
    rw [q1, q2, q3, hK k (by omega), e2, e3]
    simp
  | succ d ih =>
    intro i acc hi hd ha
    have hd1 : d < l.length := by omega
    have hw : wrap64 (wrap64 ((l.length : Int) - 1) - (i : Int)) = ((d : Nat) : Int) := by unfold wrap64; omega
    have hr := ih (i + 1) (acc ++ [l[d]]) (by omega) (by omega) (by rw [List.drop_eq_getElem_cons hd1, List.reverse_cons, ha])
    refine Ev.step (f := fun k => netwrightlaw01_LogicOrders.l2 k l m (acc ++ [l[d]]) (l.length : Int) ((i + 1 : Nat) : Int)) (fun k => ?_) hr
    have hlen : acc.length < 140737488355328 := by rw [ha, List.length_reverse, List.length_drop]; omega
    simp only [netwrightlaw01_LogicOrders.l2]
    rw [if_pos (by omega), hw, if_pos (by omega), if_pos (by omega), if_pos hlen, rd_nat l d hd1, wrap_succ i (by omega)]
theorem ord_tail (l : List Int) (a2 a b c : Int) (ha : 0 ≤ a ∧ a ≤ 3) (hb : 0 ≤ b ∧ b ≤ 3) (hc : 0 ≤ c ∧ c ≤ 3) (h1 : l.length ≤ 200) : Ev (fun k => netwrightlaw01_LogicOrders.l1 k l a2 a b c N2 2 ((2 : Nat) : Int)) true := by
  by_cases h0 : l.length = 0
  · refine Ev.step (f := fun k => (netwrightlaw01_awake.f k).bind fun t => some t) (fun k => by simp only [netwrightlaw01_LogicOrders.l1]; rw [if_neg (by omega), if_pos (by omega)]) ?_
    obtain ⟨K, hK⟩ := awake_ev
    exact ⟨K, fun k hk => by simp only [hK k hk, Option.bind_some]⟩
  · obtain ⟨t, ht, e⟩ := tmod_in a2 l.length (by omega) h1
    have hp : (l.drop t ++ l.take t).Perm l := List.perm_append_comm.trans (by rw [List.take_append_drop])
    refine Ev.step (f := fun k => netwrightlaw01_LogicOrders.l2 k l (l.drop t ++ l.take t) [] (l.length : Int) ((0 : Nat) : Int)) (fun k => ?_) (ord_l2 l _ hp h1 l.length 0 [] (by omega) (by omega) (by rw [List.drop_length]; rfl))
    simp only [netwrightlaw01_LogicOrders.l1]
    rw [if_neg (by omega), if_neg (by omega), e, if_pos (by omega), if_pos (by omega), Int.toNat_natCast, copied_f _ (by rw [List.length_drop]; omega)]
    simp only [Option.bind_some]
    rw [if_pos (by rw [List.length_drop, List.length_take]; omega)]
    rfl
theorem ord_pure (a b c : Int) (l : List Int) (a2 : Int) (ha : 0 ≤ a) (hb : 0 ≤ b) (hc : 0 ≤ c) : ∃ k, netwrightlaw01_LogicOrders.f k a b c l a2 = some true := by
  obtain ⟨K, hK⟩ := awake_ev
  have no : ∀ x7 x8 x9, netwrightlaw01_LogicOrders.j0 (K + 1) l a2 x7 x8 x9 true = some true := by
    intro x7 x8 x9
    simp only [netwrightlaw01_LogicOrders.j0, hK K (Nat.le_refl _), if_true, Option.bind_some]
  by_cases h : a ≤ 3 ∧ b ≤ 3 ∧ c ≤ 3 ∧ l.length ≤ 200
  · obtain ⟨h1, h2, h3, h4⟩ := h
    obtain ⟨J, hJ⟩ := ord_tail l a2 a b c ⟨ha, h1⟩ ⟨hb, h2⟩ ⟨hc, h3⟩ h4
    refine ⟨J + 2 + 7 + 1, ?_⟩
    unfold netwrightlaw01_LogicOrders.f
    rw [bit_f a ha, bit_f b hb, bit_f c hc, long_f]
    simp only [h1, h2, h3, decide_true, if_true, Option.bind_some, show ¬ 200 < l.length by omega, decide_false, netwrightlaw01_LogicOrders.j0, Bool.false_eq_true, if_false]
    refine (ord_l0_all l a2 a b c ⟨ha, h1⟩ ⟨hb, h2⟩ (J + 2)).trans ?_
    refine (ord_l1 l a2 a b c ⟨ha, h1⟩ ⟨hb, h2⟩ ⟨hc, h3⟩ (J + 1) 0 (by omega)).trans ?_
    refine (ord_l1 l a2 a b c ⟨ha, h1⟩ ⟨hb, h2⟩ ⟨hc, h3⟩ J 1 (by omega)).trans ?_
    exact hJ J (Nat.le_refl _)
  · refine ⟨K + 1, ?_⟩
    unfold netwrightlaw01_LogicOrders.f
    rw [bit_f a ha, bit_f b hb, bit_f c hc, long_f]
    simp only [Option.bind_some]
    by_cases h1 : a ≤ 3
    · by_cases h2 : b ≤ 3
      · by_cases h3 : c ≤ 3
        · have h4 : 200 < l.length := by
            rcases Nat.lt_or_ge 200 l.length with h4 | h4
            · exact h4
            · exact absurd ⟨h1, h2, h3, h4⟩ h
          simp [h1, h2, h3, h4, no]
        · simp [h1, h2, h3, no]
      · simp [h1, h2, no]
    · simp [h1, no]
end Go.Proofs.Ytajpgmpidphmgaa.Pure
