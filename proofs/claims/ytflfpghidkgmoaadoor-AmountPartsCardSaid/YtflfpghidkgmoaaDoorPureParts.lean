/- AmountParts: the plain law on lists of amounts. -/
import Derived.Test.YtflfpghidkgmoaaDoorPureBack
namespace Go.Proofs.YtflfpghidkgmoaaDoor.PureParts
set_option linter.unusedVariables false
set_option linter.unusedSimpArgs false
open Go.RowKit Go.Proofs.YtflfpghidkgmoaaDoor Go.Proofs.YtflfpghidkgmoaaDoor.QBack Go.Proofs.YtflfpghidkgmoaaDoor.PureBack Go.Proofs.YtflfpghidkgmoaaDoorW.PrintWords

def sC : List S23 → Int
  | [] => 0
  | p :: r => p.f0 + sC r
def sM : List S23 → Int
  | [] => 0
  | p :: r => p.f1 + sM r
def allR : List S23 → Bool
  | [] => true
  | p :: r => rA p.f0 p.f1 && allR r
theorem sC_app (l m : List S23) : sC (l ++ m) = sC l + sC m := by
  induction l with
  | nil => simp [sC]
  | cons p r ih => simp only [List.cons_append, sC, ih]; omega
theorem sM_app (l m : List S23) : sM (l ++ m) = sM l + sM m := by
  induction l with
  | nil => simp [sM]
  | cons p r ih => simp only [List.cons_append, sM, ih]; omega
theorem allR_app (l m : List S23) : allR (l ++ m) = (allR l && allR m) := by
  induction l with
  | nil => simp [allR]
  | cons p r ih => simp only [List.cons_append, allR, ih, Bool.and_assoc]
theorem sC_rev (l : List S23) : sC l.reverse = sC l := by
  induction l with
  | nil => rfl
  | cons p r ih => rw [List.reverse_cons, sC_app, ih]; simp only [sC]; omega
theorem sM_rev (l : List S23) : sM l.reverse = sM l := by
  induction l with
  | nil => rfl
  | cons p r ih => rw [List.reverse_cons, sM_app, ih]; simp only [sM]; omega
theorem allR_rev (l : List S23) : allR l.reverse = allR l := by
  induction l with
  | nil => rfl
  | cons p r ih => rw [List.reverse_cons, allR_app, ih]; simp only [allR, Bool.and_true]; exact Bool.and_comm _ _
theorem s_nonneg (l : List S23) (h : allR l = true) : 0 ≤ sC l ∧ 0 ≤ sM l := by
  induction l with
  | nil => exact ⟨Int.le_refl _, Int.le_refl _⟩
  | cons p r ih =>
    simp only [allR, Bool.and_eq_true] at h
    have := ih h.2
    have k := (rA_iff _ _).1 h.1
    simp only [sC, sM]
    omega
/-- May a list be added up? -/
def okL (l : List S23) (a b : Int) : Prop := allR l = true ∧ a + sC l ≤ 1099511627776 ∧ b + sM l ≤ 1099511627776
theorem rd_at (l : List S23) (i : Nat) (p : S23) (h : l[i]? = some p) : rd_T23 l (i : Int) = p := by simp [rd_T23, List.getD_eq_getElem?_getD, h]
theorem wrap_step (i n : Nat) (hi : i < n) (hn : n ≤ 8796093022208) : wrap64 ((i : Int) + 1) = ((i + 1 : Nat) : Int) := by unfold wrap64; omega
theorem sum_ok (l : List S23) (hn : l.length ≤ 8796093022208) (d : Nat) : ∀ (k i : Nat) (a b : Int), i ≤ l.length → l.length - i = d → d < k → rA a b = true → okL (l.drop i) a b →
    amount_Sum.l0 k l (l.length : Int) (i : Int) a b = some (a + sC (l.drop i), b + sM (l.drop i), none) := by
  induction d with
  | zero =>
    intro k i a b h1 hd hk hr hok
    obtain ⟨k, rfl⟩ : ∃ m, k = m + 1 := ⟨k - 1, by omega⟩
    simp only [amount_Sum.l0]
    rw [if_neg (by omega), List.drop_eq_nil_of_le (by omega)]
    simp [sC, sM]
  | succ d ih =>
    intro k i a b h1 hd hk hr hok
    obtain ⟨k, rfl⟩ : ∃ m, k = m + 1 := ⟨k - 1, by omega⟩
    have hlt : i < l.length := by omega
    rw [List.drop_eq_getElem_cons hlt] at hok ⊢
    obtain ⟨q1, q2, q3⟩ := hok
    simp only [allR, Bool.and_eq_true] at q1
    simp only [sC, sM] at q2 q3 ⊢
    have kp := (rA_iff _ _).1 q1.1
    have kr := (rA_iff _ _).1 hr
    have kn := s_nonneg _ q1.2
    have h3 : rA (a + l[i].f0) (b + l[i].f1) = true := (rA_iff _ _).2 (by omega)
    simp only [amount_Sum.l0]
    rw [if_pos (by omega), if_pos (by omega), if_pos (by omega), rd_at l i l[i] (List.getElem?_eq_getElem hlt), add_ok _ _ _ _ hr q1.1 h3]
    simp only [Option.bind_some, Option.isNone_none, if_true]
    rw [wrap_step i _ hlt hn, ih k (i + 1) _ _ (by omega) (by omega) (by omega) h3 ⟨q1.2, by omega, by omega⟩]
    simp only [Option.some.injEq, Prod.mk.injEq, and_true]
    omega
theorem sum_bad (l : List S23) (hn : l.length ≤ 8796093022208) (hw : ∀ p ∈ l, isI p.f0 = true ∧ isI p.f1 = true) (d : Nat) : ∀ (k i : Nat) (a b : Int), i ≤ l.length → l.length - i = d → d < k → rA a b = true → ¬ okL (l.drop i) a b →
    ∃ x, amount_Sum.l0 k l (l.length : Int) (i : Int) a b = some (0, 0, some x) ∧ good x := by
  induction d with
  | zero =>
    intro k i a b h1 hd hk hr hok
    exfalso
    have kr := (rA_iff _ _).1 hr
    refine hok ?_
    rw [List.drop_eq_nil_of_le (by omega)]
    exact ⟨rfl, by simp only [sC]; omega, by simp only [sM]; omega⟩
  | succ d ih =>
    intro k i a b h1 hd hk hr hok
    obtain ⟨k, rfl⟩ : ∃ m, k = m + 1 := ⟨k - 1, by omega⟩
    have hlt : i < l.length := by omega
    have hp := hw l[i] (List.getElem_mem hlt)
    have kr := (rA_iff _ _).1 hr
    have ia : isI a = true := (isI_iff _).2 (by omega)
    have ib : isI b = true := (isI_iff _).2 (by omega)
    rw [List.drop_eq_getElem_cons hlt] at hok
    simp only [amount_Sum.l0]
    rw [if_pos (by omega), if_pos (by omega), if_pos (by omega), rd_at l i l[i] (List.getElem?_eq_getElem hlt)]
    by_cases h : rA l[i].f0 l[i].f1 = true ∧ rA (a + l[i].f0) (b + l[i].f1) = true
    · rw [add_ok _ _ _ _ hr h.1 h.2]
      simp only [Option.bind_some, Option.isNone_none, if_true]
      rw [wrap_step i _ hlt hn]
      refine ih k (i + 1) _ _ (by omega) (by omega) (by omega) h.2 (fun hn => hok ?_)
      obtain ⟨q1, q2, q3⟩ := hn
      exact ⟨by simp only [allR, h.1, q1, Bool.and_self], by simp only [sC]; omega, by simp only [sM]; omega⟩
    · obtain ⟨x, hx, hg⟩ := add_bad a b l[i].f0 l[i].f1 ia ib hp.1 hp.2 (fun hh => h hh.2)
      rw [hx]
      exact ⟨x, rfl, hg⟩
theorem Sum_ok (l : List S23) (k : Nat) (hn : l.length ≤ 8796093022208) (hk : l.length < k) (h : okL l 0 0) : amount_Sum.f k l = some (sC l, sM l, none) := by
  have := sum_ok l hn l.length k 0 0 0 (by omega) (by omega) hk rfl h
  rw [List.drop_zero, Int.zero_add, Int.zero_add] at this
  exact this
theorem Sum_bad (l : List S23) (k : Nat) (hn : l.length ≤ 8796093022208) (hw : ∀ p ∈ l, isI p.f0 = true ∧ isI p.f1 = true) (hk : l.length < k) (h : ¬ okL l 0 0) : ∃ x, amount_Sum.f k l = some (0, 0, some x) ∧ good x :=
  sum_bad l hn hw l.length k 0 0 0 (by omega) (by omega) hk rfl h
theorem pick (a n : Int) (hn : 1 ≤ n) (hm : n ≤ 10001) : ∃ k, flotillakit_Pick.f a n = some k ∧ 0 ≤ k ∧ k < n := by
  unfold flotillakit_Pick.f
  have h1 := Int.tmod_lt_of_pos a (show 0 < n by omega)
  have h2 : -n < Int.tmod a n := by
    rcases Int.le_total 0 a with h | h
    · have := Int.tmod_nonneg n h
      omega
    · obtain ⟨b, rfl⟩ : ∃ b, a = -b := ⟨-a, by omega⟩
      rw [Int.neg_tmod]
      have := Int.tmod_lt_of_pos b (show 0 < n by omega)
      omega
  rw [if_neg (by omega), if_neg (by omega)]
  split
  next h => exact ⟨_, rfl, by unfold wrap64; omega, by unfold wrap64; omega⟩
  next h => exact ⟨_, rfl, by omega, h1⟩
theorem loop (l : List S23) (c : Int) (hn : l.length ≤ 10000) (j : Nat) : ∀ k, j ≤ l.length → j < k → flotillalaw03_AmountParts.l0 k l c (l.drop j).reverse ((j : Int) - 1) = flotillalaw03_AmountParts.l0 (k - j) l c l.reverse (-1) := by
  induction j with
  | zero =>
    intro k hj hk
    rfl
  | succ j ih =>
    intro k hj hk
    obtain ⟨k, rfl⟩ : ∃ m, k = m + 1 := ⟨k - 1, by omega⟩
    have hlt : j < l.length := by omega
    rw [flotillalaw03_AmountParts.l0]
    rw [show ((j + 1 : Nat) : Int) - 1 = (j : Int) by omega, if_pos (by omega), if_pos (by omega), if_pos (by omega), rd_at l j l[j] (List.getElem?_eq_getElem hlt), if_pos (by simp; omega)]
    have e : (l.drop (j + 1)).reverse ++ [(⟨l[j].f0, l[j].f1⟩ : S23)] = (l.drop j).reverse := by
      rw [List.drop_eq_getElem_cons hlt, List.reverse_cons]
    rw [e, show wrap64 ((j : Int) - 1) = (j : Int) - 1 by unfold wrap64; omega, ih k (by omega) (by omega), Nat.succ_sub_succ]
theorem parts (l : List S23) (c : Int) (hw : ∀ p ∈ l, isI p.f0 = true ∧ isI p.f1 = true) : flotillalaw03_AmountParts.f (2 * l.length + 10) l c = some true := by
  unfold flotillalaw03_AmountParts.f
  rw [works]
  simp only [Option.bind_some, if_true]
  by_cases hbig : (l.length : Int) > 10000
  · rw [if_pos hbig]
  rw [if_neg hbig]
  have hn : l.length ≤ 10000 := by omega
  rw [show wrap64 ((l.length : Int) + 1) = (l.length : Int) + 1 by unfold wrap64; omega]
  obtain ⟨x, hx, h0, h1⟩ := pick c ((l.length : Int) + 1) (by omega) (by omega)
  rw [hx, Option.bind_some, show wrap64 ((l.length : Int) - 1) = (l.length : Int) - 1 by unfold wrap64; omega]
  have hl := loop l x hn l.length (2 * l.length + 10) (Nat.le_refl _) (by omega)
  rw [List.drop_length, List.reverse_nil] at hl
  rw [hl, show 2 * l.length + 10 - l.length = (l.length + 8) + 1 + 1 by omega, flotillalaw03_AmountParts.l0, if_neg (by omega)]
  have hwr : ∀ p ∈ l.reverse, isI p.f0 = true ∧ isI p.f1 = true := fun p hp => hw p (List.mem_reverse.1 hp)
  by_cases hok : okL l 0 0
  · have hr : okL l.reverse 0 0 := ⟨by rw [allR_rev]; exact hok.1, by rw [sC_rev]; exact hok.2.1, by rw [sM_rev]; exact hok.2.2⟩
    rw [Sum_ok l _ (by omega) (by omega) hok, Option.bind_some, Sum_ok l.reverse _ (by rw [List.length_reverse]; omega) (by rw [List.length_reverse]; omega) hr, sC_rev, sM_rev]
    simp only [Option.bind_some, beq_self_eq_true, Bool.not_true, Bool.or_self, Bool.false_eq_true, if_false, flotillakit_Num.f, numF, bne_self_eq_false]
    simp only [flotillalaw03_AmountParts.j1, Bool.false_eq_true, if_false, Option.isNone_none, if_true]
    have hsplit : l.take x.toNat ++ l.drop x.toNat = l := List.take_append_drop _ _
    have c1 : sC (l.take x.toNat) + sC (l.drop x.toNat) = sC l := by rw [← sC_app, hsplit]
    have c2 : sM (l.take x.toNat) + sM (l.drop x.toNat) = sM l := by rw [← sM_app, hsplit]
    have c3 : allR (l.take x.toNat) = true ∧ allR (l.drop x.toNat) = true := by
      have := hok.1
      rw [← hsplit, allR_app, Bool.and_eq_true] at this
      exact this
    have n1 := s_nonneg _ c3.1
    have n2 := s_nonneg _ c3.2
    have b1 := hok.2.1
    have b2 := hok.2.2
    have hT : okL (l.take x.toNat) 0 0 := ⟨c3.1, by omega, by omega⟩
    have hD : okL (l.drop x.toNat) 0 0 := ⟨c3.2, by omega, by omega⟩
    rw [if_pos (by omega), if_pos (by omega), Sum_ok _ _ (by rw [List.length_take]; omega) (by rw [List.length_take]; omega) hT, Option.bind_some, Sum_ok _ _ (by rw [List.length_drop]; omega) (by rw [List.length_drop]; omega) hD, Option.bind_some]
    simp only []
    rw [add_ok _ _ _ _ ((rA_iff _ _).2 (by omega)) ((rA_iff _ _).2 (by omega)) ((rA_iff _ _).2 (by omega)), c1, c2]
    simp
  · have hr : ¬ okL l.reverse 0 0 := fun h => hok ⟨by rw [← allR_rev]; exact h.1, by rw [← sC_rev]; exact h.2.1, by rw [← sM_rev]; exact h.2.2⟩
    obtain ⟨y, e1, g1⟩ := Sum_bad l (l.length + 8 + 1) (by omega) hw (by omega) hok
    obtain ⟨z, e2, g2⟩ := Sum_bad l.reverse (l.length + 8 + 1) (by rw [List.length_reverse]; omega) hwr (by rw [List.length_reverse]; omega) hr
    rw [e1, e2]
    simp only [Option.bind_some, beq_self_eq_true, Bool.not_true, Bool.or_self, Bool.false_eq_true, if_false, flotillakit_Num.f, num_good y g1, num_good z g2, bne_self_eq_false]
    simp only [flotillalaw03_AmountParts.j1, Bool.false_eq_true, if_false, Option.isNone_some, beq_self_eq_true, Bool.and_self]
end Go.Proofs.YtflfpghidkgmoaaDoor.PureParts
