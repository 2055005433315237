/- AmountBack, AmountParts: plain laws on numbers and lists. -/
import Derived.Test.YtflfpghidkgmoaaDoorQBackx5
import Derived.Test.YtflfpghidkgmoaaDoorQBackx6
import Derived.Lib.Strings
namespace Go.Proofs.YtflfpghidkgmoaaDoor.PureBack
set_option linter.unusedVariables false
set_option linter.unusedSimpArgs false
open Go.RowKit Go.Proofs.YtflfpghidkgmoaaDoor Go.Proofs.YtflfpghidkgmoaaDoor.QBack Go.Proofs.YtflfpghidkgmoaaDoorW.PrintWords

theorem isI_wrap (x : Int) : isI (wrap64 x) = true := by
  rw [isI_iff]
  unfold wrap64
  omega
theorem rA_iff (c m : Int) : rA c m = true ↔ 0 ≤ c ∧ c ≤ 1099511627776 ∧ 0 ≤ m ∧ m ≤ 1099511627776 := by
  simp only [rA, rN, Bool.and_eq_true, decide_eq_true_eq]
  omega
theorem code_big (c m : Int) (hc : isI c = true) (hm : isI m = true) : goodC (wcode c m) = true ∧ codeNo (wcode c m) = 13 := by
  have hb := wcode_big c m hc hm
  rw [isI_iff] at hc hm
  constructor
  · have h1 : 1 ≤ wcode c m := by unfold wcode bigI bigJ; omega
    simp only [goodC, Bool.and_eq_true, Bool.or_eq_true, decide_eq_true_eq]
    exact ⟨h1, .inr (Int.not_lt.1 hb)⟩
  · unfold codeNo
    rw [if_neg hb]
/-- Such a code is of an error that may be told. -/
def good (x : Int) : Prop := goodC x = true ∧ codeNo x = 13
theorem num_good (x : Int) (h : good x) : numF (some x) = some 13 := by
  simp only [numF, h.1, if_true, h.2]
theorem made_ok (a b c d e f : Int) (h : (rA a b && rA c d && rA e f) = true) : madeF a b c d e f = some (e, f, none) := by
  unfold madeF
  rw [if_pos h]
theorem made_bad (a b c d e f : Int) (h : (rA a b && rA c d && rA e f) = false) (i1 : isI a = true) (i2 : isI b = true) (i3 : isI c = true) (i4 : isI d = true) (i5 : isI e = true) (i6 : isI f = true) :
    ∃ x, madeF a b c d e f = some (0, 0, some x) ∧ good x := by
  unfold madeF
  rw [if_neg (by simp [h]), if_pos (by simp [i1, i2, i3, i4, i5, i6])]
  refine ⟨_, rfl, ?_⟩
  unfold badC
  split
  · split
    · exact code_big _ _ i5 i6
    · exact code_big _ _ i3 i4
  · exact code_big _ _ i1 i2
theorem add_ok (a b c d : Int) (h1 : rA a b = true) (h2 : rA c d = true) (h3 : rA (a + c) (b + d) = true) : amount_Add.f a b c d = some (a + c, b + d, none) := by
  have k1 := (rA_iff _ _).1 h1
  have k2 := (rA_iff _ _).1 h2
  have e1 : wrap64 (a + c) = a + c := by unfold wrap64; omega
  have e2 : wrap64 (b + d) = b + d := by unfold wrap64; omega
  unfold amount_Add.f amount_made.f
  rw [e1, e2, made_ok _ _ _ _ _ _ (by simp [h1, h2, h3])]
  rfl
theorem add_bad (a b c d : Int) (i1 : isI a = true) (i2 : isI b = true) (i3 : isI c = true) (i4 : isI d = true) (h : ¬ (rA a b = true ∧ rA c d = true ∧ rA (a + c) (b + d) = true)) : ∃ x, amount_Add.f a b c d = some (0, 0, some x) ∧ good x := by
  obtain ⟨x, hx, hg⟩ := made_bad a b c d (wrap64 (a + c)) (wrap64 (b + d)) (by
    rw [Bool.eq_false_iff]
    intro hn
    simp only [Bool.and_eq_true] at hn
    obtain ⟨⟨h1, h2⟩, h3⟩ := hn
    have k1 := (rA_iff _ _).1 h1
    have k2 := (rA_iff _ _).1 h2
    have e1 : wrap64 (a + c) = a + c := by unfold wrap64; omega
    have e2 : wrap64 (b + d) = b + d := by unfold wrap64; omega
    rw [e1, e2] at h3
    exact h ⟨h1, h2, h3⟩) i1 i2 i3 i4 (isI_wrap _) (isI_wrap _)
  exact ⟨x, by unfold amount_Add.f amount_made.f; rw [hx]; rfl, hg⟩
theorem sub_ok (a b c d : Int) (h1 : rA a b = true) (h2 : rA c d = true) (h3 : c ≤ a ∧ d ≤ b) : amount_Sub.f a b c d = some (a - c, b - d, none) := by
  have k1 := (rA_iff _ _).1 h1
  have k2 := (rA_iff _ _).1 h2
  have e1 : wrap64 (a - c) = a - c := by unfold wrap64; omega
  have e2 : wrap64 (b - d) = b - d := by unfold wrap64; omega
  have h4 : rA (a - c) (b - d) = true := (rA_iff _ _).2 (by omega)
  unfold amount_Sub.f amount_made.f
  rw [e1, e2, made_ok _ _ _ _ _ _ (by simp [h1, h2, h4])]
  rfl
theorem sub_bad (a b c d : Int) (i1 : isI a = true) (i2 : isI b = true) (i3 : isI c = true) (i4 : isI d = true) (h : ¬ (rA a b = true ∧ rA c d = true ∧ c ≤ a ∧ d ≤ b)) : ∃ x, amount_Sub.f a b c d = some (0, 0, some x) ∧ good x := by
  obtain ⟨x, hx, hg⟩ := made_bad a b c d (wrap64 (a - c)) (wrap64 (b - d)) (by
    rw [Bool.eq_false_iff]
    intro hn
    simp only [Bool.and_eq_true] at hn
    obtain ⟨⟨h1, h2⟩, h3⟩ := hn
    have k1 := (rA_iff _ _).1 h1
    have k2 := (rA_iff _ _).1 h2
    have e1 : wrap64 (a - c) = a - c := by unfold wrap64; omega
    have e2 : wrap64 (b - d) = b - d := by unfold wrap64; omega
    rw [e1, e2] at h3
    have k3 := (rA_iff _ _).1 h3
    exact h ⟨h1, h2, by omega, by omega⟩) i1 i2 i3 i4 (isI_wrap _) (isI_wrap _)
  exact ⟨x, by unfold amount_Sub.f amount_made.f; rw [hx]; rfl, hg⟩
theorem Right_a (c m : Int) : amount_Right.f c m = some (rA c m) := by
  unfold amount_Right.f rA rN
  split <;> (try split) <;> (try split) <;> simp_all <;> omega
theorem Fits_a (a b c d : Int) : amount_Fits.f a b c d = some (decide (a ≤ c ∧ b ≤ d)) := by
  unfold amount_Fits.f
  split
  next h => simp [h]
  next h => simp [h]
theorem print_w : amount_Print.f 1500 64 = some ((⟨#[49, 53, 48, 48, 109, 47, 54, 52, 77, 105]⟩ : ByteArray), none) := by kernel_rfl
theorem works : flotillalaw03_works.f = some true := by
  unfold flotillalaw03_works.f flotillalaw03_of.f
  simp only [Option.bind_some, print_w, Right_a, add_ok 1500 64 500 64 rfl rfl rfl, Go.Lib.toList_data]
  rfl

theorem back (a0 a1 b0 b1 : Int) (i1 : isI a0 = true) (i2 : isI a1 = true) (i3 : isI b0 = true) (i4 : isI b1 = true) : flotillalaw03_AmountBack.f 3 a0 a1 b0 b1 = some true := by
  unfold flotillalaw03_AmountBack.f
  rw [works]
  simp only [Option.bind_some, if_true]
  by_cases hok : rA a0 a1 = true ∧ rA b0 b1 = true ∧ rA (a0 + b0) (a1 + b1) = true
  · obtain ⟨hA, hB, hS⟩ := hok
    have kA := (rA_iff _ _).1 hA
    have kB := (rA_iff _ _).1 hB
    have e1 := add_ok a0 a1 b0 b1 hA hB hS
    have e2 := add_ok b0 b1 a0 a1 hB hA (by rw [Int.add_comm b0, Int.add_comm b1]; exact hS)
    have e3 := sub_ok (a0 + b0) (a1 + b1) a0 a1 hS hA (by omega)
    rw [show a0 + b0 - a0 = b0 by omega, show a1 + b1 - a1 = b1 by omega] at e3
    rw [e1, Int.add_comm b0, Int.add_comm b1] at *
    simp only [e1, e2, Option.bind_some, beq_self_eq_true, Bool.not_true, Bool.or_self, Bool.false_eq_true, if_false, flotillakit_Num.f, numF, bne_self_eq_false]
    simp only [flotillalaw03_AmountBack.j0, Bool.false_eq_true, if_false, Option.isNone_none, if_true, e3, Option.bind_some, beq_self_eq_true, Bool.not_true, Bool.or_self, Fits_a, Right_a, hA, hB, hS]
    rw [show decide (a0 ≤ a0 + b0 ∧ a1 ≤ a1 + b1) = true from decide_eq_true (by omega)]
    simp only [if_true]
    by_cases hf : b0 ≤ a0 ∧ b1 ≤ a1
    · have e4 := sub_ok a0 a1 b0 b1 hA hB hf
      have e5 := add_ok (a0 - b0) (a1 - b1) b0 b1 ((rA_iff _ _).2 (by omega)) hB (by rw [show a0 - b0 + b0 = a0 by omega, show a1 - b1 + b1 = a1 by omega]; exact hA)
      rw [show a0 - b0 + b0 = a0 by omega, show a1 - b1 + b1 = a1 by omega] at e5
      rw [e4, decide_eq_true hf]
      simp only [Option.bind_some, flotillalaw03_AmountBack.j1, Option.isNone_none, if_true, bne_self_eq_false, Bool.false_eq_true, if_false, e5, beq_self_eq_true, Bool.and_self]
    · obtain ⟨x, e4, hg⟩ := sub_bad a0 a1 b0 b1 i1 i2 i3 i4 (fun h => hf h.2.2)
      rw [e4, decide_eq_false hf]
      simp only [Option.bind_some, flotillalaw03_AmountBack.j1, Option.isNone_some, if_true, bne_self_eq_false, Bool.false_eq_true, if_false, beq_self_eq_true, Bool.and_self, flotillakit_Num.f, Option.getD_some, num_good x hg]
  · obtain ⟨x, e1, g1⟩ := add_bad a0 a1 b0 b1 i1 i2 i3 i4 hok
    obtain ⟨y, e2, g2⟩ := add_bad b0 b1 a0 a1 i3 i4 i1 i2 (fun h => hok ⟨h.2.1, h.1, by rw [Int.add_comm a0, Int.add_comm a1]; exact h.2.2⟩)
    rw [e1, e2]
    simp only [Option.bind_some, beq_self_eq_true, Bool.not_true, Bool.or_self, Bool.false_eq_true, if_false, flotillakit_Num.f, num_good x g1, num_good y g2, bne_self_eq_false]
    simp only [flotillalaw03_AmountBack.j0, Bool.false_eq_true, if_false, Option.isNone_some, Right_a, Fits_a, Option.bind_some]
    by_cases hf : rA a0 a1 = true ∧ rA b0 b1 = true ∧ b0 ≤ a0 ∧ b1 ≤ a1
    · obtain ⟨hA, hB, hF⟩ := hf
      have kA := (rA_iff _ _).1 hA
      have kB := (rA_iff _ _).1 hB
      have e4 := sub_ok a0 a1 b0 b1 hA hB hF
      have e5 := add_ok (a0 - b0) (a1 - b1) b0 b1 ((rA_iff _ _).2 (by omega)) hB (by rw [show a0 - b0 + b0 = a0 by omega, show a1 - b1 + b1 = a1 by omega]; exact hA)
      rw [show a0 - b0 + b0 = a0 by omega, show a1 - b1 + b1 = a1 by omega] at e5
      rw [e4, decide_eq_true hF, hA, hB]
      simp only [Option.bind_some, if_true, flotillalaw03_AmountBack.j2, Option.isNone_none, bne_self_eq_false, Bool.false_eq_true, if_false, e5, beq_self_eq_true, Bool.and_self]
    · obtain ⟨z, e4, hg⟩ := sub_bad a0 a1 b0 b1 i1 i2 i3 i4 hf
      rw [e4]
      have key : ∀ b : Bool, b = false → flotillalaw03_AmountBack.j2 3 (some z) b a0 a1 b0 b1 0 0 = some true := fun b hb => by
        subst hb
        simp only [flotillalaw03_AmountBack.j2, Option.isNone_some, Bool.false_eq_true, if_false, bne_self_eq_false, beq_self_eq_true, Bool.and_self, if_true, flotillakit_Num.f, Option.getD_some, num_good z hg, Option.bind_some]
      have key' : ∀ b : Bool, b = false → flotillalaw03_AmountBack.j2 2 (some z) b a0 a1 b0 b1 0 0 = some true := fun b hb => by
        subst hb
        simp only [flotillalaw03_AmountBack.j2, Option.isNone_some, Bool.false_eq_true, if_false, bne_self_eq_false, beq_self_eq_true, Bool.and_self, if_true, flotillakit_Num.f, Option.getD_some, num_good z hg, Option.bind_some]
      simp only [Option.bind_some]
      cases hA : rA a0 a1
      · simp only [Bool.false_eq_true, if_false]
        exact key' _ rfl
      · cases hB : rA b0 b1
        · simp only [Bool.false_eq_true, if_false, if_true]
          exact key' _ rfl
        · simp only [if_true]
          exact key' _ (decide_eq_false fun h => hf ⟨hA, hB, h⟩)
end Go.Proofs.YtflfpghidkgmoaaDoor.PureBack
