/- AmountCounts: the law's Lean function answers true at all Go ints. -/
import Derived.Test.YtflfpghidkgmoaaDoorQAmountCountsx
namespace Go.Proofs.YtflfpghidkgmoaaDoor.PureCounts
set_option linter.unusedVariables false
set_option linter.unusedSimpArgs false
open Go.RowKit Go.Proofs.YtflfpghidkgmoaaDoor Go.Proofs.YtflfpghidkgmoaaDoor.QAmountCounts

theorem right_eq (n : Int) : flotillaref03_right.f n = some (rN n) := by
  unfold flotillaref03_right.f rN
  split <;> simp_all <;> omega
theorem Right_r (c m : Int) : flotillaref03_Right.f c m = some (rA c m) := by
  unfold flotillaref03_Right.f rA
  rw [right_eq, right_eq]
  cases rN c <;> simp
theorem Right_a (c m : Int) : amount_Right.f c m = some (rA c m) := by
  unfold amount_Right.f rA rN
  repeat' split
  all_goals (simp_all <;> omega)
theorem Fits_eq (c m d n : Int) : amount_Fits.f c m d n = flotillaref03_Fits.f c m d n := rfl
theorem fits_some (c m d n : Int) : ∃ b, flotillaref03_Fits.f c m d n = some b := by
  unfold flotillaref03_Fits.f
  split <;> exact ⟨_, rfl⟩
def okR (b : Bool) (x y : Int) : Int × Int × Int := if b = true then (x, y, 0) else (0, 0, 13)
theorem made_r (x y : Int) (b : Bool) : flotillaref03_made.f x y b = some (okR (b && rA x y) x y) := by
  unfold flotillaref03_made.f okR
  rw [Right_r]
  cases b <;> cases rA x y <;> simp
theorem Add_r (c m d n : Int) : flotillaref03_Add.f c m d n = some (okR (rA c m && rA d n && rA (wrap64 (c + d)) (wrap64 (m + n))) (wrap64 (c + d)) (wrap64 (m + n))) := by
  unfold flotillaref03_Add.f
  simp only [Right_r, made_r, Option.bind_some]
  cases rA c m <;> cases rA d n <;> simp
theorem Sub_r (c m d n : Int) : flotillaref03_Sub.f c m d n = some (okR (rA c m && rA d n && rA (wrap64 (c - d)) (wrap64 (m - n))) (wrap64 (c - d)) (wrap64 (m - n))) := by
  unfold flotillaref03_Sub.f
  simp only [Right_r, made_r, Option.bind_some]
  cases rA c m <;> cases rA d n <;> simp
theorem isI_wrap (x : Int) : isI (wrap64 x) = true := by
  rw [isI_iff]
  unfold wrap64
  omega
theorem code_big (c m : Int) (hc : isI c = true) (hm : isI m = true) : goodC (wcode c m) = true ∧ codeNo (wcode c m) = 13 := by
  have hb := wcode_big c m hc hm
  rw [isI_iff] at hc hm
  constructor
  · have h1 : 1 ≤ wcode c m := by unfold wcode bigI bigJ; omega
    simp only [goodC, Bool.and_eq_true, Bool.or_eq_true, decide_eq_true_eq]
    exact ⟨h1, .inr (Int.not_lt.1 hb)⟩
  · unfold codeNo
    rw [if_neg hb]
theorem made_eq (a b c d e f : Int) (i1 : isI a = true) (i2 : isI b = true) (i3 : isI c = true) (i4 : isI d = true) (i5 : isI e = true) (i6 : isI f = true) :
    ∃ r : Option Int, madeF a b c d e f = some ((okR (rA a b && rA c d && rA e f) e f).1, (okR (rA a b && rA c d && rA e f) e f).2.1, r) ∧ ∀ n, plainF r n = some ((okR (rA a b && rA c d && rA e f) e f).2.2 == n) := by
  unfold madeF
  by_cases h : (rA a b && rA c d && rA e f) = true
  · rw [if_pos h]
    exact ⟨none, by simp [okR, h], fun n => by simp [okR, h, plainF]⟩
  · rw [if_neg h, if_pos (by simp [i1, i2, i3, i4, i5, i6])]
    have hk : goodC (badC a b c d e f) = true ∧ codeNo (badC a b c d e f) = 13 := by
      unfold badC
      split
      · split
        · exact code_big _ _ i5 i6
        · exact code_big _ _ i3 i4
      · exact code_big _ _ i1 i2
    refine ⟨some (badC a b c d e f), by simp only [okR, if_neg h], fun n => ?_⟩
    simp only [okR, if_neg h, plainF, if_pos hk.1, hk.2]
theorem pure (a0 a1 b0 b1 : Int) (i1 : isI a0 = true) (i2 : isI a1 = true) (i3 : isI b0 = true) (i4 : isI b1 = true) : flotillalaw03_AmountCounts.f 1 a0 a1 b0 b1 = some true := by
  unfold flotillalaw03_AmountCounts.f
  obtain ⟨b, hb⟩ := fits_some a0 a1 b0 b1
  simp only [Right_a, Right_r, Fits_eq, hb, Option.bind_some, bne_self_eq_false, Bool.false_eq_true, if_false]
  unfold flotillalaw03_AmountCounts.j0
  obtain ⟨r, hr, hp⟩ := made_eq a0 a1 b0 b1 (wrap64 (a0 + b0)) (wrap64 (a1 + b1)) i1 i2 i3 i4 (isI_wrap _) (isI_wrap _)
  obtain ⟨s, hs, hq⟩ := made_eq a0 a1 b0 b1 (wrap64 (a0 - b0)) (wrap64 (a1 - b1)) i1 i2 i3 i4 (isI_wrap _) (isI_wrap _)
  simp only [Bool.false_eq_true, if_false, Add_r, Sub_r, amount_Add.f, amount_Sub.f, amount_made.f, hr, hs, Option.bind_some, flotillakit_Plain.f, hp, hq, beq_self_eq_true, if_true, Bool.and_self]
end Go.Proofs.YtflfpghidkgmoaaDoor.PureCounts
