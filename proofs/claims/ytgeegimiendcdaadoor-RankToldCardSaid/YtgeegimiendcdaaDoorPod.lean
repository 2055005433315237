/- The order in which pods end, plainly: lessF is 'below' of one order of all pods; the document's answer is the same. -/
import Derived.Test.YtgeegimiendcdaaDoorRefLess
namespace Go.Proofs.YtgeegimiendcdaaDoor
set_option linter.unusedVariables false
set_option linter.unusedSimpArgs false
open Go.RowKit Go.Proofs.YtgeegimiendcdaaDoorW.PrintWords
/-- What an object has that Less looks at. -/
structure PK where
  name : ByteArray
  born : Int
  node : ByteArray
  phase : Int
  ready : Bool
def PK.key (x : PK) : List Int := [one !x.node.toList.isEmpty, one (x.phase == 1), one x.ready, wrap64 (-1 - x.born)]
def podC (x y : PK) : Int := if Wc.lexL Wc.lessI x.key y.key = 0 then Wc.cmpW y.name x.name else Wc.lexL Wc.lessI x.key y.key
theorem podC_cmp : Wc.IsCmp podC := by
  have h1 : Wc.IsCmp (fun x y : PK => Wc.lexL Wc.lessI x.key y.key) := (Wc.lexL_cmp Wc.lessI_cmp).on PK.key
  have h2 : Wc.IsCmp (fun x y : PK => Wc.cmpW y.name x.name) := ⟨fun x y => Wc.cmpW_cmp.anti _ _, fun x y z a b => Wc.cmpW_cmp.trans _ _ _ b a⟩
  exact h1.then_ h2
def PK.less (x y : PK) : Bool := lessF x.name y.name x.born y.born x.node y.node x.phase y.phase x.ready y.ready
theorem lessI0 (a b : Int) : Wc.lessI a b = 0 ↔ a = b := by
  unfold Wc.lessI
  split
  · omega
  · split <;> omega
theorem lex0 (l m : List Int) : Wc.lexL Wc.lessI l m = 0 ↔ l = m := by
  induction l generalizing m with
  | nil => cases m <;> simp [Wc.lexL]
  | cons a l ih =>
    cases m with
    | nil => simp [Wc.lexL]
    | cons b m =>
      simp only [Wc.lexL]
      by_cases h : Wc.lessI a b = 0
      · rw [if_pos h, ih]
        simp [(lessI0 a b).1 h]
      · rw [if_neg h]
        have : ¬ a = b := fun e => h ((lessI0 a b).2 e)
        simp [h, this]
theorem less_podC (x y : PK) : x.less y = decide (podC x y < 0) := by
  have ha := Wc.cmpW_cmp.anti x.name y.name
  unfold PK.less lessF podC
  have hE : ((one !x.node.toList.isEmpty) == (one !y.node.toList.isEmpty) && (one (x.phase == 1) == one (y.phase == 1) && (one x.ready == one y.ready && (wrap64 (-1 - x.born) == wrap64 (-1 - y.born) && true)))) = decide (Wc.lexL Wc.lessI x.key y.key = 0) := by
    rw [Bool.eq_iff_iff]
    simp only [decide_eq_true_eq, lex0, PK.key, Bool.and_eq_true, beq_iff_eq, List.cons.injEq, and_true]
  rw [hE]
  have ho : ord4 (one !x.node.toList.isEmpty) (one (x.phase == 1)) (one x.ready) (wrap64 (-1 - x.born)) (one !y.node.toList.isEmpty) (one (y.phase == 1)) (one y.ready) (wrap64 (-1 - y.born)) = Wc.lexL Wc.lessI x.key y.key := rfl
  rw [ho]
  by_cases h : Wc.lexL Wc.lessI x.key y.key = 0
  · simp only [h, decide_true, if_true]
    rw [decide_eq_decide]
    omega
  · simp only [h, decide_false, Bool.false_eq_true, if_false]
theorem less_irrefl (x : PK) : x.less x = false := by
  rw [less_podC, podC_cmp.refl]
  decide
/-- The document's answer is the same. -/
theorem ref_less (n1 n2 : ByteArray) (b1 b2 : Int) (o1 o2 : ByteArray) (p1 p2 : Int) (r1 r2 : Bool) (h1 : -9223372036854775808 ≤ b1 ∧ b1 ≤ 9223372036854775807) (h2 : -9223372036854775808 ≤ b2 ∧ b2 ≤ 9223372036854775807) : refF n1 n2 b1 b2 o1 o2 p1 p2 r1 r2 = lessF n1 n2 b1 b2 o1 o2 p1 p2 r1 r2 := by
  unfold refF lessF ord4
  have w1 : wrap64 (-1 - b1) = -1 - b1 := by unfold wrap64; omega
  have w2 : wrap64 (-1 - b2) = -1 - b2 := by unfold wrap64; omega
  rw [w1, w2]
  have l01 : Wc.lessI 0 1 = -1 := by decide
  have l10 : Wc.lessI 1 0 = 1 := by decide
  have l00 : Wc.lessI 0 0 = 0 := by decide
  have l11 : Wc.lessI 1 1 = 0 := by decide
  simp only [Wc.lexL]
  cases o1.toList.isEmpty <;> cases o2.toList.isEmpty <;> cases (p1 == 1) <;> cases (p2 == 1) <;> cases r1 <;> cases r2 <;> simp [one, l01, l10, l00, l11]
  all_goals
    by_cases c : b1 = b2
    · subst c
      simp
    · have c' : ¬ (-1 - b1 = -1 - b2) := by omega
      have c2 : ¬ Wc.lessI (-1 - b1) (-1 - b2) = 0 := fun e => c' ((lessI0 _ _).1 e)
      simp only [c, c', c2, if_false]
      unfold Wc.lessI
      by_cases d : b2 < b1
      · simp [d, show -1 - b1 < -1 - b2 by omega]
      · simp [d, show ¬ (-1 - b1 < -1 - b2) by omega, show -1 - b1 > -1 - b2 by omega]
end Go.Proofs.YtgeegimiendcdaaDoor
