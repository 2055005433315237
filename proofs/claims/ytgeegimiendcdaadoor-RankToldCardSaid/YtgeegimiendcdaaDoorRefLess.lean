/- flotillaref24.Less over objects that are read by the parts that it looks at. -/
import Derived.Test.YtgeegimiendcdaaDoorLess
namespace Go.Proofs.YtgeegimiendcdaaDoor
set_option linter.unusedVariables false
set_option linter.unusedSimpArgs false
open Go.RowKit Go.Proofs.YtgeegimiendcdaaDoorW.PrintWords Go.Proofs.YtgeegimiendcdaaDoorW.PrintLast
def refF (n1 n2 : ByteArray) (b1 b2 : Int) (o1 o2 : ByteArray) (p1 p2 : Int) (r1 r2 : Bool) : Bool :=
  if (o1.toList.isEmpty != o2.toList.isEmpty) = true then o1.toList.isEmpty else
  if ((p1 == 1) != (p2 == 1)) = true then p2 == 1 else
  if (r1 != r2) = true then r2 else
  if b1 = b2 then decide (0 < Wc.cmpW n1 n2) else decide (b2 < b1)
set_option maxHeartbeats 16000000 in
set_option maxRecDepth 100000 in
theorem refLess_calls (cs ds : Array Value) (n1 n2 : ByteArray) (b1 b2 : Int) (o1 o2 : ByteArray) (p1 p2 : Int) (r1 r2 : Bool) (h : Pod cs n1 b1 o1 p1 r1) (g : Pod ds n2 b2 o2 p2 r2) (m1 : n1.size ≤ 140737488351232) (m2 : n2.size ≤ 140737488351232) (w : World) :
    Calls Tryd.prog 13 #[.agg cs, .agg ds] w fun e w' => e = .returned (.bool (refF n1 n2 b1 b2 o1 o2 p1 p2 r1 r2)) ∧ Below w.heap.size w w' := by
  obtain ⟨v0, v2, v4, v5, v6, v7, v8, v9, v10, v11, v12, v16, v17, v18, v19, v20, v21, v22, v23, v24, v25, v26, v27, v28, v29, v30, v31, rfl⟩ := h.lit
  obtain ⟨u0, u2, u4, u5, u6, u7, u8, u9, u10, u11, u12, u16, u17, u18, u19, u20, u21, u22, u23, u24, u25, u26, u27, u28, u29, u30, u31, rfl⟩ := g.lit
  clear h g
  unfold refF
  obtain ⟨cw, hcw⟩ : ∃ c, c = Wc.cmpW n1 n2 := ⟨_, rfl⟩
  have QW := Lib.hid (fun W => Wc.ref_calls n1 n2 cw W (by unfold Wc.cmpO; rw [if_pos ⟨m1, m2⟩, hcw]))
  rw [← hcw]
  clear hcw m1 m2
  cases h1 : o1.toList.isEmpty
  · cases h2 : o2.toList.isEmpty
    · skip
      cases h3 : (p1 == 1)
      · cases h4 : (p2 == 1)
        · skip
          cases h5 : r1
          · cases h6 : r2
            · skip
              by_cases c4 : b1 = b2
              · subst c4
                simp only [bne_self_eq_false, Bool.false_eq_true, if_false, if_true]
                go_enter Tryd.func13, Tryd.ntmps13
                go_wp2_with (go_at_call 44; (with_reducible refine (QW.out _).mono ?_); rintro e w7 ⟨rfl, hb7⟩)
                go_ret
                exact ⟨rfl, belT (by repeat (first | (with_reducible first | exact Below.refl _ _ | apply below_alloc | apply pw_below_drewN | apply below_drew1) | exact Below.refl _ _)) hb7⟩
              · simp only [bne_self_eq_false, Bool.false_eq_true, if_false, if_neg c4]
                have c4b : (b1 == b2) = false := beq_eq_false_iff_ne.mpr c4
                go_enter Tryd.func13, Tryd.ntmps13
                go_wp2
                go_ret
                exact ⟨rfl, by repeat (first | (with_reducible first | exact Below.refl _ _ | apply below_alloc | apply pw_below_drewN | apply below_drew1) | exact Below.refl _ _)⟩
            · simp only [show (true != false) = true from rfl, show (false != true) = true from rfl, bne_self_eq_false, Bool.false_eq_true, if_false, if_true]
              go_enter Tryd.func13, Tryd.ntmps13
              go_wp2
              go_ret
              exact ⟨rfl, by repeat (first | (with_reducible first | exact Below.refl _ _ | apply below_alloc | apply pw_below_drewN | apply below_drew1) | exact Below.refl _ _)⟩
          · cases h6 : r2
            · simp only [show (true != false) = true from rfl, show (false != true) = true from rfl, bne_self_eq_false, Bool.false_eq_true, if_false, if_true]
              go_enter Tryd.func13, Tryd.ntmps13
              go_wp2
              go_ret
              exact ⟨rfl, by repeat (first | (with_reducible first | exact Below.refl _ _ | apply below_alloc | apply pw_below_drewN | apply below_drew1) | exact Below.refl _ _)⟩
            · skip
              by_cases c4 : b1 = b2
              · subst c4
                simp only [bne_self_eq_false, Bool.false_eq_true, if_false, if_true]
                go_enter Tryd.func13, Tryd.ntmps13
                go_wp2_with (go_at_call 44; (with_reducible refine (QW.out _).mono ?_); rintro e w7 ⟨rfl, hb7⟩)
                go_ret
                exact ⟨rfl, belT (by repeat (first | (with_reducible first | exact Below.refl _ _ | apply below_alloc | apply pw_below_drewN | apply below_drew1) | exact Below.refl _ _)) hb7⟩
              · simp only [bne_self_eq_false, Bool.false_eq_true, if_false, if_neg c4]
                have c4b : (b1 == b2) = false := beq_eq_false_iff_ne.mpr c4
                go_enter Tryd.func13, Tryd.ntmps13
                go_wp2
                go_ret
                exact ⟨rfl, by repeat (first | (with_reducible first | exact Below.refl _ _ | apply below_alloc | apply pw_below_drewN | apply below_drew1) | exact Below.refl _ _)⟩
        · simp only [show (true != false) = true from rfl, show (false != true) = true from rfl, bne_self_eq_false, Bool.false_eq_true, if_false, if_true]
          go_enter Tryd.func13, Tryd.ntmps13
          go_wp2
          go_ret
          exact ⟨rfl, by repeat (first | (with_reducible first | exact Below.refl _ _ | apply below_alloc | apply pw_below_drewN | apply below_drew1) | exact Below.refl _ _)⟩
      · cases h4 : (p2 == 1)
        · simp only [show (true != false) = true from rfl, show (false != true) = true from rfl, bne_self_eq_false, Bool.false_eq_true, if_false, if_true]
          go_enter Tryd.func13, Tryd.ntmps13
          go_wp2
          go_ret
          exact ⟨rfl, by repeat (first | (with_reducible first | exact Below.refl _ _ | apply below_alloc | apply pw_below_drewN | apply below_drew1) | exact Below.refl _ _)⟩
        · skip
          cases h5 : r1
          · cases h6 : r2
            · skip
              by_cases c4 : b1 = b2
              · subst c4
                simp only [bne_self_eq_false, Bool.false_eq_true, if_false, if_true]
                go_enter Tryd.func13, Tryd.ntmps13
                go_wp2_with (go_at_call 44; (with_reducible refine (QW.out _).mono ?_); rintro e w7 ⟨rfl, hb7⟩)
                go_ret
                exact ⟨rfl, belT (by repeat (first | (with_reducible first | exact Below.refl _ _ | apply below_alloc | apply pw_below_drewN | apply below_drew1) | exact Below.refl _ _)) hb7⟩
              · simp only [bne_self_eq_false, Bool.false_eq_true, if_false, if_neg c4]
                have c4b : (b1 == b2) = false := beq_eq_false_iff_ne.mpr c4
                go_enter Tryd.func13, Tryd.ntmps13
                go_wp2
                go_ret
                exact ⟨rfl, by repeat (first | (with_reducible first | exact Below.refl _ _ | apply below_alloc | apply pw_below_drewN | apply below_drew1) | exact Below.refl _ _)⟩
            · simp only [show (true != false) = true from rfl, show (false != true) = true from rfl, bne_self_eq_false, Bool.false_eq_true, if_false, if_true]
              go_enter Tryd.func13, Tryd.ntmps13
              go_wp2
              go_ret
              exact ⟨rfl, by repeat (first | (with_reducible first | exact Below.refl _ _ | apply below_alloc | apply pw_below_drewN | apply below_drew1) | exact Below.refl _ _)⟩
          · cases h6 : r2
            · simp only [show (true != false) = true from rfl, show (false != true) = true from rfl, bne_self_eq_false, Bool.false_eq_true, if_false, if_true]
              go_enter Tryd.func13, Tryd.ntmps13
              go_wp2
              go_ret
              exact ⟨rfl, by repeat (first | (with_reducible first | exact Below.refl _ _ | apply below_alloc | apply pw_below_drewN | apply below_drew1) | exact Below.refl _ _)⟩
            · skip
              by_cases c4 : b1 = b2
              · subst c4
                simp only [bne_self_eq_false, Bool.false_eq_true, if_false, if_true]
                go_enter Tryd.func13, Tryd.ntmps13
                go_wp2_with (go_at_call 44; (with_reducible refine (QW.out _).mono ?_); rintro e w7 ⟨rfl, hb7⟩)
                go_ret
                exact ⟨rfl, belT (by repeat (first | (with_reducible first | exact Below.refl _ _ | apply below_alloc | apply pw_below_drewN | apply below_drew1) | exact Below.refl _ _)) hb7⟩
              · simp only [bne_self_eq_false, Bool.false_eq_true, if_false, if_neg c4]
                have c4b : (b1 == b2) = false := beq_eq_false_iff_ne.mpr c4
                go_enter Tryd.func13, Tryd.ntmps13
                go_wp2
                go_ret
                exact ⟨rfl, by repeat (first | (with_reducible first | exact Below.refl _ _ | apply below_alloc | apply pw_below_drewN | apply below_drew1) | exact Below.refl _ _)⟩
    · simp only [show (true != false) = true from rfl, show (false != true) = true from rfl, bne_self_eq_false, Bool.false_eq_true, if_false, if_true]
      go_enter Tryd.func13, Tryd.ntmps13
      go_wp2
      go_ret
      exact ⟨rfl, by repeat (first | (with_reducible first | exact Below.refl _ _ | apply below_alloc | apply pw_below_drewN | apply below_drew1) | exact Below.refl _ _)⟩
  · cases h2 : o2.toList.isEmpty
    · simp only [show (true != false) = true from rfl, show (false != true) = true from rfl, bne_self_eq_false, Bool.false_eq_true, if_false, if_true]
      go_enter Tryd.func13, Tryd.ntmps13
      go_wp2
      go_ret
      exact ⟨rfl, by repeat (first | (with_reducible first | exact Below.refl _ _ | apply below_alloc | apply pw_below_drewN | apply below_drew1) | exact Below.refl _ _)⟩
    · skip
      cases h3 : (p1 == 1)
      · cases h4 : (p2 == 1)
        · skip
          cases h5 : r1
          · cases h6 : r2
            · skip
              by_cases c4 : b1 = b2
              · subst c4
                simp only [bne_self_eq_false, Bool.false_eq_true, if_false, if_true]
                go_enter Tryd.func13, Tryd.ntmps13
                go_wp2_with (go_at_call 44; (with_reducible refine (QW.out _).mono ?_); rintro e w7 ⟨rfl, hb7⟩)
                go_ret
                exact ⟨rfl, belT (by repeat (first | (with_reducible first | exact Below.refl _ _ | apply below_alloc | apply pw_below_drewN | apply below_drew1) | exact Below.refl _ _)) hb7⟩
              · simp only [bne_self_eq_false, Bool.false_eq_true, if_false, if_neg c4]
                have c4b : (b1 == b2) = false := beq_eq_false_iff_ne.mpr c4
                go_enter Tryd.func13, Tryd.ntmps13
                go_wp2
                go_ret
                exact ⟨rfl, by repeat (first | (with_reducible first | exact Below.refl _ _ | apply below_alloc | apply pw_below_drewN | apply below_drew1) | exact Below.refl _ _)⟩
            · simp only [show (true != false) = true from rfl, show (false != true) = true from rfl, bne_self_eq_false, Bool.false_eq_true, if_false, if_true]
              go_enter Tryd.func13, Tryd.ntmps13
              go_wp2
              go_ret
              exact ⟨rfl, by repeat (first | (with_reducible first | exact Below.refl _ _ | apply below_alloc | apply pw_below_drewN | apply below_drew1) | exact Below.refl _ _)⟩
          · cases h6 : r2
            · simp only [show (true != false) = true from rfl, show (false != true) = true from rfl, bne_self_eq_false, Bool.false_eq_true, if_false, if_true]
              go_enter Tryd.func13, Tryd.ntmps13
              go_wp2
              go_ret
              exact ⟨rfl, by repeat (first | (with_reducible first | exact Below.refl _ _ | apply below_alloc | apply pw_below_drewN | apply below_drew1) | exact Below.refl _ _)⟩
            · skip
              by_cases c4 : b1 = b2
              · subst c4
                simp only [bne_self_eq_false, Bool.false_eq_true, if_false, if_true]
                go_enter Tryd.func13, Tryd.ntmps13
                go_wp2_with (go_at_call 44; (with_reducible refine (QW.out _).mono ?_); rintro e w7 ⟨rfl, hb7⟩)
                go_ret
                exact ⟨rfl, belT (by repeat (first | (with_reducible first | exact Below.refl _ _ | apply below_alloc | apply pw_below_drewN | apply below_drew1) | exact Below.refl _ _)) hb7⟩
              · simp only [bne_self_eq_false, Bool.false_eq_true, if_false, if_neg c4]
                have c4b : (b1 == b2) = false := beq_eq_false_iff_ne.mpr c4
                go_enter Tryd.func13, Tryd.ntmps13
                go_wp2
                go_ret
                exact ⟨rfl, by repeat (first | (with_reducible first | exact Below.refl _ _ | apply below_alloc | apply pw_below_drewN | apply below_drew1) | exact Below.refl _ _)⟩
        · simp only [show (true != false) = true from rfl, show (false != true) = true from rfl, bne_self_eq_false, Bool.false_eq_true, if_false, if_true]
          go_enter Tryd.func13, Tryd.ntmps13
          go_wp2
          go_ret
          exact ⟨rfl, by repeat (first | (with_reducible first | exact Below.refl _ _ | apply below_alloc | apply pw_below_drewN | apply below_drew1) | exact Below.refl _ _)⟩
      · cases h4 : (p2 == 1)
        · simp only [show (true != false) = true from rfl, show (false != true) = true from rfl, bne_self_eq_false, Bool.false_eq_true, if_false, if_true]
          go_enter Tryd.func13, Tryd.ntmps13
          go_wp2
          go_ret
          exact ⟨rfl, by repeat (first | (with_reducible first | exact Below.refl _ _ | apply below_alloc | apply pw_below_drewN | apply below_drew1) | exact Below.refl _ _)⟩
        · skip
          cases h5 : r1
          · cases h6 : r2
            · skip
              by_cases c4 : b1 = b2
              · subst c4
                simp only [bne_self_eq_false, Bool.false_eq_true, if_false, if_true]
                go_enter Tryd.func13, Tryd.ntmps13
                go_wp2_with (go_at_call 44; (with_reducible refine (QW.out _).mono ?_); rintro e w7 ⟨rfl, hb7⟩)
                go_ret
                exact ⟨rfl, belT (by repeat (first | (with_reducible first | exact Below.refl _ _ | apply below_alloc | apply pw_below_drewN | apply below_drew1) | exact Below.refl _ _)) hb7⟩
              · simp only [bne_self_eq_false, Bool.false_eq_true, if_false, if_neg c4]
                have c4b : (b1 == b2) = false := beq_eq_false_iff_ne.mpr c4
                go_enter Tryd.func13, Tryd.ntmps13
                go_wp2
                go_ret
                exact ⟨rfl, by repeat (first | (with_reducible first | exact Below.refl _ _ | apply below_alloc | apply pw_below_drewN | apply below_drew1) | exact Below.refl _ _)⟩
            · simp only [show (true != false) = true from rfl, show (false != true) = true from rfl, bne_self_eq_false, Bool.false_eq_true, if_false, if_true]
              go_enter Tryd.func13, Tryd.ntmps13
              go_wp2
              go_ret
              exact ⟨rfl, by repeat (first | (with_reducible first | exact Below.refl _ _ | apply below_alloc | apply pw_below_drewN | apply below_drew1) | exact Below.refl _ _)⟩
          · cases h6 : r2
            · simp only [show (true != false) = true from rfl, show (false != true) = true from rfl, bne_self_eq_false, Bool.false_eq_true, if_false, if_true]
              go_enter Tryd.func13, Tryd.ntmps13
              go_wp2
              go_ret
              exact ⟨rfl, by repeat (first | (with_reducible first | exact Below.refl _ _ | apply below_alloc | apply pw_below_drewN | apply below_drew1) | exact Below.refl _ _)⟩
            · skip
              by_cases c4 : b1 = b2
              · subst c4
                simp only [bne_self_eq_false, Bool.false_eq_true, if_false, if_true]
                go_enter Tryd.func13, Tryd.ntmps13
                go_wp2_with (go_at_call 44; (with_reducible refine (QW.out _).mono ?_); rintro e w7 ⟨rfl, hb7⟩)
                go_ret
                exact ⟨rfl, belT (by repeat (first | (with_reducible first | exact Below.refl _ _ | apply below_alloc | apply pw_below_drewN | apply below_drew1) | exact Below.refl _ _)) hb7⟩
              · simp only [bne_self_eq_false, Bool.false_eq_true, if_false, if_neg c4]
                have c4b : (b1 == b2) = false := beq_eq_false_iff_ne.mpr c4
                go_enter Tryd.func13, Tryd.ntmps13
                go_wp2
                go_ret
                exact ⟨rfl, by repeat (first | (with_reducible first | exact Below.refl _ _ | apply below_alloc | apply pw_below_drewN | apply below_drew1) | exact Below.refl _ _)⟩
end Go.Proofs.YtgeegimiendcdaaDoor
