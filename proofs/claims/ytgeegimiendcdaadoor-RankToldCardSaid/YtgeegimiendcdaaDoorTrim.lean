/- strings.TrimLeft with a cutset of one ASCII byte, or nothing to trim. -/
import Derived.Test.YtgeegimiendcdaaDoorQTlbx1
import Derived.Lib.Strings
import Derived.Laws.Cover1
namespace Go.Proofs.YtgeegimiendcdaaDoor
set_option linter.unusedVariables false
set_option linter.unusedSimpArgs false
open Go.RowKit Go.Proofs.YtgeegimiendcdaaDoorW.PrintWords Go.Proofs.YtgeegimiendcdaaDoorW.PrintLast

/-- For the printed walks' 's != ""'. -/
@[simp] theorem bne_nil (l : List UInt8) : (l != []) = !l.isEmpty := by cases l <;> rfl
/-- What TrimLeft answers with a cutset of one byte below 128. -/
def trimF (s t : ByteArray) : Option ByteArray := if s.toList = ([] : List UInt8) then some s else if t.size = 1 ∧ bt t 0 < 128 then QTlb.strings_trimLeftByte.f (s.size + 1) s (bt t 0) else none
theorem trim_calls (a0 a1 : ByteArray) (r : ByteArray) (w : World) (h : trimF a0 a1 = some r) :
    Calls Tryd.prog 106 #[.string a0, .string a1] w fun e w' => e = .returned (.string r) ∧ Below w.heap.size w w' := by
  unfold trimF at h
  by_cases h0 : a0.toList = ([] : List UInt8)
  · rw [if_pos h0] at h
    obtain rfl := Option.some.inj h
    have e0 : (a0.toList == ([] : List UInt8)) = true := beq_iff_eq.mpr h0
    have H' := Aside0.mk h0
    clear h0 h
    go_enter Tryd.func106, Tryd.ntmps106
    go_wp2
    go_ret
    exact ⟨rfl, Below.refl _ _⟩
  · rw [if_neg h0] at h
    by_cases h1 : a1.size = 1 ∧ bt a1 0 < 128
    · rw [if_pos h1] at h
      have h1' := h1
      obtain ⟨h1a, h2a⟩ := h1'
      have e0 : (a0.toList == ([] : List UInt8)) = false := beq_eq_false_iff_ne.mpr h0
      have e1 : (a1.toList == ([] : List UInt8)) = false := beq_eq_false_iff_ne.mpr (fun hn => by
        have := congrArg List.length hn
        rw [Go.Lib.toList_data, ← Go.Lib.size_eq, List.length_nil] at this
        omega)
      have e2 : ((a1.size : Int) == 1) = true := beq_iff_eq.mpr (by omega)
      have e3 : decide (bt a1 0 < 128) = true := decide_eq_true h2a
      have hc := fun w => QTlb.strings_trimLeftByte.calls _ a0 (bt a1 0) r w h
      have q3 : 0 < a1.size := by omega
      have hx3 : ∀ h : 0 < a1.size, ((a1[0]'h).toNat : Int) = bt a1 0 := bt_at a1 0
      have qi3 : (0 < (a1.size : Int)) = True := eq_true (by omega)
      replace q3 := eq_true q3
      have hh := Aside0.mk (And.intro h0 (And.intro h h1))
      clear h0 h h1 h1a h2a
      go_enter Tryd.func106, Tryd.ntmps106
      go_wp2_with (first | (go_at_call 116; (with_reducible refine (hc _).mono ?_); rintro e w' ⟨rfl, ⟨nd, rfl⟩⟩))
      go_ret
      exact ⟨rfl, pw_below_drewN (Below.refl _ _) _⟩
    · rw [if_neg h1] at h
      cases h
/-! ### cmp.Compare of texts (the printer's own contract spells 'a > b' as 'b < a'; the model: neither below nor the same) -/
def cmpL : List UInt8 → List UInt8 → Int
  | [], [] => 0
  | [], _ :: _ => -1
  | _ :: _, [] => 1
  | a :: x, b :: y => if a < b then -1 else if b < a then 1 else cmpL x y
theorem bytesLess_cmp (x y : List UInt8) : Op.bytesLess x y = decide (cmpL x y = -1) ∧ Op.bytesLess y x = decide (cmpL x y = 1) := by
  induction x generalizing y with
  | nil => cases y <;> simp [Op.bytesLess, cmpL]
  | cons a x ih =>
    cases y with
    | nil => simp [Op.bytesLess, cmpL]
    | cons b y =>
      obtain ⟨h1, h2⟩ := ih y
      simp only [Op.bytesLess, cmpL, h1, h2]
      by_cases c1 : a < b
      · have c2 : ¬ b < a := fun h => absurd (UInt8.lt_trans c1 h) (UInt8.lt_irrefl a)
        have c3 : a ≠ b := fun h => by subst h; exact absurd c1 (UInt8.lt_irrefl a)
        simp [c1, c2, c3, Ne.symm c3]
      · by_cases c2 : b < a
        · have c3 : a ≠ b := fun h => by subst h; exact absurd c2 (UInt8.lt_irrefl a)
          simp [c1, c2, c3, Ne.symm c3]
        · have c3 : a = b := UInt8.le_antisymm (UInt8.not_lt.1 c2) (UInt8.not_lt.1 c1)
          subst c3
          simp [c1]
theorem cmpL_three (x y : List UInt8) : cmpL x y = -1 ∨ cmpL x y = 0 ∨ cmpL x y = 1 := by
  induction x generalizing y with
  | nil => cases y <;> simp [cmpL]
  | cons a x ih =>
    cases y with
    | nil => simp [cmpL]
    | cons b y =>
      simp only [cmpL]
      split
      · simp
      · split
        · simp
        · exact ih y
theorem cmpL_eq (x y : List UInt8) : (x == y) = decide (cmpL x y = 0) := by
  induction x generalizing y with
  | nil => cases y <;> simp [cmpL]
  | cons a x ih =>
    cases y with
    | nil => simp [cmpL]
    | cons b y =>
      simp only [cmpL]
      by_cases c1 : a < b
      · have c3 : a ≠ b := fun h => by subst h; exact absurd c1 (UInt8.lt_irrefl a)
        simp [c1, c3]
      · by_cases c2 : b < a
        · have c3 : a ≠ b := fun h => by subst h; exact absurd c2 (UInt8.lt_irrefl a)
          simp [c1, c2, c3]
        · have c3 : a = b := UInt8.le_antisymm (UInt8.not_lt.1 c2) (UInt8.not_lt.1 c1)
          subst c3
          have := ih y
          rw [Bool.eq_iff_iff] at this ⊢
          simp [c1] at this ⊢
          exact this
def cmpS (a b : ByteArray) : Int := cmpL a.data.toList b.data.toList
set_option maxHeartbeats 8000000 in
set_option maxRecDepth 100000 in
theorem cmpS_calls (a0 a1 : ByteArray) (w : World) :
    Calls Tryd.prog 105 #[.string a0, .string a1] w fun e w' => e = .returned (.int .i64 (cmpS a0 a1)) ∧ Below w.heap.size w w' := by
  have n0 : ∀ (a : ByteArray) (w : World), Calls Tryd.prog 115 #[.string a] w fun e w' => e = .returned (.bool false) ∧ Drawn0 w w' := fun a w => QTlb.cmp_isNaN_string.calls a false w (by simp [QTlb.cmp_isNaN_string.f])
  have h1 : Op.bytesLess a0.toList a1.toList = decide (cmpS a0 a1 = -1) := by rw [Go.Lib.toList_data, Go.Lib.toList_data]; exact (bytesLess_cmp _ _).1
  have h2 : (a0.toList == a1.toList) = decide (cmpS a0 a1 = 0) := by rw [Go.Lib.toList_data, Go.Lib.toList_data]; exact cmpL_eq _ _
  rcases cmpL_three a0.data.toList a1.data.toList with h | h | h <;> replace h : cmpS a0 a1 = _ := h <;> rw [h] at h1 h2 ⊢ <;> (try replace h1 := h1.trans (show _ = true from rfl)) <;> (try replace h1 := h1.trans (show _ = false from rfl)) <;> (try replace h2 := h2.trans (show _ = true from rfl)) <;> (try replace h2 := h2.trans (show _ = false from rfl)) <;> clear h
  all_goals
    go_enter Tryd.func105, Tryd.ntmps105
    go_wp2_with (first | ((with_reducible refine gate_callee (f := 115) rfl ?_); refine goesL_ (some 8) rfl rfl Tryd.func115 (by kernel_rfl) rfl #[.string a0] rfl (by (try simp only [List.map_toArray, List.map_cons, List.map_nil]); first | done | rfl | (simp only [List.length_drop, List.length_take]; rfl)) ?_; (with_reducible refine (n0 a0 _).mono ?_); rintro e w' ⟨rfl, ⟨nd, rfl⟩⟩; refine ⟨_, rfl, ?_⟩) | ((with_reducible refine gate_callee (f := 115) rfl ?_); refine goesL_ (some 10) rfl rfl Tryd.func115 (by kernel_rfl) rfl #[.string a1] rfl (by (try simp only [List.map_toArray, List.map_cons, List.map_nil]); first | done | rfl | (simp only [List.length_drop, List.length_take]; rfl)) ?_; (with_reducible refine (n0 a1 _).mono ?_); rintro e w' ⟨rfl, ⟨nd, rfl⟩⟩; refine ⟨_, rfl, ?_⟩))
    go_ret
    exact ⟨by first | rfl | (simp; done), by repeat (first | (with_reducible first | exact Below.refl _ _ | apply below_alloc | apply pw_below_drewN | apply below_drew1) | exact Below.refl _ _)⟩
end Go.Proofs.YtgeegimiendcdaaDoor
