/- amount.check over a row of amounts wherever it lies. -/
import Derived.Test.YtflfpghidkgmoaaDoorCode
namespace Go.Proofs.YtflfpghidkgmoaaDoor
set_option linter.unusedVariables false
set_option linter.unusedSimpArgs false
open Go.RowKit Go.Extern.Stop Go.Stop Go.Extern Go.Proofs.YtflfpghidkgmoaaDoorW.PrintWords Go.Proofs.YtflfpghidkgmoaaDoorW.PrintLast
theorem check_a (l : List (Int × Int)) (ad : Addr) (cap : Nat) (w : World) (hl : l.length ≤ 9223372036854775807)
    (hc0 : ∀ j p, l[j]? = some p → w.cell? (ad.add (j * 2)) = some (.int .i64 p.1)) (hc1 : ∀ j p, l[j]? = some p → w.cell? ⟨(ad.add (j * 2)).block, (ad.add (j * 2)).off + 1, none⟩ = some (.int .i64 p.2)) :
    Calls Tryd.prog 43 #[.slice (some ad) l.length cap] w fun e w' => e = .returned (firstBad l) ∧ Below w.heap.size w w' := by
  have H0 := Lib.hid hc0
  have H1 := Lib.hid hc1
  clear hc0 hc1
  go_enter Tryd.func43, Tryd.ntmps43
  go_wp2
  go_loopw [7] (fun i wr => ∃ k : Nat, k ≤ l.length ∧ i = .int .i64 k ∧ Hid (∀ j, j < k → ∀ p, l[j]? = some p → rA p.1 p.2 = true) ∧ Below w.heap.size w wr) (fun i _ => l.length - (intOf i).toNat)
  case atStart => exact ⟨0, Nat.zero_le _, rfl, Lib.hid (fun j hj => absurd hj (Nat.not_lt_zero _)), Below.refl _ _⟩
  case round =>
    obtain ⟨k, hk, rfl, hall, hB⟩ := hrel
    by_cases hlt : k < l.length
    · obtain ⟨c, m, hp⟩ : ∃ c m, l[k]? = some (c, m) := ⟨l[k].1, l[k].2, by simp [List.getElem?_eq_getElem hlt]⟩
      have q0 := H0.out k _ hp
      have q1 := H1.out k _ hp
      replace q0 := (hB.cell (World.block_lt_of_cell? w _ q0)).trans q0
      replace q1 := (hB.cell (World.block_lt_of_cell? w _ q1)).trans q1
      simp only at q0 q1
      have HP := Lib.hid hp
      clear hp
      cases hr : rA c m
      · go_wp2_with (go_at_call 9; refine (Right_a _ _ _).mono ?_; rintro e w1 ⟨rfl, hb1⟩; rw [hr]; obtain ⟨hcc, hff⟩ := bcell hb1)
        go_ret
        exact ⟨by rw [firstBad_at l k (c, m) HP.out hr hall.out]; rfl, (hB.alloc hB.size _).trans (hb1.mono (by have := hB.size; simp; omega))⟩
      · go_wp2_with (go_at_call 9; refine (Right_a _ _ _).mono ?_; rintro e w1 ⟨rfl, hb1⟩; rw [hr])
        go_roundw
        case rel => exact ⟨k + 1, by omega, by go_num, Lib.hid (fun j hj p hpj => by
            by_cases e : j < k
            · exact hall.out j e p hpj
            · obtain rfl : j = k := by omega
              rw [HP.out] at hpj
              cases hpj
              exact hr), (hB.alloc hB.size _).trans (hb1.mono (by have := hB.size; simp; omega))⟩
        case measure => simp [intOf]; omega
    · go_wp2
      go_ret
      exact ⟨by rw [firstBad_skip l k hall.out, List.drop_eq_nil_of_le (by omega)]; rfl, hB⟩

/-- What check answers, as a code. -/
def checkO : List (Int × Int) → Option (Option Int)
  | [] => some none
  | p :: r => if isI p.1 = true ∧ isI p.2 = true then (if rA p.1 p.2 = true then checkO r else some (some (wcode p.1 p.2))) else none
theorem checkO_first (l : List (Int × Int)) (r : Option Int) (h : checkO l = some r) : firstBad l = errO r := by
  induction l with
  | nil =>
    obtain rfl := Option.some.inj h
    rfl
  | cons p t ih =>
    unfold checkO at h
    split at h
    next hi =>
      split at h
      next hr =>
        rw [firstBad, if_pos hr]
        exact ih h
      next hr =>
        obtain rfl := Option.some.inj h
        rw [firstBad, if_neg hr]
        exact (wr_code _ _ hi.1 hi.2).symm
    next hi => cases h
theorem check_nil (c : Nat) (A : Option Addr) (w : World) :
    Calls Tryd.prog 43 #[.slice A 0 c] w fun e w' => e = .returned .nilIface ∧ Below w.heap.size w w' := by
  go_enter Tryd.func43, Tryd.ntmps43
  go_wp2
  go_loopw [7] (fun i wr => i = .int .i64 0 ∧ Below w.heap.size w wr) (fun i _ => 0)
  case atStart => exact ⟨rfl, Below.refl _ _⟩
  case round =>
    obtain ⟨rfl, hB⟩ := hrel
    go_wp2
    go_ret
    exact ⟨rfl, hB⟩
end Go.Proofs.YtflfpghidkgmoaaDoor
