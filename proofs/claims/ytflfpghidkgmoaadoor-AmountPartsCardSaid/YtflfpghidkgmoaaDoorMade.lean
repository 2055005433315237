/- amount.check and amount.made, walked; errors as codes. No conditions but that the numbers are Go's ints. -/
import Derived.Test.YtflfpghidkgmoaaDoorWrong
import Derived.Test.YtflfpghidkgmoaaDoorWTab
namespace Go.Proofs.YtflfpghidkgmoaaDoor
set_option linter.unusedVariables false
set_option linter.unusedSimpArgs false
open Go.RowKit Go.Extern.Stop Go.Stop Go.Extern Go.Proofs.YtflfpghidkgmoaaDoorW.PrintWords Go.Proofs.YtflfpghidkgmoaaDoorW.PrintLast

/-- May a number be one of an amount? -/
def rN (n : Int) : Bool := decide (0 ≤ n) && decide (n ≤ 1099511627776)
def rA (c m : Int) : Bool := rN c && rN m
theorem Right_a (c m : Int) (w : World) : Calls Tryd.prog 9 #[.agg #[.int .i64 c, .int .i64 m]] w fun e w' => e = .returned (.bool (rA c m)) ∧ Below w.heap.size w w' := by
  by_cases h1 : 0 ≤ c
  · by_cases h2 : c ≤ 1099511627776
    · by_cases h3 : 0 ≤ m
      · by_cases h4 : m ≤ 1099511627776
        all_goals
          go_enter Tryd.func9, Tryd.ntmps9
          go_wp2
          go_ret
          exact ⟨ret_bool (by simp [rA, rN]; omega), (Below.refl _ _).alloc (Nat.le_refl _) _⟩
      · go_enter Tryd.func9, Tryd.ntmps9
        go_wp2
        go_ret
        exact ⟨ret_bool (by simp [rA, rN]; omega), (Below.refl _ _).alloc (Nat.le_refl _) _⟩
    · go_enter Tryd.func9, Tryd.ntmps9
      go_wp2
      go_ret
      exact ⟨ret_bool (by simp [rA, rN]; omega), (Below.refl _ _).alloc (Nat.le_refl _) _⟩
  · go_enter Tryd.func9, Tryd.ntmps9
    go_wp2
    go_ret
    exact ⟨ret_bool (by simp [rA, rN]; omega), (Below.refl _ _).alloc (Nat.le_refl _) _⟩

/-- The value of the error that check answers. -/
def wrV (c m : Int) : Value := .iface 91 (.agg #[.int .i64 c, .int .i64 m])
def firstBad : List (Int × Int) → Value
  | [] => .nilIface
  | p :: r => if rA p.1 p.2 = true then firstBad r else wrV p.1 p.2
theorem firstBad_skip (l : List (Int × Int)) (k : Nat) (h : ∀ j, j < k → ∀ p, l[j]? = some p → rA p.1 p.2 = true) : firstBad l = firstBad (l.drop k) := by
  induction k generalizing l with
  | zero => rfl
  | succ k ih =>
    cases l with
    | nil => simp
    | cons p r =>
      have h0 := h 0 (by omega) p rfl
      rw [List.drop_succ_cons, ← ih r (fun j hj q hq => h (j + 1) (by omega) q (by simpa using hq))]
      simp [firstBad, h0]

theorem firstBad_at (l : List (Int × Int)) (k : Nat) (p : Int × Int) (hp : l[k]? = some p) (hr : rA p.1 p.2 = false) (h : ∀ j, j < k → ∀ p, l[j]? = some p → rA p.1 p.2 = true) : firstBad l = wrV p.1 p.2 := by
  have hk : k < l.length := by
    rcases Nat.lt_or_ge k l.length with h | h
    · exact h
    · simp [List.getElem?_eq_none h] at hp
  have hpk : l[k] = p := by
    rw [List.getElem?_eq_getElem hk] at hp
    exact Option.some.inj hp
  rw [firstBad_skip l k h, List.drop_eq_getElem_cons hk, hpk]
  simp [firstBad, hr]
set_option maxHeartbeats 1600000 in
theorem check_l (l : List (Int × Int)) (b : Nat) (cap : Nat) (w : World) (hl : l.length ≤ 1000) (hb : b < w.heap.size)
    (hc0 : ∀ j p, l[j]? = some p → w.cell? ⟨b, j * 2, none⟩ = some (.int .i64 p.1)) (hc1 : ∀ j p, l[j]? = some p → w.cell? ⟨b, j * 2 + 1, none⟩ = some (.int .i64 p.2)) :
    Calls Tryd.prog 43 #[.slice (some ⟨b, 0, none⟩) l.length cap] w fun e w' => e = .returned (firstBad l) ∧ Below w.heap.size w w' := by
  have H0 := Lib.hid hc0
  have H1 := Lib.hid hc1
  clear hc0 hc1
  go_enter Tryd.func43, Tryd.ntmps43
  go_wp2
  go_loopw [7] (fun i wr => ∃ k : Nat, k ≤ l.length ∧ i = .int .i64 k ∧ Hid (∀ j, j < k → ∀ p, l[j]? = some p → rA p.1 p.2 = true) ∧ Below w.heap.size w wr) (fun i _ => l.length - (intOf i).toNat)
  case atStart => exact ⟨0, Nat.zero_le _, rfl, Lib.hid (fun j hj => absurd hj (Nat.not_lt_zero _)), Below.refl _ _⟩
  case round =>
    obtain ⟨k, hk, rfl, hall, hB⟩ := hrel
    by_cases hlt : k < l.length
    · obtain ⟨c, m, hp⟩ : ∃ c m, l[k]? = some (c, m) := ⟨l[k].1, l[k].2, by simp [List.getElem?_eq_getElem hlt]⟩
      have q0 := H0.out k _ hp
      have q1 := H1.out k _ hp
      rw [← hB.cell (p := ⟨b, k * 2, none⟩) hb] at q0
      rw [← hB.cell (p := ⟨b, k * 2 + 1, none⟩) hb] at q1
      simp only at q0 q1
      have HP := Lib.hid hp
      clear hp
      cases hr : rA c m
      · go_wp2_with (go_at_call 9; refine (Right_a _ _ _).mono ?_; rintro e w1 ⟨rfl, hb1⟩; rw [hr]; obtain ⟨hcc, hff⟩ := bcell hb1)
        go_ret
        exact ⟨by rw [firstBad_at l k (c, m) HP.out hr hall.out]; rfl, (hB.alloc hB.size _).trans (hb1.mono (by have := hB.size; simp; omega))⟩
      · go_wp2_with (go_at_call 9; refine (Right_a _ _ _).mono ?_; rintro e w1 ⟨rfl, hb1⟩; rw [hr])
        go_roundw
        case rel => exact ⟨k + 1, by omega, by go_num, Lib.hid (fun j hj p hpj => by
            by_cases e : j < k
            · exact hall.out j e p hpj
            · obtain rfl : j = k := by omega
              rw [HP.out] at hpj
              cases hpj
              exact hr), (hB.alloc hB.size _).trans (hb1.mono (by have := hB.size; simp; omega))⟩
        case measure => simp [intOf]; omega
    · go_wp2
      go_ret
      exact ⟨by rw [firstBad_skip l k hall.out, List.drop_eq_nil_of_le (by omega)]; rfl, hB⟩

theorem check_three (c0 m0 c1 m1 c2 m2 : Int) (w : World) (b : Nat) (hbw : b = w.heap.size) :
    Calls Tryd.prog 43 #[.slice (some ⟨b, 0, none⟩) 3 3] (w.alloc (.cells #[.int .i64 c0, .int .i64 m0, .int .i64 c1, .int .i64 m1, .int .i64 c2, .int .i64 m2] 23)) fun e w' =>
      e = .returned (firstBad [(c0, m0), (c1, m1), (c2, m2)]) ∧ Below w.heap.size w w' := by
  subst hbw
  have hc : ∀ j, (w.alloc (.cells #[.int .i64 c0, .int .i64 m0, .int .i64 c1, .int .i64 m1, .int .i64 c2, .int .i64 m2] 23)).cell? ⟨w.heap.size, j, none⟩ = (#[.int .i64 c0, .int .i64 m0, .int .i64 c1, .int .i64 m1, .int .i64 c2, .int .i64 m2] : Array Value)[j]? := fun j => blk_cell (blk_new w _) j
  refine (check_l [(c0, m0), (c1, m1), (c2, m2)] w.heap.size 3 _ (by simp) (by simp) ?_ ?_).mono fun e w' ⟨he, hb⟩ => ⟨he, ((Below.refl _ _).alloc (Nat.le_refl _) _).trans (hb.mono (by simp))⟩
  · intro j p hp
    rw [hc]
    match j, hp with
    | 0, hp => cases hp; rfl
    | 1, hp => cases hp; rfl
    | 2, hp => cases hp; rfl
    | j + 3, hp => simp at hp
  · intro j p hp
    rw [hc]
    match j, hp with
    | 0, hp => cases hp; rfl
    | 1, hp => cases hp; rfl
    | 2, hp => cases hp; rfl
    | j + 3, hp => simp at hp

set_option maxHeartbeats 1600000 in
theorem made_ok (c0 m0 c1 m1 c2 m2 : Int) (w : World) (h0 : rA c0 m0 = true) (h1 : rA c1 m1 = true) (h2 : rA c2 m2 = true) :
    Calls Tryd.prog 31 #[.agg #[.int .i64 c0, .int .i64 m0], .agg #[.int .i64 c1, .int .i64 m1], .agg #[.int .i64 c2, .int .i64 m2]] w fun e w' =>
      e = .returned (.tuple #[.agg #[.int .i64 c2, .int .i64 m2], .nilIface]) ∧ Below w.heap.size w w' := by
  have hbad : firstBad [(c0, m0), (c1, m1), (c2, m2)] = .nilIface := by simp [firstBad, h0, h1, h2]
  have HC := fun (W : World) (b : Nat) (hbw : b = W.heap.size) => check_three c0 m0 c1 m1 c2 m2 W b hbw
  rw [hbad] at HC
  clear hbad h0 h1 h2
  have hB0 : Below w.heap.size w ((((w.alloc (.cells #[.int .i64 c0, .int .i64 m0] 23)).alloc (.cells #[.int .i64 c1, .int .i64 m1] 23)).alloc (.cells #[.int .i64 c2, .int .i64 m2] 23)).alloc (.cells #[.int .i64 0, .int .i64 0] 23)) := ((((Below.refl _ _).alloc (Nat.le_refl _) _).alloc (by simp) _).alloc (by simp; omega) _).alloc (by simp; omega) _
  have HB0 := Lib.hid hB0
  clear hB0
  go_enter Tryd.func31, Tryd.ntmps31
  go_wp2_with (first | (go_at_call 43; refine (HC _ _ (by simp)).mono ?_; rintro e w1 ⟨rfl, hb1⟩; obtain ⟨hcc, hff⟩ := bcell hb1) | (go_at_call 42; refine (is_nil _ _).mono ?_; rintro e w2 ⟨rfl, rfl⟩))
  have hB1 := HB0.out.trans (hb1.mono (B' := w.heap.size) (by simp; omega))
  exact bodyPost_ret (v := .tuple #[.agg #[.int .i64 c2, .int .i64 m2], .nilIface]) (by simp [results, Tryd.results31, go_sem, hcc]) rfl ⟨rfl, (hB1.setCell (by simp; omega) _).setCell (by simp; omega) _⟩

set_option maxHeartbeats 1600000 in
theorem made_bad (c0 m0 c1 m1 c2 m2 c m : Int) (w : World) (h : firstBad [(c0, m0), (c1, m1), (c2, m2)] = wrV c m) :
    Calls Tryd.prog 31 #[.agg #[.int .i64 c0, .int .i64 m0], .agg #[.int .i64 c1, .int .i64 m1], .agg #[.int .i64 c2, .int .i64 m2]] w fun e w' =>
      e = .returned (.tuple #[.agg #[.int .i64 0, .int .i64 0], wrV c m]) ∧ Below w.heap.size w w' := by
  have HC := fun (W : World) (b : Nat) (hbw : b = W.heap.size) => check_three c0 m0 c1 m1 c2 m2 W b hbw
  rw [h] at HC
  clear h
  unfold wrV at HC ⊢
  have hB0 : Below w.heap.size w ((((w.alloc (.cells #[.int .i64 c0, .int .i64 m0] 23)).alloc (.cells #[.int .i64 c1, .int .i64 m1] 23)).alloc (.cells #[.int .i64 c2, .int .i64 m2] 23)).alloc (.cells #[.int .i64 0, .int .i64 0] 23)) := ((((Below.refl _ _).alloc (Nat.le_refl _) _).alloc (by simp) _).alloc (by simp; omega) _).alloc (by simp; omega) _
  have HB0 := Lib.hid hB0
  clear hB0
  go_enter Tryd.func31, Tryd.ntmps31
  go_wp2_with (first | (go_at_call 43; refine (HC _ _ (by simp)).mono ?_; rintro e w1 ⟨rfl, hb1⟩; obtain ⟨hcc, hff⟩ := bcell hb1; have hz1 : w.heap.size + 1 + 1 + 1 < w1.heap.size := by (have := hb1.size; simp at this; omega)) | (go_at_call 42; refine (is_wrong _ _ _ _).mono ?_; rintro e w2 ⟨rfl, hb2⟩; obtain ⟨hcc2, hff2⟩ := bcell hb2))
  have hB1 := HB0.out.trans (hb1.mono (B' := w.heap.size) (by simp; omega))
  have hB2 := hB1.trans (hb2.mono (B' := w.heap.size) (by omega))
  exact bodyPost_ret (v := .tuple #[.agg #[.int .i64 0, .int .i64 0], .iface 91 (.agg #[.int .i64 c, .int .i64 m])]) (by simp [results, Tryd.results31, go_sem, hcc, hcc2, hz1]) rfl ⟨rfl, (hB2.setCell (by simp; omega) _).setCell (by simp; omega) _⟩
end Go.Proofs.YtflfpghidkgmoaaDoor
