/- AmountSums: what the sums and the lists that are lent come to, for any Go ints. -/
import Derived.Test.YtflfpghidkgmoaaDoorSums
namespace Go.Proofs.YtflfpghidkgmoaaDoor.PureSums
set_option linter.unusedVariables false
set_option linter.unusedSimpArgs false
open Go.RowKit Go.Proofs.YtflfpghidkgmoaaDoor Go.Proofs.YtflfpghidkgmoaaDoor.QAmt Go.Proofs.YtflfpghidkgmoaaDoorW.PrintWords

theorem right_eq (n : Int) : flotillaref03_right.f n = some (rN n) := by
  unfold flotillaref03_right.f rN
  split <;> simp_all <;> omega
theorem Right_r (c m : Int) : flotillaref03_Right.f c m = some (rA c m) := by
  unfold flotillaref03_Right.f rA
  rw [right_eq, right_eq]
  cases rN c <;> simp
def okR (b : Bool) (x y : Int) : Int × Int × Int := if b = true then (x, y, 0) else (0, 0, 13)
theorem made_r (x y : Int) (b : Bool) : flotillaref03_made.f x y b = some (okR (b && rA x y) x y) := by
  unfold flotillaref03_made.f okR
  rw [Right_r]
  cases b <;> cases rA x y <;> simp
/-- May two amounts be added? -/
def okA (c m d n : Int) : Bool := rA c m && rA d n && rA (wrap64 (c + d)) (wrap64 (m + n))
theorem Add_r (c m d n : Int) : flotillaref03_Add.f c m d n = some (okR (okA c m d n) (wrap64 (c + d)) (wrap64 (m + n))) := by
  unfold flotillaref03_Add.f okA
  simp only [Right_r, made_r, Option.bind_some]
  cases rA c m <;> cases rA d n <;> simp
theorem isI_wrap (x : Int) : isI (wrap64 x) = true := by
  rw [isI_iff]
  unfold wrap64
  omega
theorem code_big (c m : Int) (hc : isI c = true) (hm : isI m = true) : goodC (wcode c m) = true ∧ codeNo (wcode c m) = 13 := by
  have hb := wcode_big c m hc hm
  rw [isI_iff] at hc hm
  constructor
  · have h1 : 1 ≤ wcode c m := by unfold wcode bigI bigJ; omega
    simp only [goodC, Bool.and_eq_true, Bool.or_eq_true, decide_eq_true_eq]
    exact ⟨h1, .inr (Int.not_lt.1 hb)⟩
  · unfold codeNo
    rw [if_neg hb]
theorem made_ok (a b c d e f : Int) (h : (rA a b && rA c d && rA e f) = true) : madeF a b c d e f = some (e, f, none) := by
  unfold madeF
  rw [if_pos h]
theorem made_bad (a b c d e f : Int) (h : (rA a b && rA c d && rA e f) = false) (i1 : isI a = true) (i2 : isI b = true) (i3 : isI c = true) (i4 : isI d = true) (i5 : isI e = true) (i6 : isI f = true) :
    ∃ x, madeF a b c d e f = some (0, 0, some x) ∧ goodC x = true ∧ codeNo x = 13 := by
  unfold madeF
  rw [if_neg (by simp [h]), if_pos (by simp [i1, i2, i3, i4, i5, i6])]
  have hk : goodC (badC a b c d e f) = true ∧ codeNo (badC a b c d e f) = 13 := by
    unfold badC
    split
    · split
      · exact code_big _ _ i5 i6
      · exact code_big _ _ i3 i4
    · exact code_big _ _ i1 i2
  exact ⟨_, rfl, hk⟩
/-- The sum behind a beginning: none, if it is too much. -/
def sumF : List S23 → Int → Int → Option (Int × Int)
  | [], a, b => some (a, b)
  | p :: r, a, b => if okA a b p.f0 p.f1 = true then sumF r (wrap64 (a + p.f0)) (wrap64 (b + p.f1)) else none
theorem rd_at (l : List S23) (i : Nat) (p : S23) (h : l[i]? = some p) : rd_T23 l (i : Int) = p := by simp [rd_T23, List.getD_eq_getElem?_getD, h]
theorem wrap_step (i n : Nat) (hi : i < n) (hn : n ≤ 8796093022208) : wrap64 ((i : Int) + 1) = ((i + 1 : Nat) : Int) := by unfold wrap64; omega
theorem refSum (l : List S23) (hn : l.length ≤ 8796093022208) (d : Nat) : ∀ (k i : Nat) (a b : Int), i ≤ l.length → l.length - i = d → d < k →
    flotillaref03_Sum.l0 k l (i : Int) a b = some (match sumF (l.drop i) a b with | some (x, y) => (x, y, 0) | none => (0, 0, 13)) := by
  induction d with
  | zero =>
    intro k i a b h1 hd hk
    obtain ⟨k, rfl⟩ : ∃ m, k = m + 1 := ⟨k - 1, by omega⟩
    simp only [flotillaref03_Sum.l0]
    rw [if_neg (by omega), List.drop_eq_nil_of_le (by omega)]
    rfl
  | succ d ih =>
    intro k i a b h1 hd hk
    obtain ⟨k, rfl⟩ : ∃ m, k = m + 1 := ⟨k - 1, by omega⟩
    have hlt : i < l.length := by omega
    simp only [flotillaref03_Sum.l0]
    rw [if_pos (by omega), if_pos (by omega), rd_at l i l[i] (List.getElem?_eq_getElem hlt), Add_r, Option.bind_some, List.drop_eq_getElem_cons hlt, sumF]
    by_cases h : okA a b l[i].f0 l[i].f1 = true
    · simp only [okR, if_pos h, if_true]
      rw [wrap_step i _ hlt hn]
      exact ih k (i + 1) _ _ (by omega) (by omega) (by omega)
    · simp only [okR, if_neg h]
      rfl
theorem amtSum (l : List S23) (hn : l.length ≤ 8796093022208) (hw : ∀ p ∈ l, isI p.f0 = true ∧ isI p.f1 = true) (d : Nat) : ∀ (k i : Nat) (a b : Int), i ≤ l.length → l.length - i = d → d < k → isI a = true → isI b = true →
    ∃ er, amount_Sum.l0 k l (l.length : Int) (i : Int) a b = some (match sumF (l.drop i) a b with | some (x, y) => (x, y, none) | none => (0, 0, some er)) ∧ goodC er = true ∧ codeNo er = 13 := by
  induction d with
  | zero =>
    intro k i a b h1 hd hk ha hb
    obtain ⟨k, rfl⟩ : ∃ m, k = m + 1 := ⟨k - 1, by omega⟩
    refine ⟨13, ?_, by decide, by decide⟩
    simp only [amount_Sum.l0]
    rw [if_neg (by omega), List.drop_eq_nil_of_le (by omega)]
    rfl
  | succ d ih =>
    intro k i a b h1 hd hk ha hb
    obtain ⟨k, rfl⟩ : ∃ m, k = m + 1 := ⟨k - 1, by omega⟩
    have hlt : i < l.length := by omega
    have hp := hw l[i] (List.getElem_mem hlt)
    simp only [amount_Sum.l0]
    rw [if_pos (by omega), if_pos (by omega), if_pos (by omega), rd_at l i l[i] (List.getElem?_eq_getElem hlt), List.drop_eq_getElem_cons hlt, sumF]
    unfold amount_Add.f amount_made.f
    by_cases h : okA a b l[i].f0 l[i].f1 = true
    · rw [made_ok _ _ _ _ _ _ h]
      simp only [Option.bind_some, if_pos h, Option.isNone_none, if_true]
      rw [wrap_step i _ hlt hn]
      exact ih k (i + 1) _ _ (by omega) (by omega) (by omega) (isI_wrap _) (isI_wrap _)
    · obtain ⟨x, hx, hg, hc⟩ := made_bad a b l[i].f0 l[i].f1 (wrap64 (a + l[i].f0)) (wrap64 (b + l[i].f1)) (Bool.eq_false_iff.2 h) ha hb hp.1 hp.2 (isI_wrap _) (isI_wrap _)
      rw [hx]
      simp only [Option.bind_some, if_neg h]
      exact ⟨x, rfl, hg, hc⟩
/-- The marks behind a list that is lent. -/
def marks : List S23 := (List.range 16).map fun (j : Nat) => (⟨-97, -1 - (j : Int)⟩ : S23)
theorem mark_f (i : Nat) (h : i < 16) : flotillakit_markAmounts.f 90 (i : Int) = some (-97, -1 - (i : Int)) := by
  unfold flotillakit_markAmounts.f
  rw [show wrap64 (-7 - 90) = -97 by unfold wrap64; omega, show wrap64 (-1 - (i : Int)) = -1 - (i : Int) by unfold wrap64; omega]
theorem full1 (x : List S23) (hx : x.length + 16 ≤ 8796093022208) (d : Nat) : ∀ (k i : Nat), i ≤ 16 → 16 - i = d → d < k →
    flotillakit_FullAmounts.l1 k (x ++ marks.take i) (i : Int) = some (x ++ marks) := by
  induction d with
  | zero =>
    intro k i h1 hd hk
    obtain ⟨k, rfl⟩ : ∃ m, k = m + 1 := ⟨k - 1, by omega⟩
    simp only [flotillakit_FullAmounts.l1]
    rw [if_neg (by omega), List.take_of_length_le (by simp [marks]; omega)]
  | succ d ih =>
    intro k i h1 hd hk
    obtain ⟨k, rfl⟩ : ∃ m, k = m + 1 := ⟨k - 1, by omega⟩
    simp only [flotillakit_FullAmounts.l1]
    rw [if_pos (by omega), mark_f i (by omega)]
    simp only [Option.bind_some]
    have hlen : (x ++ marks.take i).length < 8796093022208 := by simp [marks]; omega
    rw [if_pos hlen, wrap_step i 16 (by omega) (by omega)]
    have e : x ++ marks.take i ++ [(⟨-97, -1 - (i : Int)⟩ : S23)] = x ++ marks.take (i + 1) := by
      rw [List.append_assoc, List.take_add_one]
      congr 2
      simp [marks, List.getElem?_range (show i < 16 by omega)]
    rw [e]
    exact ih k (i + 1) (by omega) (by omega) (by omega)
theorem full0 (l : List S23) (hn : l.length + 16 ≤ 8796093022208) (d : Nat) : ∀ (k i : Nat), i ≤ l.length → l.length - i = d → d + 17 < k →
    flotillakit_FullAmounts.l0 k l (l.take i) (i : Int) = some (l ++ marks) := by
  induction d with
  | zero =>
    intro k i h1 hd hk
    obtain ⟨k, rfl⟩ : ∃ m, k = m + 1 := ⟨k - 1, by omega⟩
    simp only [flotillakit_FullAmounts.l0]
    rw [if_neg (by omega), List.take_of_length_le (by omega)]
    have := full1 l hn 16 k 0 (by omega) (by omega) (by omega)
    simpa using this
  | succ d ih =>
    intro k i h1 hd hk
    obtain ⟨k, rfl⟩ : ∃ m, k = m + 1 := ⟨k - 1, by omega⟩
    have hlt : i < l.length := by omega
    simp only [flotillakit_FullAmounts.l0]
    rw [if_pos (by omega), if_pos (by omega), if_pos (by rw [List.length_take]; omega), rd_at l i l[i] (List.getElem?_eq_getElem hlt), wrap_step i _ hlt (by omega)]
    have e : l.take i ++ [(⟨l[i].f0, l[i].f1⟩ : S23)] = l.take (i + 1) := by
      rw [List.take_add_one, List.getElem?_eq_getElem hlt]
      rfl
    rw [e]
    exact ih k (i + 1) (by omega) (by omega) (by omega)

theorem pure (A0 : Option Addr) (c0 : Nat) (l : List S23) (w : World) (hInv : ETypeAt w) (hr0 : Kd.C k23 w A0 l.length l) (hc0 : l.length ≤ c0) (hn : l.length + 16 ≤ 8796093022208) (hw : ∀ p ∈ l, isI p.f0 = true ∧ isI p.f1 = true) :
    Calls Tryd.prog 4 #[.slice A0 l.length c0] w fun e w' => e = .returned (.bool true) ∧ Below w.heap.size w w' := by
  obtain ⟨er, h2, hg, hc⟩ := amtSum l (by omega) hw l.length (l.length + 20) 0 0 0 (by omega) (by omega) (by omega) (by decide) (by decide)
  have h1 := refSum l (by omega) l.length (l.length + 20) 0 0 0 (by omega) (by omega) (by omega)
  have h3 := full0 l hn l.length (l.length + 20) 0 (by omega) (by omega) (by omega)
  have hml : marks.length = 16 := by simp [marks]
  have htk : (l ++ marks).take l.length = l := List.take_left
  have hpre : ∀ j, j < l.length → (l ++ marks)[j]? = l[j]? := fun j hj => List.getElem?_append_left hj
  have hmark : ∀ j, j < 16 → (l ++ marks)[l.length + j]? = some ⟨-97, -1 - j⟩ := fun j hj => by
    rw [List.getElem?_append_right (by omega)]
    simp [marks, List.getElem?_range hj]
  have hS : ∃ x y no, flotillaref03_Sum.f (l.length + 20) l = some (x, y, no) ∧ ∃ e, amount_Sum.f (l.length + 20) l = some (x, y, e) ∧ plainF e no = some true := by
    unfold flotillaref03_Sum.f amount_Sum.f
    have h1' : flotillaref03_Sum.l0 (l.length + 20) l 0 0 0 = _ := h1
    have h2' : amount_Sum.l0 (l.length + 20) l (l.length : Int) 0 0 0 = _ := h2
    rw [h1', h2']
    cases sumF (l.drop 0) 0 0 with
    | none => exact ⟨0, 0, 13, rfl, some er, rfl, by simp [plainF, hg, hc]⟩
    | some p => exact ⟨p.1, p.2, 0, rfl, none, rfl, by simp [plainF]⟩
  obtain ⟨x, y, no, hS1, e, hT, hP⟩ := hS
  exact Sums.law (l.length + 20) l (l ++ marks) x y no e A0 c0 w hInv hr0 hc0 hS1 hT hP (by have h3' : flotillakit_FullAmounts.l0 (l.length + 20) l [] 0 = _ := h3; exact h3') (by rw [List.length_append, hml]) (by omega) htk hpre hmark
end Go.Proofs.YtflfpghidkgmoaaDoor.PureSums
