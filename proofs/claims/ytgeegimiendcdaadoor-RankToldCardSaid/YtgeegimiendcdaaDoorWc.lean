/- words.Compare and flotillaref01.Compare: what both answer, as one plain function cmpW; it is an order of all texts. -/
import Derived.Test.YtgeegimiendcdaaDoorQWcx
import Derived.Lib.Strings
namespace Go.Proofs.YtgeegimiendcdaaDoor.Wc
set_option linter.unusedVariables false
set_option linter.unusedSimpArgs false
open Go.RowKit Go.Proofs.YtgeegimiendcdaaDoor Go.Proofs.YtgeegimiendcdaaDoor.QWc Go.Proofs.YtgeegimiendcdaaDoorW.PrintWords Go.Proofs.YtgeegimiendcdaaDoorW.PrintLast

abbrev L (s : ByteArray) : List UInt8 := s.data.toList
theorem L_len (s : ByteArray) : s.size = (L s).length := Go.Lib.size_eq s
theorem L_ext {a b : ByteArray} (h : L a = L b) : a = b := by
  cases a with | mk x => cases b with | mk y => exact congrArg _ (Array.toList_inj.1 h)
theorem L_extract (s : ByteArray) (i j : Nat) : L (s.extract i j) = ((L s).drop i).take (j - i) := Go.Lib.extract_data s i j
theorem L_tail (s : ByteArray) (i : Nat) : L (s.extract i s.size) = (L s).drop i := by
  rw [L_extract, List.take_of_length_le]
  rw [List.length_drop, ← L_len]
  exact Nat.le_refl _
theorem tail_size (s : ByteArray) (i : Nat) : (s.extract i s.size).size = s.size - i := by rw [L_len, L_tail, List.length_drop, ← L_len]
theorem head_size (s : ByteArray) (i : Nat) (h : i ≤ s.size) : (s.extract 0 i).size = i := by
  rw [L_len, L_extract, List.length_take, List.drop_zero, ← L_len]
  omega
theorem bt_L (s : ByteArray) (i : Nat) : bt s (i : Int) = (((L s)[i]?.getD 0).toNat : Int) := by
  unfold bt
  rw [Int.toNat_natCast]
  split
  next h =>
    rw [List.getElem?_eq_getElem (by rw [← L_len]; exact h)]
    cases s with | mk d => rfl
  next h =>
    rw [List.getElem?_eq_none (by rw [← L_len]; omega)]
    rfl
theorem bt_tail (s : ByteArray) (i : Nat) : bt (s.extract i s.size) 0 = bt s (i : Int) := by
  rw [show (0 : Int) = ((0 : Nat) : Int) from rfl, bt_L, bt_L, L_tail, List.getElem?_drop, Nat.add_zero]
theorem bt_head (s : ByteArray) (i : Nat) (h : 0 < i) (hi : i ≤ s.size) : bt (s.extract 0 i) 0 = bt s 0 := by
  rw [show (0 : Int) = ((0 : Nat) : Int) from rfl, bt_L, bt_L, L_extract, List.drop_zero, List.getElem?_take]
  rw [if_pos (by omega)]
theorem toList_nil (s : ByteArray) : s.toList = ([] : List UInt8) ↔ s.size = 0 := by
  rw [Go.Lib.toList_data, L_len]
  exact List.length_eq_zero_iff.symm

/-! ### Digits, rows -/
def dig (x : Int) : Bool := decide (48 ≤ x) && decide (x ≤ 57)
theorem dig1 (x : Int) : words_digit.f x = some (dig x) := by
  unfold words_digit.f dig
  split <;> simp_all <;> omega
theorem dig2 (x : Int) : flotillaref01_digit.f x = some (dig x) := by
  unfold flotillaref01_digit.f dig
  split <;> simp_all <;> omega
theorem wrap_bt (s : ByteArray) (i : Int) : wrap32 (bt s i) = bt s i := by
  have := bt_range s i
  unfold wrap32
  omega
theorem wrap64_bt (s : ByteArray) (i : Int) : wrap64 (bt s i) = bt s i := by
  have := bt_range s i
  unfold wrap64
  omega
theorem step_ (i : Nat) (h : i ≤ 140737488351232) : wrap64 ((i : Int) + 1) = ((i + 1 : Nat) : Int) := by unfold wrap64; omega
/-- Where the row ends that begins the text. -/
def rowE (a : ByteArray) : Nat → Nat → Nat
  | 0, i => i
  | d + 1, i => if dig (bt a (i : Int)) = dig (bt a 0) then rowE a d (i + 1) else i
theorem rowE_le (a : ByteArray) (d i : Nat) : i ≤ rowE a d i ∧ rowE a d i ≤ i + d := by
  induction d generalizing i with
  | zero => simp [rowE]
  | succ d ih =>
    unfold rowE
    split
    · have := ih (i + 1)
      omega
    · omega
theorem row1 (a : ByteArray) (hm : a.size ≤ 140737488351232) (d : Nat) : ∀ (i k : Nat), i + d = a.size → d < k →
    words_row.l0 k a (dig (bt a 0)) (i : Int) = some (a.extract 0 (rowE a d i), a.extract (rowE a d i) a.size, dig (bt a 0)) := by
  induction d with
  | zero =>
    intro i k hi hk
    obtain ⟨k, rfl⟩ : ∃ m, k = m + 1 := ⟨k - 1, by omega⟩
    simp only [words_row.l0, rowE]
    rw [if_neg (by omega)]
    have e1 : a.extract 0 i = a := L_ext (by rw [L_extract, List.drop_zero, List.take_of_length_le (by rw [← L_len]; omega)])
    have e2 : a.extract i a.size = ⟨#[]⟩ := L_ext (by rw [L_tail, List.drop_eq_nil_of_le (by rw [← L_len]; omega)])
    rw [e1, e2]
  | succ d ih =>
    intro i k hi hk
    obtain ⟨k, rfl⟩ : ∃ m, k = m + 1 := ⟨k - 1, by omega⟩
    simp only [words_row.l0, rowE]
    rw [if_pos (by omega), if_pos (by omega), wrap_bt, dig1, Option.bind_some]
    by_cases h : dig (bt a (i : Int)) = dig (bt a 0)
    · rw [if_neg (by simp [h]), if_pos h, step_ i (by omega)]
      exact ih (i + 1) k (by omega) (by omega)
    · rw [if_pos (by simpa using h), if_neg h, if_pos (by omega), Int.toNat_natCast]
theorem row2 (a : ByteArray) (hm : a.size ≤ 140737488351232) (h0 : 0 < a.size) (d : Nat) : ∀ (i k : Nat), i + d = a.size → d < k →
    flotillaref01_row.l0 k a (i : Int) = some (a.extract 0 (rowE a d i), a.extract (rowE a d i) a.size) := by
  induction d with
  | zero =>
    intro i k hi hk
    obtain ⟨k, rfl⟩ : ∃ m, k = m + 1 := ⟨k - 1, by omega⟩
    simp only [flotillaref01_row.l0, rowE]
    rw [if_neg (by omega), if_pos (by omega), if_pos (by omega), Int.toNat_natCast]
  | succ d ih =>
    intro i k hi hk
    obtain ⟨k, rfl⟩ : ∃ m, k = m + 1 := ⟨k - 1, by omega⟩
    simp only [flotillaref01_row.l0, rowE]
    rw [if_pos (by omega), if_pos (by omega), dig2, Option.bind_some, if_pos (by omega), dig2, Option.bind_some]
    by_cases h : dig (bt a (i : Int)) = dig (bt a 0)
    · rw [if_pos (by simp [h]), if_pos h, step_ i (by omega)]
      exact ih (i + 1) k (by omega) (by omega)
    · rw [if_neg (by simpa using h), if_neg h, if_pos (by omega), Int.toNat_natCast]
/-- The end of the first row. -/
def rE (a : ByteArray) : Nat := rowE a (a.size - 1) 1
theorem rE_le (a : ByteArray) (h : 0 < a.size) : 1 ≤ rE a ∧ rE a ≤ a.size := by
  have := rowE_le a (a.size - 1) 1
  unfold rE
  omega
theorem row1' (a : ByteArray) (hm : a.size ≤ 140737488351232) (h0 : 0 < a.size) (k : Nat) (hk : a.size < k) : words_row.f k a = some (a.extract 0 (rE a), a.extract (rE a) a.size, dig (bt a 0)) := by
  unfold words_row.f
  rw [if_pos (by omega), wrap_bt, dig1, Option.bind_some]
  exact row1 a hm (a.size - 1) 1 k (by omega) (by omega)
theorem row2' (a : ByteArray) (hm : a.size ≤ 140737488351232) (h0 : 0 < a.size) (k : Nat) (hk : a.size < k) : flotillaref01_row.f k a = some (a.extract 0 (rE a), a.extract (rE a) a.size) := by
  unfold flotillaref01_row.f
  exact row2 a hm h0 (a.size - 1) 1 k (by omega) (by omega)

/-! ### Comparing -/
def lessI (a b : Int) : Int := if a < b then -1 else if a > b then 1 else 0
theorem lessI_lt {a b : Int} (h : a < b) : lessI a b = -1 := if_pos h
theorem lessI_gt {a b : Int} (h : b < a) : lessI a b = 1 := by
  unfold lessI
  rw [if_neg (by omega), if_pos h]
theorem lessI_eq {a b : Int} (h : a = b) : lessI a b = 0 := by
  unfold lessI
  rw [if_neg (by omega), if_neg (by omega)]
theorem less1 (a b : Int) : cmp_Compare_int.f a b = some (lessI a b) := by
  unfold cmp_Compare_int.f cmp_isNaN_int.f lessI
  simp
  split <;> (try split) <;> rfl
theorem less2 (a b : Int) : flotillaref01_less.f a b = some (lessI a b) := by
  unfold flotillaref01_less.f lessI
  split <;> (try split) <;> rfl
theorem str1 (a b : ByteArray) : cmp_Compare_string.f a b = some (cmpL (L a) (L b)) := rfl
theorem str2 (a b : ByteArray) (hm : a.size ≤ 140737488351232) (d : Nat) : ∀ (i k : Nat), i + d = a.size → i ≤ b.size → 2 * d + 2 < k →
    flotillaref01_bytes.l0 k a b (i : Int) = some (cmpL ((L a).drop i) ((L b).drop i)) := by
  induction d with
  | zero =>
    intro i k hi hb hk
    obtain ⟨k, rfl⟩ : ∃ m, k = m + 2 := ⟨k - 2, by omega⟩
    simp only [flotillaref01_bytes.l0]
    rw [if_neg (by omega)]
    simp only [flotillaref01_bytes.j1]
    rw [if_neg (by simp), less2, Option.bind_some, List.drop_eq_nil_of_le (by rw [← L_len]; omega)]
    congr 1
    rcases Nat.lt_or_ge i b.size with h | h
    · rw [List.drop_eq_getElem_cons (by rw [← L_len]; exact h)]
      rw [lessI_lt (by omega)]
      rfl
    · rw [List.drop_eq_nil_of_le (by rw [← L_len]; omega)]
      rw [lessI_eq (by omega)]
      rfl
  | succ d ih =>
    intro i k hi hb hk
    obtain ⟨k, rfl⟩ : ∃ m, k = m + 2 := ⟨k - 2, by omega⟩
    simp only [flotillaref01_bytes.l0]
    rw [if_pos (by omega)]
    simp only [flotillaref01_bytes.j1]
    have hal : i < (L a).length := by rw [← L_len]; omega
    rcases Nat.lt_or_ge i b.size with h | h
    · have hbl : i < (L b).length := by rw [← L_len]; omega
      rw [if_pos (by simp; omega), if_pos (by omega), if_pos (by omega), if_pos (by omega), less2, Option.bind_some, wrap64_bt, wrap64_bt, List.drop_eq_getElem_cons hal, List.drop_eq_getElem_cons hbl]
      simp only [cmpL]
      rw [bt_L, bt_L, List.getElem?_eq_getElem hal, List.getElem?_eq_getElem hbl, Option.getD_some, Option.getD_some]
      generalize hz : lessI (((L a)[i].toNat : Nat) : Int) (((L b)[i].toNat : Nat) : Int) = z
      by_cases c1 : (L a)[i] < (L b)[i]
      · have c1' : (((L a)[i].toNat : Nat) : Int) < ((L b)[i].toNat : Nat) := by have := UInt8.lt_iff_toNat_lt.1 c1; omega
        rw [if_pos c1]
        obtain rfl : (-1 : Int) = z := (lessI_lt c1').symm.trans hz
        rfl
      · by_cases c2 : (L b)[i] < (L a)[i]
        · have c2' : (((L b)[i].toNat : Nat) : Int) < ((L a)[i].toNat : Nat) := by have := UInt8.lt_iff_toNat_lt.1 c2; omega
          rw [if_neg c1, if_pos c2]
          obtain rfl : (1 : Int) = z := (lessI_gt c2').symm.trans hz
          rfl
        · have c1' := UInt8.not_lt.1 c1
          have c2' := UInt8.not_lt.1 c2
          have : (L a)[i] = (L b)[i] := UInt8.le_antisymm c2' c1'
          obtain rfl : (0 : Int) = z := (lessI_eq (by rw [this])).symm.trans hz
          rw [if_neg c1, if_neg c2, if_pos rfl, step_ i (by omega)]
          exact ih (i + 1) k (by omega) (by omega) (by omega)
    · rw [if_neg (by simp; omega), less2, Option.bind_some, List.drop_eq_getElem_cons hal, show (L b).drop i = [] from List.drop_eq_nil_of_le (by rw [← L_len]; omega), lessI_gt (by omega)]
      rfl
theorem str2' (a b : ByteArray) (hm : a.size ≤ 140737488351232) (k : Nat) (hk : 2 * a.size + 2 < k) : flotillaref01_bytes.f k a b = some (cmpL (L a) (L b)) := str2 a b hm a.size 0 k (by omega) (by omega) hk

/-! ### Noughts ahead -/
def zE (a : ByteArray) : Nat → Nat → Nat
  | 0, i => i
  | d + 1, i => if bt a (i : Int) = 48 then zE a d (i + 1) else i
theorem zE_le (a : ByteArray) (d i : Nat) : i ≤ zE a d i ∧ zE a d i ≤ i + d := by
  induction d generalizing i with
  | zero => simp [zE]
  | succ d ih =>
    unfold zE
    split
    · have := ih (i + 1)
      omega
    · omega
theorem tail_tail (a : ByteArray) (i : Nat) : (a.extract i a.size).extract 1 (a.extract i a.size).size = a.extract (i + 1) a.size := L_ext (by rw [L_tail, L_tail, L_tail, List.drop_drop])
theorem trim1 (a : ByteArray) (d : Nat) : ∀ (i k : Nat), i + d = a.size → d < k → QTlb.strings_trimLeftByte.l0 k (a.extract i a.size) 48 = some (a.extract (zE a d i) a.size) := by
  induction d with
  | zero =>
    intro i k hi hk
    obtain ⟨k, rfl⟩ : ∃ m, k = m + 1 := ⟨k - 1, by omega⟩
    simp only [QTlb.strings_trimLeftByte.l0, zE]
    rw [if_neg (by rw [tail_size]; omega)]
  | succ d ih =>
    intro i k hi hk
    obtain ⟨k, rfl⟩ : ∃ m, k = m + 1 := ⟨k - 1, by omega⟩
    simp only [QTlb.strings_trimLeftByte.l0, zE]
    rw [if_pos (by rw [tail_size]; omega), if_pos (by rw [tail_size]; omega), bt_tail]
    by_cases h : bt a (i : Int) = 48
    · rw [if_pos h, if_pos h, if_pos (by rw [tail_size]; omega), tail_tail]
      exact ih (i + 1) k (by omega) (by omega)
    · rw [if_neg h, if_neg h]
theorem trim2 (a : ByteArray) (hm : a.size ≤ 140737488351232) (d : Nat) : ∀ (i k : Nat), i + d = a.size → d < k → flotillaref01_bare.l0 k a (i : Int) = some (a.extract (zE a d i) a.size) := by
  induction d with
  | zero =>
    intro i k hi hk
    obtain ⟨k, rfl⟩ : ∃ m, k = m + 1 := ⟨k - 1, by omega⟩
    simp only [flotillaref01_bare.l0, zE]
    rw [if_neg (by omega), if_pos (by omega), if_pos (by omega), Int.toNat_natCast]
  | succ d ih =>
    intro i k hi hk
    obtain ⟨k, rfl⟩ : ∃ m, k = m + 1 := ⟨k - 1, by omega⟩
    simp only [flotillaref01_bare.l0, zE]
    rw [if_pos (by omega), if_pos (by omega)]
    by_cases h : bt a (i : Int) = 48
    · rw [if_pos h, if_pos h, step_ i (by omega)]
      exact ih (i + 1) k (by omega) (by omega)
    · rw [if_neg h, if_neg h, if_pos (by omega), Int.toNat_natCast]
def bareB (a : ByteArray) : ByteArray := a.extract (zE a a.size 0) a.size
theorem bareB_size (a : ByteArray) : (bareB a).size ≤ a.size := by rw [bareB, tail_size]; omega
theorem whole (a : ByteArray) : a.extract 0 a.size = a := L_ext (by rw [L_tail, List.drop_zero])
theorem bare1 (a : ByteArray) : strings_TrimLeft.f a ⟨#[48]⟩ = some (bareB a) := by
  unfold strings_TrimLeft.f trimF
  by_cases h : a.toList = ([] : List UInt8)
  · rw [if_pos h]
    have h' := (toList_nil a).1 h
    congr 1
    rw [bareB, h']
    exact (L_ext (by rw [L_extract, Nat.zero_sub, List.take_zero]; exact (List.length_eq_zero_iff.1 (by rw [← L_len]; exact h')).symm ▸ rfl)).symm
  · rw [if_neg h, if_pos (by decide)]
    have := trim1 a a.size 0 (a.size + 1) (by omega) (by omega)
    rw [whole] at this
    exact this
theorem bare2 (a : ByteArray) (hm : a.size ≤ 140737488351232) (k : Nat) (hk : a.size < k) : flotillaref01_bare.f k a = some (bareB a) := trim2 a hm a.size 0 k (by omega) hk
theorem orF (x y z : Int) (k : Nat) (hk : 4 ≤ k) : cmp_Or_int.f k [x, y, z] = some (if x = 0 then (if y = 0 then z else y) else x) := by
  obtain ⟨k, rfl⟩ : ∃ m, k = m + 4 := ⟨k - 4, by omega⟩
  unfold cmp_Or_int.f
  by_cases h1 : x = 0
  · by_cases h2 : y = 0
    · by_cases h3 : z = 0 <;> simp [cmp_Or_int.l0, rd, wrap64, h1, h2, h3]
    · simp [cmp_Or_int.l0, rd, wrap64, h1, h2]
  · simp [cmp_Or_int.l0, rd, wrap64, h1]

/-! ### Rows held against each other -/
def rowsP (a b : ByteArray) : Int :=
  if dig (bt a 0) = dig (bt b 0) then
    if dig (bt a 0) = true then
      if lessI (bareB a).size (bareB b).size = 0 then (if cmpL (L (bareB a)) (L (bareB b)) = 0 then lessI a.size b.size else cmpL (L (bareB a)) (L (bareB b))) else lessI (bareB a).size (bareB b).size
    else cmpL (L a) (L b)
  else if dig (bt a 0) = true then -1 else 1
theorem rows1 (a b : ByteArray) (k : Nat) (hk : 10 ≤ k) : words_rows.f k a b (dig (bt a 0)) (dig (bt b 0)) = some (rowsP a b) := by
  obtain ⟨k, rfl⟩ : ∃ m, k = m + 6 := ⟨k - 6, by omega⟩
  unfold words_rows.f rowsP
  cases hA : dig (bt a 0) <;> cases hB : dig (bt b 0) <;> simp [words_rows.j0, words_rows.j1, str1, bare1, less1, orF]
theorem rows2 (a b : ByteArray) (ha : 0 < a.size) (hb : 0 < b.size) (hm : a.size ≤ 140737488351232) (hn : b.size ≤ 140737488351232) (k : Nat) (hk : 2 * a.size + b.size + 10 ≤ k) : flotillaref01_rows.f k a b = some (rowsP a b) := by
  unfold flotillaref01_rows.f rowsP
  have hs := bareB_size a
  rw [if_pos (by omega), dig2, Option.bind_some, if_pos (by omega), dig2, Option.bind_some, bare2 a hm k (by omega), bare2 b hn k (by omega), str2' a b hm k (by omega)]
  cases hA : dig (bt a 0) <;> cases hB : dig (bt b 0) <;> simp [dig2, less2, hA, str2' (bareB a) (bareB b) (by omega) k (by omega)]
  split <;> (try split) <;> simp_all

/-! ### The texts held against each other -/
def cmpB : Nat → ByteArray → ByteArray → Int
  | 0, a, b => lessI a.size b.size
  | n + 1, a, b => if a.size = 0 ∨ b.size = 0 then lessI a.size b.size else
      if rowsP (a.extract 0 (rE a)) (b.extract 0 (rE b)) = 0 then cmpB n (a.extract (rE a) a.size) (b.extract (rE b) b.size) else rowsP (a.extract 0 (rE a)) (b.extract 0 (rE b))
theorem cmpB_end (n : Nat) (a b : ByteArray) (h : a.size = 0 ∨ b.size = 0) : cmpB n a b = lessI a.size b.size := by
  cases n with
  | zero => rfl
  | succ n => rw [cmpB, if_pos h]
/-- What words.Compare answers. -/
def cmpW (a b : ByteArray) : Int := cmpB (a.size + b.size) a b
theorem compare_ (n : Nat) : ∀ (a b : ByteArray) (k : Nat), a.size + b.size ≤ n → a.size ≤ 140737488351232 → b.size ≤ 140737488351232 → 5 * (a.size + b.size) + 50 ≤ k →
    words_Compare.l0 k a b = some (cmpB n a b) ∧ flotillaref01_Compare.l0 k a b = some (cmpB n a b) := by
  induction n with
  | zero =>
    intro a b k hn h1 h2 hk
    obtain ⟨k, rfl⟩ : ∃ m, k = m + 2 := ⟨k - 2, by omega⟩
    have e1 := (toList_nil a).2 (by omega)
    refine ⟨?_, ?_⟩
    · simp only [words_Compare.l0]
      rw [if_pos e1]
      simp only [words_Compare.j1]
      rw [if_neg (by simp), less1, Option.bind_some]
      rfl
    · simp only [flotillaref01_Compare.l0]
      rw [if_neg (by omega)]
      simp only [flotillaref01_Compare.j1]
      rw [if_neg (by simp), less2, Option.bind_some]
      rfl
  | succ n ih =>
    intro a b k hn h1 h2 hk
    obtain ⟨k, rfl⟩ : ∃ m, k = m + 2 := ⟨k - 2, by omega⟩
    by_cases hA : a.size = 0
    · have e1 := (toList_nil a).2 hA
      rw [cmpB_end _ _ _ (.inl hA)]
      refine ⟨?_, ?_⟩
      · simp only [words_Compare.l0]
        rw [if_pos e1]
        simp only [words_Compare.j1]
        rw [if_neg (by simp), less1, Option.bind_some]
      · simp only [flotillaref01_Compare.l0]
        rw [if_neg (by omega)]
        simp only [flotillaref01_Compare.j1]
        rw [if_neg (by simp), less2, Option.bind_some]
    have e1 : ¬ a.toList = [] := fun h => hA ((toList_nil a).1 h)
    by_cases hB : b.size = 0
    · have e2 := (toList_nil b).2 hB
      rw [cmpB_end _ _ _ (.inr hB)]
      refine ⟨?_, ?_⟩
      · simp only [words_Compare.l0]
        rw [if_neg e1]
        simp only [words_Compare.j1]
        rw [if_neg (by simp [e2]), less1, Option.bind_some]
      · simp only [flotillaref01_Compare.l0]
        rw [if_pos (by omega)]
        simp only [flotillaref01_Compare.j1]
        rw [if_neg (by simp [hB]), less2, Option.bind_some]
    have e2 : ¬ b.toList = [] := fun h => hB ((toList_nil b).1 h)
    obtain ⟨ra, ra'⟩ := rE_le a (by omega)
    obtain ⟨rb, rb'⟩ := rE_le b (by omega)
    have s1 := head_size a (rE a) ra'
    have s2 := head_size b (rE b) rb'
    have t1 := tail_size a (rE a)
    have t2 := tail_size b (rE b)
    have d1 := bt_head a (rE a) (by omega) ra'
    have d2 := bt_head b (rE b) (by omega) rb'
    have q1 := rows1 (a.extract 0 (rE a)) (b.extract 0 (rE b)) k (by omega)
    rw [d1, d2] at q1
    have q2 := rows2 (a.extract 0 (rE a)) (b.extract 0 (rE b)) (by omega) (by omega) (by omega) (by omega) k (by omega)
    rw [cmpB, if_neg (by omega)]
    by_cases h : rowsP (a.extract 0 (rE a)) (b.extract 0 (rE b)) = 0
    · obtain ⟨i1, i2⟩ := ih (a.extract (rE a) a.size) (b.extract (rE b) b.size) k (by omega) (by omega) (by omega) (by omega)
      rw [if_pos h]
      refine ⟨?_, ?_⟩
      · simp only [words_Compare.l0]
        rw [if_neg e1]
        simp only [words_Compare.j1]
        rw [if_pos (by simpa using e2), row1' a h1 (by omega) k (by omega), Option.bind_some, row1' b h2 (by omega) k (by omega), Option.bind_some, q1, Option.bind_some, if_pos h]
        exact i1
      · simp only [flotillaref01_Compare.l0]
        rw [if_pos (by omega)]
        simp only [flotillaref01_Compare.j1]
        rw [if_pos (by simp; omega), row2' a h1 (by omega) k (by omega), Option.bind_some, row2' b h2 (by omega) k (by omega), Option.bind_some, q2, Option.bind_some]
        simp only [h, if_true]
        exact i2
    · rw [if_neg h]
      refine ⟨?_, ?_⟩
      · simp only [words_Compare.l0]
        rw [if_neg e1]
        simp only [words_Compare.j1]
        rw [if_pos (by simpa using e2), row1' a h1 (by omega) k (by omega), Option.bind_some, row1' b h2 (by omega) k (by omega), Option.bind_some, q1, Option.bind_some, if_neg h]
      · simp only [flotillaref01_Compare.l0]
        rw [if_pos (by omega)]
        simp only [flotillaref01_Compare.j1]
        rw [if_pos (by simp; omega), row2' a h1 (by omega) k (by omega), Option.bind_some, row2' b h2 (by omega) k (by omega), Option.bind_some, q2, Option.bind_some]
        simp [h]
/-- For the printer: what both answer. -/
def cmpO (a b : ByteArray) : Option Int := if a.size ≤ 140737488351232 ∧ b.size ≤ 140737488351232 then some (cmpW a b) else none
theorem words_calls (a b : ByteArray) (r : Int) (w : World) (h : cmpO a b = some r) : Calls Tryd.prog 42 #[.string a, .string b] w fun e w' => e = .returned (.int .i64 r) ∧ Below w.heap.size w w' := by
  unfold cmpO at h
  split at h
  next hs =>
    obtain rfl := Option.some.inj h
    exact words_Compare.calls (5 * (a.size + b.size) + 50) a b _ w (compare_ _ a b _ (Nat.le_refl _) hs.1 hs.2 (Nat.le_refl _)).1
  next => cases h
theorem ref_calls (a b : ByteArray) (r : Int) (w : World) (h : cmpO a b = some r) : Calls Tryd.prog 44 #[.string a, .string b] w fun e w' => e = .returned (.int .i64 r) ∧ Below w.heap.size w w' := by
  unfold cmpO at h
  split at h
  next hs =>
    obtain rfl := Option.some.inj h
    exact (flotillaref01_Compare.calls (5 * (a.size + b.size) + 50) a b _ w (compare_ _ a b _ (Nat.le_refl _) hs.1 hs.2 (Nat.le_refl _)).2).mono fun e w' h' => ⟨h'.1, by have := h'.2; first | exact this | (obtain ⟨m, rfl⟩ := this; exact pw_below_drewN (Below.refl _ _) m)⟩
  next => cases h

/-! ### It is an order -/
structure IsCmp {α : Type} (c : α → α → Int) : Prop where
  anti : ∀ x y, c y x = - c x y
  trans : ∀ x y z, c x y ≤ 0 → c y z ≤ 0 → c x z ≤ 0
section
variable {α β : Type} {c d : α → α → Int}
theorem IsCmp.refl (h : IsCmp c) (x : α) : c x x = 0 := by have := h.anti x x; omega
/-- What is level stands alike to all. -/
theorem IsCmp.level (h : IsCmp c) {x y : α} (e : c x y = 0) (z : α) : (c x z ≤ 0 ↔ c y z ≤ 0) ∧ (c z x ≤ 0 ↔ c z y ≤ 0) := by
  have e' : c y x = 0 := by rw [h.anti x y]; omega
  exact ⟨⟨fun g => h.trans _ _ _ (by omega) g, fun g => h.trans _ _ _ (by omega) g⟩, ⟨fun g => h.trans _ _ _ g (by omega), fun g => h.trans _ _ _ g (by omega)⟩⟩
theorem IsCmp.level_neg (h : IsCmp c) {x y : α} (e : c x y = 0) (z : α) : (c x z < 0 ↔ c y z < 0) ∧ (0 < c x z ↔ 0 < c y z) := by
  have l := h.level e z
  have a1 := h.anti x z
  have a2 := h.anti y z
  constructor
  · constructor <;> intro g <;> (have := l.2; omega)
  · constructor <;> intro g <;> (have := l.1; omega)
theorem IsCmp.lt_trans (h : IsCmp c) {x y z : α} (h1 : c x y < 0) (h2 : c y z ≤ 0) : c x z < 0 := by
  have h3 := h.trans x y z (by omega) h2
  rcases Int.lt_or_eq_of_le h3 with g | g
  · exact g
  · have := h.level g y
    have a1 := h.anti z y
    have a2 := h.anti x y
    omega
theorem IsCmp.then_ (h : IsCmp c) (g : IsCmp d) : IsCmp fun x y => if c x y = 0 then d x y else c x y where
  anti x y := by
    have := h.anti x y
    have := g.anti x y
    show (if c y x = 0 then d y x else c y x) = -(if c x y = 0 then d x y else c x y)
    split <;> split <;> omega
  trans x y z h1 h2 := by
    replace h1 : (if c x y = 0 then d x y else c x y) ≤ 0 := h1
    replace h2 : (if c y z = 0 then d y z else c y z) ≤ 0 := h2
    show (if c x z = 0 then d x z else c x z) ≤ 0
    by_cases e1 : c x y = 0
    · rw [if_pos e1] at h1
      have l := h.level_neg e1 z
      by_cases e2 : c y z = 0
      · rw [if_pos e2] at h2
        have : c x z = 0 := by omega
        rw [if_pos this]
        exact g.trans _ _ _ h1 h2
      · rw [if_neg e2] at h2
        rw [if_neg (by omega)]
        omega
    · rw [if_neg e1] at h1
      have h2' : c y z ≤ 0 := by split at h2 <;> omega
      have := h.lt_trans (show c x y < 0 by omega) h2'
      rw [if_neg (by omega)]
      omega
theorem IsCmp.on (h : IsCmp c) (f : β → α) : IsCmp fun x y => c (f x) (f y) := ⟨fun x y => h.anti _ _, fun x y z => h.trans _ _ _⟩
theorem lessI_cmp : IsCmp lessI where
  anti x y := by unfold lessI; split <;> (try split) <;> (try split) <;> (try split) <;> omega
  trans x y z := by unfold lessI; split <;> (try split) <;> (try split) <;> (try split) <;> (try split) <;> (try split) <;> omega
/-- Lists, the first that differ deciding; else the shorter one is first. -/
def lexL (c : α → α → Int) : List α → List α → Int
  | [], [] => 0
  | [], _ :: _ => -1
  | _ :: _, [] => 1
  | a :: x, b :: y => if c a b = 0 then lexL c x y else c a b
theorem lexL_cmp (h : IsCmp c) : IsCmp (lexL c) where
  anti x := by
    induction x with
    | nil => intro y; cases y <;> simp [lexL]
    | cons a x ih =>
      intro y
      cases y with
      | nil => simp [lexL]
      | cons b y =>
        have := h.anti a b
        have := ih y
        simp only [lexL]
        split <;> split <;> omega
  trans x := by
    induction x with
    | nil => intro y z h1 h2; cases z <;> simp [lexL]
    | cons a x ih =>
      intro y z h1 h2
      cases y with
      | nil => simp [lexL] at h1
      | cons b y =>
        cases z with
        | nil => simp [lexL] at h2
        | cons e z =>
          simp only [lexL] at h1 h2 ⊢
          by_cases e1 : c a b = 0
          · rw [if_pos e1] at h1
            have l := h.level_neg e1 e
            by_cases e2 : c b e = 0
            · rw [if_pos e2] at h2
              rw [if_pos (by omega)]
              exact ih _ _ h1 h2
            · rw [if_neg e2] at h2
              rw [if_neg (by omega)]
              omega
          · rw [if_neg e1] at h1
            have h2' : c b e ≤ 0 := by split at h2 <;> omega
            have := h.lt_trans (show c a b < 0 by omega) h2'
            rw [if_neg (by omega)]
            omega
end
def byteC (a b : UInt8) : Int := lessI (a.toNat : Int) (b.toNat : Int)
theorem byteC_cmp : IsCmp byteC := lessI_cmp.on fun a : UInt8 => (a.toNat : Int)
theorem cmpL_lex (x y : List UInt8) : cmpL x y = lexL byteC x y := by
  induction x generalizing y with
  | nil => cases y <;> rfl
  | cons a x ih =>
    cases y with
    | nil => rfl
    | cons b y =>
      simp only [cmpL, lexL, ih, byteC, lessI, UInt8.lt_iff_toNat_lt]
      split <;> (try split) <;> (try split) <;> (try split) <;> (try split) <;> first | rfl | omega
theorem cmpL_cmp : IsCmp cmpL := by
  have : cmpL = lexL byteC := by funext x y; exact cmpL_lex x y
  rw [this]
  exact lexL_cmp byteC_cmp
def bI (b : Bool) : Int := if b = true then 1 else 0
/-- Digits first; then what stands beside. -/
theorem rowsP_lex (a b : ByteArray) : rowsP a b = if lessI (bI !(dig (bt a 0))) (bI !(dig (bt b 0))) = 0 then
    (if lessI (if dig (bt a 0) = true then (bareB a).size else 0) (if dig (bt b 0) = true then (bareB b).size else 0) = 0 then
      (if cmpL (if dig (bt a 0) = true then L (bareB a) else L a) (if dig (bt b 0) = true then L (bareB b) else L b) = 0 then lessI (if dig (bt a 0) = true then a.size else 0) (if dig (bt b 0) = true then b.size else 0)
        else cmpL (if dig (bt a 0) = true then L (bareB a) else L a) (if dig (bt b 0) = true then L (bareB b) else L b))
      else lessI (if dig (bt a 0) = true then (bareB a).size else 0) (if dig (bt b 0) = true then (bareB b).size else 0))
    else lessI (bI !(dig (bt a 0))) (bI !(dig (bt b 0))) := by
  unfold rowsP
  cases dig (bt a 0) <;> cases dig (bt b 0) <;> simp [bI, lessI]
theorem rowsP_cmp : IsCmp rowsP := by
  have h := (lessI_cmp.on fun a : ByteArray => bI !(dig (bt a 0))).then_ ((lessI_cmp.on fun a : ByteArray => (if dig (bt a 0) = true then ((bareB a).size : Int) else 0)).then_ ((cmpL_cmp.on fun a : ByteArray => if dig (bt a 0) = true then L (bareB a) else L a).then_ (lessI_cmp.on fun a : ByteArray => (if dig (bt a 0) = true then (a.size : Int) else 0))))
  refine ⟨fun x y => ?_, fun x y z => ?_⟩
  · rw [rowsP_lex, rowsP_lex]
    exact h.anti x y
  · rw [rowsP_lex, rowsP_lex, rowsP_lex]
    exact h.trans x y z
/-- A text's rows. -/
def toks : Nat → ByteArray → List ByteArray
  | 0, _ => []
  | n + 1, a => if a.size = 0 then [] else a.extract 0 (rE a) :: toks n (a.extract (rE a) a.size)
theorem toks_more (n : Nat) : ∀ (m : Nat) (a : ByteArray), a.size ≤ n → n ≤ m → toks m a = toks n a := by
  induction n with
  | zero =>
    intro m a h1 h2
    cases m with
    | zero => rfl
    | succ m => simp only [toks]; rw [if_pos (by omega)]
  | succ n ih =>
    intro m a h1 h2
    obtain ⟨m, rfl⟩ : ∃ q, m = q + 1 := ⟨m - 1, by omega⟩
    rw [toks, toks]
    by_cases h : a.size = 0
    · rw [if_pos h, if_pos h]
    · have := rE_le a (by omega)
      have := tail_size a (rE a)
      rw [if_neg h, if_neg h, ih m _ (by omega) (by omega)]
theorem cmpB_toks (n : Nat) : ∀ (a b : ByteArray), a.size ≤ n → b.size ≤ n → cmpB n a b = lexL rowsP (toks n a) (toks n b) := by
  induction n with
  | zero =>
    intro a b h1 h2
    rw [cmpB, lessI_eq (by omega)]
    rfl
  | succ n ih =>
    intro a b h1 h2
    rw [toks, toks]
    by_cases hA : a.size = 0
    · rw [cmpB_end _ _ _ (.inl hA), if_pos hA]
      by_cases hB : b.size = 0
      · rw [if_pos hB, lessI_eq (by omega)]
        rfl
      · rw [if_neg hB, lessI_lt (by omega)]
        rfl
    · by_cases hB : b.size = 0
      · rw [cmpB_end _ _ _ (.inr hB), if_neg hA, if_pos hB, lessI_gt (by omega)]
        rfl
      · have := rE_le a (by omega)
        have := tail_size a (rE a)
        have := rE_le b (by omega)
        have := tail_size b (rE b)
        rw [cmpB, if_neg (by omega), if_neg hA, if_neg hB, lexL, ih _ _ (by omega) (by omega)]
theorem cmpB_more (n : Nat) : ∀ (m : Nat) (a b : ByteArray), a.size ≤ n → b.size ≤ n → n ≤ m → cmpB m a b = cmpB n a b := fun m a b h1 h2 h3 => by
  rw [cmpB_toks n a b h1 h2, cmpB_toks m a b (by omega) (by omega), toks_more n m a h1 h3, toks_more n m b h2 h3]
theorem cmpW_at (a b : ByteArray) (n : Nat) (h1 : a.size ≤ n) (h2 : b.size ≤ n) : cmpW a b = lexL rowsP (toks n a) (toks n b) := by
  unfold cmpW
  rw [cmpB_toks _ a b (by omega) (by omega)]
  have h3 := toks_more a.size (a.size + b.size) a (Nat.le_refl _) (by omega)
  have h4 := toks_more b.size (a.size + b.size) b (Nat.le_refl _) (by omega)
  rw [h3, h4, ← toks_more a.size n a (Nat.le_refl _) h1, ← toks_more b.size n b (Nat.le_refl _) h2]
theorem cmpW_cmp : IsCmp cmpW where
  anti x y := by
    rw [cmpW_at x y (x.size + y.size) (by omega) (by omega), cmpW_at y x (x.size + y.size) (by omega) (by omega)]
    exact (lexL_cmp rowsP_cmp).anti _ _
  trans x y z := by
    rw [cmpW_at x y (x.size + y.size + z.size) (by omega) (by omega), cmpW_at y z (x.size + y.size + z.size) (by omega) (by omega), cmpW_at x z (x.size + y.size + z.size) (by omega) (by omega)]
    exact (lexL_cmp rowsP_cmp).trans _ _ _
end Go.Proofs.YtgeegimiendcdaaDoor.Wc
