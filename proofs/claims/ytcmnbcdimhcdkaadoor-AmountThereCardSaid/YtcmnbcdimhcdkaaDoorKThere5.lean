/- Lemmas on which the law stands, part 5: PureThere, Laid. -/
import Derived.Test.YtcmnbcdimhcdkaaDoorKThere4
import Derived.Test.YtcmnbcdimhcdkaaDoorKThere2
import Derived.Lib.Strings
import Derived.Test.YtcmnbcdimhcdkaaDoorCards
import Derived.WalkKit
import Derived.ProofKit
set_option linter.unusedVariables false
set_option linter.unusedSimpArgs false
/- AmountThere: plain laws on numbers and texts. -/
namespace Go.Proofs.YtcmnbcdimhcdkaaDoor.PureThere
open Go.RowKit Go.Proofs.YtcmnbcdimhcdkaaDoor Go.Proofs.YtcmnbcdimhcdkaaDoor.QThere Go.Proofs.YtcmnbcdimhcdkaaDoorW.PrintWords
def okA (a : Nat) : Bool := decide (a ≤ 1099511627776)
def readA (l : List UInt8) : Int × Int × Int :=
  match TxP.split l with
  | some (c, m) => if okA (TxP.valFrom 0 c) && okA (TxP.valFrom 0 m) then ((TxP.valFrom 0 c : Int), (TxP.valFrom 0 m : Int), 0) else (0, 0, 13)
  | none => (0, 0, 4)
theorem rA_iff (c m : Int) : rA c m = true ↔ 0 ≤ c ∧ c ≤ 1099511627776 ∧ 0 ≤ m ∧ m ≤ 1099511627776 := by
  simp only [rA, rN, Bool.and_eq_true, decide_eq_true_eq]
  omega
theorem check_one (a b : Int) (h1 : isI a = true) (h2 : isI b = true) : amount_check.f [⟨a, b⟩] = some (if rA a b = true then none else some (wcode a b)) := by
  unfold amount_check.f
  rw [if_pos (by simp)]
  simp only [List.map_cons, List.map_nil, checkO, h1, h2, and_self, if_true]
  split <;> rfl
theorem numV_isI (l : List UInt8) : isI (numV l) = true := by
  rw [isI_iff]
  unfold numV
  split <;> omega
theorem numV_ok (c m : List UInt8) : rA (numV c) (numV m) = (okA (TxP.valFrom 0 c) && okA (TxP.valFrom 0 m)) ∧ (okA (TxP.valFrom 0 c) = true → numV c = (TxP.valFrom 0 c : Int)) ∧ (okA (TxP.valFrom 0 m) = true → numV m = (TxP.valFrom 0 m : Int)) := by
  have key : ∀ l : List UInt8, (okA (TxP.valFrom 0 l) = true → numV l = (TxP.valFrom 0 l : Int)) ∧ (numV l ≤ 1099511627776 ↔ okA (TxP.valFrom 0 l) = true) ∧ 0 ≤ numV l := by
    intro l
    unfold numV okA
    by_cases h : TxP.valFrom 0 l < 9223372036854775808
    · rw [if_pos h, decide_eq_true_iff]
      exact ⟨fun _ => rfl, by omega, by omega⟩
    · rw [if_neg h, decide_eq_true_iff]
      exact ⟨fun h2 => by omega, by omega, by omega⟩
  obtain ⟨a1, a2, a3⟩ := key c
  obtain ⟨b1, b2, b3⟩ := key m
  refine ⟨?_, a1, b1⟩
  rw [Bool.eq_iff_iff, rA_iff, Bool.and_eq_true, ← a2, ← b2]
  constructor
  · rintro ⟨_, h1, _, h2⟩; exact ⟨h1, h2⟩
  · rintro ⟨h1, h2⟩; exact ⟨a3, h1, b3, h2⟩
theorem cut_len (l p : List UInt8) : (Lib.cut l p).1.length ≤ l.length ∧ (Lib.cut l p).2.1.length ≤ l.length := by
  unfold Lib.cut
  split
  · exact ⟨List.length_take_le' _ _, by rw [List.length_drop]; omega⟩
  · exact ⟨Nat.le_refl _, Nat.zero_le _⟩
theorem amtParse (s : ByteArray) (k : Nat) (hsz : s.size ≤ 4000000000) : ∃ e, amount_Parse.f (k + 1) s = some ((readA s.data.toList).1, (readA s.data.toList).2.1, e) ∧ e.isNone = ((readA s.data.toList).2.2 == 0) := by
  have hs := TxP.split_cut s.data.toList
  have hl := cut_len s.data.toList [109, 47]
  have hls := Lib.size_eq s
  have hp : (⟨#[109, 47]⟩ : ByteArray).data.toList = [109, 47] := rfl
  have hq : (⟨#[77, 105]⟩ : ByteArray).data.toList = [77, 105] := rfl
  unfold amount_Parse.f readA
  simp only [strings_Cut.f, cutF, strings_CutSuffix.f, sufF, amount_number.f, numberF, hp, hq]
  generalize Lib.cut s.data.toList [109, 47] = q at hs hl
  obtain ⟨c, m, one⟩ := q
  simp only at hs hl
  rw [if_pos hsz]
  simp only [Option.bind_some]
  have hms : (⟨m.toArray⟩ : ByteArray).size = m.length := rfl
  have hcs : (⟨c.toArray⟩ : ByteArray).size = c.length := rfl
  rw [hms, hcs, if_pos (show m.length ≤ 9223372036854775807 by omega), if_pos (show c.length ≤ 4000000000 by omega)]
  simp only [Option.bind_some]
  have ht := Lib.trimSuffix_le m [77, 105]
  generalize Lib.trimSuffix m [77, 105] = t at hs ht
  have hts : (⟨t.toArray⟩ : ByteArray).size = t.length := rfl
  rw [hts, if_pos (show t.length ≤ 4000000000 by omega)]
  simp only [Option.bind_some]
  by_cases h : (one && Lib.hasSuffix m [77, 105] && TxP.numOK c && TxP.numOK t) = true
  · rw [if_pos h] at hs
    rw [hs]
    simp only [Bool.and_eq_true] at h
    obtain ⟨⟨⟨h1, h2⟩, h3⟩, h4⟩ := h
    simp only [h1, h2, h3, h4, if_true, Bool.not_true]
    simp only [amount_Parse.j0, Bool.false_eq_true, if_false]
    rw [check_one _ _ (numV_isI c) (numV_isI t)]
    simp only [Option.bind_some]
    obtain ⟨k1, k2, k3⟩ := numV_ok c t
    by_cases ho : (okA (TxP.valFrom 0 c) && okA (TxP.valFrom 0 t)) = true
    · rw [k1, ho]
      have ho' := ho
      rw [Bool.and_eq_true] at ho'
      simp only [ho, if_true, Option.isNone_none, k2 ho'.1, k3 ho'.2]
      exact ⟨none, rfl, rfl⟩
    · have ho' : (okA (TxP.valFrom 0 c) && okA (TxP.valFrom 0 t)) = false := by simpa using ho
      rw [k1, ho']
      simp only [Bool.false_eq_true, if_false, Option.isNone_some, Option.getD_some]
      exact ⟨_, rfl, rfl⟩
  · rw [if_neg h] at hs
    rw [hs]
    refine ⟨some 4, ?_, rfl⟩
    have hj : ∀ x y : Int, amount_Parse.j0 (k + 1) x y true = some (0, 0, some 4) := fun x y => by simp [amount_Parse.j0]
    simp only [Bool.and_eq_true, not_and] at h
    split
    next h1 =>
      split
      next h2 =>
        split
        next h3 =>
          have h4 : TxP.numOK t = false := by
            rw [Bool.eq_false_iff]
            exact h ⟨⟨h1, h2⟩, h3⟩
          rw [h4]
          exact hj _ _
        next => exact hj _ _
      next => exact hj _ _
    next => exact hj _ _
theorem dec_len : ∀ (k u : Nat), u < 10 ^ k → 0 < k → (Lib.decDigits u).length ≤ k
  | 0, u, _, h => by omega
  | k + 1, u, hu, _ => by
    by_cases h : u < 10
    · rw [Lib.decDigits, dif_pos h]; simp
    · rw [Lib.decDigits, dif_neg h, List.length_append]
      have hk : 0 < k := by
        cases k with
        | zero => simp at hu; omega
        | succ k => omega
      have := dec_len k (u / 10) (by rw [Nat.pow_succ] at hu; omega) hk
      simp
      omega
def textA (a b : Nat) : ByteArray := ((⟨(Lib.decDigits a).toArray⟩ : ByteArray) ++ ⟨#[109, 47]⟩) ++ ⟨(Lib.decDigits b).toArray⟩ ++ ⟨#[77, 105]⟩
theorem dec_size (a : Nat) (h : a ≤ 1099511627776) : (⟨(Lib.decDigits a).toArray⟩ : ByteArray).size ≤ 20 := by
  have : (10 : Nat) ^ 20 = 100000000000000000000 := by decide
  exact dec_len 20 a (by omega) (by decide)
theorem itoa_nat (a : Nat) (h : a ≤ 1099511627776) : strconv_Itoa.f (a : Int) = some ⟨(Lib.decDigits a).toArray⟩ := by
  unfold strconv_Itoa.f itoaF
  rw [if_pos ((isI_iff _).2 (by omega))]
  unfold Lib.itoa
  rw [if_neg (by omega), Int.toNat_natCast]
theorem amtPrint (a b : Nat) (ha : a ≤ 1099511627776) (hb : b ≤ 1099511627776) : amount_Print.f (a : Int) (b : Int) = some (textA a b, none) := by
  have s1 := dec_size a ha
  have s2 := dec_size b hb
  unfold amount_Print.f
  rw [check_one _ _ ((isI_iff _).2 (by omega)) ((isI_iff _).2 (by omega)), if_pos ((rA_iff _ _).2 (by omega)), itoa_nat a ha, itoa_nat b hb]
  simp only [Option.bind_some, Option.isNone_none, if_true]
  rw [if_pos (by omega), if_pos (by simp only [ByteArray.size_append]; have : (⟨#[109, 47]⟩ : ByteArray).size = 2 := rfl; omega), if_pos (by simp only [ByteArray.size_append]; have : (⟨#[109, 47]⟩ : ByteArray).size = 2 := rfl; omega)]
  rfl
theorem made_ok (a b c d e f : Int) (h : (rA a b && rA c d && rA e f) = true) : madeF a b c d e f = some (e, f, none) := by
  unfold madeF
  rw [if_pos h]
theorem add_ok (a b c d : Int) (h1 : rA a b = true) (h2 : rA c d = true) (h3 : rA (a + c) (b + d) = true) : amount_Add.f a b c d = some (a + c, b + d, none) := by
  have k1 := (rA_iff _ _).1 h1
  have k2 := (rA_iff _ _).1 h2
  have e1 : wrap64 (a + c) = a + c := by unfold wrap64; omega
  have e2 : wrap64 (b + d) = b + d := by unfold wrap64; omega
  unfold amount_Add.f amount_made.f
  rw [e1, e2, made_ok _ _ _ _ _ _ (by simp [h1, h2, h3])]
  rfl
theorem Right_a (c m : Int) : amount_Right.f c m = some (rA c m) := by
  unfold amount_Right.f rA rN
  split <;> (try split) <;> (try split) <;> simp_all <;> omega
theorem print_w : amount_Print.f 1500 64 = some ((⟨#[49, 53, 48, 48, 109, 47, 54, 52, 77, 105]⟩ : ByteArray), none) := by kernel_rfl
theorem works : flotillalaw03_works.f = some true := by
  unfold flotillalaw03_works.f flotillalaw03_of.f
  simp only [Option.bind_some, print_w, Right_a, add_ok 1500 64 500 64 rfl rfl rfl, Go.Lib.toList_data]
  rfl
theorem textA_list (a b : Nat) : (textA a b).data.toList = Lib.decDigits a ++ 109 :: 47 :: (Lib.decDigits b ++ [77, 105]) := by
  unfold textA
  simp only [ByteArray.data_append, Array.toList_append]
  simp
theorem readA_text (a b : Nat) (ha : a ≤ 1099511627776) (hb : b ≤ 1099511627776) : readA (textA a b).data.toList = ((a : Int), (b : Int), 0) := by
  have h : TxP.split (textA a b).data.toList = some (Lib.decDigits a, Lib.decDigits b) := TxP.split_some.2 ⟨textA_list a b, TxP.dec_ok a, TxP.dec_ok b⟩
  unfold readA
  rw [h]
  simp only [TxP.dec_val]
  rw [if_pos (by simp [okA, ha, hb])]
theorem tail (s : ByteArray) (k : Nat) (hsz : s.size ≤ 4000000000) : ((amount_Parse.f (k + 1) s).bind fun bt164 => (if bt164.2.2.isNone = true then ((amount_Print.f bt164.1 bt164.2.1).bind fun bt169 => (if bt169.2.isNone = true then (some (bt169.1.toList == s.toList)) else (some false))) else (some (bt164.1 == 0 && (bt164.2.1 == 0))))) = some true := by
  obtain ⟨e, h1, h2⟩ := amtParse s k hsz
  rw [h1]
  simp only [Option.bind_some]
  rw [h2]
  unfold readA
  cases hs : TxP.split s.data.toList with
  | none => rfl
  | some p =>
    obtain ⟨c, m⟩ := p
    simp only
    by_cases ho : (okA (TxP.valFrom 0 c) && okA (TxP.valFrom 0 m)) = true
    · simp only [ho, if_true]
      rw [Bool.and_eq_true] at ho
      have hc : TxP.valFrom 0 c ≤ 1099511627776 := of_decide_eq_true ho.1
      have hm : TxP.valFrom 0 m ≤ 1099511627776 := of_decide_eq_true ho.2
      obtain ⟨hl, k1, k2⟩ := TxP.split_some.1 hs
      rw [amtPrint _ _ hc hm]
      have e : (textA (TxP.valFrom 0 c) (TxP.valFrom 0 m)).toList = s.toList := by
        rw [Lib.toList_data, Lib.toList_data, textA_list, TxP.dec_of _ c rfl k1, TxP.dec_of _ m rfl k2, ← hl]
      simp [e]
    · have ho' : (okA (TxP.valFrom 0 c) && okA (TxP.valFrom 0 m)) = false := by simpa using ho
      simp [ho']
theorem there (a b : Int) (s : ByteArray) (h1 : isI a = true) (h2 : isI b = true) : flotillalaw03_AmountThere.f 2 a b s = some true := by
  unfold flotillalaw03_AmountThere.f
  rw [works]
  simp only [Option.bind_some, if_true]
  by_cases hs : (s.size : Int) > 65536
  · rw [if_pos hs]
  · rw [if_neg hs]
    by_cases hr : rA a b = true
    · have hr' := (rA_iff a b).1 hr
      obtain ⟨n, rfl⟩ : ∃ n : Nat, a = (n : Int) := ⟨a.toNat, by omega⟩
      obtain ⟨m, rfl⟩ : ∃ n : Nat, b = (n : Int) := ⟨b.toNat, by omega⟩
      have hn : n ≤ 1099511627776 := by omega
      have hm : m ≤ 1099511627776 := by omega
      rw [amtPrint n m hn hm]
      simp only [Option.bind_some, Option.isNone_none, if_true, Right_a, hr]
      obtain ⟨e, e1, e2⟩ := amtParse (textA n m) 1 (by
        have s1 := dec_size n hn
        have s2 := dec_size m hm
        unfold textA
        simp only [ByteArray.size_append]
        have : (⟨#[109, 47]⟩ : ByteArray).size = 2 := rfl
        have : (⟨#[77, 105]⟩ : ByteArray).size = 2 := rfl
        omega)
      rw [readA_text n m hn hm] at e1 e2
      rw [show (1 + 1 : Nat) = 2 from rfl] at e1
      rw [e1]
      have e3 : e.isNone = true := e2
      simp only [Option.bind_some, e3, bne_self_eq_false, Bool.false_eq_true, if_false, if_true, beq_self_eq_true, Bool.not_true, Bool.or_self]
      exact tail s 1 (by omega)
    · have hr' : rA a b = false := by simpa using hr
      have hp : amount_Print.f a b = some (⟨#[]⟩, some (wcode a b)) := by
        unfold amount_Print.f
        rw [check_one _ _ h1 h2, if_neg hr]
        simp
      rw [hp]
      simp only [Option.bind_some, Option.isNone_some, Bool.false_eq_true, if_false, Right_a, hr', bne_self_eq_false]
      exact tail s 1 (by omega)
end Go.Proofs.YtcmnbcdimhcdkaaDoor.PureThere

/- A start for the witness: the settled world, some variables' cells laid as the row says. -/
namespace Go.Proofs.YtcmnbcdimhcdkaaDoor
def flat1 : DataW Unit → List Value
  | .lit (.int k n) => [.int k n]
  | _ => []
def flat2 : DataW Unit → List Value
  | .agg l => l.flatMap fun
    | .agg m => m.flatMap flat1
    | x => flat1 x
  | x => flat1 x
def handleCell (h t : Nat) : List Value := [.iface h (.agg #[.pointer (some ⟨8, t, none⟩)])]
def layAt (heap : Array Obj) (x : Nat × List Value) : Array Obj := heap.modify x.1 fun
  | .cells _ t frozen => .cells x.2.toArray t frozen
  | o => o
noncomputable def laidWith (l : List (Nat × List Value)) (os : Os) : World :=
  { World.holding Tryd.prog os ⟨#[], #[], []⟩ with heap := l.foldl layAt (World.holding Tryd.prog os ⟨#[], #[], []⟩).heap }
end Go.Proofs.YtcmnbcdimhcdkaaDoor
