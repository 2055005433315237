/- Lemmas on which the law stands, part 5: PureTexts, Laid. -/
import Derived.Test.YtcmnbcdimhcdkaaGreatDoorKTexts4
import Derived.Test.YtcmnbcdimhcdkaaGreatDoorKTexts2
import Derived.Lib.Strings
import Derived.Test.YtcmnbcdimhcdkaaGreatDoorCards
import Derived.WalkKit
import Derived.ProofKit
set_option linter.unusedVariables false
set_option linter.unusedSimpArgs false
/- AmountTexts: plain laws on numbers and texts. -/
namespace Go.Proofs.YtcmnbcdimhcdkaaGreatDoor.PureTexts
open Go.RowKit Go.Proofs.YtcmnbcdimhcdkaaGreatDoor Go.Proofs.YtcmnbcdimhcdkaaGreatDoor.QTxt Go.Proofs.YtcmnbcdimhcdkaaGreatDoorW.PrintWords Go.Proofs.YtcmnbcdimhcdkaaGreatDoorW.PrintMore
theorem bext {s t : ByteArray} (h : s.data.toList = t.data.toList) : s = t := by
  obtain ⟨⟨a⟩⟩ := s
  obtain ⟨⟨b⟩⟩ := t
  simp at h
  rw [h]
theorem take_all : ∀ (l : List UInt8), (∀ b ∈ l, TxP.isD b = true) → l.takeWhile TxP.isD = l
  | [], _ => rfl
  | a :: l, h => by rw [List.takeWhile_cons, if_pos (h a (List.mem_cons_self ..)), take_all l (fun b hb => h b (List.mem_cons_of_mem _ hb))]
theorem bt_list {s : ByteArray} {i : Nat} {b : UInt8} (h : s.data.toList[i]? = some b) : bt s (i : Int) = (b.toNat : Int) := by
  obtain ⟨⟨l⟩⟩ := s
  have hi : i < l.length := by
    have := (List.getElem?_eq_some_iff.1 h).1
    simpa using this
  have hs : i < (⟨l.toArray⟩ : ByteArray).size := hi
  have hb : l[i]'hi = b := by
    have := (List.getElem?_eq_some_iff.1 h).2
    simpa using this
  unfold bt
  simp only [Int.toNat_natCast]
  rw [dif_pos hs]
  congr 2
theorem extract_list (s : ByteArray) (i : Nat) : (s.extract i s.size).data.toList = s.data.toList.drop i := by
  rw [← Lib.toList_data, Lib.extract_toList]
  apply List.take_of_length_le
  rw [List.length_drop, ← Lib.size_eq]
  exact Nat.le_refl _
def okR (s : ByteArray) (i : Nat) : Bool := if i = 1 then true else if i > 1 then bt s 0 != 48 else false
theorem tail_some {s : ByteArray} {i : Nat} (n : Int) (hi : i ≤ s.size) :
    (if (i : Int) ≤ (s.size : Int) then (if (i : Int) = 1 then (some (n, s.extract ((i : Int)).toNat s.size, true)) else (if (i : Int) > 1 then (if 0 < (s.size : Int) then (some (n, s.extract ((i : Int)).toNat s.size, ((bt s 0) != 48))) else (none)) else (some (n, s.extract ((i : Int)).toNat s.size, false)))) else (none : Option (Int × ByteArray × Bool)))
      = some (n, s.extract i s.size, okR s i) := by
  rw [if_pos (by omega)]
  unfold okR
  rw [Int.toNat_natCast]
  by_cases h1 : i = 1
  · rw [if_pos (by omega), if_pos h1]
  · rw [if_neg (by omega), if_neg h1]
    by_cases h2 : i > 1
    · rw [if_pos (by omega), if_pos h2, if_pos (by omega)]
    · rw [if_neg (by omega), if_neg h2]
theorem okR_pre (s : ByteArray) : okR s (s.data.toList.takeWhile TxP.isD).length = TxP.numOK (s.data.toList.takeWhile TxP.isD) := by
  have hall : ∀ b ∈ s.data.toList.takeWhile TxP.isD, TxP.isD b = true := List.all_eq_true.1 List.all_takeWhile
  generalize hp : s.data.toList.takeWhile TxP.isD = p at hall ⊢
  rw [Bool.eq_iff_iff, TxP.numOK_iff]
  unfold okR
  cases p with
  | nil => simp
  | cons b r =>
    have h0 : s.data.toList[0]? = some b := by
      cases hs : s.data.toList with
      | nil => rw [hs] at hp; cases hp
      | cons c l =>
        rw [hs, List.takeWhile_cons] at hp
        split at hp
        · injection hp with hp _
          rw [hp]; rfl
        · cases hp
    have hb := bt_list h0
    have hb' : bt s 0 = (b.toNat : Int) := hb
    by_cases h1 : (b :: r).length = 1
    · rw [if_pos h1]
      exact ⟨fun _ => ⟨hall, by simp, Or.inl h1⟩, fun _ => rfl⟩
    · have h2 : (b :: r).length > 1 := by simp at h1 ⊢; cases r with
        | nil => simp at h1
        | cons c r => simp
      rw [if_neg h1, if_pos h2, hb']
      simp only [bne_iff_ne, ne_eq]
      constructor
      · intro h
        refine ⟨hall, by simp, Or.inr ?_⟩
        intro e
        apply h
        have e' : b = 48 := by simpa using e
        rw [e']; rfl
      · rintro ⟨_, _, h⟩ e
        rcases h with h | h
        · exact h1 h
        · apply h
          rw [List.head?_cons]
          congr 1
          exact UInt8.toNat_inj.1 (by have : b.toNat = 48 := by omega
                                      rw [this]; rfl)
theorem mn_step (v d : Nat) (hd : d ≤ 9) : mn (wrap64 ((wrap64 (((min v 1099511627777 : Nat) : Int) * 10)) + (d : Int))) 1099511627777 = ((min (v * 10 + d) 1099511627777 : Nat) : Int) := by
  have hm : min v 1099511627777 ≤ 1099511627777 := Nat.min_le_right _ _
  have hv : (min v 1099511627777 = v ∧ v ≤ 1099511627777) ∨ (min v 1099511627777 = 1099511627777 ∧ 1099511627777 < v) := by omega
  generalize min v 1099511627777 = m at hm hv
  have e1 : wrap64 ((m : Int) * 10) = (m : Int) * 10 := by unfold wrap64; omega
  have e2 : wrap64 ((m : Int) * 10 + (d : Int)) = (m : Int) * 10 + (d : Int) := by unfold wrap64; omega
  rw [e1, e2]
  unfold mn
  rcases hv with ⟨rfl, h⟩ | ⟨rfl, h⟩
  · by_cases h2 : (1099511627777 : Int) < (m : Int) * 10 + (d : Int)
    · rw [if_pos h2, Nat.min_eq_right (by omega)]; rfl
    · rw [if_neg h2, Nat.min_eq_left (by omega)]; omega
  · rw [if_pos (by omega), Nat.min_eq_right (by omega)]; rfl
theorem number_l (s : ByteArray) : ∀ (k i : Nat), i ≤ s.data.toList.length → (∀ b ∈ s.data.toList.take i, TxP.isD b = true) → s.data.toList.length - i < k → s.size ≤ 9000000000000000000 →
    flotillaref03_number.l0 k s (i : Int) ((min (TxP.valFrom 0 (s.data.toList.take i)) 1099511627777 : Nat) : Int) = some (((min (TxP.valFrom 0 (s.data.toList.takeWhile TxP.isD)) 1099511627777 : Nat) : Int), s.extract (s.data.toList.takeWhile TxP.isD).length s.size, TxP.numOK (s.data.toList.takeWhile TxP.isD)) := by
  intro k
  induction k with
  | zero => intro i _ _ h; omega
  | succ k ih =>
    intro i hi hd hk hsz
    have hls := Lib.size_eq s
    unfold flotillaref03_number.l0
    by_cases hlt : i < s.data.toList.length
    · obtain ⟨b, hb⟩ : ∃ b, s.data.toList[i]? = some b := ⟨_, List.getElem?_eq_getElem hlt⟩
      have hbt := bt_list hb
      rw [if_pos (by omega), if_pos (by omega), hbt]
      have htk : s.data.toList.take (i + 1) = s.data.toList.take i ++ [b] := by rw [List.take_add_one, hb]; rfl
      have hsplit : s.data.toList = s.data.toList.take i ++ b :: s.data.toList.drop (i + 1) := by
        conv => lhs; rw [← List.take_append_drop (i + 1) s.data.toList, htk]
        simp
      by_cases hD : TxP.isD b = true
      · have hD' : 48 ≤ b.toNat ∧ b.toNat ≤ 57 := by simpa [TxP.isD] using hD
        rw [if_pos (by omega), if_pos (by omega)]
        have hv : TxP.valFrom 0 (s.data.toList.take (i + 1)) = TxP.valFrom 0 (s.data.toList.take i) * 10 + (b.toNat - 48) := by rw [htk, TxP.valFrom_append]; rfl
        have hst := ih (i + 1) (by omega) (by
          intro c hc
          rw [htk] at hc
          rcases List.mem_append.1 hc with hc | hc
          · exact hd c hc
          · rw [List.mem_singleton.1 hc]; exact hD) (by omega) hsz
        rw [hv] at hst
        rw [← hst]
        generalize TxP.valFrom 0 (s.data.toList.take i) = v
        congr 1
        · unfold wrap64; omega
        · have e : ((b.toNat : Int) - 48) % 256 = ((b.toNat - 48 : Nat) : Int) := by omega
          rw [e, mn_step v (b.toNat - 48) (by omega)]
      · have hpre : s.data.toList.takeWhile TxP.isD = s.data.toList.take i := by
          conv => lhs; rw [hsplit]
          exact (TxP.take_digits hd (by simpa using hD)).1
        have hlen : (s.data.toList.take i).length = i := by rw [List.length_take]; omega
        have hok := okR_pre s
        rw [hpre, hlen] at hok
        rw [hpre, hlen, ← hok]
        have hD' : ¬ (48 ≤ b.toNat ∧ b.toNat ≤ 57) := by simpa [TxP.isD] using hD
        by_cases h48 : (b.toNat : Int) ≥ 48
        · rw [if_pos h48, if_neg (by omega)]
          exact tail_some _ (by omega)
        · rw [if_neg h48]
          exact tail_some _ (by omega)
    · have hpre : s.data.toList.takeWhile TxP.isD = s.data.toList := by
        have e : s.data.toList.take i = s.data.toList := List.take_of_length_le (by omega)
        rw [e] at hd
        exact take_all _ hd
      have e : s.data.toList.take i = s.data.toList := List.take_of_length_le (by omega)
      have hil : s.data.toList.length = i := by omega
      have hok := okR_pre s
      rw [hpre, hil] at hok
      rw [if_neg (by omega), if_pos (by omega), hpre, hil, ← hok, e]
      exact tail_some _ (by omega)
theorem drop_pre (l : List UInt8) : l.drop (l.takeWhile TxP.isD).length = l.dropWhile TxP.isD := by
  conv => lhs; rw [← List.takeWhile_append_dropWhile (p := TxP.isD) (l := l)]
  rw [List.takeWhile_append_dropWhile]
  have := List.takeWhile_append_dropWhile (p := TxP.isD) (l := l)
  generalize l.takeWhile TxP.isD = a at *
  generalize l.dropWhile TxP.isD = b at *
  rw [← this]
  simp
theorem number_f (s : ByteArray) (k : Nat) (hk : s.size < k) (hsz : s.size ≤ 9000000000000000000) : flotillaref03_number.f k s = some (((min (TxP.valFrom 0 (s.data.toList.takeWhile TxP.isD)) 1099511627777 : Nat) : Int), ⟨(s.data.toList.dropWhile TxP.isD).toArray⟩, TxP.numOK (s.data.toList.takeWhile TxP.isD)) := by
  unfold flotillaref03_number.f
  have h := number_l s k 0 (Nat.zero_le _) (by simp) (by rw [← Lib.size_eq]; omega) hsz
  have e0 : ((min (TxP.valFrom 0 (s.data.toList.take 0)) 1099511627777 : Nat) : Int) = 0 := by simp [TxP.valFrom]
  rw [e0] at h
  rw [show (0 : Int) = ((0 : Nat) : Int) from rfl, show ((0 : Nat) : Int) = 0 from rfl]
  refine Eq.trans h ?_
  congr 3
  apply bext
  rw [extract_list, drop_pre]
theorem rcut_list (r : List UInt8) : rcutF ⟨r.toArray⟩ ⟨#[109, 47]⟩ = some (match r with | 109 :: 47 :: x => ((⟨x.toArray⟩ : ByteArray), true) | _ => (⟨#[]⟩, false)) := by
  have hsz : (⟨r.toArray⟩ : ByteArray).size = r.length := rfl
  have hps : (⟨#[109, 47]⟩ : ByteArray).size = 2 := rfl
  have hex : ((⟨r.toArray⟩ : ByteArray).extract 0 2).toList = r.take 2 := by rw [Lib.extract_toList]; simp
  unfold rcutF
  rw [hsz, hps, hex, Lib.toList_data]
  match r with
  | [] => simp
  | [a] => simp
  | a :: b :: x =>
    rw [if_neg (by simp)]
    by_cases h : a = 109 ∧ b = 47
    · obtain ⟨rfl, rfl⟩ := h
      rw [if_pos (by rfl)]
      simp only
      congr 2
      apply bext
      have := extract_list (⟨(109 :: 47 :: x).toArray⟩ : ByteArray) 2
      rw [hsz] at this
      rw [this]
      rfl
    · rw [if_neg (by
        intro e
        have : [a, b] = [109, 47] := e
        injection this with h1 h2
        injection h2 with h2 _
        exact h ⟨h1, h2⟩)]
      split
      next he =>
        injection he with h1 h2
        injection h2 with h2 _
        exact absurd ⟨h1, h2⟩ h
      next => rfl
def okA (a : Nat) : Bool := decide (a ≤ 1099511627776)
theorem refMade (a b : Nat) : flotillaref03_made.f (a : Int) (b : Int) true = some (if okA a && okA b then ((a : Int), (b : Int), 0) else (0, 0, 13)) := by
  unfold flotillaref03_made.f flotillaref03_Right.f flotillaref03_right.f okA
  rw [if_pos rfl, if_pos (by omega), if_pos (by omega)]
  by_cases h1 : a ≤ 1099511627776
  · by_cases h2 : b ≤ 1099511627776
    · simp [h1, h2, show (a : Int) ≤ 1099511627776 by omega, show (b : Int) ≤ 1099511627776 by omega]
    · simp [h1, h2, show (a : Int) ≤ 1099511627776 by omega, show ¬ (b : Int) ≤ 1099511627776 by omega]
  · simp [h1, show ¬ (a : Int) ≤ 1099511627776 by omega]
def readA (l : List UInt8) : Int × Int × Int :=
  match TxP.split l with
  | some (c, m) => if okA (TxP.valFrom 0 c) && okA (TxP.valFrom 0 m) then ((TxP.valFrom 0 c : Int), (TxP.valFrom 0 m : Int), 0) else (0, 0, 13)
  | none => (0, 0, 4)
theorem okA_min (a : Nat) : okA (min a 1099511627777) = okA a := by
  unfold okA
  rw [decide_eq_decide]
  omega
theorem min_ok {a : Nat} (h : okA a = true) : min a 1099511627777 = a := by
  unfold okA at h
  have := of_decide_eq_true h
  omega
theorem refParse (s : ByteArray) (k : Nat) (hk : s.size < k) (hsz : s.size ≤ 4000000000) : flotillaref03_Parse.f k s = some (readA s.data.toList) := by
  unfold flotillaref03_Parse.f
  rw [number_f s k hk (by omega)]
  simp only [Option.bind_some, flotillaref03_cut.f]
  rw [rcut_list]
  generalize hl : s.data.toList = l
  have hls : l.length = s.size := by rw [← hl, ← Lib.size_eq]
  have hdl : (l.dropWhile TxP.isD).length ≤ l.length := (List.dropWhile_sublist _).length_le
  unfold readA TxP.split
  generalize hr : l.dropWhile TxP.isD = r at hdl
  simp only [Option.bind_some]
  split
  next x =>
    have hx : x.length + 2 ≤ l.length := by simpa using hdl
    have hxs : (⟨x.toArray⟩ : ByteArray).size = x.length := rfl
    rw [number_f ⟨x.toArray⟩ k (by rw [hxs]; omega) (by rw [hxs]; omega)]
    simp only [Option.bind_some, if_true]
    have e1 : (⟨(x.dropWhile TxP.isD).toArray⟩ : ByteArray).toList = x.dropWhile TxP.isD := by rw [Lib.toList_data]
    rw [e1]
    by_cases h1 : TxP.numOK (l.takeWhile TxP.isD) = true
    · by_cases h2 : TxP.numOK (x.takeWhile TxP.isD) = true
      · by_cases h3 : x.dropWhile TxP.isD = [77, 105]
        · simp only [h1, h2, h3, if_true, and_self, refMade, Option.bind_some, okA_min]
          by_cases h4 : (okA (TxP.valFrom 0 (l.takeWhile TxP.isD)) && okA (TxP.valFrom 0 (x.takeWhile TxP.isD))) = true
          · have h5 := h4
            rw [Bool.and_eq_true] at h5
            simp only [h4, if_true, min_ok h5.1, min_ok h5.2]
          · simp only [h4, Bool.false_eq_true, if_false]
        · simp [h1, h2, h3]
      · simp [h1, h2]
    · simp [h1]
  next hno =>
    rw [number_f ⟨#[]⟩ k (by show 0 < k; omega) (by decide)]
    simp only [Option.bind_some, Bool.false_eq_true, if_false, ite_self]
theorem rA_iff (c m : Int) : rA c m = true ↔ 0 ≤ c ∧ c ≤ 1099511627776 ∧ 0 ≤ m ∧ m ≤ 1099511627776 := by
  simp only [rA, rN, Bool.and_eq_true, decide_eq_true_eq]
  omega
theorem plain_bad (c m : Int) (hc : isI c = true) (hm : isI m = true) : plainF (some (wcode c m)) 13 = some true := by
  have hb := wcode_big c m hc hm
  rw [isI_iff] at hc hm
  have h1 : 1 ≤ wcode c m := by unfold wcode bigI bigJ; omega
  have hg : goodC (wcode c m) = true := by
    simp only [goodC, Bool.and_eq_true, Bool.or_eq_true, decide_eq_true_eq]
    exact ⟨h1, .inr (Int.not_lt.1 hb)⟩
  have hn : codeNo (wcode c m) = 13 := by
    unfold codeNo
    rw [if_neg hb]
  simp only [plainF, hg, if_true, hn]
  rfl
theorem check_one (a b : Int) (h1 : isI a = true) (h2 : isI b = true) : amount_check.f [⟨a, b⟩] = some (if rA a b = true then none else some (wcode a b)) := by
  unfold amount_check.f
  rw [if_pos (by simp)]
  simp only [List.map_cons, List.map_nil, checkO, h1, h2, and_self, if_true]
  split <;> rfl
theorem numV_isI (l : List UInt8) : isI (numV l) = true := by
  rw [isI_iff]
  unfold numV
  split <;> omega
theorem numV_ok (c m : List UInt8) : rA (numV c) (numV m) = (okA (TxP.valFrom 0 c) && okA (TxP.valFrom 0 m)) ∧ (okA (TxP.valFrom 0 c) = true → numV c = (TxP.valFrom 0 c : Int)) ∧ (okA (TxP.valFrom 0 m) = true → numV m = (TxP.valFrom 0 m : Int)) := by
  have key : ∀ l : List UInt8, (okA (TxP.valFrom 0 l) = true → numV l = (TxP.valFrom 0 l : Int)) ∧ (numV l ≤ 1099511627776 ↔ okA (TxP.valFrom 0 l) = true) ∧ 0 ≤ numV l := by
    intro l
    unfold numV okA
    by_cases h : TxP.valFrom 0 l < 9223372036854775808
    · rw [if_pos h, decide_eq_true_iff]
      exact ⟨fun _ => rfl, by omega, by omega⟩
    · rw [if_neg h, decide_eq_true_iff]
      exact ⟨fun h2 => by omega, by omega, by omega⟩
  obtain ⟨a1, a2, a3⟩ := key c
  obtain ⟨b1, b2, b3⟩ := key m
  refine ⟨?_, a1, b1⟩
  rw [Bool.eq_iff_iff, rA_iff, Bool.and_eq_true, ← a2, ← b2]
  constructor
  · rintro ⟨_, h1, _, h2⟩; exact ⟨h1, h2⟩
  · rintro ⟨h1, h2⟩; exact ⟨a3, h1, b3, h2⟩
theorem cut_len (l p : List UInt8) : (Lib.cut l p).1.length ≤ l.length ∧ (Lib.cut l p).2.1.length ≤ l.length := by
  unfold Lib.cut
  split
  · exact ⟨List.length_take_le' _ _, by rw [List.length_drop]; omega⟩
  · exact ⟨Nat.le_refl _, Nat.zero_le _⟩
theorem amtParse (s : ByteArray) (k : Nat) (hsz : s.size ≤ 4000000000) : ∃ e, amount_Parse.f (k + 1) s = some ((readA s.data.toList).1, (readA s.data.toList).2.1, e) ∧ plainF e (readA s.data.toList).2.2 = some true := by
  have hs := TxP.split_cut s.data.toList
  have hl := cut_len s.data.toList [109, 47]
  have hls := Lib.size_eq s
  have hp : (⟨#[109, 47]⟩ : ByteArray).data.toList = [109, 47] := rfl
  have hq : (⟨#[77, 105]⟩ : ByteArray).data.toList = [77, 105] := rfl
  unfold amount_Parse.f readA
  simp only [strings_Cut.f, cutF, strings_CutSuffix.f, sufF, amount_number.f, numberF, hp, hq]
  generalize Lib.cut s.data.toList [109, 47] = q at hs hl
  obtain ⟨c, m, one⟩ := q
  simp only at hs hl
  rw [if_pos hsz]
  simp only [Option.bind_some]
  have hms : (⟨m.toArray⟩ : ByteArray).size = m.length := rfl
  have hcs : (⟨c.toArray⟩ : ByteArray).size = c.length := rfl
  rw [hms, hcs, if_pos (show m.length ≤ 9223372036854775807 by omega), if_pos (show c.length ≤ 4000000000 by omega)]
  simp only [Option.bind_some]
  have ht := Lib.trimSuffix_le m [77, 105]
  generalize Lib.trimSuffix m [77, 105] = t at hs ht
  have hts : (⟨t.toArray⟩ : ByteArray).size = t.length := rfl
  rw [hts, if_pos (show t.length ≤ 4000000000 by omega)]
  simp only [Option.bind_some]
  by_cases h : (one && Lib.hasSuffix m [77, 105] && TxP.numOK c && TxP.numOK t) = true
  · rw [if_pos h] at hs
    rw [hs]
    simp only [Bool.and_eq_true] at h
    obtain ⟨⟨⟨h1, h2⟩, h3⟩, h4⟩ := h
    simp only [h1, h2, h3, h4, if_true, Bool.not_true]
    simp only [amount_Parse.j0, Bool.false_eq_true, if_false]
    rw [check_one _ _ (numV_isI c) (numV_isI t)]
    simp only [Option.bind_some]
    obtain ⟨k1, k2, k3⟩ := numV_ok c t
    by_cases ho : (okA (TxP.valFrom 0 c) && okA (TxP.valFrom 0 t)) = true
    · rw [k1, ho]
      have ho' := ho
      rw [Bool.and_eq_true] at ho'
      simp only [ho, if_true, Option.isNone_none, k2 ho'.1, k3 ho'.2]
      exact ⟨none, rfl, rfl⟩
    · have ho' : (okA (TxP.valFrom 0 c) && okA (TxP.valFrom 0 t)) = false := by simpa using ho
      rw [k1, ho']
      simp only [Bool.false_eq_true, if_false, Option.isNone_some, Option.getD_some]
      exact ⟨_, rfl, plain_bad _ _ (numV_isI c) (numV_isI t)⟩
  · rw [if_neg h] at hs
    rw [hs]
    have h4 : plainF (some 4) 4 = some true := by kernel_rfl
    refine ⟨some 4, ?_, h4⟩
    have hj : ∀ x y : Int, amount_Parse.j0 (k + 1) x y true = some (0, 0, some 4) := fun x y => by simp [amount_Parse.j0]
    simp only [Bool.and_eq_true, not_and] at h
    split
    next h1 =>
      split
      next h2 =>
        split
        next h3 =>
          have h4 : TxP.numOK t = false := by
            rw [Bool.eq_false_iff]
            exact h ⟨⟨h1, h2⟩, h3⟩
          rw [h4]
          exact hj _ _
        next => exact hj _ _
      next => exact hj _ _
    next => exact hj _ _
theorem wrap_id (q : Nat) (h : q ≤ 9000000000000000000) : wrap64 (q : Int) = (q : Int) := by unfold wrap64; omega
theorem wrap_dig (d : Nat) (h : d < 10) : (wrap64 (48 + (d : Int))) % 256 = ((48 + d : Nat) : Int) := by
  have e : wrap64 (48 + (d : Int)) = ((48 + d : Nat) : Int) := wrap_id (48 + d) (by omega)
  rw [e]
  omega
theorem digits_l : ∀ (k i n : Nat) (acc : ByteArray), i ≤ 20 → n < 10 ^ (20 - i) → n ≤ 9000000000000000000 → 20 - i < k → acc.size ≤ i →
    flotillaref01_Digits.l0 k (n : Int) acc (i : Int) = some ⟨((if i = 0 ∨ 0 < n then Lib.decDigits n else []) ++ acc.data.toList).toArray⟩ := by
  intro k
  induction k with
  | zero => intro i n acc _ _ _ h; omega
  | succ k ih =>
    intro i n acc hi hn hn9 hk ha
    unfold flotillaref01_Digits.l0
    by_cases h20 : i = 20
    · subst h20
      have hn0 : n = 0 := by simpa using hn
      subst hn0
      rw [if_neg (by omega), if_neg (by omega)]
      congr 1
    · have hp : 10 ^ (20 - i) = 10 ^ (20 - (i + 1)) * 10 := by
        rw [← Nat.pow_succ]
        congr 1
        omega
      have ey : strOfNums [(wrap64 (48 + (Int.tmod (n : Int) 10))) % 256] = ⟨[UInt8.ofNat (48 + n % 10)].toArray⟩ := by
        have e1 : Int.tmod (n : Int) 10 = ((n % 10 : Nat) : Int) := by rw [Int.tmod_eq_emod_of_nonneg (Int.natCast_nonneg n)]; rfl
        rw [e1, wrap_dig _ (Nat.mod_lt _ (by decide))]
        rfl
      have ed : wrap64 (Int.tdiv (n : Int) 10) = ((n / 10 : Nat) : Int) := by
        rw [Int.tdiv_eq_ediv_of_nonneg (Int.natCast_nonneg n)]
        exact wrap_id (n / 10) (by omega)
      have ei : wrap64 ((i : Int) + 1) = ((i + 1 : Nat) : Int) := wrap_id (i + 1) (by omega)
      have hys : (⟨[UInt8.ofNat (48 + n % 10)].toArray⟩ : ByteArray).size = 1 := rfl
      have hst := ih (i + 1) (n / 10) (⟨[UInt8.ofNat (48 + n % 10)].toArray⟩ ++ acc) (by omega) (by
        rw [hp] at hn
        omega) (by omega) (by omega) (by rw [ByteArray.size_append, hys]; omega)
      have hfin : (⟨((if i + 1 = 0 ∨ 0 < n / 10 then Lib.decDigits (n / 10) else []) ++ ((⟨[UInt8.ofNat (48 + n % 10)].toArray⟩ : ByteArray) ++ acc).data.toList).toArray⟩ : ByteArray) = ⟨(Lib.decDigits n ++ acc.data.toList).toArray⟩ := by
        apply bext
        have e1 : ((⟨[UInt8.ofNat (48 + n % 10)].toArray⟩ : ByteArray) ++ acc).data.toList = UInt8.ofNat (48 + n % 10) :: acc.data.toList := by
          rw [ByteArray.data_append]
          simp
        rw [e1]
        show (if i + 1 = 0 ∨ 0 < n / 10 then Lib.decDigits (n / 10) else []) ++ UInt8.ofNat (48 + n % 10) :: acc.data.toList = Lib.decDigits n ++ acc.data.toList
        by_cases h10 : n < 10
        · rw [if_neg (by omega), Lib.decDigits, dif_pos h10, Nat.mod_eq_of_lt h10]
          rfl
        · rw [if_pos (by omega)]
          conv => rhs; rw [Lib.decDigits, dif_neg h10]
          simp
      rw [hfin] at hst
      rw [if_pos (by omega)]
      simp only [Option.bind_some, ey, ed, ei, hys]
      by_cases h0 : i = 0
      · rw [if_pos (by omega), if_pos (by omega), hst, if_pos (Or.inl h0)]
      · rw [if_neg (by omega)]
        by_cases hn0 : 0 < n
        · rw [if_pos (by omega), if_pos (by omega), hst, if_pos (Or.inr hn0)]
        · rw [if_neg (by omega), if_neg (by omega)]
          congr 1
theorem digits_f (n k : Nat) (hn : n ≤ 1099511627776) (hk : 20 < k) : flotillaref01_Digits.f k (n : Int) = some ⟨(Lib.decDigits n).toArray⟩ := by
  unfold flotillaref01_Digits.f
  have h := digits_l k 0 n ⟨#[]⟩ (by omega) (by
    have : (10 : Nat) ^ (20 - 0) = 100000000000000000000 := by decide
    omega) (by omega) (by omega) (by decide)
  rw [if_pos (Or.inl rfl)] at h
  rw [show ((0 : Nat) : Int) = 0 from rfl] at h
  rw [h]
  simp
theorem dec_len : ∀ (k u : Nat), u < 10 ^ k → 0 < k → (Lib.decDigits u).length ≤ k
  | 0, u, _, h => by omega
  | k + 1, u, hu, _ => by
    by_cases h : u < 10
    · rw [Lib.decDigits, dif_pos h]; simp
    · rw [Lib.decDigits, dif_neg h, List.length_append]
      have hk : 0 < k := by
        cases k with
        | zero => simp at hu; omega
        | succ k => omega
      have := dec_len k (u / 10) (by rw [Nat.pow_succ] at hu; omega) hk
      simp
      omega
def textA (a b : Nat) : ByteArray := ((⟨(Lib.decDigits a).toArray⟩ : ByteArray) ++ ⟨#[109, 47]⟩) ++ ⟨(Lib.decDigits b).toArray⟩ ++ ⟨#[77, 105]⟩
theorem dec_size (a : Nat) (h : a ≤ 1099511627776) : (⟨(Lib.decDigits a).toArray⟩ : ByteArray).size ≤ 20 := by
  have : (10 : Nat) ^ 20 = 100000000000000000000 := by decide
  exact dec_len 20 a (by omega) (by decide)
theorem refPrint (a b k : Nat) (ha : a ≤ 1099511627776) (hb : b ≤ 1099511627776) (hk : 20 < k) : flotillaref03_Print.f k (a : Int) (b : Int) = some (textA a b, 0) := by
  have s1 := dec_size a ha
  have s2 := dec_size b hb
  unfold flotillaref03_Print.f flotillaref03_Right.f flotillaref03_right.f
  rw [if_pos (by omega), if_pos (by omega), digits_f a k ha hk, digits_f b k hb hk]
  simp only [Option.bind_some]
  rw [decide_eq_true (show (a : Int) ≤ 1099511627776 by omega), decide_eq_true (show (b : Int) ≤ 1099511627776 by omega)]
  simp only [if_true, Option.bind_some]
  rw [if_pos (by omega), if_pos (by simp only [ByteArray.size_append]; have : (⟨#[109, 47]⟩ : ByteArray).size = 2 := rfl; omega), if_pos (by simp only [ByteArray.size_append]; have : (⟨#[109, 47]⟩ : ByteArray).size = 2 := rfl; omega)]
  rfl
theorem itoa_nat (a : Nat) (h : a ≤ 1099511627776) : strconv_Itoa.f (a : Int) = some ⟨(Lib.decDigits a).toArray⟩ := by
  unfold strconv_Itoa.f itoaF
  rw [if_pos ((isI_iff _).2 (by omega))]
  unfold Lib.itoa
  rw [if_neg (by omega), Int.toNat_natCast]
theorem amtPrint (a b : Nat) (ha : a ≤ 1099511627776) (hb : b ≤ 1099511627776) : amount_Print.f (a : Int) (b : Int) = some (textA a b, none) := by
  have s1 := dec_size a ha
  have s2 := dec_size b hb
  unfold amount_Print.f
  rw [check_one _ _ ((isI_iff _).2 (by omega)) ((isI_iff _).2 (by omega)), if_pos ((rA_iff _ _).2 (by omega)), itoa_nat a ha, itoa_nat b hb]
  simp only [Option.bind_some, Option.isNone_none, if_true]
  rw [if_pos (by omega), if_pos (by simp only [ByteArray.size_append]; have : (⟨#[109, 47]⟩ : ByteArray).size = 2 := rfl; omega), if_pos (by simp only [ByteArray.size_append]; have : (⟨#[109, 47]⟩ : ByteArray).size = 2 := rfl; omega)]
  rfl
theorem print_bad (a b : Int) (k : Nat) (h1 : isI a = true) (h2 : isI b = true) (h : ¬ rA a b = true) : flotillaref03_Print.f k a b = some (⟨#[]⟩, 13) ∧ amount_Print.f a b = some (⟨#[]⟩, some (wcode a b)) := by
  rw [rA_iff] at h
  constructor
  · unfold flotillaref03_Print.f flotillaref03_Right.f flotillaref03_right.f
    by_cases c1 : a ≥ 0
    · by_cases c2 : a ≤ 1099511627776
      · by_cases c3 : b ≥ 0
        · have c4 : ¬ b ≤ 1099511627776 := fun c4 => h ⟨c1, c2, c3, c4⟩
          simp [c1, c2, c3, c4]
        · simp [c1, c2, c3]
      · simp [c1, c2]
    · simp [c1]
  · unfold amount_Print.f
    rw [check_one _ _ h1 h2, if_neg (by rw [rA_iff]; exact h)]
    simp
theorem texts (a b : Int) (s : ByteArray) (h1 : isI a = true) (h2 : isI b = true) : flotillalaw03_AmountTexts.f (s.size + 22) a b s = some true := by
  unfold flotillalaw03_AmountTexts.f
  by_cases hs : (s.size : Int) > 1048576
  · rw [if_pos hs]
  · rw [if_neg hs]
    obtain ⟨e, hP, hpl⟩ := amtParse s (s.size + 21) (by omega)
    rw [refParse s (s.size + 22) (by omega) (by omega), hP]
    simp only [Option.bind_some]
    have hprint : ∃ t er no, flotillaref03_Print.f (s.size + 22) a b = some (t, no) ∧ amount_Print.f a b = some (t, er) ∧ plainF er no = some true := by
      by_cases hr : rA a b = true
      · have hr' := (rA_iff a b).1 hr
        obtain ⟨n, rfl⟩ : ∃ n : Nat, a = (n : Int) := ⟨a.toNat, by omega⟩
        obtain ⟨m, rfl⟩ : ∃ n : Nat, b = (n : Int) := ⟨b.toNat, by omega⟩
        exact ⟨_, _, _, refPrint n m _ (by omega) (by omega) (by omega), amtPrint n m (by omega) (by omega), rfl⟩
      · obtain ⟨k1, k2⟩ := print_bad a b (s.size + 22) h1 h2 hr
        exact ⟨_, _, _, k1, k2, plain_bad a b h1 h2⟩
    obtain ⟨t, er, no, p1, p2, p3⟩ := hprint
    rw [p1, p2]
    simp only [Option.bind_some, flotillakit_Plain.f, p3, hpl, if_true, beq_self_eq_true, Bool.and_self]
end Go.Proofs.YtcmnbcdimhcdkaaGreatDoor.PureTexts

/- A start for the witness: the settled world, some variables' cells laid as the row says. -/
namespace Go.Proofs.YtcmnbcdimhcdkaaGreatDoor
def flat1 : DataW Unit → List Value
  | .lit (.int k n) => [.int k n]
  | _ => []
def flat2 : DataW Unit → List Value
  | .agg l => l.flatMap fun
    | .agg m => m.flatMap flat1
    | x => flat1 x
  | x => flat1 x
def handleCell (h t : Nat) : List Value := [.iface h (.agg #[.pointer (some ⟨9, t, none⟩)])]
def layAt (heap : Array Obj) (x : Nat × List Value) : Array Obj := heap.modify x.1 fun
  | .cells _ t frozen => .cells x.2.toArray t frozen
  | o => o
noncomputable def laidWith (l : List (Nat × List Value)) (os : Os) : World :=
  { World.holding Tryz.prog os ⟨#[], #[], []⟩ with heap := l.foldl layAt (World.holding Tryz.prog os ⟨#[], #[], []⟩).heap }
end Go.Proofs.YtcmnbcdimhcdkaaGreatDoor
