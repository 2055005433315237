/- Lemmas on which the law stands, part 5: First, OpenPod, OpenObj, Laid. -/
import Derived.Test.YtoepbjgldmgaoaaDoorKFirst4
import Derived.Test.YtoepbjgldmgaoaaDoorKFirst3
import Derived.SizedLaws
import Derived.ChangeArms
import Derived.WideShapes
import Derived.OpenShut
import Derived.Deep.SlicePairs
import Derived.ChangeSame
import Derived.Test.YtoepbjgldmgaoaaDoorCards
import Derived.WalkKit
import Derived.ProofKit
/- RankFirst walked: fewer victims are the first ones of more, none that is left ends ahead of one of them; of those that run on a node the ready ones end last. -/
namespace Go.Proofs.YtoepbjgldmgaoaaDoor
set_option linter.unusedVariables false
set_option linter.unusedSimpArgs false
open Go.RowKit Go.Proofs.YtoepbjgldmgaoaaDoorW.PrintWords Go.Proofs.YtoepbjgldmgaoaaDoorW.PrintLast
attribute [local go_sem] Go.Proofs.YtoepbjgldmgaoaaDoorW.PrintMore.max_two Go.Proofs.YtoepbjgldmgaoaaDoorW.PrintMore.min_two
/-! ### Plainly -/
def cO (a b : Ob) : Int := cV a.pk b.pk
theorem cO_cmp : Wc.IsCmp cO := cV_cmp.on Ob.pk
theorem sortV_sorted (l : List Ob) : Srt.Sorted cO (sortV l) := Srt.isort_sorted cO_cmp l
theorem mem_sortV (l : List Ob) (o : Ob) : o ∈ sortV l ↔ o ∈ l := Srt.mem_isort o l
theorem sortV_length (l : List Ob) : (sortV l).length = l.length := Srt.isort_length l
theorem mem_live (l : List Ob) (o : Ob) : o ∈ live l ↔ o ∈ l ∧ o.ending = false := by simp [live]
theorem live_length (l : List Ob) : (live l).length ≤ l.length := List.length_filter_le _ _
theorem less_of {a b : Ob} (h : cO a b ≤ 0) : b.pk.less a.pk = false := by
  rw [less_podC]
  refine decide_eq_false fun hn => ?_
  have := (cV_neg b.pk a.pk).2 hn
  have := cO_cmp.anti a b
  unfold cO at *
  omega
/-- A pod that runs on a node. -/
def runs (o : Ob) : Prop := ¬ (o.node.toList = [] ∨ ¬ o.phase = 1)
theorem runs_ready {a b : Ob} (ha : runs a) (hb : runs b) (hr : a.ready = true) (h : cO a b ≤ 0) : b.ready = true := by
  have hl := less_of h
  rw [less_podC] at hl
  have hn := of_decide_eq_false hl
  cases hbr : b.ready
  · exfalso
    apply hn
    have na : a.node.toList.isEmpty = false := by
      cases hx : a.node.toList with
      | nil => exact absurd (Or.inl hx) ha
      | cons _ _ => rfl
    have nb : b.node.toList.isEmpty = false := by
      cases hx : b.node.toList with
      | nil => exact absurd (Or.inl hx) hb
      | cons _ _ => rfl
    have pa : a.phase = 1 := Classical.byContradiction fun hx => ha (Or.inr hx)
    have pb : b.phase = 1 := Classical.byContradiction fun hx => hb (Or.inr hx)
    have l01 : Wc.lessI 0 1 = -1 := by decide
    have l11 : Wc.lessI 1 1 = 0 := by decide
    have e : Wc.lexL Wc.lessI b.pk.key a.pk.key = -1 := by
      simp [PK.key, Ob.pk, na, nb, pa, pb, hbr, hr, one, Wc.lexL, l01, l11]
    unfold podC
    rw [e, if_neg (by omega)]
    omega
  · rfl
theorem bound_sorted : ∀ (l : List Ob) (r : Bool), Srt.Sorted cO l → (r = true → ∀ o ∈ l, runs o → o.ready = true) → boundB r l = true
  | [], _, _, _ => rfl
  | o :: l, r, hs, hr => by
    unfold boundB
    have hs' := List.pairwise_cons.1 hs
    by_cases h : o.node.toList = [] ∨ ¬ o.phase = 1
    · rw [if_pos h]
      exact bound_sorted l r hs'.2 (fun e p hp => hr e p (List.mem_cons_of_mem _ hp))
    · rw [if_neg h]
      have ho : runs o := h
      by_cases h2 : r = true ∧ o.ready = false
      · have := hr h2.1 o (by simp) ho
        rw [h2.2] at this
        cases this
      · rw [if_neg h2]
        refine bound_sorted l _ hs'.2 (fun e p hp hrun => ?_)
        rcases Bool.or_eq_true_iff.1 e with e | e
        · exact hr e p (List.mem_cons_of_mem _ hp) hrun
        · exact runs_ready ho hrun e (hs'.1 p hp)
theorem bound_all (l : List Ob) : boundB false (sortV (live l)) = true := bound_sorted _ _ (sortV_sorted _) (fun h => by cases h)
theorem victF_all (l : List Ob) : victF l (l.length : Int) = sortV (live l) := by
  unfold victF headN
  rw [List.take_of_length_le]
  rw [sortV_length]
  have := live_length l
  omega
theorem victF_len (l : List Ob) (n : Int) : (victF l n).length = headN n (live l).length := by
  unfold victF
  rw [List.length_take, sortV_length]
  unfold headN
  omega
theorem live_take (l : List Ob) (k : Nat) (o : Ob) (h : l[k]? = some o) : (live (l.take (k + 1))).length = (live (l.take k)).length + if o.ending then 0 else 1 := by
  rw [live_snoc l k o h, List.length_append]
  cases o.ending <;> rfl
def rg7_19_T : Bool × List (List Nat × List Nat) := (true, [([], []), ([], []), ([0, 1], [0, 1]), ([2], [2]), ([3], [3]), ([4], [4]), ([5], [5]), ([5], [5]), ([5], [5]), ([7, 8, 5], [5, 7, 8]), ([9, 5], [5, 9]), ([6, 10, 5, 5], [5, 6, 10]), ([11, 5], [5, 11]), ([5, 12], [5, 12]), ([13, 11], [13]), ([14], [14]), ([15, 14], [14, 15]), ([16, 14, 14], [14, 16]), ([17], [17]), ([17], [17]), ([18, 19, 17], [17, 18, 19]), ([20, 17], [17, 20]), ([17], [17]), ([17], [17]), ([23, 17], [17, 23]), ([22, 24, 17], [17, 22, 24]), ([25, 17], [17, 25]), ([21, 26, 17, 17], [17, 21, 26]), ([17, 27, 14], [14, 17, 27]), ([14, 28], [14, 28])])
def rg7_19_B : List Nat := [0, 0, 3, 7, 15, 31, 63, 63, 63, 447, 959, 2047, 4095, 8191, 16383, 32767, 65535, 131071, 262143, 262143, 1048575, 2097151, 262143, 262143, 8650751, 29622271, 63176703, 134217727, 268435455, 536870911]
theorem rg7_19_tab : rtab .any (opsOf Tryd.f7 19) = rg7_19_T := by kernel_rfl
theorem rg7_19_bits : waitsOk rg7_19_T.2 rg7_19_B = true := by kernel_rfl
set_option maxRecDepth 100000 in
theorem firstBig_calls (A : Option Addr) (c n : Nat) (m : Int) (w : World) (hn : 200 < n) :
    Calls Tryd.prog 7 #[.slice A n c, .int .i64 m] w fun e w' => e = .returned (.bool true) ∧ Below w.heap.size w w' := by
  have d1 : decide ((200 : Int) < (n : Int)) = true := decide_eq_true (by omega)
  have HB : Below w.heap.size w w := Below.refl _ _
  go_enter Tryd.func7, Tryd.ntmps7
  go_wp2_with (first
    | (go_at_call 23; (with_reducible refine (works_calls _).mono ?_); rintro e w1 ⟨rfl, hb⟩; replace HB := belT HB hb; clear hb))
  go_ret
  exact ⟨rfl, HB⟩
set_option maxHeartbeats 4000000 in
set_option maxRecDepth 100000 in
theorem first_calls (A : Option Addr) (l : List Ob) (c n : Nat) (m : Int) (w : World) (hr : kO.C w A l.length l) (hl : l.length = n) (hn : ¬ 200 < n) (hf : ∀ o ∈ l, ObFits o) :
    Calls Tryd.prog 7 #[.slice A n c, .int .i64 m] w fun e w' => e = .returned (.bool true) ∧ Below w.heap.size w w' := by
  have d1 : decide ((200 : Int) < (n : Int)) = false := decide_eq_false (by omega)
  have hn200 : n ≤ 200 := by omega
  obtain ⟨al, hal⟩ : ∃ al, al = sortV (live l) := ⟨_, rfl⟩
  obtain ⟨na, hna⟩ : ∃ na, na = al.length := ⟨_, rfl⟩
  obtain ⟨kk, hkk⟩ : ∃ kk, kk = headN m (live l).length := ⟨_, rfl⟩
  have hlen : (live l).length = na := by rw [hna, hal, sortV_length]
  have hle := live_length l
  have hnan : na ≤ 200 := by omega
  have hkn : kk ≤ na := by rw [hkk]; unfold headN; omega
  obtain ⟨mx, hmx⟩ : ∃ mx : Int, mx = if m < 0 then 0 else m := ⟨_, rfl⟩
  have hmax : Builtin.max2 (.int .i64 m) (.int .i64 0) = pure (.int .i64 mx) := by rw [Go.Proofs.YtoepbjgldmgaoaaDoorW.PrintMore.max2_int, hmx]
  have hmin : Builtin.min2 (.int .i64 mx) (.int .i64 (na : Int)) = pure (.int .i64 (kk : Int)) := by
    rw [Go.Proofs.YtoepbjgldmgaoaaDoorW.PrintMore.min2_int]
    congr 2
    rw [hkk, hlen, hmx]
    unfold headN
    split <;> split <;> omega
  have HV := Lib.hid (fun (W : World) (hW : Below w.heap.size w W) => victims_calls A c l m W (Kd.C_below hr hW) (by omega) hf)
  have HA := Lib.hid (fun (W : World) (hW : Below w.heap.size w W) => victims_calls A c l (l.length : Int) W (Kd.C_below hr hW) (by omega) hf)
  rw [victF_len, ← hkk, hl] at HV
  rw [victF_all, ← hal, ← hna, hl] at HA
  have etake : victF l m = al.take kk := by rw [hkk, hal]; rfl
  rw [etake] at HV
  have HR := Lib.hid hr
  have HF := Lib.hid hf
  have HL := Lib.hid (And.intro hl (And.intro hal (And.intro hna hlen)))
  have HK : Hid ((al.take kk).length = kk) := Lib.hid (by rw [List.length_take]; omega)
  clear hr hf hl hal hna hlen hkk hle hmx etake
  have HB : Below w.heap.size w w := Below.refl _ _
  go_enter Tryd.func7, Tryd.ntmps7
  have HM := Lib.hid (Eq.refl 0)
  go_wp2_with (first
    | (go_at_call 23; (with_reducible refine (works_calls _).mono ?_); rintro e w1 ⟨rfl, hb⟩; replace HB := belT HB hb; clear hb)
    | (go_at_call 21; clear HM; (with_reducible refine (HV.out _ HB).mono ?_); rintro e w2 ⟨A1, c1, rfl, hS, hb⟩; replace HB := belT HB hb; have hC1 := Lib.hid (Kd.R_reads' (Kd.S_R hS)).2.2; clear hb hS)
    | (go_at_call 21; (with_reducible refine (HA.out _ HB).mono ?_); rintro e w3 ⟨A2, c2, rfl, hS, hb⟩; replace HB := belT HB hb; replace hC1 := Lib.hid (Kd.C_below hC1.out hb); have hc2 := (Kd.R_reads' (Kd.S_R hS)).2.1; have hC2 := Lib.hid (Kd.R_reads' (Kd.S_R hS)).2.2; clear hb hS)
    | (go_at_call 15; (with_reducible refine (sameObjects_eq A1 A2 (al.take kk) (al.take kk) kk na kk _ hC1.out (Kd.C_take hC2.out (by rw [← HL.out.2.2.1]; exact hkn)) HK.out HK.out (by omega)).mono ?_); rintro e w4 ⟨he, hb⟩; replace he : e = .returned (.bool true) := (he.trans (by rw [decide_eq_true rfl])); subst he; replace HB := belT HB hb; replace hC2 := Lib.hid (Kd.C_below hC2.out hb); clear hb hC1))
  go_loopw [8, 9] (fun v8 v9 wr => ∃ k : Nat, k ≤ n ∧ v9 = .int .i64 k ∧ ∃ q : Nat, q ≤ k ∧ v8 = .int .i64 q ∧ Hid (q = (live (l.take k)).length ∧ Below w4.heap.size w4 wr)) (fun _ v9 _ => n - (intOf v9).toNat)
  case atStart => exact ⟨0, Nat.zero_le _, rfl, 0, Nat.le_refl _, rfl, Lib.hid ⟨rfl, Below.refl _ _⟩⟩
  case round =>
    obtain ⟨k, hk, rfl, q, hq, rfl, hI⟩ := hrel
    by_cases hlt : k < n
    · obtain ⟨o, ho⟩ : ∃ o, l[k]? = some o := ⟨_, List.getElem?_eq_getElem (by have := HL.out.1; omega)⟩
      obtain ⟨ad, v4, v27, rfl, hO⟩ := objAt (Kd.C_below HR.out (belT HB hI.out.2)) k o ho
      have hlk : (k : Int) < (n : Int) := by omega
      have q16 := hO.field 16 (by omega) (u := .bool o.ending) rfl
      have hsn := live_take l k o ho
      obtain ⟨b, hb⟩ : ∃ b, b = o.ending := ⟨_, rfl⟩
      rw [← hb] at q16 hsn
      have hmem : b = false → o ∈ al := fun h => by
        rw [HL.out.2.1, mem_sortV, mem_live]
        exact ⟨List.mem_of_getElem? ho, by rw [← hb]; exact h⟩
      obtain ⟨cs, hcs⟩ : ∃ cs, cs = o.cells v4 v27 := ⟨_, rfl⟩
      have hi1 : Hid ((Tryd.prog.info? 48).map (·.size) = some cs.size) := Lib.hid (by rw [hcs, Ob.cells_size]; kernel_rfl)
      have B1 := hO.cells
      have QH := Lib.hid (fun (h : b = false) => has_calls A2 al na na o v4 v27 wr (Kd.C_below hC2.out hI.out.2) hO.l4 hO.l27 HL.out.2.2.1.symm (by omega))
      rw [← hcs] at B1 QH
      have HO := Lib.hid (And.intro hsn hmem)
      replace B1 := Lib.hid B1
      clear ho hsn hmem hcs hO hb
      cases b
      · have hdec : decide (o ∈ al) = true := decide_eq_true (HO.out.2 rfl)
        have QH2 := QH.out rfl
        rw [hdec] at QH2
        replace QH2 := Lib.hid QH2
        clear QH hdec
        go_wp2_with (first
          | ((with_reducible refine wpList_load_any rfl 48 (.tmp 60) rfl (ad.add (k * 32)) ?c1 cs _ ?c2 Tryd.underlying48 ?c3 ?c4 ?_); (case c1 => rfl); (case c2 => exact B1.out); (case c3 => rfl); (case c4 => exact hi1.out))
          | (go_at_call 24; (with_reducible refine QH2.out.mono ?_); rintro e w5 ⟨rfl, hb5⟩))
        go_roundw
        case rel => exact ⟨k + 1, by omega, by go_num, q + 1, by omega, by go_num, Lib.hid ⟨by have := HO.out.1; have := hI.out.1; simp at *; omega, belT hI.out.2 hb5⟩⟩
        case measure => simp [intOf]; omega
      · clear QH
        go_wp2
        go_roundw
        case rel => exact ⟨k + 1, by omega, by go_num, q, by omega, rfl, Lib.hid ⟨by have := HO.out.1; have := hI.out.1; simp at *; omega, hI.out.2⟩⟩
        case measure => simp [intOf]; omega
    · obtain rfl : n = k := by omega
      obtain ⟨hq1, hB5⟩ := hI.out
      rw [← HL.out.1, List.take_length, HL.out.2.2.2] at hq1
      rw [hq1]
      clear hq hq1
      replace HB := belT HB hB5
      replace hC2 := Lib.hid (Kd.C_below hC2.out hB5)
      clear hI hB5
      rename World => wx
      have HB0 : Below wx.heap.size wx wx := Below.refl _ _
      go_wp2
      go_loopw [10] (fun v10 wr => ∃ k : Nat, k ≤ na ∧ v10 = .int .i64 k ∧ Hid (Below wx.heap.size wx wr)) (fun v10 _ => na - (intOf v10).toNat)
      case atStart => exact ⟨0, Nat.zero_le _, rfl, Lib.hid HB0⟩
      case round =>
        obtain ⟨i, hi, rfl, hI⟩ := hrel
        by_cases hit : i < na
        · obtain ⟨o, ho⟩ : ∃ o, al[i]? = some o := ⟨_, List.getElem?_eq_getElem (by have := HL.out.2.2.1; omega)⟩
          obtain ⟨ad, v4, v27, rfl, hO⟩ := objAt (Kd.C_below hC2.out hI.out) i o ho
          obtain ⟨cs, hcs⟩ : ∃ cs, cs = o.cells v4 v27 := ⟨_, rfl⟩
          have hi1 : Hid ((Tryd.prog.info? 48).map (·.size) = some cs.size) := Lib.hid (by rw [hcs, Ob.cells_size]; kernel_rfl)
          have hoal : o ∈ live l := by
            have := List.mem_of_getElem? ho
            rwa [HL.out.2.1, mem_sortV] at this
          obtain ⟨hol, hoe⟩ := (mem_live l o).1 hoal
          have B1 := hO.cells
          have q16 : wr.cell? ⟨(ad.add (i * 32)).block, (ad.add (i * 32)).off + 16, none⟩ = some (.bool false) := hO.field 16 (by omega) (u := .bool false) (by show some (Value.bool o.ending) = _; rw [hoe])
          have QH := Lib.hid (fun (W : World) (hW : Below wr.heap.size wr W) => has_calls A l c n o v4 v27 W (Kd.C_below HR.out (belT (belT HB hI.out) hW)) (hO.l4.below hW) (hO.l27.below hW) HL.out.1 (by omega))
          rw [decide_eq_true hol] at QH
          rw [← hcs] at B1 QH
          replace B1 := Lib.hid (fun (W : World) (hW : Below wr.heap.size wr W) j u hu => cell_below hW (B1 j u hu))
          have C16 := Lib.hid (fun (W : World) (hW : Below wr.heap.size wr W) => cell_below hW q16)
          have HB1 : Below wr.heap.size wr wr := Below.refl _ _
          replace HB1 := below_drew HB1
          have hlk : (i : Int) < (na : Int) := by omega
          by_cases hi0 : i = 0
          · obtain ⟨z, hz⟩ : ∃ z : Int, z = (i : Int) := ⟨_, rfl⟩
            have g0 : (0 ≤ z) = True := eq_true (by omega)
            have g1 : (z < (na : Int)) = True := eq_true (by omega)
            have g4 : decide (0 < z) = false := decide_eq_false (by omega)
            have ez : z.toNat = i := by omega
            rw [← ez] at B1 C16
            rw [← hz] at hlk ⊢
            have HZ := Lib.hid (And.intro (show wrap64 (z + 1) = ((i + 1 : Nat) : Int) by rw [hz]; unfold wrap64; omega) (And.intro hit hz))
            clear q16 ho hO hoal hol hoe hcs hz ez hlk
            go_upto_region 19 with (fail)
            refine start_ (n := 30) (S := fun w' => Below wr.heap.size wr w' ∧ w'.cell? ⟨(ad.add (z.toNat * 32)).block, (ad.add (z.toNat * 32)).off + 16, none⟩ = some (.bool false)) (ds := []) #[false, false, false, false, false, false, false, false, false, false, false, false, false, false, false, false, false, false, false, false, false, false, false, false, false, false, false, false, false, false] (by kernel_rfl) rfl rfl ⟨HB1, C16.out _ HB1⟩ (fun hHeld => ?_)
            refine with_tabW rg7_19_tab rg7_19_bits (fun HT_ HW_ => ?_)
            refine pure_ (i := 0) (N := some 70) (v := ?_) (a' := ?_) #[true, false, false, false, false, false, false, false, false, false, false, false, false, false, false, false, false, false, false, false, false, false, false, false, false, false, false, false, false, false] rfl rfl (any_of HT_.out (by kernel_rfl)) (fun _ _ _ h => h) (Or.inl ⟨by rfl, ?_⟩) ?_ ?_
            rotate_left
            · intro w'
              go_simp
              with_reducible rfl
            rotate_left
            · simp only [Act.put, List.setIfInBounds_toArray, List.set_cons_zero, List.set_cons_succ, i64_w, i32_w]
              rfl
            refine pure_ (i := 1) (N := some 71) (v := ?_) (a' := ?_) #[true, true, false, false, false, false, false, false, false, false, false, false, false, false, false, false, false, false, false, false, false, false, false, false, false, false, false, false, false, false] rfl rfl (any_of HT_.out (by kernel_rfl)) (fun _ _ _ h => h) (Or.inl ⟨by rfl, ?_⟩) ?_ ?_
            rotate_left
            · intro w'
              go_simp
              with_reducible rfl
            rotate_left
            · simp only [Act.put, List.setIfInBounds_toArray, List.set_cons_zero, List.set_cons_succ, i64_w, i32_w]
              rfl
            refine pure_ (i := 2) (N := some 72) (v := ?_) (a' := ?_) #[true, true, true, false, false, false, false, false, false, false, false, false, false, false, false, false, false, false, false, false, false, false, false, false, false, false, false, false, false, false] rfl rfl (any_of HT_.out (by kernel_rfl)) (fun _ _ _ h => h) (Or.inl ⟨by rfl, ?_⟩) ?_ ?_
            rotate_left
            · intro w'
              go_simp
              with_reducible rfl
            rotate_left
            · simp only [Act.put, List.setIfInBounds_toArray, List.set_cons_zero, List.set_cons_succ, i64_w, i32_w]
              rfl
            refine pure_ (i := 3) (N := some 73) (v := ?_) (a' := ?_) #[true, true, true, true, false, false, false, false, false, false, false, false, false, false, false, false, false, false, false, false, false, false, false, false, false, false, false, false, false, false] rfl rfl (any_of HT_.out (by kernel_rfl)) (fun _ _ _ h => h) (Or.inl ⟨by rfl, ?_⟩) ?_ ?_
            rotate_left
            · intro w'
              go_simp
              with_reducible rfl
            rotate_left
            · simp only [Act.put, List.setIfInBounds_toArray, List.set_cons_zero, List.set_cons_succ, i64_w, i32_w]
              rfl
            refine take_ (i := 4) (N := some 74) (v := ?_) (a' := ?_) #[true, true, true, true, true, false, false, false, false, false, false, false, false, false, false, false, false, false, false, false, false, false, false, false, false, false, false, false, false, false] rfl rfl (take_ofW HT_.out HW_.out (by kernel_rfl)) (fun _ _ _ h => h) (Or.inl ⟨by rfl, ?_⟩) hHeld ?_ ?_
            rotate_left
            · rintro w' ⟨s0, s1⟩
              go_simp
              with_reducible rfl
            rotate_left
            · simp only [Act.put, List.setIfInBounds_toArray, List.set_cons_zero, List.set_cons_succ, i64_w, i32_w]
              rfl
            refine pure_ (i := 5) (N := some 75) (v := ?_) (a' := ?_) #[true, true, true, true, true, true, false, false, false, false, false, false, false, false, false, false, false, false, false, false, false, false, false, false, false, false, false, false, false, false] rfl rfl (any_of HT_.out (by kernel_rfl)) (fun _ _ _ h => h) (Or.inl ⟨by rfl, ?_⟩) ?_ ?_
            rotate_left
            · intro w'
              go_simp
              with_reducible rfl
            rotate_left
            · simp only [Act.put, List.setIfInBounds_toArray, List.set_cons_zero, List.set_cons_succ, i64_w, i32_w]
              rfl
            refine pure_ (i := 6) (N := some 76) (v := ?_) (a' := ?_) #[true, true, true, true, true, true, true, false, false, false, false, false, false, false, false, false, false, false, false, false, false, false, false, false, false, false, false, false, false, false] rfl rfl (any_of HT_.out (by kernel_rfl)) (fun _ _ _ h => h) (Or.inl ⟨by rfl, ?_⟩) ?_ ?_
            rotate_left
            · intro w'
              go_simp
              with_reducible rfl
            rotate_left
            · simp only [Act.put, List.setIfInBounds_toArray, List.set_cons_zero, List.set_cons_succ, i64_w, i32_w]
              rfl
            refine pure_ (i := 7) (N := some 77) (v := ?_) (a' := ?_) #[true, true, true, true, true, true, true, true, false, false, false, false, false, false, false, false, false, false, false, false, false, false, false, false, false, false, false, false, false, false] rfl rfl (any_of HT_.out (by kernel_rfl)) (fun _ _ _ h => h) (Or.inl ⟨by rfl, ?_⟩) ?_ ?_
            rotate_left
            · intro w'
              go_simp
              with_reducible rfl
            rotate_left
            · simp only [Act.put, List.setIfInBounds_toArray, List.set_cons_zero, List.set_cons_succ, i64_w, i32_w]
              rfl
            refine pure_ (i := 8) (N := some 78) (v := ?_) (a' := ?_) #[true, true, true, true, true, true, true, true, true, false, false, false, false, false, false, false, false, false, false, false, false, false, false, false, false, false, false, false, false, false] rfl rfl (any_of HT_.out (by kernel_rfl)) (fun _ _ _ h => h) (Or.inl ⟨by rfl, ?_⟩) ?_ ?_
            rotate_left
            · intro w'
              go_simp
              with_reducible rfl
            rotate_left
            · simp only [Act.put, List.setIfInBounds_toArray, List.set_cons_zero, List.set_cons_succ, i64_w, i32_w]
              rfl
            refine pure_ (i := 9) (N := some 79) (v := ?_) (a' := ?_) #[true, true, true, true, true, true, true, true, true, true, false, false, false, false, false, false, false, false, false, false, false, false, false, false, false, false, false, false, false, false] rfl rfl (any_of HT_.out (by kernel_rfl)) (fun _ _ _ h => h) (Or.inl ⟨by rfl, ?_⟩) ?_ ?_
            rotate_left
            · intro w'
              go_simp
              with_reducible rfl
            rotate_left
            · simp only [Act.put, List.setIfInBounds_toArray, List.set_cons_zero, List.set_cons_succ, i64_w, i32_w]
              rfl
            refine take_ (i := 10) (N := some 80) (v := ?_) (a' := ?_) #[true, true, true, true, true, true, true, true, true, true, true, false, false, false, false, false, false, false, false, false, false, false, false, false, false, false, false, false, false, false] rfl rfl (take_ofW HT_.out HW_.out (by kernel_rfl)) (fun _ _ _ h => h) (Or.inl ⟨by rfl, ?_⟩) hHeld ?_ ?_
            rotate_left
            · rintro w' ⟨s0, s1⟩
              refine load_any_ (x := .tmp 79) (p := ad.add (z.toNat * 32)) ?_ ?_ (B1.out _ s0) Tryd.underlying48 rfl hi1.out <;> rfl
            rotate_left
            · simp only [Act.put, List.setIfInBounds_toArray, List.set_cons_zero, List.set_cons_succ, i64_w, i32_w]
              rfl
            refine one_ (i := 11) (N := some 81) #[true, true, true, true, true, true, true, true, true, true, true, true, false, false, false, false, false, false, false, false, false, false, false, false, false, false, false, false, false, false] rfl rfl (one_of HT_.out (by kernel_rfl)) (by decide) (fun K hK => ?_)
            refine goes_ Tryd.func24 (by kernel_rfl) rfl #[.slice A n c, .agg cs] (by rfl) rfl rfl (by (try simp only [List.map_toArray, List.map_cons, List.map_nil]); first | done | rfl) ?_
            with_reducible refine (QH.out _ HB1).mono ?_
            rintro e w5 ⟨rfl, hb⟩
            replace HB1 := belT HB1 hb
            clear hb
            refine ⟨_, rfl, ?_⟩
            refine hK.out _ _ ⟨HB1, C16.out _ HB1⟩ (fun hHeld => ?_)
            clear hK K
            refine norm_ (a' := ?_) ?_ ?_
            rotate_left
            · show Act.put _ (some 81) _ = _
              simp only [Act.put, List.setIfInBounds_toArray, List.set_cons_zero, List.set_cons_succ, i64_w, i32_w]
              rfl
            refine pure_ (i := 12) (N := some 82) (v := ?_) (a' := ?_) #[true, true, true, true, true, true, true, true, true, true, true, true, true, false, false, false, false, false, false, false, false, false, false, false, false, false, false, false, false, false] rfl rfl (any_of HT_.out (by kernel_rfl)) (fun _ _ _ h => h) (Or.inl ⟨by rfl, ?_⟩) ?_ ?_
            rotate_left
            · intro w'
              go_simp
              with_reducible rfl
            rotate_left
            · simp only [Act.put, List.setIfInBounds_toArray, List.set_cons_zero, List.set_cons_succ, i64_w, i32_w]
              rfl
            refine pure_ (i := 13) (N := some 83) (v := ?_) (a' := ?_) #[true, true, true, true, true, true, true, true, true, true, true, true, true, true, false, false, false, false, false, false, false, false, false, false, false, false, false, false, false, false] rfl rfl (any_of HT_.out (by kernel_rfl)) (fun _ _ _ h => h) (Or.inl ⟨by rfl, ?_⟩) ?_ ?_
            rotate_left
            · intro w'
              go_simp
              with_reducible rfl
            rotate_left
            · simp only [Act.put, List.setIfInBounds_toArray, List.set_cons_zero, List.set_cons_succ, i64_w, i32_w]
              rfl
            refine pure_ (i := 14) (N := some 84) (v := ?_) (a' := ?_) #[true, true, true, true, true, true, true, true, true, true, true, true, true, true, true, false, false, false, false, false, false, false, false, false, false, false, false, false, false, false] rfl rfl (any_of HT_.out (by kernel_rfl)) (fun _ _ _ h => h) (Or.inl ⟨by rfl, ?_⟩) ?_ ?_
            rotate_left
            · intro w'
              go_simp
              with_reducible rfl
            rotate_left
            · simp only [Act.put, List.setIfInBounds_toArray, List.set_cons_zero, List.set_cons_succ, i64_w, i32_w]
              rfl
            refine pure_ (i := 15) (N := some 85) (v := ?_) (a' := ?_) #[true, true, true, true, true, true, true, true, true, true, true, true, true, true, true, true, false, false, false, false, false, false, false, false, false, false, false, false, false, false] rfl rfl (any_of HT_.out (by kernel_rfl)) (fun _ _ _ h => h) (Or.inl ⟨by rfl, ?_⟩) ?_ ?_
            rotate_left
            · intro w'
              go_simp
              with_reducible rfl
            rotate_left
            · simp only [Act.put, List.setIfInBounds_toArray, List.set_cons_zero, List.set_cons_succ, i64_w, i32_w]
              rfl
            refine pure_ (i := 16) (N := some 86) (v := ?_) (a' := ?_) #[true, true, true, true, true, true, true, true, true, true, true, true, true, true, true, true, true, false, false, false, false, false, false, false, false, false, false, false, false, false] rfl rfl (any_of HT_.out (by kernel_rfl)) (fun _ _ _ h => h) (Or.inl ⟨by rfl, ?_⟩) ?_ ?_
            rotate_left
            · intro w'
              go_simp
              with_reducible rfl
            rotate_left
            · simp only [Act.put, List.setIfInBounds_toArray, List.set_cons_zero, List.set_cons_succ, i64_w, i32_w]
              rfl
            refine pure_ (i := 17) (N := some 87) (v := ?_) (a' := ?_) #[true, true, true, true, true, true, true, true, true, true, true, true, true, true, true, true, true, true, false, false, false, false, false, false, false, false, false, false, false, false] rfl rfl (any_of HT_.out (by kernel_rfl)) (fun _ _ _ h => h) (Or.inl ⟨by rfl, ?_⟩) ?_ ?_
            rotate_left
            · intro w'
              go_simp
              with_reducible rfl
            rotate_left
            · simp only [Act.put, List.setIfInBounds_toArray, List.set_cons_zero, List.set_cons_succ, i64_w, i32_w]
              rfl
            refine pure_ (i := 18) (N := some 88) (v := undef) (a' := ?_) #[true, true, true, true, true, true, true, true, true, true, true, true, true, true, true, true, true, true, true, false, false, false, false, false, false, false, false, false, false, false] rfl rfl (any_of HT_.out (by kernel_rfl)) (fun _ _ _ h => h) (Or.inr ⟨by rfl, rfl⟩) ?_ ?_
            rotate_left
            · simp only [Act.put, List.setIfInBounds_toArray, List.set_cons_zero, List.set_cons_succ, i64_w, i32_w]
              rfl
            refine pure_ (i := 19) (N := some 89) (v := undef) (a' := ?_) #[true, true, true, true, true, true, true, true, true, true, true, true, true, true, true, true, true, true, true, true, false, false, false, false, false, false, false, false, false, false] rfl rfl (any_of HT_.out (by kernel_rfl)) (fun _ _ _ h => h) (Or.inr ⟨by rfl, rfl⟩) ?_ ?_
            rotate_left
            · simp only [Act.put, List.setIfInBounds_toArray, List.set_cons_zero, List.set_cons_succ, i64_w, i32_w]
              rfl
            refine pure_ (i := 20) (N := some 90) (v := undef) (a' := ?_) #[true, true, true, true, true, true, true, true, true, true, true, true, true, true, true, true, true, true, true, true, true, false, false, false, false, false, false, false, false, false] rfl rfl (any_of HT_.out (by kernel_rfl)) (fun _ _ _ h => h) (Or.inr ⟨by rfl, rfl⟩) ?_ ?_
            rotate_left
            · simp only [Act.put, List.setIfInBounds_toArray, List.set_cons_zero, List.set_cons_succ, i64_w, i32_w]
              rfl
            refine pure_ (i := 21) (N := some 91) (v := undef) (a' := ?_) #[true, true, true, true, true, true, true, true, true, true, true, true, true, true, true, true, true, true, true, true, true, true, false, false, false, false, false, false, false, false] rfl rfl (any_of HT_.out (by kernel_rfl)) (fun _ _ _ h => h) (Or.inr ⟨by rfl, rfl⟩) ?_ ?_
            rotate_left
            · simp only [Act.put, List.setIfInBounds_toArray, List.set_cons_zero, List.set_cons_succ, i64_w, i32_w]
              rfl
            refine pure_ (i := 22) (N := some 92) (v := undef) (a' := ?_) #[true, true, true, true, true, true, true, true, true, true, true, true, true, true, true, true, true, true, true, true, true, true, true, false, false, false, false, false, false, false] rfl rfl (any_of HT_.out (by kernel_rfl)) (fun _ _ _ h => h) (Or.inr ⟨by rfl, rfl⟩) ?_ ?_
            rotate_left
            · simp only [Act.put, List.setIfInBounds_toArray, List.set_cons_zero, List.set_cons_succ, i64_w, i32_w]
              rfl
            refine pure_ (i := 23) (N := some 93) (v := undef) (a' := ?_) #[true, true, true, true, true, true, true, true, true, true, true, true, true, true, true, true, true, true, true, true, true, true, true, true, false, false, false, false, false, false] rfl rfl (any_of HT_.out (by kernel_rfl)) (fun _ _ _ h => h) (Or.inr ⟨by rfl, rfl⟩) ?_ ?_
            rotate_left
            · simp only [Act.put, List.setIfInBounds_toArray, List.set_cons_zero, List.set_cons_succ, i64_w, i32_w]
              rfl
            refine pure_ (i := 24) (N := some 94) (v := undef) (a' := ?_) #[true, true, true, true, true, true, true, true, true, true, true, true, true, true, true, true, true, true, true, true, true, true, true, true, true, false, false, false, false, false] rfl rfl (any_of HT_.out (by kernel_rfl)) (fun _ _ _ h => h) (Or.inr ⟨by rfl, rfl⟩) ?_ ?_
            rotate_left
            · simp only [Act.put, List.setIfInBounds_toArray, List.set_cons_zero, List.set_cons_succ, i64_w, i32_w]
              rfl
            refine pure_ (i := 25) (N := some 95) (v := undef) (a' := ?_) #[true, true, true, true, true, true, true, true, true, true, true, true, true, true, true, true, true, true, true, true, true, true, true, true, true, true, false, false, false, false] rfl rfl (any_of HT_.out (by kernel_rfl)) (fun _ _ _ h => h) (Or.inr ⟨by rfl, rfl⟩) ?_ ?_
            rotate_left
            · simp only [Act.put, List.setIfInBounds_toArray, List.set_cons_zero, List.set_cons_succ, i64_w, i32_w]
              rfl
            refine pure_ (i := 26) (N := some 96) (v := undef) (a' := ?_) #[true, true, true, true, true, true, true, true, true, true, true, true, true, true, true, true, true, true, true, true, true, true, true, true, true, true, true, false, false, false] rfl rfl (any_of HT_.out (by kernel_rfl)) (fun _ _ _ h => h) (Or.inr ⟨by rfl, rfl⟩) ?_ ?_
            rotate_left
            · simp only [Act.put, List.setIfInBounds_toArray, List.set_cons_zero, List.set_cons_succ, i64_w, i32_w]
              rfl
            refine pure_ (i := 27) (N := some 97) (v := undef) (a' := ?_) #[true, true, true, true, true, true, true, true, true, true, true, true, true, true, true, true, true, true, true, true, true, true, true, true, true, true, true, true, false, false] rfl rfl (any_of HT_.out (by kernel_rfl)) (fun _ _ _ h => h) (Or.inr ⟨by rfl, rfl⟩) ?_ ?_
            rotate_left
            · simp only [Act.put, List.setIfInBounds_toArray, List.set_cons_zero, List.set_cons_succ, i64_w, i32_w]
              rfl
            refine pure_ (i := 28) (N := some 98) (v := ?_) (a' := ?_) #[true, true, true, true, true, true, true, true, true, true, true, true, true, true, true, true, true, true, true, true, true, true, true, true, true, true, true, true, true, false] rfl rfl (any_of HT_.out (by kernel_rfl)) (fun _ _ _ h => h) (Or.inl ⟨by rfl, ?_⟩) ?_ ?_
            rotate_left
            · intro w'
              go_simp
              with_reducible rfl
            rotate_left
            · simp only [Act.put, List.setIfInBounds_toArray, List.set_cons_zero, List.set_cons_succ, i64_w, i32_w]
              rfl
            refine pure_ (i := 29) (N := some 99) (v := ?_) (a' := ?_) #[true, true, true, true, true, true, true, true, true, true, true, true, true, true, true, true, true, true, true, true, true, true, true, true, true, true, true, true, true, true] rfl rfl (any_of HT_.out (by kernel_rfl)) (fun _ _ _ h => h) (Or.inl ⟨by rfl, ?_⟩) ?_ ?_
            rotate_left
            · intro w'
              go_simp
              with_reducible rfl
            rotate_left
            · simp only [Act.put, List.setIfInBounds_toArray, List.set_cons_zero, List.set_cons_succ, i64_w, i32_w]
              rfl
            refine done_ (done_of HT_.out (by kernel_rfl)) ?_
            go_wp2
            go_roundw
            case rel => exact ⟨i + 1, HZ.out.2.1, by rw [HZ.out.1], Lib.hid (belT hI.out HB1)⟩
            case measure =>
              have h1 := HZ.out.2.1
              rw [HZ.out.1, HZ.out.2.2]
              simp [intOf]
              omega
          · obtain ⟨i1, rfl⟩ : ∃ i1, i = i1 + 1 := ⟨i - 1, by omega⟩
            obtain ⟨p, hp⟩ : ∃ p, al[i1]? = some p := ⟨_, List.getElem?_eq_getElem (by have := HL.out.2.2.1; omega)⟩
            obtain ⟨ad', u4, u27, e', hP⟩ := objAt (Kd.C_below hC2.out hI.out) i1 p hp
            obtain rfl := Option.some.inj e'
            obtain ⟨ds, hds⟩ : ∃ ds, ds = p.cells u4 u27 := ⟨_, rfl⟩
            have hi2 : Hid ((Tryd.prog.info? 48).map (·.size) = some ds.size) := Lib.hid (by rw [hds, Ob.cells_size]; kernel_rfl)
            have hpal : p ∈ live l := by
              have := List.mem_of_getElem? hp
              rwa [HL.out.2.1, mem_sortV] at this
            have hle : cO p o ≤ 0 := by
              have hs := sortV_sorted (live l)
              rw [← HL.out.2.1] at hs
              exact Srt.sorted_le cO_cmp hs (Nat.le_succ i1) hp ho
            have QL := lessIs (x := cs) (y := ds) (p := o.pk) (q := p.pk) (by rw [hcs]; exact ⟨pod_cells o v4 v27, (HF.out o hol).1⟩) (by rw [hds]; exact ⟨pod_cells p u4 u27, (HF.out p ((mem_live l p).1 hpal).1).1⟩)
            rw [less_of hle] at QL
            replace QL := Lib.hid QL
            have B2 := hP.cells
            rw [← hds] at B2
            replace B2 := Lib.hid (fun (W : World) (hW : Below wr.heap.size wr W) j u hu => cell_below hW (B2 j u hu))
            obtain ⟨z, hz⟩ : ∃ z : Int, z = ((i1 + 1 : Nat) : Int) := ⟨_, rfl⟩
            obtain ⟨z1, hz1⟩ : ∃ z : Int, z = (i1 : Int) := ⟨_, rfl⟩
            have hw : wrap64 (z - 1) = z1 := by rw [hz, hz1]; unfold wrap64; omega
            have g0 : (0 ≤ z) = True := eq_true (by omega)
            have g1 : (z < (na : Int)) = True := eq_true (by omega)
            have g2 : (0 ≤ z1) = True := eq_true (by omega)
            have g3 : (z1 < (na : Int)) = True := eq_true (by omega)
            have g4 : decide (0 < z) = true := decide_eq_true (by omega)
            have ez : z.toNat = i1 + 1 := by omega
            have ez1 : z1.toNat = i1 := by omega
            rw [← ez] at B1 C16
            rw [← ez1] at B2
            rw [← hz] at hlk ⊢
            have HZ := Lib.hid (And.intro (show wrap64 (z + 1) = ((i1 + 1 + 1 : Nat) : Int) by rw [hz]; unfold wrap64; omega) (And.intro hit hz))
            clear ho hp hO hP e' hle hpal hoal hol hoe hcs hds q16 hz hz1 ez ez1 hlk
            go_upto_region 19 with (fail)
            refine start_ (n := 30) (S := fun w' => Below wr.heap.size wr w' ∧ w'.cell? ⟨(ad.add (z.toNat * 32)).block, (ad.add (z.toNat * 32)).off + 16, none⟩ = some (.bool false)) (ds := []) #[false, false, false, false, false, false, false, false, false, false, false, false, false, false, false, false, false, false, false, false, false, false, false, false, false, false, false, false, false, false] (by kernel_rfl) rfl rfl ⟨HB1, C16.out _ HB1⟩ (fun hHeld => ?_)
            refine with_tabW rg7_19_tab rg7_19_bits (fun HT_ HW_ => ?_)
            refine pure_ (i := 0) (N := some 70) (v := ?_) (a' := ?_) #[true, false, false, false, false, false, false, false, false, false, false, false, false, false, false, false, false, false, false, false, false, false, false, false, false, false, false, false, false, false] rfl rfl (any_of HT_.out (by kernel_rfl)) (fun _ _ _ h => h) (Or.inl ⟨by rfl, ?_⟩) ?_ ?_
            rotate_left
            · intro w'
              go_simp
              with_reducible rfl
            rotate_left
            · simp only [Act.put, List.setIfInBounds_toArray, List.set_cons_zero, List.set_cons_succ, i64_w, i32_w]
              rfl
            refine pure_ (i := 1) (N := some 71) (v := ?_) (a' := ?_) #[true, true, false, false, false, false, false, false, false, false, false, false, false, false, false, false, false, false, false, false, false, false, false, false, false, false, false, false, false, false] rfl rfl (any_of HT_.out (by kernel_rfl)) (fun _ _ _ h => h) (Or.inl ⟨by rfl, ?_⟩) ?_ ?_
            rotate_left
            · intro w'
              go_simp
              with_reducible rfl
            rotate_left
            · simp only [Act.put, List.setIfInBounds_toArray, List.set_cons_zero, List.set_cons_succ, i64_w, i32_w]
              rfl
            refine pure_ (i := 2) (N := some 72) (v := ?_) (a' := ?_) #[true, true, true, false, false, false, false, false, false, false, false, false, false, false, false, false, false, false, false, false, false, false, false, false, false, false, false, false, false, false] rfl rfl (any_of HT_.out (by kernel_rfl)) (fun _ _ _ h => h) (Or.inl ⟨by rfl, ?_⟩) ?_ ?_
            rotate_left
            · intro w'
              go_simp
              with_reducible rfl
            rotate_left
            · simp only [Act.put, List.setIfInBounds_toArray, List.set_cons_zero, List.set_cons_succ, i64_w, i32_w]
              rfl
            refine pure_ (i := 3) (N := some 73) (v := ?_) (a' := ?_) #[true, true, true, true, false, false, false, false, false, false, false, false, false, false, false, false, false, false, false, false, false, false, false, false, false, false, false, false, false, false] rfl rfl (any_of HT_.out (by kernel_rfl)) (fun _ _ _ h => h) (Or.inl ⟨by rfl, ?_⟩) ?_ ?_
            rotate_left
            · intro w'
              go_simp
              with_reducible rfl
            rotate_left
            · simp only [Act.put, List.setIfInBounds_toArray, List.set_cons_zero, List.set_cons_succ, i64_w, i32_w]
              rfl
            refine take_ (i := 4) (N := some 74) (v := ?_) (a' := ?_) #[true, true, true, true, true, false, false, false, false, false, false, false, false, false, false, false, false, false, false, false, false, false, false, false, false, false, false, false, false, false] rfl rfl (take_ofW HT_.out HW_.out (by kernel_rfl)) (fun _ _ _ h => h) (Or.inl ⟨by rfl, ?_⟩) hHeld ?_ ?_
            rotate_left
            · rintro w' ⟨s0, s1⟩
              go_simp
              with_reducible rfl
            rotate_left
            · simp only [Act.put, List.setIfInBounds_toArray, List.set_cons_zero, List.set_cons_succ, i64_w, i32_w]
              rfl
            refine pure_ (i := 5) (N := some 75) (v := ?_) (a' := ?_) #[true, true, true, true, true, true, false, false, false, false, false, false, false, false, false, false, false, false, false, false, false, false, false, false, false, false, false, false, false, false] rfl rfl (any_of HT_.out (by kernel_rfl)) (fun _ _ _ h => h) (Or.inl ⟨by rfl, ?_⟩) ?_ ?_
            rotate_left
            · intro w'
              go_simp
              with_reducible rfl
            rotate_left
            · simp only [Act.put, List.setIfInBounds_toArray, List.set_cons_zero, List.set_cons_succ, i64_w, i32_w]
              rfl
            refine pure_ (i := 6) (N := some 76) (v := ?_) (a' := ?_) #[true, true, true, true, true, true, true, false, false, false, false, false, false, false, false, false, false, false, false, false, false, false, false, false, false, false, false, false, false, false] rfl rfl (any_of HT_.out (by kernel_rfl)) (fun _ _ _ h => h) (Or.inl ⟨by rfl, ?_⟩) ?_ ?_
            rotate_left
            · intro w'
              go_simp
              with_reducible rfl
            rotate_left
            · simp only [Act.put, List.setIfInBounds_toArray, List.set_cons_zero, List.set_cons_succ, i64_w, i32_w]
              rfl
            refine pure_ (i := 7) (N := some 77) (v := ?_) (a' := ?_) #[true, true, true, true, true, true, true, true, false, false, false, false, false, false, false, false, false, false, false, false, false, false, false, false, false, false, false, false, false, false] rfl rfl (any_of HT_.out (by kernel_rfl)) (fun _ _ _ h => h) (Or.inl ⟨by rfl, ?_⟩) ?_ ?_
            rotate_left
            · intro w'
              go_simp
              with_reducible rfl
            rotate_left
            · simp only [Act.put, List.setIfInBounds_toArray, List.set_cons_zero, List.set_cons_succ, i64_w, i32_w]
              rfl
            refine pure_ (i := 8) (N := some 78) (v := ?_) (a' := ?_) #[true, true, true, true, true, true, true, true, true, false, false, false, false, false, false, false, false, false, false, false, false, false, false, false, false, false, false, false, false, false] rfl rfl (any_of HT_.out (by kernel_rfl)) (fun _ _ _ h => h) (Or.inl ⟨by rfl, ?_⟩) ?_ ?_
            rotate_left
            · intro w'
              go_simp
              with_reducible rfl
            rotate_left
            · simp only [Act.put, List.setIfInBounds_toArray, List.set_cons_zero, List.set_cons_succ, i64_w, i32_w]
              rfl
            refine pure_ (i := 9) (N := some 79) (v := ?_) (a' := ?_) #[true, true, true, true, true, true, true, true, true, true, false, false, false, false, false, false, false, false, false, false, false, false, false, false, false, false, false, false, false, false] rfl rfl (any_of HT_.out (by kernel_rfl)) (fun _ _ _ h => h) (Or.inl ⟨by rfl, ?_⟩) ?_ ?_
            rotate_left
            · intro w'
              go_simp
              with_reducible rfl
            rotate_left
            · simp only [Act.put, List.setIfInBounds_toArray, List.set_cons_zero, List.set_cons_succ, i64_w, i32_w]
              rfl
            refine take_ (i := 10) (N := some 80) (v := ?_) (a' := ?_) #[true, true, true, true, true, true, true, true, true, true, true, false, false, false, false, false, false, false, false, false, false, false, false, false, false, false, false, false, false, false] rfl rfl (take_ofW HT_.out HW_.out (by kernel_rfl)) (fun _ _ _ h => h) (Or.inl ⟨by rfl, ?_⟩) hHeld ?_ ?_
            rotate_left
            · rintro w' ⟨s0, s1⟩
              refine load_any_ (x := .tmp 79) (p := ad.add (z.toNat * 32)) ?_ ?_ (B1.out _ s0) Tryd.underlying48 rfl hi1.out <;> rfl
            rotate_left
            · simp only [Act.put, List.setIfInBounds_toArray, List.set_cons_zero, List.set_cons_succ, i64_w, i32_w]
              rfl
            refine one_ (i := 11) (N := some 81) #[true, true, true, true, true, true, true, true, true, true, true, true, false, false, false, false, false, false, false, false, false, false, false, false, false, false, false, false, false, false] rfl rfl (one_of HT_.out (by kernel_rfl)) (by decide) (fun K hK => ?_)
            refine goes_ Tryd.func24 (by kernel_rfl) rfl #[.slice A n c, .agg cs] (by rfl) rfl rfl (by (try simp only [List.map_toArray, List.map_cons, List.map_nil]); first | done | rfl) ?_
            with_reducible refine (QH.out _ HB1).mono ?_
            rintro e w5 ⟨rfl, hb⟩
            replace HB1 := belT HB1 hb
            clear hb
            refine ⟨_, rfl, ?_⟩
            refine hK.out _ _ ⟨HB1, C16.out _ HB1⟩ (fun hHeld => ?_)
            clear hK K
            refine norm_ (a' := ?_) ?_ ?_
            rotate_left
            · show Act.put _ (some 81) _ = _
              simp only [Act.put, List.setIfInBounds_toArray, List.set_cons_zero, List.set_cons_succ, i64_w, i32_w]
              rfl
            refine pure_ (i := 12) (N := some 82) (v := ?_) (a' := ?_) #[true, true, true, true, true, true, true, true, true, true, true, true, true, false, false, false, false, false, false, false, false, false, false, false, false, false, false, false, false, false] rfl rfl (any_of HT_.out (by kernel_rfl)) (fun _ _ _ h => h) (Or.inl ⟨by rfl, ?_⟩) ?_ ?_
            rotate_left
            · intro w'
              go_simp
              with_reducible rfl
            rotate_left
            · simp only [Act.put, List.setIfInBounds_toArray, List.set_cons_zero, List.set_cons_succ, i64_w, i32_w]
              rfl
            refine pure_ (i := 13) (N := some 83) (v := ?_) (a' := ?_) #[true, true, true, true, true, true, true, true, true, true, true, true, true, true, false, false, false, false, false, false, false, false, false, false, false, false, false, false, false, false] rfl rfl (any_of HT_.out (by kernel_rfl)) (fun _ _ _ h => h) (Or.inl ⟨by rfl, ?_⟩) ?_ ?_
            rotate_left
            · intro w'
              go_simp
              with_reducible rfl
            rotate_left
            · simp only [Act.put, List.setIfInBounds_toArray, List.set_cons_zero, List.set_cons_succ, i64_w, i32_w]
              rfl
            refine pure_ (i := 14) (N := some 84) (v := ?_) (a' := ?_) #[true, true, true, true, true, true, true, true, true, true, true, true, true, true, true, false, false, false, false, false, false, false, false, false, false, false, false, false, false, false] rfl rfl (any_of HT_.out (by kernel_rfl)) (fun _ _ _ h => h) (Or.inl ⟨by rfl, ?_⟩) ?_ ?_
            rotate_left
            · intro w'
              go_simp
              with_reducible rfl
            rotate_left
            · simp only [Act.put, List.setIfInBounds_toArray, List.set_cons_zero, List.set_cons_succ, i64_w, i32_w]
              rfl
            refine pure_ (i := 15) (N := some 85) (v := ?_) (a' := ?_) #[true, true, true, true, true, true, true, true, true, true, true, true, true, true, true, true, false, false, false, false, false, false, false, false, false, false, false, false, false, false] rfl rfl (any_of HT_.out (by kernel_rfl)) (fun _ _ _ h => h) (Or.inl ⟨by rfl, ?_⟩) ?_ ?_
            rotate_left
            · intro w'
              go_simp
              with_reducible rfl
            rotate_left
            · simp only [Act.put, List.setIfInBounds_toArray, List.set_cons_zero, List.set_cons_succ, i64_w, i32_w]
              rfl
            refine pure_ (i := 16) (N := some 86) (v := ?_) (a' := ?_) #[true, true, true, true, true, true, true, true, true, true, true, true, true, true, true, true, true, false, false, false, false, false, false, false, false, false, false, false, false, false] rfl rfl (any_of HT_.out (by kernel_rfl)) (fun _ _ _ h => h) (Or.inl ⟨by rfl, ?_⟩) ?_ ?_
            rotate_left
            · intro w'
              go_simp
              with_reducible rfl
            rotate_left
            · simp only [Act.put, List.setIfInBounds_toArray, List.set_cons_zero, List.set_cons_succ, i64_w, i32_w]
              rfl
            refine pure_ (i := 17) (N := some 87) (v := ?_) (a' := ?_) #[true, true, true, true, true, true, true, true, true, true, true, true, true, true, true, true, true, true, false, false, false, false, false, false, false, false, false, false, false, false] rfl rfl (any_of HT_.out (by kernel_rfl)) (fun _ _ _ h => h) (Or.inl ⟨by rfl, ?_⟩) ?_ ?_
            rotate_left
            · intro w'
              go_simp
              with_reducible rfl
            rotate_left
            · simp only [Act.put, List.setIfInBounds_toArray, List.set_cons_zero, List.set_cons_succ, i64_w, i32_w]
              rfl
            refine pure_ (i := 18) (N := some 88) (v := ?_) (a' := ?_) #[true, true, true, true, true, true, true, true, true, true, true, true, true, true, true, true, true, true, true, false, false, false, false, false, false, false, false, false, false, false] rfl rfl (any_of HT_.out (by kernel_rfl)) (fun _ _ _ h => h) (Or.inl ⟨by rfl, ?_⟩) ?_ ?_
            rotate_left
            · intro w'
              go_simp
              with_reducible rfl
            rotate_left
            · simp only [Act.put, List.setIfInBounds_toArray, List.set_cons_zero, List.set_cons_succ, i64_w, i32_w]
              rfl
            refine pure_ (i := 19) (N := some 89) (v := ?_) (a' := ?_) #[true, true, true, true, true, true, true, true, true, true, true, true, true, true, true, true, true, true, true, true, false, false, false, false, false, false, false, false, false, false] rfl rfl (any_of HT_.out (by kernel_rfl)) (fun _ _ _ h => h) (Or.inl ⟨by rfl, ?_⟩) ?_ ?_
            rotate_left
            · intro w'
              go_simp
              with_reducible rfl
            rotate_left
            · simp only [Act.put, List.setIfInBounds_toArray, List.set_cons_zero, List.set_cons_succ, i64_w, i32_w]
              rfl
            refine pure_ (i := 20) (N := some 90) (v := ?_) (a' := ?_) #[true, true, true, true, true, true, true, true, true, true, true, true, true, true, true, true, true, true, true, true, true, false, false, false, false, false, false, false, false, false] rfl rfl (any_of HT_.out (by kernel_rfl)) (fun _ _ _ h => h) (Or.inl ⟨by rfl, ?_⟩) ?_ ?_
            rotate_left
            · intro w'
              go_simp
              with_reducible rfl
            rotate_left
            · simp only [Act.put, List.setIfInBounds_toArray, List.set_cons_zero, List.set_cons_succ, i64_w, i32_w]
              rfl
            refine pure_ (i := 22) (N := some 92) (v := ?_) (a' := ?_) #[true, true, true, true, true, true, true, true, true, true, true, true, true, true, true, true, true, true, true, true, true, false, true, false, false, false, false, false, false, false] rfl rfl (any_of HT_.out (by kernel_rfl)) (fun _ _ _ h => h) (Or.inl ⟨by rfl, ?_⟩) ?_ ?_
            rotate_left
            · intro w'
              go_simp
              with_reducible rfl
            rotate_left
            · simp only [Act.put, List.setIfInBounds_toArray, List.set_cons_zero, List.set_cons_succ, i64_w, i32_w]
              rfl
            refine pure_ (i := 23) (N := some 93) (v := ?_) (a' := ?_) #[true, true, true, true, true, true, true, true, true, true, true, true, true, true, true, true, true, true, true, true, true, false, true, true, false, false, false, false, false, false] rfl rfl (any_of HT_.out (by kernel_rfl)) (fun _ _ _ h => h) (Or.inl ⟨by rfl, ?_⟩) ?_ ?_
            rotate_left
            · intro w'
              go_simp
              with_reducible rfl
            rotate_left
            · simp only [Act.put, List.setIfInBounds_toArray, List.set_cons_zero, List.set_cons_succ, i64_w, i32_w]
              rfl
            refine pure_ (i := 24) (N := some 94) (v := ?_) (a' := ?_) #[true, true, true, true, true, true, true, true, true, true, true, true, true, true, true, true, true, true, true, true, true, false, true, true, true, false, false, false, false, false] rfl rfl (any_of HT_.out (by kernel_rfl)) (fun _ _ _ h => h) (Or.inl ⟨by rfl, ?_⟩) ?_ ?_
            rotate_left
            · intro w'
              go_simp
              with_reducible rfl
            rotate_left
            · simp only [Act.put, List.setIfInBounds_toArray, List.set_cons_zero, List.set_cons_succ, i64_w, i32_w]
              rfl
            refine pure_ (i := 25) (N := some 95) (v := ?_) (a' := ?_) #[true, true, true, true, true, true, true, true, true, true, true, true, true, true, true, true, true, true, true, true, true, false, true, true, true, true, false, false, false, false] rfl rfl (any_of HT_.out (by kernel_rfl)) (fun _ _ _ h => h) (Or.inl ⟨by rfl, ?_⟩) ?_ ?_
            rotate_left
            · intro w'
              go_simp
              with_reducible rfl
            rotate_left
            · simp only [Act.put, List.setIfInBounds_toArray, List.set_cons_zero, List.set_cons_succ, i64_w, i32_w]
              rfl
            refine take_ (i := 21) (N := some 91) (v := ?_) (a' := ?_) #[true, true, true, true, true, true, true, true, true, true, true, true, true, true, true, true, true, true, true, true, true, true, true, true, true, true, false, false, false, false] rfl rfl (take_ofW HT_.out HW_.out (by kernel_rfl)) (fun _ _ _ h => h) (Or.inl ⟨by rfl, ?_⟩) hHeld ?_ ?_
            rotate_left
            · rintro w' ⟨s0, s1⟩
              refine load_any_ (x := .tmp 90) (p := ad.add (z.toNat * 32)) ?_ ?_ (B1.out _ s0) Tryd.underlying48 rfl hi1.out <;> rfl
            rotate_left
            · simp only [Act.put, List.setIfInBounds_toArray, List.set_cons_zero, List.set_cons_succ, i64_w, i32_w]
              rfl
            refine take_ (i := 26) (N := some 96) (v := ?_) (a' := ?_) #[true, true, true, true, true, true, true, true, true, true, true, true, true, true, true, true, true, true, true, true, true, true, true, true, true, true, true, false, false, false] rfl rfl (take_ofW HT_.out HW_.out (by kernel_rfl)) (fun _ _ _ h => h) (Or.inl ⟨by rfl, ?_⟩) hHeld ?_ ?_
            rotate_left
            · rintro w' ⟨s0, s1⟩
              refine load_any_ (x := .tmp 95) (p := ad.add (z1.toNat * 32)) ?_ ?_ (B2.out _ s0) Tryd.underlying48 rfl hi2.out <;> rfl
            rotate_left
            · simp only [Act.put, List.setIfInBounds_toArray, List.set_cons_zero, List.set_cons_succ, i64_w, i32_w]
              rfl
            refine one_ (i := 27) (N := some 97) #[true, true, true, true, true, true, true, true, true, true, true, true, true, true, true, true, true, true, true, true, true, true, true, true, true, true, true, true, false, false] rfl rfl (one_of HT_.out (by kernel_rfl)) (by decide) (fun K hK => ?_)
            refine goes_ Tryd.func19 (by kernel_rfl) rfl #[.agg cs, .agg ds] (by rfl) rfl rfl (by (try simp only [List.map_toArray, List.map_cons, List.map_nil]); first | done | rfl) ?_
            with_reducible refine (QL.out _).mono ?_
            rintro e w5 ⟨rfl, hb⟩
            replace HB1 := belT HB1 hb
            clear hb
            refine ⟨_, rfl, ?_⟩
            refine hK.out _ _ ⟨HB1, C16.out _ HB1⟩ (fun hHeld => ?_)
            clear hK K
            refine norm_ (a' := ?_) ?_ ?_
            rotate_left
            · show Act.put _ (some 97) _ = _
              simp only [Act.put, List.setIfInBounds_toArray, List.set_cons_zero, List.set_cons_succ, i64_w, i32_w]
              rfl
            refine pure_ (i := 28) (N := some 98) (v := ?_) (a' := ?_) #[true, true, true, true, true, true, true, true, true, true, true, true, true, true, true, true, true, true, true, true, true, true, true, true, true, true, true, true, true, false] rfl rfl (any_of HT_.out (by kernel_rfl)) (fun _ _ _ h => h) (Or.inl ⟨by rfl, ?_⟩) ?_ ?_
            rotate_left
            · intro w'
              go_simp
              with_reducible rfl
            rotate_left
            · simp only [Act.put, List.setIfInBounds_toArray, List.set_cons_zero, List.set_cons_succ, i64_w, i32_w]
              rfl
            refine pure_ (i := 29) (N := some 99) (v := ?_) (a' := ?_) #[true, true, true, true, true, true, true, true, true, true, true, true, true, true, true, true, true, true, true, true, true, true, true, true, true, true, true, true, true, true] rfl rfl (any_of HT_.out (by kernel_rfl)) (fun _ _ _ h => h) (Or.inl ⟨by rfl, ?_⟩) ?_ ?_
            rotate_left
            · intro w'
              go_simp
              with_reducible rfl
            rotate_left
            · simp only [Act.put, List.setIfInBounds_toArray, List.set_cons_zero, List.set_cons_succ, i64_w, i32_w]
              rfl
            refine done_ (done_of HT_.out (by kernel_rfl)) ?_
            go_wp2
            go_roundw
            case rel => exact ⟨i1 + 1 + 1, HZ.out.2.1, by rw [HZ.out.1], Lib.hid (belT hI.out HB1)⟩
            case measure =>
              have h1 := HZ.out.2.1
              rw [HZ.out.1, HZ.out.2.2]
              simp [intOf]
              omega

        · obtain rfl : na = i := by omega
          have e1 : ((na : Int) == (na : Int)) = true := by simp
          have QB := Lib.hid (bound_calls A2 al na na wr (Kd.C_below hC2.out hI.out) HL.out.2.2.1.symm (by omega))
          rw [HL.out.2.1, bound_all] at QB
          go_wp2_with (first
            | (go_at_call 25; (with_reducible refine QB.out.mono ?_); rintro e w6 ⟨rfl, hb6⟩))
          go_ret
          exact ⟨rfl, belT (belT HB hI.out) hb6⟩
theorem rankFirst_pure (A : Option Addr) (c : Nat) (l : List Ob) (m : Int) (w : World) (hr : kO.C w A l.length l) (hf : ∀ o ∈ l, ObFits o) :
    Calls Tryd.prog 7 #[.slice A l.length c, .int .i64 m] w fun e w' => e = .returned (.bool true) ∧ Below w.heap.size w w' := by
  by_cases h : 200 < l.length
  · exact firstBig_calls A c l.length m w h
  · exact first_calls A l c l.length m w hr rfl h hf
end Go.Proofs.YtoepbjgldmgaoaaDoor

/- An object that is an argument, opened: the parts that rank.Less looks at. -/
namespace Go.Proofs.YtoepbjgldmgaoaaDoor
set_option linter.unusedVariables false
open Go.ChangeShapes Go.WideShapes Go.RowKit
end Go.Proofs.YtoepbjgldmgaoaaDoor

/- Objects, and lists of objects, that are arguments: opened. -/
namespace Go.Proofs.YtoepbjgldmgaoaaDoor
set_option linter.unusedVariables false
set_option linter.unusedSimpArgs false
set_option maxRecDepth 100000
open Go.ChangeShapes Go.WideShapes Go.RowKit Go.Proofs.YtoepbjgldmgaoaaDoorW.PrintWords
theorem weights_mem_all {H : Type} {P : Program} {e : TypeId} : ∀ {ds : List (DataW H)} {j : Nat} {d : DataW H}, ds[j]? = some d → ∀ n ∈ d.weights P e, n ∈ DataW.weightsAll P e ds
  | [], _, _, h, _, _ => by simp at h
  | d0 :: ds, 0, d, h, n, hn => by
    obtain rfl : d0 = d := by simpa using h
    simp only [DataW.weightsAll, List.mem_append]
    exact .inl hn
  | d0 :: ds, j + 1, d, h, n, hn => by
    simp only [DataW.weightsAll, List.mem_append]
    exact .inr (weights_mem_all (by simpa using h) n hn)
section
variable {H : Type} {enc : TypeId × Value → H} {W : World} {base : Nat} {spare : Nat → Bool} {held : Bool}
set_option maxRecDepth 100000 in
theorem open_labels {fuel : Nat} {cs : List Value} {x : DataW H × List MemPlace} (hw : ∀ n ∈ x.1.weights Tryd.prog 43, n ≤ reachBytes) (h : DataW.trod enc Tryd.prog W base spare held fuel 43 cs = some x) :
    ∃ v l, cs = [v] ∧ LabK W l v ∧ l.length ≤ 4398046511104 := by
  rcases Deep.open_slice_pairs Tryd.underlying43 Tryd.underlying98 (by kernel_rfl) rfl rfl (by kernel_rfl) (by kernel_rfl) h with ⟨hcs, hx⟩ | ⟨a, len, cap, m, n, V0, V1, D0, D1, P0, P1, hcs, hb, hl, hm, hmm, hx, hc⟩
  · subst hcs
    exact ⟨_, [], rfl, ⟨none, 0, rfl, Nat.le_refl _, Kd.C_nil _ _⟩, by simp⟩
  · subst hcs
    subst hx
    have hlm : len ≤ m := by rw [hmm]; split <;> omega
    have z : (len + (m - len)) * Tryd.prog.bytesOf 98 ≤ reachBytes := hw _ (by
      unfold DataW.weights
      rw [Tryd.underlying43]
      simp)
    rw [show Tryd.prog.bytesOf 98 = 32 by kernel_rfl] at z
    have each : ∀ i, i < len → ∃ p : Lab, W.cell? (a.add (i * 2)) = some (.string p.f0) ∧ W.cell? (a.add (i * 2 + 1)) = some (.string p.f1) := by
      intro i hi
      obtain ⟨h1, h2, h3, h4⟩ := hc i (by omega)
      obtain ⟨a0, e0, _, _⟩ := DataW.trod_string Tryd.underlying9 h3
      obtain ⟨a1, e1, _, _⟩ := DataW.trod_string Tryd.underlying9 h4
      simp at e0 e1
      exact ⟨⟨a0, a1⟩, by rw [h1, e0], by rw [h2, e1]⟩
    haveI : Inhabited Lab := ⟨⟨ByteArray.empty, ByteArray.empty⟩⟩
    obtain ⟨f, hf'⟩ := Deep.choose_lt each
    have hlen : ((List.range len).map f).length = len := by simp
    unfold reachBytes at z
    refine ⟨_, (List.range len).map f, rfl, ⟨some a, cap, by rw [hlen], by rw [hlen]; exact hl, ?_⟩, by rw [hlen]; omega⟩
    rw [hlen]
    refine ⟨hlen, by omega, fun _ => ⟨a, rfl, fun j p hj => ?_⟩⟩
    have hjl : j < len := by have := (List.getElem?_eq_some_iff.1 hj).1; rw [hlen] at this; exact this
    have hp : f j = p := by simpa [List.getElem?_range hjl] using hj
    subst hp
    refine ⟨[.string (f j).f0, .string (f j).f1], rfl, QLb.k98_mk W (f j), fun i u hu => ?_⟩
    match i with
    | 0 => obtain rfl : Value.string (f j).f0 = u := by simpa using hu
           exact (hf' j hjl).1
    | 1 => obtain rfl : Value.string (f j).f1 = u := by simpa using hu
           exact (hf' j hjl).2
    | i + 2 => simp at hu
/-- An object's numbers. -/
def Ob.ints (o : Ob) : List Int := [o.kind, o.version, o.born, o.roomC, o.roomM, o.beat, o.phase, o.needC, o.needM, o.rise, o.fall, o.count, o.surge, o.slack, o.least, o.term, o.till]
def ObInts (o : Ob) : Prop := ∀ z ∈ o.ints, -9223372036854775808 ≤ z ∧ z ≤ 9223372036854775807
set_option maxRecDepth 100000 in
set_option maxHeartbeats 1000000 in
theorem open_obj {fuel : Nat} {cs : List Value} {x : DataW H × List MemPlace} (hw : ∀ n ∈ x.1.weights Tryd.prog 48, n ≤ reachBytes) (h : DataW.trod enc Tryd.prog W base spare held fuel 48 cs = some x) :
    ∃ o v4 v27, cs = (o.cells v4 v27).toList ∧ LabK W o.labels v4 ∧ LabK W o.select v27 ∧ ObFits o ∧ ObInts o := by
  have hu := Tryd.underlying48
  obtain ⟨xs, m, _, hx, hlen, hl, hfd⟩ := DataW.trod_struct hu h
  rw [show Tryd.prog.cellsOf 48 = 32 by kernel_rfl] at hlen
  have hwd : ∀ (j : Nat) (t : TypeId) (y : DataW H × List MemPlace), xs[j]? = some y → (Program.underlying Tryd.prog 48).elim none (fun d => match d with | .struct fs => (fs.toList.map (·.type))[j]? | _ => none) = some t → ∀ n ∈ y.1.weights Tryd.prog t, n ≤ reachBytes := fun j t y hy ht n hn => hw n (by
    rw [hx]
    unfold DataW.weights
    rw [hu] at ht ⊢
    exact DataW.weights_mem_each (j := j) (t := t) (d := y.1) ht (by simp [hy]) n hn)
  rw [hu] at hwd
  have c1 : Tryd.prog.cellsOf 9 = 1 := by kernel_rfl
  have c2 : Tryd.prog.cellsOf 3 = 1 := by kernel_rfl
  have c3 : Tryd.prog.cellsOf 4 = 1 := by kernel_rfl
  have c4 : Tryd.prog.cellsOf 46 = 1 := by kernel_rfl
  have c5 : Tryd.prog.cellsOf 43 = 1 := by kernel_rfl
  have c6 : Tryd.prog.cellsOf 45 = 2 := by kernel_rfl
  have ex : ∀ j, j < 30 → ∃ y, xs[j]? = some y := fun j hj => ⟨_, List.getElem?_eq_getElem (by rw [hl]; exact hj)⟩
  have f0 : DataW.trod enc Tryd.prog W base spare held m 3 ((cs.drop 0).take (Tryd.prog.cellsOf 3)) = xs[0]? := hfd 0 _ rfl
  rw [c2] at f0
  obtain ⟨y0, e0⟩ := ex 0 (by omega)
  rw [e0] at f0
  clear e0
  have f1 : DataW.trod enc Tryd.prog W base spare held m 9 ((cs.drop 1).take (Tryd.prog.cellsOf 9)) = xs[1]? := hfd 1 _ rfl
  rw [c1] at f1
  obtain ⟨y1, e1⟩ := ex 1 (by omega)
  rw [e1] at f1
  have w1 := hwd 1 9 y1 e1 rfl
  clear e1
  have f2 : DataW.trod enc Tryd.prog W base spare held m 3 ((cs.drop 2).take (Tryd.prog.cellsOf 3)) = xs[2]? := hfd 2 _ rfl
  rw [c2] at f2
  obtain ⟨y2, e2⟩ := ex 2 (by omega)
  rw [e2] at f2
  clear e2
  have f3 : DataW.trod enc Tryd.prog W base spare held m 3 ((cs.drop 3).take (Tryd.prog.cellsOf 3)) = xs[3]? := hfd 3 _ rfl
  rw [c2] at f3
  obtain ⟨y3, e3⟩ := ex 3 (by omega)
  rw [e3] at f3
  clear e3
  have f4 : DataW.trod enc Tryd.prog W base spare held m 43 ((cs.drop 4).take (Tryd.prog.cellsOf 43)) = xs[4]? := hfd 4 _ rfl
  rw [c5] at f4
  obtain ⟨y4, e4⟩ := ex 4 (by omega)
  rw [e4] at f4
  have w4 := hwd 4 43 y4 e4 rfl
  clear e4
  have f5 : DataW.trod enc Tryd.prog W base spare held m 45 ((cs.drop 5).take (Tryd.prog.cellsOf 45)) = xs[5]? := hfd 5 _ rfl
  rw [c6] at f5
  obtain ⟨y5, e5⟩ := ex 5 (by omega)
  rw [e5] at f5
  clear e5
  have f6 : DataW.trod enc Tryd.prog W base spare held m 4 ((cs.drop 7).take (Tryd.prog.cellsOf 4)) = xs[6]? := hfd 6 _ rfl
  rw [c3] at f6
  obtain ⟨y6, e6⟩ := ex 6 (by omega)
  rw [e6] at f6
  clear e6
  have f7 : DataW.trod enc Tryd.prog W base spare held m 4 ((cs.drop 8).take (Tryd.prog.cellsOf 4)) = xs[7]? := hfd 7 _ rfl
  rw [c3] at f7
  obtain ⟨y7, e7⟩ := ex 7 (by omega)
  rw [e7] at f7
  clear e7
  have f8 : DataW.trod enc Tryd.prog W base spare held m 4 ((cs.drop 9).take (Tryd.prog.cellsOf 4)) = xs[8]? := hfd 8 _ rfl
  rw [c3] at f8
  obtain ⟨y8, e8⟩ := ex 8 (by omega)
  rw [e8] at f8
  clear e8
  have f9 : DataW.trod enc Tryd.prog W base spare held m 3 ((cs.drop 10).take (Tryd.prog.cellsOf 3)) = xs[9]? := hfd 9 _ rfl
  rw [c2] at f9
  obtain ⟨y9, e9⟩ := ex 9 (by omega)
  rw [e9] at f9
  clear e9
  have f10 : DataW.trod enc Tryd.prog W base spare held m 9 ((cs.drop 11).take (Tryd.prog.cellsOf 9)) = xs[10]? := hfd 10 _ rfl
  rw [c1] at f10
  obtain ⟨y10, e10⟩ := ex 10 (by omega)
  rw [e10] at f10
  have w10 := hwd 10 9 y10 e10 rfl
  clear e10
  have f11 : DataW.trod enc Tryd.prog W base spare held m 9 ((cs.drop 12).take (Tryd.prog.cellsOf 9)) = xs[11]? := hfd 11 _ rfl
  rw [c1] at f11
  obtain ⟨y11, e11⟩ := ex 11 (by omega)
  rw [e11] at f11
  have w11 := hwd 11 9 y11 e11 rfl
  clear e11
  have f12 : DataW.trod enc Tryd.prog W base spare held m 9 ((cs.drop 13).take (Tryd.prog.cellsOf 9)) = xs[12]? := hfd 12 _ rfl
  rw [c1] at f12
  obtain ⟨y12, e12⟩ := ex 12 (by omega)
  rw [e12] at f12
  have w12 := hwd 12 9 y12 e12 rfl
  clear e12
  have f13 : DataW.trod enc Tryd.prog W base spare held m 3 ((cs.drop 14).take (Tryd.prog.cellsOf 3)) = xs[13]? := hfd 13 _ rfl
  rw [c2] at f13
  obtain ⟨y13, e13⟩ := ex 13 (by omega)
  rw [e13] at f13
  clear e13
  have f14 : DataW.trod enc Tryd.prog W base spare held m 4 ((cs.drop 15).take (Tryd.prog.cellsOf 4)) = xs[14]? := hfd 14 _ rfl
  rw [c3] at f14
  obtain ⟨y14, e14⟩ := ex 14 (by omega)
  rw [e14] at f14
  clear e14
  have f15 : DataW.trod enc Tryd.prog W base spare held m 4 ((cs.drop 16).take (Tryd.prog.cellsOf 4)) = xs[15]? := hfd 15 _ rfl
  rw [c3] at f15
  obtain ⟨y15, e15⟩ := ex 15 (by omega)
  rw [e15] at f15
  clear e15
  have f16 : DataW.trod enc Tryd.prog W base spare held m 45 ((cs.drop 17).take (Tryd.prog.cellsOf 45)) = xs[16]? := hfd 16 _ rfl
  rw [c6] at f16
  obtain ⟨y16, e16⟩ := ex 16 (by omega)
  rw [e16] at f16
  clear e16
  have f17 : DataW.trod enc Tryd.prog W base spare held m 9 ((cs.drop 19).take (Tryd.prog.cellsOf 9)) = xs[17]? := hfd 17 _ rfl
  rw [c1] at f17
  obtain ⟨y17, e17⟩ := ex 17 (by omega)
  rw [e17] at f17
  have w17 := hwd 17 9 y17 e17 rfl
  clear e17
  have f18 : DataW.trod enc Tryd.prog W base spare held m 3 ((cs.drop 20).take (Tryd.prog.cellsOf 3)) = xs[18]? := hfd 18 _ rfl
  rw [c2] at f18
  obtain ⟨y18, e18⟩ := ex 18 (by omega)
  rw [e18] at f18
  clear e18
  have f19 : DataW.trod enc Tryd.prog W base spare held m 3 ((cs.drop 21).take (Tryd.prog.cellsOf 3)) = xs[19]? := hfd 19 _ rfl
  rw [c2] at f19
  obtain ⟨y19, e19⟩ := ex 19 (by omega)
  rw [e19] at f19
  clear e19
  have f20 : DataW.trod enc Tryd.prog W base spare held m 3 ((cs.drop 22).take (Tryd.prog.cellsOf 3)) = xs[20]? := hfd 20 _ rfl
  rw [c2] at f20
  obtain ⟨y20, e20⟩ := ex 20 (by omega)
  rw [e20] at f20
  clear e20
  have f21 : DataW.trod enc Tryd.prog W base spare held m 3 ((cs.drop 23).take (Tryd.prog.cellsOf 3)) = xs[21]? := hfd 21 _ rfl
  rw [c2] at f21
  obtain ⟨y21, e21⟩ := ex 21 (by omega)
  rw [e21] at f21
  clear e21
  have f22 : DataW.trod enc Tryd.prog W base spare held m 3 ((cs.drop 24).take (Tryd.prog.cellsOf 3)) = xs[22]? := hfd 22 _ rfl
  rw [c2] at f22
  obtain ⟨y22, e22⟩ := ex 22 (by omega)
  rw [e22] at f22
  clear e22
  have f23 : DataW.trod enc Tryd.prog W base spare held m 4 ((cs.drop 25).take (Tryd.prog.cellsOf 4)) = xs[23]? := hfd 23 _ rfl
  rw [c3] at f23
  obtain ⟨y23, e23⟩ := ex 23 (by omega)
  rw [e23] at f23
  clear e23
  have f24 : DataW.trod enc Tryd.prog W base spare held m 46 ((cs.drop 26).take (Tryd.prog.cellsOf 46)) = xs[24]? := hfd 24 _ rfl
  rw [c4] at f24
  obtain ⟨y24, e24⟩ := ex 24 (by omega)
  rw [e24] at f24
  clear e24
  have f25 : DataW.trod enc Tryd.prog W base spare held m 43 ((cs.drop 27).take (Tryd.prog.cellsOf 43)) = xs[25]? := hfd 25 _ rfl
  rw [c5] at f25
  obtain ⟨y25, e25⟩ := ex 25 (by omega)
  rw [e25] at f25
  have w25 := hwd 25 43 y25 e25 rfl
  clear e25
  have f26 : DataW.trod enc Tryd.prog W base spare held m 3 ((cs.drop 28).take (Tryd.prog.cellsOf 3)) = xs[26]? := hfd 26 _ rfl
  rw [c2] at f26
  obtain ⟨y26, e26⟩ := ex 26 (by omega)
  rw [e26] at f26
  clear e26
  have f27 : DataW.trod enc Tryd.prog W base spare held m 9 ((cs.drop 29).take (Tryd.prog.cellsOf 9)) = xs[27]? := hfd 27 _ rfl
  rw [c1] at f27
  obtain ⟨y27, e27⟩ := ex 27 (by omega)
  rw [e27] at f27
  have w27 := hwd 27 9 y27 e27 rfl
  clear e27
  have f28 : DataW.trod enc Tryd.prog W base spare held m 3 ((cs.drop 30).take (Tryd.prog.cellsOf 3)) = xs[28]? := hfd 28 _ rfl
  rw [c2] at f28
  obtain ⟨y28, e28⟩ := ex 28 (by omega)
  rw [e28] at f28
  clear e28
  have f29 : DataW.trod enc Tryd.prog W base spare held m 3 ((cs.drop 31).take (Tryd.prog.cellsOf 3)) = xs[29]? := hfd 29 _ rfl
  rw [c2] at f29
  obtain ⟨y29, e29⟩ := ex 29 (by omega)
  rw [e29] at f29
  clear e29
  clear hwd hw hx hfd ex h
  match cs, hlen with
  | [c0, c1, c2, c3, c4, c5, c6, c7, c8, c9, c10, c11, c12, c13, c14, c15, c16, c17, c18, c19, c20, c21, c22, c23, c24, c25, c26, c27, c28, c29, c30, c31], _ =>
    simp only [List.drop_succ_cons, List.drop_zero, List.take_succ_cons, List.take_zero] at f0
    obtain ⟨g0, h0, _, b0⟩ := DataW.trod_int Tryd.underlying3 f0
    obtain rfl : c0 = _ := by simpa using h0
    simp only [List.drop_succ_cons, List.drop_zero, List.take_succ_cons, List.take_zero] at f1
    obtain ⟨g1, h1, x1, _⟩ := DataW.trod_string Tryd.underlying9 f1
    obtain rfl : c1 = _ := by simpa using h1
    simp only [List.drop_succ_cons, List.drop_zero, List.take_succ_cons, List.take_zero] at f2
    obtain ⟨g2, h2, _, b2⟩ := DataW.trod_int Tryd.underlying3 f2
    obtain rfl : c2 = _ := by simpa using h2
    simp only [List.drop_succ_cons, List.drop_zero, List.take_succ_cons, List.take_zero] at f3
    obtain ⟨g3, h3, _, b3⟩ := DataW.trod_int Tryd.underlying3 f3
    obtain rfl : c3 = _ := by simpa using h3
    simp only [List.drop_succ_cons, List.drop_zero, List.take_succ_cons, List.take_zero] at f4
    obtain ⟨g4, l4, h4, K4, z4⟩ := open_labels w4 f4
    obtain rfl : c4 = _ := by simpa using h4
    simp only [List.drop_succ_cons, List.drop_zero, List.take_succ_cons, List.take_zero] at f5
    obtain ⟨p5, q5, m5, _, _, s5, t5⟩ := trod_struct2 Tryd.underlying45 f5
    simp only [c2, List.drop_succ_cons, List.drop_zero, List.take_succ_cons, List.take_zero] at s5 t5
    obtain ⟨g5, h5, _, b5⟩ := DataW.trod_int Tryd.underlying3 s5
    obtain ⟨g5', h5', _, b5'⟩ := DataW.trod_int Tryd.underlying3 t5
    obtain rfl : c5 = _ := by simpa using h5
    obtain rfl : c6 = _ := by simpa using h5'
    simp only [List.drop_succ_cons, List.drop_zero, List.take_succ_cons, List.take_zero] at f6
    obtain ⟨g6, h6, _⟩ := DataW.trod_bool Tryd.underlying4 f6
    obtain rfl : c7 = _ := by simpa using h6
    simp only [List.drop_succ_cons, List.drop_zero, List.take_succ_cons, List.take_zero] at f7
    obtain ⟨g7, h7, _⟩ := DataW.trod_bool Tryd.underlying4 f7
    obtain rfl : c8 = _ := by simpa using h7
    simp only [List.drop_succ_cons, List.drop_zero, List.take_succ_cons, List.take_zero] at f8
    obtain ⟨g8, h8, _⟩ := DataW.trod_bool Tryd.underlying4 f8
    obtain rfl : c9 = _ := by simpa using h8
    simp only [List.drop_succ_cons, List.drop_zero, List.take_succ_cons, List.take_zero] at f9
    obtain ⟨g9, h9, _, b9⟩ := DataW.trod_int Tryd.underlying3 f9
    obtain rfl : c10 = _ := by simpa using h9
    simp only [List.drop_succ_cons, List.drop_zero, List.take_succ_cons, List.take_zero] at f10
    obtain ⟨g10, h10, x10, _⟩ := DataW.trod_string Tryd.underlying9 f10
    obtain rfl : c11 = _ := by simpa using h10
    simp only [List.drop_succ_cons, List.drop_zero, List.take_succ_cons, List.take_zero] at f11
    obtain ⟨g11, h11, x11, _⟩ := DataW.trod_string Tryd.underlying9 f11
    obtain rfl : c12 = _ := by simpa using h11
    simp only [List.drop_succ_cons, List.drop_zero, List.take_succ_cons, List.take_zero] at f12
    obtain ⟨g12, h12, x12, _⟩ := DataW.trod_string Tryd.underlying9 f12
    obtain rfl : c13 = _ := by simpa using h12
    simp only [List.drop_succ_cons, List.drop_zero, List.take_succ_cons, List.take_zero] at f13
    obtain ⟨g13, h13, _, b13⟩ := DataW.trod_int Tryd.underlying3 f13
    obtain rfl : c14 = _ := by simpa using h13
    simp only [List.drop_succ_cons, List.drop_zero, List.take_succ_cons, List.take_zero] at f14
    obtain ⟨g14, h14, _⟩ := DataW.trod_bool Tryd.underlying4 f14
    obtain rfl : c15 = _ := by simpa using h14
    simp only [List.drop_succ_cons, List.drop_zero, List.take_succ_cons, List.take_zero] at f15
    obtain ⟨g15, h15, _⟩ := DataW.trod_bool Tryd.underlying4 f15
    obtain rfl : c16 = _ := by simpa using h15
    simp only [List.drop_succ_cons, List.drop_zero, List.take_succ_cons, List.take_zero] at f16
    obtain ⟨p16, q16, m16, _, _, s16, t16⟩ := trod_struct2 Tryd.underlying45 f16
    simp only [c2, List.drop_succ_cons, List.drop_zero, List.take_succ_cons, List.take_zero] at s16 t16
    obtain ⟨g16, h16, _, b16⟩ := DataW.trod_int Tryd.underlying3 s16
    obtain ⟨g16', h16', _, b16'⟩ := DataW.trod_int Tryd.underlying3 t16
    obtain rfl : c17 = _ := by simpa using h16
    obtain rfl : c18 = _ := by simpa using h16'
    simp only [List.drop_succ_cons, List.drop_zero, List.take_succ_cons, List.take_zero] at f17
    obtain ⟨g17, h17, x17, _⟩ := DataW.trod_string Tryd.underlying9 f17
    obtain rfl : c19 = _ := by simpa using h17
    simp only [List.drop_succ_cons, List.drop_zero, List.take_succ_cons, List.take_zero] at f18
    obtain ⟨g18, h18, _, b18⟩ := DataW.trod_int Tryd.underlying3 f18
    obtain rfl : c20 = _ := by simpa using h18
    simp only [List.drop_succ_cons, List.drop_zero, List.take_succ_cons, List.take_zero] at f19
    obtain ⟨g19, h19, _, b19⟩ := DataW.trod_int Tryd.underlying3 f19
    obtain rfl : c21 = _ := by simpa using h19
    simp only [List.drop_succ_cons, List.drop_zero, List.take_succ_cons, List.take_zero] at f20
    obtain ⟨g20, h20, _, b20⟩ := DataW.trod_int Tryd.underlying3 f20
    obtain rfl : c22 = _ := by simpa using h20
    simp only [List.drop_succ_cons, List.drop_zero, List.take_succ_cons, List.take_zero] at f21
    obtain ⟨g21, h21, _, b21⟩ := DataW.trod_int Tryd.underlying3 f21
    obtain rfl : c23 = _ := by simpa using h21
    simp only [List.drop_succ_cons, List.drop_zero, List.take_succ_cons, List.take_zero] at f22
    obtain ⟨g22, h22, _, b22⟩ := DataW.trod_int Tryd.underlying3 f22
    obtain rfl : c24 = _ := by simpa using h22
    simp only [List.drop_succ_cons, List.drop_zero, List.take_succ_cons, List.take_zero] at f23
    obtain ⟨g23, h23, _⟩ := DataW.trod_bool Tryd.underlying4 f23
    obtain rfl : c25 = _ := by simpa using h23
    simp only [List.drop_succ_cons, List.drop_zero, List.take_succ_cons, List.take_zero] at f24
    obtain ⟨g24, h24, _, b24⟩ := DataW.trod_int Tryd.underlying46 f24
    obtain rfl : c26 = _ := by simpa using h24
    simp only [List.drop_succ_cons, List.drop_zero, List.take_succ_cons, List.take_zero] at f25
    obtain ⟨g25, l25, h25, K25, z25⟩ := open_labels w25 f25
    obtain rfl : c27 = _ := by simpa using h25
    simp only [List.drop_succ_cons, List.drop_zero, List.take_succ_cons, List.take_zero] at f26
    obtain ⟨g26, h26, _, b26⟩ := DataW.trod_int Tryd.underlying3 f26
    obtain rfl : c28 = _ := by simpa using h26
    simp only [List.drop_succ_cons, List.drop_zero, List.take_succ_cons, List.take_zero] at f27
    obtain ⟨g27, h27, x27, _⟩ := DataW.trod_string Tryd.underlying9 f27
    obtain rfl : c29 = _ := by simpa using h27
    simp only [List.drop_succ_cons, List.drop_zero, List.take_succ_cons, List.take_zero] at f28
    obtain ⟨g28, h28, _, b28⟩ := DataW.trod_int Tryd.underlying3 f28
    obtain rfl : c30 = _ := by simpa using h28
    simp only [List.drop_succ_cons, List.drop_zero, List.take_succ_cons, List.take_zero] at f29
    obtain ⟨g29, h29, _, b29⟩ := DataW.trod_int Tryd.underlying3 f29
    obtain rfl : c31 = _ := by simpa using h29
    refine ⟨⟨g0, g1, g2, g3, l4, g5, g5', g6, g7, g8, g9, g10, g11, g12, g13, g14, g15, g16, g16', g17, g18, g19, g20, g21, g22, g23, g24, l25, g26, g27, g28, g29⟩, c4, c27, rfl, K4, K25, ⟨?_, z4, z25⟩, ?_⟩
    · have hz : g1.data.toList.length ≤ reachBytes := w1 _ (by rw [x1]; simp [DataW.weights])
      rw [Array.length_toList] at hz
      exact hz
    · intro z hz
      simp only [Ob.ints, List.mem_cons, List.not_mem_nil, or_false] at hz
      rcases hz with rfl | rfl | rfl | rfl | rfl | rfl | rfl | rfl | rfl | rfl | rfl | rfl | rfl | rfl | rfl | rfl | rfl
      all_goals (first | exact bounds_i64 b0 | exact bounds_i64 b2 | exact bounds_i64 b3 | exact bounds_i64 b5 | exact bounds_i64 b5' | exact bounds_i64 b9 | exact bounds_i64 b13 | exact bounds_i64 b16 | exact bounds_i64 b16' | exact bounds_i64 b18 | exact bounds_i64 b19 | exact bounds_i64 b20 | exact bounds_i64 b21 | exact bounds_i64 b22 | exact bounds_i64 b26 | exact bounds_i64 b28 | exact bounds_i64 b29)
set_option maxRecDepth 100000 in
theorem open_objs {fuel : Nat} {cs : List Value} {x : DataW H × List MemPlace} (hw : ∀ n ∈ x.1.weights Tryd.prog 22, n ≤ reachBytes) (h : DataW.trod enc Tryd.prog W base spare held fuel 22 cs = some x) :
    ∃ A c l, cs = [.slice A l.length c] ∧ l.length ≤ c ∧ kO.C W A l.length l ∧ (∀ o ∈ l, ObFits o ∧ ObInts o) ∧ l.length * 312 ≤ 140737488351232 := by
  rcases Deep.open_slice Tryd.underlying22 h with ⟨hcs, hx⟩ | ⟨a, len, cap, m, n, D, Pl, hcs, hb, hl, hm, hmm, hx, hc⟩
  · subst hcs
    exact ⟨none, 0, [], rfl, Nat.le_refl _, Kd.C_nil _ _, fun o ho => absurd ho List.not_mem_nil, by simp⟩
  · subst hcs
    subst hx
    have hlm : len ≤ m := by rw [hmm]; split <;> omega
    have z : (len + (m - len)) * Tryd.prog.bytesOf 48 ≤ reachBytes := hw _ (by
      unfold DataW.weights
      rw [Tryd.underlying22]
      simp)
    rw [show Tryd.prog.bytesOf 48 = 312 by kernel_rfl] at z
    unfold reachBytes at z
    have each : ∀ i, i < len → ∃ q : Ob × Value × Value, LabK W q.1.labels q.2.1 ∧ LabK W q.1.select q.2.2 ∧ (∀ j u, (q.1.cells q.2.1 q.2.2)[j]? = some u → W.cell? (a.add (i * 32 + j)) = some u) ∧ ObFits q.1 ∧ ObInts q.1 := by
      intro i hi
      obtain ⟨cs', h1, h2⟩ := hc i (by omega)
      rw [show Tryd.prog.cellsOf 48 = 32 by kernel_rfl] at h1
      obtain ⟨_, hlen, hcell⟩ := World.cells?_some h1
      obtain ⟨o, v4, v27, rfl, k4, k27, hf, hi'⟩ := open_obj (x := (D i, Pl i)) (fun n hn => hw n (by
        unfold DataW.weights
        rw [Tryd.underlying22]
        refine List.mem_cons_of_mem _ (List.mem_append.2 (.inl ?_))
        exact weights_mem_all (j := i) (d := D i) (by simp [hi]) n hn)) h2
      refine ⟨(o, v4, v27), k4, k27, fun j u hu => ?_, hf, hi'⟩
      have hj : j < 32 := by
        have := (Array.getElem?_eq_some_iff.1 hu).1
        rwa [Ob.cells_size] at this
      have := hcell j hj
      rw [add_add] at this
      rw [this]
      simpa using hu
    haveI : Inhabited (Ob × Value × Value) := ⟨(Ob.zero, .slice none 0 0, .slice none 0 0)⟩
    obtain ⟨f, hf'⟩ := Deep.choose_lt each
    have hlen : ((List.range len).map fun i => (f i).1).length = len := by simp
    refine ⟨some a, cap, (List.range len).map fun i => (f i).1, by rw [hlen], by rw [hlen]; exact hl, ?_, ?_, by rw [hlen]; omega⟩
    · rw [hlen]
      refine ⟨hlen, by omega, fun _ => ⟨a, rfl, fun j p hj => ?_⟩⟩
      have hjl : j < len := by have := (List.getElem?_eq_some_iff.1 hj).1; rw [hlen] at this; exact this
      have hp : (f j).1 = p := by simpa [List.getElem?_range hjl] using hj
      subst hp
      obtain ⟨k4, k27, hcell, _, _⟩ := hf' j hjl
      exact ⟨((f j).1.cells (f j).2.1 (f j).2.2).toList, by rw [Array.length_toList, Ob.cells_size]; rfl, ⟨_, _, rfl, k4, k27⟩, fun i u hu => hcell i u (by simpa using hu)⟩
    · intro o ho
      obtain ⟨j, hj, rfl⟩ := List.mem_map.1 ho
      exact ⟨(hf' j (List.mem_range.1 hj)).2.2.2.1, (hf' j (List.mem_range.1 hj)).2.2.2.2⟩
theorem open_objsV {v : Value} {d : DataW H} {ps : List MemPlace} (hval : ∃ a len cap, v = .slice a len cap) (hw : ∀ n ∈ d.weights Tryd.prog 22, n ≤ reachBytes) (h : DataW.Trod enc Tryd.prog W base spare held 22 v d ps) :
    ∃ A c l, v = .slice A l.length c ∧ l.length ≤ c ∧ kO.C W A l.length l ∧ (∀ o ∈ l, ObFits o ∧ ObInts o) ∧ l.length * 312 ≤ 140737488351232 := by
  obtain ⟨a, len, cap, rfl⟩ := hval
  obtain ⟨fuel, hf⟩ := h
  obtain ⟨A, c, l, e, h1, h2, h3, h4⟩ := open_objs (x := (d, ps)) hw hf
  simp [Value.cells] at e
  obtain ⟨rfl, rfl, rfl⟩ := e
  exact ⟨_, _, l, rfl, h1, h2, h3, h4⟩
theorem open_intV {r : Reach} {b0 : Nat} {v : Value} {d : DataW H} {ps : List MemPlace} (hval : Value.okWide Tryd.prog W r b0 3 v) (h : DataW.Trod enc Tryd.prog W base spare held 3 v d ps) : ∃ z, v = .int .i64 z ∧ -9223372036854775808 ≤ z ∧ z ≤ 9223372036854775807 := by
  obtain ⟨fuel, hf⟩ := h
  obtain ⟨z, e, _, wb⟩ := DataW.trod_int Tryd.underlying3 hf
  obtain ⟨n, rfl⟩ := okWide_int Tryd.underlying3 hval
  simp [Value.cells] at e
  subst e
  exact ⟨_, rfl, bounds_i64 wb⟩
end
end Go.Proofs.YtoepbjgldmgaoaaDoor

/- A start for the witness: the settled world, some variables' cells laid as the row says. -/
namespace Go.Proofs.YtoepbjgldmgaoaaDoor
/-- The cells of a datum that is made of numbers (in arrays, structs; two deep). -/
def flat1 : DataW Unit → List Value
  | .lit (.int k n) => [.int k n]
  | _ => []
def flat2 : DataW Unit → List Value
  | .agg l => l.flatMap fun
    | .agg m => m.flatMap flat1
    | x => flat1 x
  | x => flat1 x
def handleCell (h t : Nat) : List Value := [.iface h (.agg #[.pointer (some ⟨3, t, none⟩)])]
/-- One variable's cells, laid. -/
def layAt (heap : Array Obj) (x : Nat × List Value) : Array Obj := heap.modify x.1 fun
  | .cells _ t frozen => .cells x.2.toArray t frozen
  | o => o
noncomputable def laidWith (l : List (Nat × List Value)) (os : Os) : World :=
  { World.holding Tryd.prog os ⟨#[], #[], []⟩ with heap := l.foldl layAt (World.holding Tryd.prog os ⟨#[], #[], []⟩).heap }
end Go.Proofs.YtoepbjgldmgaoaaDoor
