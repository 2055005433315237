/- Lemmas on which the law stands, part 5: Stable, SortK, SortR, Vict, LentO, ObjAt, LentS, Copy, Bld, KT, InsF, Req, Inn, LifeP, Drn, Agent, Life, Rf23, RLife, SameR, OpenPod, OpenObj, Fl4, Wide23, FlLent, Kept, KeptO, FlKept, ALife. -/
import Derived.Test.YtiaggfjfgoiafaaDoorKLife4
import Derived.Test.YtiaggfjfgoiafaaDoorKLife1
import Derived.SizedLaws
import Derived.ChangeArms
import Derived.WideShapes
import Derived.OpenShut
import Derived.Deep.SlicePairs
import Derived.ChangeSame
set_option linter.unusedVariables false
set_option linter.unusedSimpArgs false
/- slices' stable sort over a block of objects: blocks of twenty, put in order by insertion, then merged. -/
namespace Go.Proofs.YtiaggfjfgoiafaaDoor
open Go.RowKit Go.Proofs.YtiaggfjfgoiafaaDoorW.PrintWords Go.Proofs.YtiaggfjfgoiafaaDoorW.PrintLast
def StI (D : Array Value → Prop) (g : Nat) (w wr : World) (R : List (Array Value)) : Prop := RowsAt wr g 32 R ∧ But g w wr ∧ ∀ x ∈ R, D x
theorem ins_seg (f : FuncId) (D : Array Value → Prop) (c : Array Value → Array Value → Int) (hcmp : CmpAt f D c) (hc : Wc.IsCmp c) (g cap len : Nat) (hcap : len ≤ cap) (hn : len ≤ 1099511627776) (R : List (Array Value)) (hl : R.length = len) (w W : World) (hS : StI D g w W R) (a b : Nat) (hab : a ≤ b) (hb : b ≤ len) (za zb : Int) (ha : za = a) (hz : zb = b) :
    Calls Tryd.prog 56 #[.slice (some ⟨g, 0, none⟩) len cap, .int .i64 za, .int .i64 zb, .func (.func f) #[] #[]] W fun e w' =>
      (∃ v, e = .returned v) ∧ StI D g w w' (R.take a ++ Srt.isort c ((R.drop a).take (b - a)) ++ R.drop b) := by
  subst hl; subst ha; subst hz
  refine (insSort_calls f D c hcmp hc R hS.2.2 g cap a b hab hb hcap hn W hS.1).mono ?_
  rintro e w' ⟨hv, hR, hB⟩
  refine ⟨hv, hR, hS.2.1.trans hB, fun x hx => hS.2.2 x ?_⟩
  rcases List.mem_append.1 hx with hx | hx
  · rcases List.mem_append.1 hx with hx | hx
    · exact List.mem_of_mem_take hx
    · exact List.mem_of_mem_drop (List.mem_of_mem_take ((Srt.mem_isort x _).1 hx))
  · exact List.mem_of_mem_drop hx
theorem merge_seg (f : FuncId) (D : Array Value → Prop) (c : Array Value → Array Value → Int) (hcmp : CmpAt f D c) (hc : Wc.IsCmp c) (g cap len : Nat) (hcap : len ≤ cap) (hn : len ≤ 1099511627776) (R : List (Array Value)) (hl : R.length = len) (w W : World) (hS : StI D g w W R) (a k q : Nat) (hk : 0 < k) (hq : 0 < q) (hle : a + k + q ≤ len)
    (sA : Srt.Sorted c (Srt.seg R a k)) (sB : Srt.Sorted c (Srt.seg R (a + k) q)) (za zc zb : Int) (ha : za = a) (hz : zc = a + k) (hb : zb = a + k + q) :
    Calls Tryd.prog 57 #[.slice (some ⟨g, 0, none⟩) len cap, .int .i64 za, .int .i64 zc, .int .i64 zb, .func (.func f) #[] #[]] W fun e w' =>
      (∃ v, e = .returned v) ∧ StI D g w w' (R.take a ++ Srt.merge c (Srt.seg R a k) (Srt.seg R (a + k) q) ++ R.drop (a + k + q)) := by
  have lA : (Srt.seg R a k).length = k := by rw [Srt.seg_length]; omega
  have lB : (Srt.seg R (a + k) q).length = q := by rw [Srt.seg_length]; omega
  have lX : (R.take a).length = a := by rw [List.length_take]; omega
  have e : R.take a ++ Srt.seg R a k ++ Srt.seg R (a + k) q ++ R.drop (a + k + q) = R := by
    rw [List.append_assoc (R.take a), ← Srt.seg_cut, Nat.add_assoc, Srt.seg_split]
  have mA : ∀ y ∈ Srt.seg R a k, y ∈ R := fun y hy => List.mem_of_mem_drop (List.mem_of_mem_take hy)
  have mB : ∀ y ∈ Srt.seg R (a + k) q, y ∈ R := fun y hy => List.mem_of_mem_drop (List.mem_of_mem_take hy)
  have hW := hS.1
  rw [← e] at hW
  refine (sym_calls f D c hcmp hc g cap (k + q) (R.take a) (Srt.seg R a k) (Srt.seg R (a + k) q) (R.drop (a + k + q)) (by omega) (by omega) (by omega) sA sB (fun y hy => hS.2.2 y (mA y hy)) (fun y hy => hS.2.2 y (mB y hy)) len (by rw [e, hl]) hcap hn za zc zb (by omega) (by omega) (by omega) W hW).mono ?_
  rintro e' w' ⟨hv, hR, hB⟩
  refine ⟨hv, hR, hS.2.1.trans hB, fun x hx => hS.2.2 x ?_⟩
  rcases List.mem_append.1 hx with hx | hx
  · rcases List.mem_append.1 hx with hx | hx
    · exact List.mem_of_mem_take hx
    · rcases (Srt.mem_merge c x _ _ _ (Nat.le_refl _)).1 hx with hx | hx
      · exact mA x hx
      · exact mB x hx
  · exact List.mem_of_mem_drop hx
set_option maxHeartbeats 8000000 in
set_option maxRecDepth 100000 in
theorem stable_calls (f : FuncId) (D : Array Value → Prop) (c : Array Value → Array Value → Int) (hcmp : CmpAt f D c) (hc : Wc.IsCmp c) (g cap len : Nat) (hcap : len ≤ cap) (hn : len ≤ 1099511627776) (L : List (Array Value)) (hl : L.length = len) (w W0 : World) (hS : StI D g w W0 L) (n : Int) (hnn : n = len) :
    Calls Tryd.prog 42 #[.slice (some ⟨g, 0, none⟩) len cap, .int .i64 n, .func (.func f) #[] #[]] W0 fun e w' =>
      (∃ v, e = .returned v) ∧ StI D g w w' (Srt.isort c L) := by
  have QI := Lib.hid (fun (R : List (Array Value)) (h : R.length = len) (W : World) => ins_seg f D c hcmp hc g cap len hcap hn R h w W)
  have QM := Lib.hid (fun (R : List (Array Value)) (h : R.length = len) (W : World) => merge_seg f D c hcmp hc g cap len hcap hn R h w W)
  have HS := Lib.hid hS
  have HN := Lib.hid (And.intro hl (And.intro hn (And.intro hnn hc)))
  clear hcmp hS hl hn hnn hc hcap
  go_enter Tryd.func42, Tryd.ntmps42
  go_wp2
  go_loopw [7, 8] (fun v7 v8 wr => ∃ (za zb : Int), v7 = .int .i64 za ∧ v8 = .int .i64 zb ∧ Hid (∃ (R : List (Array Value)) (a j : Nat), za = a ∧ zb = a + 20 ∧ a = j * 20 ∧ a ≤ len ∧ Srt.Begun c 20 a L R ∧ StI D g w wr R)) (fun v7 _ _ => (n - intOf v7).toNat)
  case atStart => exact ⟨_, _, rfl, rfl, Lib.hid ⟨L, 0, 0, rfl, rfl, rfl, Nat.zero_le _, Srt.Begun.start 20 (by omega) L, HS.out⟩⟩
  case round =>
    obtain ⟨za, zb, rfl, rfl, hI⟩ := hrel
    obtain ⟨R, a, j, h1, h2, h3, h4, h5, h6⟩ := hI.out
    obtain ⟨n1, n2, n3, n4⟩ := HN.out
    have hll := h5.len
    by_cases hlt : zb ≤ n
    · have d1 : decide (zb ≤ n) = true := decide_eq_true hlt
      obtain ⟨zb2, hzb2⟩ : ∃ z : Int, z = zb + 20 := ⟨_, rfl⟩
      have e1 : wrap64 (zb + 20) = zb2 := by unfold wrap64; omega
      have HQ := Lib.hid (QI.out R (by omega) wr h6 a (a + 20) (by omega) (by omega) za zb h1 (by omega))
      have HB := Lib.hid (h5.next j h3 (by omega) (by omega))
      have HA := Lib.hid (And.intro h1 (And.intro h2 (And.intro h3 (And.intro h4 (And.intro hzb2 (And.intro hlt (And.intro n1 (And.intro n2 n3))))))))
      clear hI h1 h2 h3 h4 h5 h6 n1 n2 n3 n4 hll hzb2 hlt
      go_wp2_with (go_at_call 56; (with_reducible refine HQ.out.mono ?_); rintro e w7 ⟨⟨v7, rfl⟩, hR7⟩)
      obtain ⟨h1, h2, h3, h4, h5, h6, n1, n2, n3⟩ := HA.out
      go_roundw
      case rel => exact ⟨zb, zb2, rfl, by first | rfl | rw [e1], Lib.hid ⟨_, a + 20, j + 1, by omega, by omega, by omega, by omega, HB.out, hR7⟩⟩
      case measure => simp [intOf]; omega
    · have d1 : decide (zb ≤ n) = false := decide_eq_false hlt
      have HQ := Lib.hid (QI.out R (by omega) wr h6 a len (by omega) (by omega) za n h1 (by omega))
      have HB : Hid (Srt.Blocks c 20 L (R.take a ++ Srt.isort c ((R.drop a).take (len - a)) ++ R.drop len)) := by
        have h7 := h5.last j h3 (by omega) (by omega) (by omega)
        rw [n1] at h7
        exact Lib.hid h7
      clear hI h1 h2 h3 h4 h5 h6 n1 n2 n3 n4 hll hlt
      go_wp2_with (go_at_call 56; (with_reducible refine HQ.out.mono ?_); rintro e w7 ⟨⟨v7, rfl⟩, hR7⟩)
      have HR7 : Hid (∃ R, Srt.Blocks c 20 L R ∧ StI D g w w7 R) := Lib.hid ⟨_, HB.out, hR7⟩
      clear HQ HB hR7
      clear d1
      go_loopw [6] (fun v6 wr => ∃ zk : Int, v6 = .int .i64 zk ∧ Hid (∃ (R : List (Array Value)) (k : Nat), zk = k ∧ 20 ≤ k ∧ k ≤ 2199023255552 ∧ Srt.Blocks c k L R ∧ StI D g w wr R)) (fun v6 _ => (n - intOf v6).toNat)
      case atStart =>
        obtain ⟨R, h1, h2⟩ := HR7.out
        exact ⟨_, rfl, Lib.hid ⟨R, 20, rfl, by omega, by omega, h1, h2⟩⟩
      case round =>
        clear HR7
        obtain ⟨zk, rfl, hI⟩ := hrel
        by_cases hlt : zk < n
        · have d1 : decide (zk < n) = true := decide_eq_true hlt
          obtain ⟨R0, k, h1, h2, h3, h4, h5⟩ := hI.out
          obtain ⟨zm, hzm⟩ : ∃ zm : Int, zm = 2 * zk := ⟨_, rfl⟩
          have e1 : wrap64 (2 * zk) = zm := by unfold wrap64; omega
          have e1' : wrap64 (zk * 2) = zm := by unfold wrap64; omega
          have HA := Lib.hid (And.intro h1 (And.intro h2 (And.intro h3 (And.intro hzm hlt))))
          have HP := Lib.hid (And.intro (h4.part (by omega)) h5)
          clear hI h1 h2 h3 h4 h5 hlt hzm
          obtain ⟨wo, hwo⟩ : ∃ wo : World, wo = wr := ⟨_, rfl⟩
          subst hwo
          go_wp2
          rw [e1]
          go_loopw [7, 8] (fun v7 v8 wq => ∃ (za zb : Int), v7 = .int .i64 za ∧ v8 = .int .i64 zb ∧ Hid (∃ (R : List (Array Value)) (a j : Nat), za = a ∧ zb = a + 2 * k ∧ a = j * (2 * k) ∧ a ≤ len ∧ Srt.Part c (2 * k) k a L R ∧ StI D g w wq R)) (fun v7 _ _ => (n - intOf v7).toNat)
          case atStart => exact ⟨0, zm, rfl, by first | rfl | rw [e1], Lib.hid ⟨R0, 0, 0, rfl, by have := HA.out; omega, by omega, Nat.zero_le _, HP.out.1, HP.out.2⟩⟩
          case round =>
            clear HP
            obtain ⟨za, zb, rfl, rfl, hI⟩ := hrel
            obtain ⟨R, a, j, h1, h2, h3, h4, h5, h6⟩ := hI.out
            obtain ⟨n1, n2, n3, n4⟩ := HN.out
            obtain ⟨k1, k2, k3, k4, k5⟩ := HA.out
            have hll := h5.len
            obtain ⟨zc, hzc⟩ : ∃ z : Int, z = za + zk := ⟨_, rfl⟩
            have e2 : wrap64 (za + zk) = zc := by unfold wrap64; omega
            have ea : a = (2 * j) * k := by rw [h3, Nat.mul_left_comm, ← Nat.mul_assoc]
            have eb : a + k = (2 * j + 1) * k := by rw [Nat.add_mul, Nat.one_mul, ← ea]
            have sA : Srt.Sorted c (Srt.seg R a k) := by
              rw [ea, h5.snd (2 * j) (by omega)]
              exact Srt.isort_sorted n4 _
            have sB : Srt.Sorted c (Srt.seg R (a + k) k) := by
              rw [eb, h5.snd (2 * j + 1) (by omega)]
              exact Srt.isort_sorted n4 _
            by_cases hlt : zb ≤ n
            · have d2 : decide (zb ≤ n) = true := decide_eq_true hlt
              obtain ⟨zb2, hzb2⟩ : ∃ z : Int, z = zb + zm := ⟨_, rfl⟩
              have e3 : wrap64 (zb + zm) = zb2 := by unfold wrap64; omega
              have HQ := Lib.hid (QM.out R (by omega) wr h6 a k k (by omega) (by omega) (by omega) sA sB za zc zb (by omega) (by omega) (by omega))
              have HB := Lib.hid (h5.next n4 j h3 (by omega) (by omega))
              rw [show a + 2 * k = a + k + k by omega] at HB
              have HC := Lib.hid (And.intro h1 (And.intro h2 (And.intro h3 (And.intro h4 (And.intro hzb2 (And.intro hlt (And.intro n1 (And.intro n2 n3))))))))
              clear hI h1 h2 h3 h4 h5 h6 n1 n2 n3 n4 hll hzb2 hlt k1 k2 k3 k4 k5 hzc ea eb sA sB
              go_wp2_with (go_at_call 57; (with_reducible refine HQ.out.mono ?_); rintro e w7 ⟨⟨v7, rfl⟩, hR7⟩)
              obtain ⟨h1, h2, h3, h4, h5, h6, n1, n2, n3⟩ := HC.out
              have k1 := HA.out
              go_roundw
              case rel => exact ⟨zb, zb2, rfl, by first | rfl | rw [e3], Lib.hid ⟨_, a + k + k, j + 1, by omega, by omega, by rw [Nat.add_mul]; omega, by omega, HB.out, hR7⟩⟩
              case measure => simp [intOf]; omega
            · have d2 : decide (zb ≤ n) = false := decide_eq_false hlt
              by_cases hlt2 : zc < n
              · have d3 : decide (zc < n) = true := decide_eq_true hlt2
                have sB2 : Srt.seg R (a + k) (len - (a + k)) = R.drop (a + k) := Srt.seg_all _ _ _ (by omega)
                have sB3 : Srt.seg R (a + k) k = R.drop (a + k) := Srt.seg_all _ _ _ (by omega)
                have HQ := Lib.hid (QM.out R (by omega) wr h6 a k (len - (a + k)) (by omega) (by omega) (by omega) sA (by rw [sB2, ← sB3]; exact sB) za zc n (by omega) (by omega) (by omega))
                have HB : Hid (Srt.Blocks c (2 * k) L (R.take a ++ Srt.merge c (Srt.seg R a k) (Srt.seg R (a + k) (len - (a + k))) ++ R.drop (a + k + (len - (a + k))))) := by
                  have h7 := h5.most n4 j h3 (by omega) (by omega) (by omega)
                  rw [sB2, show R.drop (a + k + (len - (a + k))) = [] from List.drop_eq_nil_of_le (by omega)]
                  exact Lib.hid h7
                clear hI h1 h2 h3 h4 h5 h6 n1 n2 n3 n4 hll hlt hlt2 k1 k2 k3 k4 k5 hzc ea eb sA sB sB2 sB3
                go_wp2_with (go_at_call 57; (with_reducible refine HQ.out.mono ?_); rintro e w7 ⟨⟨v7, rfl⟩, hR7⟩)
                have k1 := HA.out
                have n1 := HN.out
                go_roundw
                case rel => exact ⟨zm, by first | rfl | rw [e1'], Lib.hid ⟨_, 2 * k, by omega, by omega, by omega, HB.out, hR7⟩⟩
                case measure => simp [intOf]; omega
              · have d3 : decide (zc < n) = false := decide_eq_false hlt2
                have HB := Lib.hid (And.intro (h5.none_ n4 j h3 (by omega) (by omega)) h6)
                clear hI h1 h2 h3 h4 h5 h6 n1 n2 n3 n4 hll hlt hlt2 k1 k2 k3 k4 k5 hzc ea eb sA sB
                go_wp2
                have k1 := HA.out
                have n1 := HN.out
                go_roundw
                case rel => exact ⟨zm, by first | rfl | rw [e1'], Lib.hid ⟨_, 2 * k, by omega, by omega, by omega, HB.out.1, HB.out.2⟩⟩
                case measure => simp [intOf]; omega
        · have d1 : decide (zk < n) = false := decide_eq_false hlt
          go_wp2
          obtain ⟨R, k, h1, h2, h3, h4, h5⟩ := hI.out
          obtain ⟨n1, n2, n3, n4⟩ := HN.out
          have h6 := h4.end_ (by omega)
          rw [h6] at h5
          exact ⟨rfl, .tuple #[], by simp [results, Tryd.results42], ⟨_, rfl⟩, h5⟩
end Go.Proofs.YtiaggfjfgoiafaaDoor

/- The library's stable sort, over rows of the call's own: what they are is sorted, all else stays. -/
namespace Go.Proofs.YtiaggfjfgoiafaaDoor
open Go.RowKit Go.Proofs.YtiaggfjfgoiafaaDoorW.PrintWords Go.Proofs.YtiaggfjfgoiafaaDoorW.PrintLast
abbrev flat (L : List (Array Value)) : List Value := L.flatMap Array.toList
theorem flat_length (L : List (Array Value)) (h : ∀ x ∈ L, x.size = 32) : (flat L).length = L.length * 32 := by
  induction L with
  | nil => rfl
  | cons x L ih =>
    rw [flat, List.flatMap_cons, List.length_append, Array.length_toList, h x List.mem_cons_self, ih (fun y hy => h y (List.mem_cons_of_mem _ hy)), List.length_cons]
    omega
theorem flat_drop (L : List (Array Value)) (h : ∀ x ∈ L, x.size = 32) (j : Nat) : (flat L).drop (j * 32) = flat (L.drop j) := by
  induction j generalizing L with
  | zero => simp
  | succ j ih =>
    cases L with
    | nil => simp [flat]
    | cons x L =>
      have hx : x.toList.length = 32 := by rw [Array.length_toList, h x List.mem_cons_self]
      rw [flat, List.flatMap_cons, show (j + 1) * 32 = x.toList.length + j * 32 by omega, ← List.drop_drop, List.drop_left, List.drop_succ_cons]
      exact ih L (fun y hy => h y (List.mem_cons_of_mem _ hy))
theorem flat_at (L : List (Array Value)) (h : ∀ x ∈ L, x.size = 32) (j : Nat) (x : Array Value) (hj : L[j]? = some x) : ((flat L).drop (j * 32)).take 32 = x.toList := by
  obtain ⟨hlt, rfl⟩ := List.getElem?_eq_some_iff.1 hj
  have hx : (L[j]).toList.length = 32 := by rw [Array.length_toList, h _ (List.getElem_mem hlt)]
  rw [flat_drop L h, List.drop_eq_getElem_cons hlt, flat, List.flatMap_cons, ← hx, List.take_left]
theorem flat_get (L : List (Array Value)) (h : ∀ x ∈ L, x.size = 32) (j : Nat) (x : Array Value) (hj : L[j]? = some x) (i : Nat) (hi : i < 32) : (flat L)[j * 32 + i]? = x[i]? := by
  have h1 := flat_at L h j x hj
  have h2 : ((flat L).drop (j * 32)).take 32 = x.toList := h1
  have h3 : (((flat L).drop (j * 32)).take 32)[i]? = x.toList[i]? := by rw [h2]
  rw [List.getElem?_take, if_pos hi, List.getElem?_drop] at h3
  rw [h3]
  simp
theorem own_rows {w : World} {base e n g cap : Nat} {L : List (Array Value)} (ho : w.ownsRow base e 32 (.slice (some ⟨g, 0, none⟩) n cap) n (flat L)) (hn : L.length = n) (h1 : ∀ x ∈ L, x.size = 32 ∧ x.all (·.oneCell') = true) : RowsAt w g 32 L where
  one := h1
  row := fun j x hj i v hi => by
    have hlt := (List.getElem?_eq_some_iff.1 hj).1
    have hs := (h1 x (List.mem_of_getElem? hj)).1
    have hi2 : i < 32 := by
      have := (List.getElem?_eq_some_iff.1 hi).1
      rw [Array.length_toList, hs] at this
      exact this
    rw [ho.cellAt (j * 32 + i) (by omega), flat_get L (fun y hy => (h1 y hy).1) j x hj i hi2]
    simpa using hi
  there := fun j hj i hi => by
    refine ⟨?_, ho.frozenAt _⟩
    rw [ho.cellAt (j * 32 + i) (by omega), List.getElem?_eq_getElem (by rw [flat_length L (fun y hy => (h1 y hy).1)]; omega)]
    rfl
theorem rows_own {w w' : World} {base e n g cap : Nat} {inner : List Value} {L : List (Array Value)} (ho : w.ownsRow base e 32 (.slice (some ⟨g, 0, none⟩) n cap) n inner) (hB : But g w w') (hR : RowsAt w' g 32 L) (hn : L.length = n) : w'.ownsRow base e 32 (.slice (some ⟨g, 0, none⟩) n cap) n (flat L) := by
  have hs := fun x hx => (hR.one x hx).1
  refine ⟨by rw [flat_length L hs, hn], ?_⟩
  rcases ho.2 with ⟨h0, _⟩ | ⟨g', cap', cur, he, hb, hh, hnc, hcm, hcs, _⟩
  · cases h0
  · injection he with e1 _ e3
    injection e1 with e1
    injection e1 with e1
    subst e1; subst e3
    obtain ⟨cur', h', hs'⟩ := hB.shape cur e (0, 0) hh
    refine .inr ⟨g, cap, cur', rfl, hb, h', hnc, hcm, hs'.trans hcs, ?_⟩
    have hle : n * 32 ≤ cap * 32 := Nat.mul_le_mul_right _ hnc
    refine List.ext_getElem? (fun i => ?_)
    rcases Nat.lt_or_ge i (n * 32) with hi | hi
    · rw [List.getElem?_take, if_pos hi]
      have hj : i / 32 < L.length := by omega
      have hx : L[i / 32]? = some L[i / 32] := List.getElem?_eq_getElem hj
      have h3 := flat_get L hs (i / 32) _ hx (i % 32) (Nat.mod_lt _ (by omega))
      rw [show i / 32 * 32 + i % 32 = i by omega] at h3
      have hxs := hs _ (List.getElem_mem hj)
      have h4 : (L[i / 32])[i % 32]? = some (L[i / 32])[i % 32] := Array.getElem?_eq_getElem (by rw [hxs]; exact Nat.mod_lt _ (by omega))
      have h5 := hR.row (i / 32) _ hx (i % 32) _ (by rw [Array.getElem?_toList]; exact h4)
      rw [show i / 32 * 32 + i % 32 = i by omega, cell_of_row _ _ i _ _ _ h'] at h5
      rw [h3, h4, Array.getElem?_toList]
      exact h5
    · rw [List.getElem?_eq_none (by rw [List.length_take]; omega), List.getElem?_eq_none (by rw [flat_length L hs]; omega)]
theorem ins_zero (f : FuncId) (A : Option Addr) (c : Nat) (w : World) : Calls Tryd.prog 56 #[.slice A 0 c, .int .i64 0, .int .i64 0, .func (.func f) #[] #[]] w fun e w' => (∃ v, e = .returned v) ∧ w' = w := by
  go_enter Tryd.func56, Tryd.ntmps56
  go_wp2
  go_loop [8] (fun v => v = .int .i64 1) (fun _ => 0)
  case atStart => rfl
  case round =>
    subst hrel
    go_wp2
    exact ⟨rfl, .tuple #[], by simp [results, Tryd.results56], ⟨_, rfl⟩, rfl⟩
theorem stable_zero (f : FuncId) (A : Option Addr) (c : Nat) (w : World) : Calls Tryd.prog 42 #[.slice A 0 c, .int .i64 0, .func (.func f) #[] #[]] w fun e w' => (∃ v, e = .returned v) ∧ w' = w := by
  go_enter Tryd.func42, Tryd.ntmps42
  go_wp2
  go_loop [7, 8] (fun v7 v8 => v7 = .int .i64 0 ∧ v8 = .int .i64 20) (fun _ _ => 0)
  case atStart => exact ⟨rfl, rfl⟩
  case round =>
    obtain ⟨rfl, rfl⟩ := hrel
    go_wp2_with (go_at_call 56; (with_reducible refine (ins_zero f A c _).mono ?_); rintro e w7 ⟨⟨v7, rfl⟩, rfl⟩)
    go_loop [6] (fun v6 => v6 = .int .i64 20) (fun _ => 0)
    case atStart => rfl
    case round =>
      subst hrel
      go_wp2
      exact ⟨rfl, .tuple #[], by simp [results, Tryd.results42], ⟨_, rfl⟩, rfl⟩
theorem sort_zero (f : FuncId) (A : Option Addr) (c : Nat) (w : World) : Calls Tryd.prog 29 #[.slice A 0 c, .func (.func f) #[] #[]] w fun e w' => (∃ v, e = .returned v) ∧ w' = w := by
  go_enter Tryd.func29, Tryd.ntmps29
  go_wp2_with (go_at_call 42; (with_reducible refine (stable_zero f A c _).mono ?_); rintro e w7 ⟨⟨v7, rfl⟩, rfl⟩)
  exact ⟨rfl, .tuple #[], by simp [results, Tryd.results29], ⟨_, rfl⟩, rfl⟩
theorem sort_rows (f : FuncId) (D : Array Value → Prop) (c : Array Value → Array Value → Int) (hcmp : CmpAt f D c) (hc : Wc.IsCmp c) (g cap len : Nat) (hcap : len ≤ cap) (hn : len ≤ 1099511627776) (L : List (Array Value)) (hl : L.length = len) (w : World) (hR : RowsAt w g 32 L) (hD : ∀ x ∈ L, D x) :
    Calls Tryd.prog 29 #[.slice (some ⟨g, 0, none⟩) len cap, .func (.func f) #[] #[]] w fun e w' => (∃ v, e = .returned v) ∧ RowsAt w' g 32 (Srt.isort c L) ∧ But g w w' := by
  have HQ := Lib.hid (fun W (h : StI D g w W L) => stable_calls f D c hcmp hc g cap len hcap hn L hl w W h len rfl)
  have HS : Hid (StI D g w w L) := Lib.hid ⟨hR, But.refl _ _, hD⟩
  have hlen : (len : Int) ≤ 9223372036854775807 := by omega
  clear hcmp hc hcap hn hl hR hD
  go_enter Tryd.func29, Tryd.ntmps29
  go_wp2_with (go_at_call 42; (with_reducible refine (HQ.out _ HS.out).mono ?_); rintro e w7 ⟨⟨v7, rfl⟩, hR7⟩)
  exact ⟨rfl, .tuple #[], by simp [results, Tryd.results29], ⟨_, rfl⟩, hR7.1, hR7.2.1⟩
end Go.Proofs.YtiaggfjfgoiafaaDoor

/- The library's stable sort, over what is made: the things are sorted, all else stays. -/
namespace Go.Proofs.YtiaggfjfgoiafaaDoor
open Go.RowKit Go.Proofs.YtiaggfjfgoiafaaDoorW.PrintWords Go.Proofs.YtiaggfjfgoiafaaDoorW.PrintLast
theorem unflat (n : Nat) (inner : List Value) (h : inner.length = n * 32) : ∃ L : List (Array Value), L.length = n ∧ flat L = inner ∧ ∀ x ∈ L, x.size = 32 := by
  induction n generalizing inner with
  | zero => exact ⟨[], rfl, by rw [List.length_eq_zero_iff.1 (show inner.length = 0 by omega)]; rfl, fun _ hx => absurd hx List.not_mem_nil⟩
  | succ n ih =>
    obtain ⟨L, h1, h2, h3⟩ := ih (inner.drop 32) (by rw [List.length_drop]; omega)
    refine ⟨(inner.take 32).toArray :: L, by rw [List.length_cons, h1], ?_, fun x hx => ?_⟩
    · rw [flat, List.flatMap_cons, show L.flatMap Array.toList = inner.drop 32 from h2]
      exact List.take_append_drop 32 inner
    · rcases List.mem_cons.1 hx with rfl | hx
      · simp
        omega
      · exact h3 x hx
section
variable {α : Type}
theorem sort_pairs (c : α → α → Int) (cf : Array Value → Array Value → Int) (R : α → List Value → Prop) (xs : List α) (L : List (Array Value)) (hl : L.length = xs.length) (hR : ∀ (j : Nat) (x : α) (y : Array Value), xs[j]? = some x → L[j]? = some y → R x y.toList)
    (hcc : ∀ (x y : α) (a b : Array Value), x ∈ xs → y ∈ xs → R x a.toList → R y b.toList → (cf a b < 0 ↔ c x y < 0)) : ∀ (j : Nat) (x : α) (y : Array Value), (Srt.isort c xs)[j]? = some x → (Srt.isort cf L)[j]? = some y → R x y.toList := by
  obtain ⟨zs, hzs⟩ : ∃ zs : List (α × Array Value), zs = xs.zip L := ⟨_, rfl⟩
  have h1 : zs.map Prod.fst = xs := by rw [hzs, List.map_fst_zip (by omega)]
  have h2 : zs.map Prod.snd = L := by rw [hzs, List.map_snd_zip (by omega)]
  have hz : ∀ p ∈ zs, p.1 ∈ xs ∧ R p.1 p.2.toList := by
    intro p hp
    obtain ⟨j, hj⟩ := List.getElem?_of_mem hp
    have e1 : xs[j]? = some p.1 := by rw [← h1, List.getElem?_map, hj]; rfl
    have e2 : L[j]? = some p.2 := by rw [← h2, List.getElem?_map, hj]; rfl
    exact ⟨List.mem_of_getElem? e1, hR j _ _ e1 e2⟩
  have k1 : (Srt.isort (fun p q : α × Array Value => c p.1 q.1) zs).map Prod.fst = Srt.isort c xs := by rw [Srt.isort_map c Prod.fst, h1]
  have k2 : (Srt.isort (fun p q : α × Array Value => c p.1 q.1) zs).map Prod.snd = Srt.isort cf L := by
    rw [Srt.isort_congr (c' := fun p q : α × Array Value => cf p.2 q.2) zs (fun p hp q hq => (hcc _ _ _ _ (hz p hp).1 (hz q hq).1 (hz p hp).2 (hz q hq).2).symm), Srt.isort_map cf Prod.snd, h2]
  intro j x y hx hy
  rw [← k1, List.getElem?_map, Option.map_eq_some_iff] at hx
  rw [← k2, List.getElem?_map, Option.map_eq_some_iff] at hy
  obtain ⟨p, hp, rfl⟩ := hx
  obtain ⟨q, hq, rfl⟩ := hy
  rw [hp] at hq
  obtain rfl := Option.some.inj hq
  exact (hz p ((Srt.mem_isort p zs).1 (List.mem_of_getElem? hp))).2
theorem sort_R (d : Kd α) (hd : d.sz = 32) (f : FuncId) (D : Array Value → Prop) (cf : Array Value → Array Value → Int) (hcmp : CmpAt f D cf) (hcf : Wc.IsCmp cf) (c : α → α → Int) {e base : Nat} {ok : Nat → Prop} {w : World} {v : Value} {xs : List α} (h : d.R e w base ok v xs)
    (hD : ∀ x cs, x ∈ xs → d.K w x cs → D cs.toArray) (hcc : ∀ x y cs ds, x ∈ xs → y ∈ xs → d.K w x cs → d.K w y ds → (cf cs.toArray ds.toArray < 0 ↔ c x y < 0)) (hn : xs.length ≤ 1099511627776) :
    Calls Tryd.prog 29 #[v, .func (.func f) #[] #[]] w fun e' w' =>
      (∃ r, e' = .returned r) ∧ d.R e w' base ok v (Srt.isort c xs) ∧ Below base w w' ∧ w.heap.size ≤ w'.heap.size ∧ ∀ k, some k ≠ v.ownBlock → k < w.heap.size → w'.heap[k]? = w.heap[k]? := by
  obtain ⟨h0, inner, ho, hr⟩ := h
  rw [hd] at ho hr
  rcases ho.2 with ⟨rfl, hl0⟩ | ⟨g, cap, cur, rfl, hb, hh, hnc, hcm, hcs, ht⟩
  · obtain rfl : xs = [] := List.eq_nil_of_length_eq_zero hl0
    refine (sort_zero f none 0 w).mono ?_
    rintro e' w' ⟨hv, rfl⟩
    exact ⟨hv, Kd.R_nil _ _ _ _ _, Below.refl _ _, Nat.le_refl _, fun _ _ _ => rfl⟩
  · obtain ⟨L, hL, rfl, hs⟩ := unflat xs.length inner ho.1
    have hM : ∀ (j : Nat) (x : α) (y : Array Value), xs[j]? = some x → L[j]? = some y → d.M w base (fun k => ok k ∧ some k ≠ (Value.slice (some ⟨g, 0, none⟩) xs.length cap).ownBlock) x y.toList := by
      intro j x y hx hy
      have := hr.2 j x hx
      rw [flat_at L hs j y hy] at this
      exact this
    have hx : ∀ y ∈ L, ∃ x ∈ xs, d.M w base (fun k => ok k ∧ some k ≠ (Value.slice (some ⟨g, 0, none⟩) xs.length cap).ownBlock) x y.toList := by
      intro y hy
      obtain ⟨j, hj⟩ := List.getElem?_of_mem hy
      have hjl := (List.getElem?_eq_some_iff.1 hj).1
      have e1 : xs[j]? = some xs[j] := List.getElem?_eq_getElem (by omega)
      exact ⟨_, List.getElem_mem (by omega), hM j _ _ e1 hj⟩
    have h1 : ∀ y ∈ L, y.size = 32 ∧ y.all (·.oneCell') = true := by
      intro y hy
      obtain ⟨x, _, hm⟩ := hx y hy
      exact ⟨hs y hy, all_oneCell_toArray (d.K_one (d.K_of_M hm))⟩
    have hRA := own_rows ho hL h1
    refine (sort_rows f D cf hcmp hcf g cap xs.length hnc hn L hL w hRA (fun y hy => ?_)).mono ?_
    · obtain ⟨x, hxx, hm⟩ := hx y hy
      have := hD x _ hxx (d.K_of_M hm)
      simpa using this
    · rintro e' w' ⟨hv, hR', hB⟩
      have hb' : ∀ k, some k ≠ (Value.slice (some ⟨g, 0, none⟩) xs.length cap).ownBlock → k < w.heap.size → w'.heap[k]? = w.heap[k]? := fun k hk hlt => hB.block k hlt (fun e => hk (by rw [e]; rfl))
      have ho' := rows_own ho hB hR' (by rw [Srt.isort_length, hL])
      have hlt : g < w.heap.size := blkLt hh
      refine ⟨hv, ⟨h0, flat (Srt.isort cf L), ?_, ?_⟩, But.below (Below.refl _ _) hB hb (by omega), hB.size, hb'⟩
      · rw [Srt.isort_length, hd]
        exact ho'
      · rw [hd]
        refine ⟨by rw [flat_length _ (fun y hy => (hR'.one y hy).1), Srt.isort_length, Srt.isort_length, hL], fun j x hj => ?_⟩
        have hjl := (List.getElem?_eq_some_iff.1 hj).1
        rw [Srt.isort_length] at hjl
        obtain ⟨y, hy⟩ : ∃ y, (Srt.isort cf L)[j]? = some y := ⟨_, List.getElem?_eq_getElem (by rw [Srt.isort_length]; omega)⟩
        rw [flat_at _ (fun y hy => (hR'.one y hy).1) j _ hy]
        have := sort_pairs c cf (d.M w base (fun k => ok k ∧ some k ≠ (Value.slice (some ⟨g, 0, none⟩) xs.length cap).ownBlock)) xs L hL hM (fun x y a b hx hy ha hb => hcc x y _ _ hx hy (d.K_of_M ha) (d.K_of_M hb)) j x _ hj hy
        exact Kd.M_step this (fun k hk hlt => hb' k hk.2 hlt)
end
end Go.Proofs.YtiaggfjfgoiafaaDoor

/- rank.Victims: the objects that aren't ending, each a copy, in their order; the first ones of them. -/
namespace Go.Proofs.YtiaggfjfgoiafaaDoor
open Go.RowKit Go.Proofs.YtiaggfjfgoiafaaDoorW.PrintWords Go.Proofs.YtiaggfjfgoiafaaDoorW.PrintLast
attribute [local go_sem] Go.Proofs.YtiaggfjfgoiafaaDoorW.PrintMore.max2_int Go.Proofs.YtiaggfjfgoiafaaDoorW.PrintMore.min2_int Go.Proofs.YtiaggfjfgoiafaaDoorW.PrintMore.max_two Go.Proofs.YtiaggfjfgoiafaaDoorW.PrintMore.min_two
theorem infoO : (Tryd.prog.info? 39).map (fun i => (i.zero, i.size, i.bytes)) = some (some (.agg (Ob.zero.cells (.slice none 0 0) (.slice none 0 0))), 32, 312) := by kernel_rfl
theorem infoO1 : (Tryd.prog.info? 39).map (·.size) = some 32 := by kernel_rfl
def live (l : List Ob) : List Ob := l.filter fun o => !o.ending
def sortV (l : List Ob) : List Ob := Srt.isort (fun a b => cV a.pk b.pk) l
def headN (n : Int) (len : Nat) : Nat := min n.toNat len
def victF (l : List Ob) (n : Int) : List Ob := (sortV (live l)).take (headN n (live l).length)
def ObFits (o : Ob) : Prop := o.name.size ≤ 140737488351232 ∧ o.labels.length ≤ 4398046510976 ∧ o.select.length ≤ 4398046510976
def rg34_6_T : Bool × List (List Nat × List Nat) := (true, [([], []), ([0], [0]), ([1], [1]), ([], []), ([3], [3]), ([4, 2], [4]), ([0, 1, 2, 3, 4], []), ([6, 2, 5, 0, 1, 2, 3, 4], [2, 6]), ([0, 1, 2, 3, 4, 5, 6, 7], []), ([8, 5, 7, 0, 1, 2, 3, 4, 5, 6, 7], [5, 8])])
def rg34_6_B : List Nat := [0, 1, 3, 0, 8, 31, 31, 127, 255, 511]
end Go.Proofs.YtiaggfjfgoiafaaDoor

/- Objects that are lent: their lists in memory of their own, marks behind them. -/
namespace Go.Proofs.YtiaggfjfgoiafaaDoor
open Go.RowKit Go.Proofs.YtiaggfjfgoiafaaDoorW.PrintWords Go.Proofs.YtiaggfjfgoiafaaDoorW.PrintLast
def kLent : Kd Ob where
  sz := 32
  E := [56]
  K := fun w o cs => ∃ v4 v27, cs = (o.cells v4 v27).toList ∧ LentK w o.labels v4 ∧ LentK w o.select v27
  M := fun w base ok o cs => ∃ v4 v27, cs = (o.cells v4 v27).toList ∧ LentR w base (fun k => ok k ∧ some k ≠ v27.ownBlock) o.labels v4 ∧ LentR w base (fun k => ok k ∧ some k ≠ v4.ownBlock) o.select v27
  K_len := by
    rintro w x cs ⟨v4, v27, rfl, _⟩
    rfl
  K_one := by
    rintro w x cs ⟨v4, v27, rfl, h4, h27⟩ u hu
    exact (Array.all_eq_true_iff_forall_mem.1 (x.cells_one h4.lab.one h27.lab.one)) u (by simpa using hu)
  K_below := by
    rintro w w1 x cs hb ⟨v4, v27, rfl, h4, h27⟩
    exact ⟨v4, v27, rfl, h4.below hb, h27.below hb⟩
  K_of_M := by
    rintro w base ok x cs ⟨v4, v27, rfl, h4, h27⟩
    exact ⟨v4, v27, rfl, h4.lent, h27.lent⟩
  M_mono := by
    rintro w base ok ok' x cs hok ⟨v4, v27, rfl, h4, h27⟩
    exact ⟨v4, v27, rfl, h4.mono (fun k hk => ⟨hok k hk.1, hk.2⟩), h27.mono (fun k hk => ⟨hok k hk.1, hk.2⟩)⟩
  M_bound := by
    rintro w base ok x cs ⟨v4, v27, rfl, h4, h27⟩
    exact ⟨v4, v27, rfl, h4.bound.mono (fun k hk => ⟨⟨hk.1.1, hk.2⟩, hk.1.2⟩), h27.bound.mono (fun k hk => ⟨⟨hk.1.1, hk.2⟩, hk.1.2⟩)⟩
  M_move := by
    rintro w w1 base ok x cs hm ⟨v4, v27, rfl, h4, h27⟩
    exact ⟨v4, v27, rfl, h4.move (fun k hk => hm k hk.1), h27.move (fun k hk => hm k hk.1)⟩
  M_lower := by
    rintro w base base' ok x cs hb ⟨v4, v27, rfl, h4, h27⟩
    exact ⟨v4, v27, rfl, h4.lower hb, h27.lower hb⟩
theorem kLent_K {w : World} {o : Ob} {cs : List Value} (h : kLent.K w o cs) : kO.K w o cs := by
  obtain ⟨v4, v27, rfl, h4, h27⟩ := h
  exact ⟨v4, v27, rfl, h4.lab, h27.lab⟩
theorem kLent_C {w : World} {A : Option Addr} {n : Nat} {l : List Ob} (h : kLent.C w A n l) : kO.C w A n l := Kd.C_imp (d := kLent) (d' := kO) rfl (fun _ _ _ => kLent_K) h
theorem cells_set4 (o : Ob) (v4 v27 u4 : Value) : (o.cells v4 v27).setIfInBounds 4 u4 = o.cells u4 v27 := rfl
theorem cells_set27 (o : Ob) (v4 v27 u27 : Value) : (o.cells v4 v27).setIfInBounds 27 u27 = o.cells v4 u27 := rfl
set_option maxRecDepth 100000 in
set_option maxHeartbeats 2000000 in
theorem lentObject_calls (o : Ob) (v4 v27 : Value) (w : World) (h4 : LabK w o.labels v4) (h27 : LabK w o.select v27) (hf : ObFits o) :
    Calls Tryd.prog 37 #[.agg (o.cells v4 v27)] w fun e w' => ∃ u4 u27, e = .returned (.agg (o.cells u4 u27)) ∧ LentR w' w.heap.size (fun k => some k ≠ u27.ownBlock) o.labels u4 ∧ LentR w' w.heap.size (fun k => some k ≠ u4.ownBlock) o.select u27 ∧ Below w.heap.size w w' := by
  obtain ⟨cs, hcs⟩ : ∃ cs, cs = o.cells v4 v27 := ⟨_, rfl⟩
  have Q4 := Lib.hid (fun (W : World) (hW : Below w.heap.size w W) => lentLabels_calls (h4.below hW) hf.2.1)
  have Q27 := Lib.hid (fun (W : World) (hW : Below w.heap.size w W) => lentLabels_calls (h27.below hW) hf.2.2)
  have h1c := o.cells_one (v4 := v4) (v27 := v27) h4.one h27.one
  rw [← hcs] at h1c ⊢
  have hs : cs.size = 32 := by rw [hcs]; rfl
  have hi1 : Hid ((Tryd.prog.info? 39).map (·.size) = some cs.size) := Lib.hid (by rw [hs]; kernel_rfl)
  have Hcs := Lib.hid (And.intro hcs (And.intro h1c hs))
  have c4 : Hid (cs[4]? = some v4) := Lib.hid (by rw [hcs]; rfl)
  have c27 : Hid (cs[27]? = some v27) := Lib.hid (by rw [hcs]; rfl)
  clear hcs h1c hs h4 h27 hf
  have HM := Lib.hid (Eq.refl 0)
  go_enter Tryd.func37, Tryd.ntmps37
  obtain ⟨zz, hzz⟩ : ∃ zz, zz = Ob.zero.cells (.slice none 0 0) (.slice none 0 0) := ⟨_, rfl⟩
  have Hzz : Hid (zz.size = 32) := Lib.hid (by rw [hzz]; rfl)
  replace hzz := Lib.hid hzz
  go_wp2_with (first
    | ((with_reducible refine gate_ (.load 39 (.tmp 1)) rfl ?_); clear HM; (have HB : Below w.heap.size w ((w.alloc (Obj.cells cs 39)).alloc (Obj.cells zz 39)) := Go.Joins.below_alloc2 w _ _); (have BA : ((w.alloc (Obj.cells cs 39)).alloc (Obj.cells zz 39)).heap[w.heap.size]? = some (.cells cs 39 (0, 0)) := (heap_alloc_old _ _ (by simp)).trans (heap_alloc_new w _)); (have BC : ((w.alloc (Obj.cells cs 39)).alloc (Obj.cells zz 39)).heap[w.heap.size + 1]? = some (.cells zz 39 (0, 0)) := heap_alloc2_new w _ _); (have hW0 : ((w.alloc (Obj.cells cs 39)).alloc (Obj.cells zz 39)) = ((w.alloc (Obj.cells cs 39)).alloc (Obj.cells (Ob.zero.cells (.slice none 0 0) (.slice none 0 0)) 39)) := by rw [hzz.out]); generalize hW1 : ((w.alloc (Obj.cells cs 39)).alloc (Obj.cells zz 39)) = W0 at HB BA BC hW0; (refine Eq.mp (congrArg (fun x => wpList _ _ _ _ _ x) hW0) ?_); clear hW0 hW1; obtain ⟨ga, hga⟩ : ∃ x, x = w.heap.size := ⟨_, rfl⟩; obtain ⟨gc, hgc⟩ : ∃ x, x = w.heap.size + 1 := ⟨_, rfl⟩; rw [← hgc] at BC ⊢; rw [← hga] at BA ⊢; (have La : w.heap.size ≤ ga := by omega); (have Lc : w.heap.size ≤ gc := by omega); (have Nac : ga ≠ gc := by omega); clear hga hgc)
    | ((with_reducible refine wpList_load_blk rfl 39 (.tmp 1) rfl ga 39 ?l1 cs _ ?l2 Tryd.underlying39 ?l3 ?l4 ?_); (case l1 => rfl); (case l2 => exact BA); (case l3 => rfl); (case l4 => exact hi1.out))
    | ((with_reducible refine wpList_store_blk rfl 39 (.tmp 3) (.tmp 4) rfl W0.heap.size 39 ?c0 cs ?c1 ?c2 ?c3 ?c4 ?c5 ?c6 ?_); (case c1 => rfl); (case c2 => rfl); (case c3 => exact heap_alloc_new _ _); (case c4 => exact hi1.out); (case c5 => exact Eq.trans (b := 32) rfl Hcs.out.2.2.symm); (case c6 => exact Hcs.out.2.1); intro w1 BX hk hb hz; have Nax : ga ≠ W0.heap.size := (by have := blkLt BA; omega); have Ncx : gc ≠ W0.heap.size := (by have := blkLt BC; omega); replace BA := (hk _ Nax).trans ((heap_alloc_old _ _ (blkLt BA)).trans BA); replace BC := (hk _ Ncx).trans ((heap_alloc_old _ _ (blkLt BC)).trans BC); have Lx := HB.size; replace HB := hb _ _ (HB.alloc HB.size _) HB.size; clear hk hb hz; obtain ⟨gx, hgx⟩ : ∃ g, g = W0.heap.size := ⟨_, rfl⟩; rw [← hgx] at BX Nax Ncx Lx ⊢; clear hgx)
    | ((with_reducible refine gate_ (.load 34 _) rfl ?_); first | refine wpList_load1_w 34 _ rfl ⟨ga, 4, none⟩ rfl rfl v4 _ ((cell_of_row _ _ 4 _ _ _ BA).trans c4.out) Tryd.underlying34 rfl ?_ | refine wpList_load1_w 34 _ rfl ⟨ga, 27, none⟩ rfl rfl v27 _ ((cell_of_row _ _ 27 _ _ _ BA).trans c27.out) Tryd.underlying34 rfl ?_)
    | (go_at_call 50; (with_reducible refine (Q4.out _ HB).mono ?_); rintro e w2 ⟨u4, rfl, H4, hb⟩; obtain ⟨g4, hg4, hb4, hl4⟩ := H4.own; have Nx4 : gx ≠ g4 := (by have := blkLt BX; omega); have Nc4 : gc ≠ g4 := (by have := blkLt BC; omega); have L4 : w.heap.size ≤ g4 := (by have := HB.size; omega); have H4t := H4.lower HB.size; clear H4 hb4; replace BA := blkB hb BA; replace BC := blkB hb BC; replace BX := blkB hb BX; replace HB := belT HB hb; clear hb Q4)
    | (go_at_call 50; (with_reducible refine (Q27.out _ HB).mono ?_); rintro e w3 ⟨u27, rfl, H27, hb⟩; obtain ⟨g27, hg27, hb27, hl27⟩ := H27.own; have Nx27 : gx ≠ g27 := (by have := blkLt BX; omega); have Nc27 : gc ≠ g27 := (by have := blkLt BC; omega); have N4 : g4 ≠ g27 := (by omega); have H27t := H27.lower HB.size; clear H27 hb27; replace H4t := H4t.tight.move (fun k hk => hb.block k (by rw [hg4] at hk; injection hk with hk; omega)); replace BA := blkB hb BA; replace BC := blkB hb BC; replace BX := blkB hb BX; replace HB := belT HB hb; clear hb Q27)
    | ((with_reducible refine wpList_store1 rfl 34 (.tmp 8) (.tmp 7) rfl gx 4 39 cs u4 ?s1 ?s2 ?s3 ?s4 ?s5 ?s6 ?s7 ?_); (case s1 => rfl); (case s2 => rfl); (case s3 => exact H4t.cells.1); (case s4 => exact BX); (case s5 => (rw [Hcs.out.2.2]; omega)); (case s6 => kernel_rfl); (case s7 => exact H4t.cells.2); intro w4 BX' hk hb hz; rw [Hcs.out.1, cells_set4] at BX'; replace BX := BX'; replace BA := (hk _ Nax).trans BA; replace BC := (hk _ Ncx).trans BC; replace H4t := H4t.tight.move (fun k hk' => hk k (by rw [hg4] at hk'; injection hk' with hk'; omega)); replace HB := hb _ _ HB Lx; have hl4' : g4 < w4.heap.size := (by omega); clear hk hb hz BX' hl4)
    | ((with_reducible refine wpList_store1 rfl 34 (.tmp 12) (.tmp 11) rfl gx 27 39 (o.cells u4 v27) u27 ?s1 ?s2 ?s3 ?s4 ?s5 ?s6 ?s7 ?_); (case s1 => rfl); (case s2 => rfl); (case s3 => exact H27t.cells.1); (case s4 => exact BX); (case s5 => (rw [Ob.cells_size]; omega)); (case s6 => kernel_rfl); (case s7 => exact H27t.cells.2); intro w5 BX' hk hb hz; rw [cells_set27] at BX'; replace BX := BX'; replace BA := (hk _ Nax).trans BA; replace BC := (hk _ Ncx).trans BC; replace H4t := H4t.tight.move (fun k hk' => hk k (by rw [hg4] at hk'; injection hk' with hk'; omega)); replace H27t := H27t.tight.move (fun k hk' => hk k (by rw [hg27] at hk'; injection hk' with hk'; omega)); replace HB := hb _ _ HB Lx; clear hk hb hz BX')
    | ((with_reducible refine wpList_load_blk rfl 39 (.tmp 3) rfl gx 39 ?l1 (o.cells u4 u27) _ ?l2 Tryd.underlying39 ?l3 ?l4 ?_); (case l1 => rfl); (case l2 => exact BX); (case l3 => rfl); (case l4 => exact infoO1))
    | ((with_reducible refine wpList_store_blk rfl 39 (.tmp 2) (.tmp 13) rfl gc 39 zz (o.cells u4 u27) ?c1 ?c2 ?c3 ?c4 ?c5 ?c6 ?_); (case c1 => rfl); (case c2 => rfl); (case c3 => exact BC); (case c4 => exact infoO1); (case c5 => exact Hzz.out); (case c6 => exact o.cells_one H4t.cells.2 H27t.cells.2); intro w6 BC' hk hb hz; replace H4t := H4t.tight.move (fun k hk' => hk k (by rw [hg4] at hk'; injection hk' with hk'; omega)); replace H27t := H27t.tight.move (fun k hk' => hk k (by rw [hg27] at hk'; injection hk' with hk'; omega)); replace HB := hb _ _ HB Lc; clear hk hb hz))
  refine bodyPost_ret (v := .agg (o.cells u4 u27)) (results_cell_row (p := 2) (ty := 39) rfl _ _ gc 39 (o.cells u4 u27) (0, 0) _ (by rfl) BC' Tryd.underlying39 rfl infoO1) rfl ?_
  refine ⟨u4, u27, rfl, H4t.mono (fun k hk e => ?_), H27t.mono (fun k hk e => ?_), HB⟩
  · rw [hg27] at e
    rw [hg4] at hk
    injection e with e
    injection hk with hk
    omega
  · rw [hg4] at e
    rw [hg27] at hk
    injection e with e
    injection hk with hk
    omega
end Go.Proofs.YtiaggfjfgoiafaaDoor

/- An object of a list that is read: its cells. -/
namespace Go.Proofs.YtiaggfjfgoiafaaDoor
open Go.RowKit Go.Proofs.YtiaggfjfgoiafaaDoorW.PrintWords Go.Proofs.YtiaggfjfgoiafaaDoorW.PrintLast
instance obDec : DecidableEq Ob := fun o p => decidable_of_iff (sameB o p = true) (sameB_iff o p)
theorem sameB_dec (o p : Ob) : sameB o p = decide (o = p) := by
  rw [Bool.eq_iff_iff, sameB_iff, decide_eq_true_eq]
structure ObjAt (w : World) (ad : Addr) (k : Nat) (o : Ob) (v4 v27 : Value) : Prop where
  l4 : LabK w o.labels v4
  l27 : LabK w o.select v27
  cells : ∀ (j : Nat) (u : Value), (o.cells v4 v27)[j]? = some u → w.cell? ((ad.add (k * 32)).add j) = some u
theorem ObjAt.below {w w1 : World} {ad : Addr} {k : Nat} {o : Ob} {v4 v27 : Value} (h : ObjAt w ad k o v4 v27) (hb : Below w.heap.size w w1) : ObjAt w1 ad k o v4 v27 :=
  ⟨h.l4.below hb, h.l27.below hb, fun j u hu => cell_below hb (h.cells j u hu)⟩
theorem objAt {w : World} {A : Option Addr} {n : Nat} {l : List Ob} (h : kO.C w A n l) (k : Nat) (o : Ob) (hk : l[k]? = some o) : ∃ ad v4 v27, A = some ad ∧ ObjAt w ad k o v4 v27 := by
  obtain ⟨ad, v4, v27, e, h4, h27, hc⟩ := obj_at h k o hk
  exact ⟨ad, v4, v27, e, h4, h27, fun j u hu => by rw [add_add]; exact hc j u hu⟩
theorem ObjAt.field {w : World} {ad : Addr} {k : Nat} {o : Ob} {v4 v27 : Value} (h : ObjAt w ad k o v4 v27) (j : Nat) (hj : 0 < j) {u : Value} (hu : (o.cells v4 v27)[j]? = some u) : w.cell? ⟨(ad.add (k * 32)).block, (ad.add (k * 32)).off + j, none⟩ = some u := by
  have := h.cells j u hu
  rwa [add_add, add_field _ _ _ hj] at this
end Go.Proofs.YtiaggfjfgoiafaaDoor

/- LentObjects: each object lent, in a list of its own. -/
namespace Go.Proofs.YtiaggfjfgoiafaaDoor
open Go.RowKit Go.Proofs.YtiaggfjfgoiafaaDoorW.PrintWords Go.Proofs.YtiaggfjfgoiafaaDoorW.PrintLast
theorem lent_step {w wr w1 w2 : World} {v : Value} {xs : List Ob} {o : Ob} {u4 u27 : Value} (hR : Kd.R kLent 39 wr w.heap.size (fun _ => True) v xs) (hB : Below w.heap.size w wr) (hb1 : Below wr.heap.size wr w1)
    (H4 : LentR w1 wr.heap.size (fun k => some k ≠ u27.ownBlock) o.labels u4) (H27 : LentR w1 wr.heap.size (fun k => some k ≠ u4.ownBlock) o.select u27) {x : Obj}
    (hk : ∀ k, k ≠ w1.heap.size → w2.heap[k]? = (w1.alloc x).heap[k]?) (hb2 : Below wr.heap.size wr w2) :
    (kLent.M w2 w.heap.size (fun k => some k = u4.ownBlock ∨ some k = u27.ownBlock) o (o.cells u4 u27).toList ∧ Kd.R kLent 39 w2 w.heap.size (fun _ => True) v xs ∧ ∀ k, (some k = u4.ownBlock ∨ some k = u27.ownBlock) → True ∧ some k ≠ v.ownBlock) ∧ Below w.heap.size w w2 := by
  obtain ⟨g4, e4, b4, l4⟩ := H4.own
  obtain ⟨g27, e27, b27, l27⟩ := H27.own
  have ne : g4 ≠ g27 := fun e => by
    obtain ⟨A, c, rfl, _, hr⟩ := H4
    have := hr.1 g4 e4
    rw [e27] at this
    exact this (by rw [e])
  have same : ∀ k, k < w1.heap.size → w2.heap[k]? = w1.heap[k]? := fun k hlt => (hk k (by omega)).trans (heap_alloc_old _ _ hlt)
  have hw := hB.size
  refine ⟨⟨⟨u4, u27, rfl, ?_, ?_⟩, Kd.R_below hR hb2, ?_⟩, belT hB hb2⟩
  · exact ((H4.tight.move (fun k hk' => same k (by rw [e4] at hk'; injection hk' with hk'; omega))).lower hw).mono (fun k hk' => ⟨.inl hk', fun e => ne (by rw [e4] at hk'; rw [e27] at e; injection hk' with hk'; injection e with e; omega)⟩)
  · exact ((H27.tight.move (fun k hk' => same k (by rw [e27] at hk'; injection hk' with hk'; omega))).lower hw).mono (fun k hk' => ⟨.inr hk', fun e => ne (by rw [e27] at hk'; rw [e4] at e; injection hk' with hk'; injection e with e; omega)⟩)
  · rintro k (h | h) <;> refine ⟨trivial, fun e => ?_⟩ <;> have := Kd.R_lt hR k e.symm
    · rw [e4] at h; injection h with h; omega
    · rw [e27] at h; injection h with h; omega
set_option maxHeartbeats 2000000 in
set_option maxRecDepth 100000 in
theorem lentObjects_R (A : Option Addr) (c n : Nat) (l : List Ob) (w : World) (hr : kO.C w A l.length l) (hln : l.length = n) (hl : n ≤ 451081693433) (hf : ∀ o ∈ l, ObFits o) :
    Calls Tryd.prog 19 #[.slice A n c] w fun e w' => ∃ A' c', e = .returned (.slice A' n n) ∧ kLent.R 39 w' w.heap.size (fun _ => True) (.slice A' n c') l ∧ Below w.heap.size w w' := by
  have HR := Lib.hid hr
  have HL := Lib.hid hln
  have HF := Lib.hid hf
  clear hr hln hf
  go_enter Tryd.func19, Tryd.ntmps19
  go_wp2
  go_loopw [3, 4] (fun v3 v4 wr => ∃ k : Nat, v4 = .int .i64 k ∧ k ≤ n ∧ Hid (Kd.R kLent 39 wr w.heap.size (fun _ => True) v3 (l.take k) ∧ Below w.heap.size w wr)) (fun _ v4 _ => n - (intOf v4).toNat)
  case atStart => exact ⟨0, rfl, Nat.zero_le _, Lib.hid ⟨Kd.R_nil _ _ _ _ _, Below.refl _ _⟩⟩
  case round =>
    obtain ⟨k, rfl, hk, hI⟩ := hrel
    by_cases hlt : k < n
    · obtain ⟨o, ho⟩ : ∃ o, l[k]? = some o := ⟨_, List.getElem?_eq_getElem (by have := HL.out; omega)⟩
      obtain ⟨ad, v4, v27, rfl, hO⟩ := objAt (Kd.C_below HR.out hI.out.2) k o ho
      have hlk : (k : Int) < (n : Int) := by omega
      obtain ⟨cs, hcs⟩ : ∃ cs, cs = o.cells v4 v27 := ⟨_, rfl⟩
      have hi1 : Hid ((Tryd.prog.info? 39).map (·.size) = some cs.size) := Lib.hid (by rw [hcs, Ob.cells_size]; kernel_rfl)
      have B1 := hO.cells
      have QL := Lib.hid (lentObject_calls o v4 v27 wr hO.l4 hO.l27 (HF.out o (List.mem_of_getElem? ho)))
      rw [← hcs] at B1 QL
      replace B1 := Lib.hid B1
      have hsn : l.take (k + 1) = l.take k ++ [o] := by rw [List.take_add_one, ho]; rfl
      have HT := Lib.hid hsn
      have hkl : (l.take k).length ≤ 451081693432 := Nat.le_trans (List.length_take_le _ _) (by omega)
      have hlen : ((l.take k).length + 1) * 312 ≤ 140737488355328 := by omega
      clear ho hO hcs hsn hkl
      go_wp2_with (first
        | ((with_reducible refine wpList_load_any rfl 39 (.tmp 14) rfl (ad.add (k * 32)) ?l1 cs _ ?l2 Tryd.underlying39 ?l3 ?l4 ?_); (case l1 => rfl); (case l2 => exact B1.out); (case l3 => rfl); (case l4 => exact hi1.out))
        | (go_at_call 37; (with_reducible refine QL.out.mono ?_); rintro e w1 ⟨u4, u27, rfl, H4, H27, hb1⟩; clear QL)
        | ((with_reducible refine wpList_store_blk rfl 39 (.tmp 5) (.tmp 16) rfl w1.heap.size 39 ?c0 (o.cells u4 u27) ?c1 ?c2 ?c3 ?c4 ?c5 ?c6 ?_); (case c1 => rfl); (case c2 => rfl); (case c3 => exact heap_alloc_new _ _); (case c4 => exact infoO1); (case c5 => rfl); (case c6 => exact o.cells_one H4.cells.2 H27.cells.2); intro w2 G hk hb hz; obtain ⟨hA, hB2⟩ := lent_step hI.out.1 hI.out.2 hb1 H4 H27 hk (hb _ _ (Below.alloc (hb1.mono (Nat.le_refl _)) hb1.size _) hb1.size); have HA := Lib.hid hA; have HG := Lib.hid G; have HB2 := Lib.hid hB2; have hw2 : Hid (w.heap.size ≤ w2.heap.size) := Lib.hid hB2.size; obtain ⟨gx, hgx⟩ : ∃ g, g = w1.heap.size := ⟨_, rfl⟩; rw [← hgx] at HG ⊢; clear G hk hb hz hA hB2 hgx H4 H27 hb1)
        | ((with_reducible refine wpList_load_blk rfl 39 (.tmp 5) rfl gx 39 ?m1 (o.cells u4 u27) _ ?m2 Tryd.underlying39 ?m3 ?m4 ?_); (case m1 => rfl); (case m2 => exact HG.out); (case m3 => rfl); (case m4 => exact infoO1))
        | ((with_reducible refine wpList_build1 rfl 22 39 (.tmp 18) rfl (o.cells u4 u27) ?d1 ?d2 32 312 Tryd.underlying22 ?d3 ?d4 (by omega) (by omega) ?d5 ?_); (case d1 => rfl); (case d3 => exact infoO); (case d4 => rfl); (case d5 => rfl))
        | (at_builtin; refine Kd.R_append kLent (w0 := w) (W := w2) w.heap.size rfl (.tmp 17) (.tmp 19) 22 39 (.agg (Ob.zero.cells (.slice none 0 0) (.slice none 0 0))) 312 rfl Tryd.underlying22 infoO rfl (by decide) (by omega) u3 (l.take k) o (o.cells u4 u27).toList (fun _ => True) (fun k => some k = u4.ownBlock ∨ some k = u27.ownBlock) rfl rfl HA.out.1 HA.out.2.2 (fun _ _ => trivial) HA.out.2.1 HB2.out hw2.out hlen ?_; intro v1 w6 hR6 hB6 hg6 hat6))
      go_roundw
      case rel => exact ⟨k + 1, by go_num, by omega, Lib.hid ⟨by rw [HT.out]; exact hR6, hB6⟩⟩
      case measure => simp [intOf]; omega
    · obtain rfl : n = k := by omega
      obtain ⟨A5, c5, rfl⟩ := Kd.R_slice hI.out.1
      have h1 := (Kd.R_reads' hI.out.1)
      have hll : (l.take n).length = n := by rw [List.length_take]; have := HL.out; omega
      have hle : n ≤ c5 := by have := h1.2.1; omega
      have hle2 : (n : Int) ≤ (c5 : Int) := by omega
      have HI := Lib.hid (And.intro hI.out.1 hll)
      rw [hll]
      clear h1 hll
      go_wp2
      go_ret
      refine ⟨A5, c5, rfl, ?_, hI.out.2⟩
      obtain ⟨h2, h3⟩ := HI.out
      have e : l.take n = l := List.take_of_length_le (Nat.le_of_eq HL.out)
      rw [h3, e] at h2
      exact h2
end Go.Proofs.YtiaggfjfgoiafaaDoor

/- CopyLabels, CopyObject, CopyObjects: the same, in memory of their own. -/
namespace Go.Proofs.YtiaggfjfgoiafaaDoor
open Go.RowKit Go.Proofs.YtiaggfjfgoiafaaDoorW.PrintWords Go.Proofs.YtiaggfjfgoiafaaDoorW.PrintLast
end Go.Proofs.YtiaggfjfgoiafaaDoor

/- One struct laid into a new block, in a region that draws its order; a slice of objects cut off below. -/
namespace Go.Proofs.YtiaggfjfgoiafaaDoor
open Go.RowKit Go.Proofs.YtiaggfjfgoiafaaDoorW.PrintWords Go.Proofs.YtiaggfjfgoiafaaDoorW.PrintLast
section
variable {P : Program}
theorem build1_ {ops : Array Oper} {op : Oper} {N : Option Tmp} {a : Act} {w : World} {K : Act → World → Prop} {Q : Exit → Act → World → Prop} (hw : Region.wanted op (yielded ops a.tmps) = true) (hN : op.dst = N) (t e : TypeId) (x : Operand) (ho : op.op = .buildSlice t 1 #[(0, x)]) (cs : Array Value) (hx : a.eval x = .agg cs)
    (z : Value) (n bytes : Nat) (hu : P.underlying t = some (.slice e)) (hinfo : (P.info? e).map (fun i => (i.zero, i.size, i.bytes)) = some (some z, n, bytes)) (hs : cs.size = n) (h0 : 0 < n) (hn : n ≤ 1000) (hz : z.cells.size = n)
    (h : K (a.put N (.slice (some ⟨w.heap.size, 0, none⟩) 1 1)) (w.alloc (.cells cs e))) : if Region.wanted op (yielded ops a.tmps) = true then Oper.wp P op a w K Q else K (a.put N undef) w := by
  rw [if_pos hw]
  subst hN
  obtain ⟨i0, hi, hzz⟩ := Option.map_eq_some_iff.1 hinfo
  simp only [Prod.mk.injEq] at hzz
  obtain ⟨hz0, hz1, hz2⟩ := hzz
  refine wp_buildSlice t e 1 #[(0, x)] ho cs i0 z hu hi hz0 (by rw [hz1]; omega) (by rw [hz1]; omega) ?_ h
  have hf := Great.fill_whole (s := n) h0 [Value.agg cs] ((Array.range (1 * i0.size)).map (z.cells[· % z.cells.size]!)) (fun v hv => by rw [List.mem_singleton.1 hv]; exact hs) (by simp [hz1])
  rw [hz1] at hf ⊢
  simpa [hx, Value.cells] using hf
end
end Go.Proofs.YtiaggfjfgoiafaaDoor

/- Objects with the lists that they hold; their order by names. -/
namespace Go.Proofs.YtiaggfjfgoiafaaDoor
open Go.RowKit Go.Proofs.YtiaggfjfgoiafaaDoorW.PrintWords Go.Proofs.YtiaggfjfgoiafaaDoorW.PrintLast
abbrev Ot := Ob × Value × Value
def Ot.cs (t : Ot) : Array Value := t.1.cells t.2.1 t.2.2
def kT : Kd Ot where
  sz := 32
  E := []
  K := fun _ t cs => cs = (Ot.cs t).toList ∧ (Ot.cs t).all (·.oneCell') = true
  M := fun _ _ _ t cs => cs = (Ot.cs t).toList ∧ (Ot.cs t).all (·.oneCell') = true
  K_len := by
    rintro w t cs ⟨rfl, _⟩
    rfl
  K_one := by
    rintro w t cs ⟨rfl, h⟩ u hu
    exact (Array.all_eq_true_iff_forall_mem.1 h) u (by simpa using hu)
  K_below := fun _ h => h
  K_of_M := fun h => h
  M_mono := fun _ h => h
  M_bound := fun h => h
  M_move := fun _ h => h
  M_lower := fun _ h => h
def LabT (w : World) (ts : List Ot) : Prop := ∀ t ∈ ts, LabK w t.1.labels t.2.1 ∧ LabK w t.1.select t.2.2
theorem LabT.below {w w1 : World} {ts : List Ot} (h : LabT w ts) (hb : Below w.heap.size w w1) : LabT w1 ts := fun t ht => ⟨(h t ht).1.below hb, (h t ht).2.below hb⟩
theorem list_ofT {β : Type} (P : Nat → β → Prop) : ∀ n : Nat, (∀ i, i < n → ∃ t, P i t) → ∃ T : List β, T.length = n ∧ ∀ i t, T[i]? = some t → P i t
  | 0, _ => ⟨[], rfl, fun i t h => by simp at h⟩
  | n + 1, h => by
    obtain ⟨T, hl, hT⟩ := list_ofT P n (fun i hi => h i (by omega))
    obtain ⟨t, ht⟩ := h n (Nat.lt_succ_self n)
    refine ⟨T ++ [t], by simp [hl], fun i u hu => ?_⟩
    rcases Nat.lt_or_ge i T.length with h1 | h1
    · rw [List.getElem?_append_left h1] at hu
      exact hT i u hu
    · rw [List.getElem?_append_right h1] at hu
      have e : i - T.length = 0 := by
        have := (List.getElem?_eq_some_iff.1 hu).1
        simp at this
        omega
      rw [e] at hu
      obtain rfl : t = u := by simpa using hu
      obtain rfl : i = n := by omega
      exact ht
theorem T_of_kO {w : World} {A : Option Addr} {n : Nat} {l : List Ob} (h : kO.C w A n l) : ∃ ts : List Ot, ts.map (·.1) = l ∧ kT.C w A n ts ∧ LabT w ts := by
  have hl := h.1
  obtain ⟨ts, hts, hP⟩ := list_ofT (fun i (t : Ot) => l[i]? = some t.1 ∧ LabK w t.1.labels t.2.1 ∧ LabK w t.1.select t.2.2 ∧ ∀ ad, A = some ad → ∀ (j : Nat) (u : Value), (Ot.cs t)[j]? = some u → w.cell? (ad.add (i * 32 + j)) = some u) l.length (fun i hi => by
    obtain ⟨o, ho⟩ : ∃ o, l[i]? = some o := ⟨_, List.getElem?_eq_getElem hi⟩
    obtain ⟨ad, v4, v27, e, h4, h27, hc⟩ := obj_at h i o ho
    exact ⟨(o, v4, v27), ho, h4, h27, fun ad' e' j u hu => by
      rw [e] at e'
      obtain rfl := Option.some.inj e'
      exact hc j u hu⟩)
  have hmap : ts.map (·.1) = l := by
    apply List.ext_getElem?
    intro i
    rw [List.getElem?_map]
    rcases Nat.lt_or_ge i ts.length with h1 | h1
    · obtain ⟨t, ht⟩ : ∃ t, ts[i]? = some t := ⟨_, List.getElem?_eq_getElem h1⟩
      rw [ht, (hP i t ht).1]
      rfl
    · rw [List.getElem?_eq_none h1, List.getElem?_eq_none (by omega)]
      rfl
  refine ⟨ts, hmap, ⟨by rw [hts]; exact hl, h.2.1, fun hp => ?_⟩, fun t ht => ?_⟩
  · obtain ⟨ad, e, _⟩ := h.2.2 hp
    refine ⟨ad, e, fun j t hj => ⟨(Ot.cs t).toList, rfl, ⟨rfl, t.1.cells_one (hP j t hj).2.1.one (hP j t hj).2.2.1.one⟩, fun i u hu => (hP j t hj).2.2.2 ad e i u (by simpa using hu)⟩⟩
  · obtain ⟨i, hi⟩ := List.mem_iff_getElem?.1 ht
    exact ⟨(hP i t hi).2.1, (hP i t hi).2.2.1⟩
def cNa (x y : Array Value) : Int := Wc.cmpW (strAt x 1) (strAt y 1)
theorem cNa_cmp : Wc.IsCmp cNa := Wc.cmpW_cmp.on (fun x => strAt x 1)
def cN (o p : Ob) : Int := Wc.cmpW o.name p.name
theorem tAt {w : World} {A : Option Addr} {n : Nat} {ts : List Ot} (h : kT.C w A n ts) (k : Nat) (t : Ot) (hk : ts[k]? = some t) :
    ∃ ad, A = some ad ∧ (Ot.cs t).all (·.oneCell') = true ∧ ∀ (j : Nat) (u : Value), (Ot.cs t)[j]? = some u → w.cell? ((ad.add (k * 32)).add j) = some u := by
  have hp : 0 < n := by
    have := (List.getElem?_eq_some_iff.1 hk).1
    have := h.1
    omega
  obtain ⟨ad, e, hc⟩ := h.2.2 hp
  obtain ⟨cs, hl, ⟨rfl, h1⟩, hcell⟩ := hc k t hk
  exact ⟨ad, e, h1, fun j u hu => by rw [add_add]; exact hcell j u (by simpa using hu)⟩
theorem bytes_of_list {a b : ByteArray} (h : a.toList = b.toList) : a = b := by
  rw [Go.Lib.toList_data, Go.Lib.toList_data] at h
  cases a
  cases b
  congr 1
  exact Array.toList_inj.1 h
theorem Ot.cs_size (t : Ot) : (Ot.cs t).size = 32 := rfl
theorem loc_step {w wr w2 : World} {v : Value} {xs : List Ot} (hR : kT.R 39 wr w.heap.size (fun _ => True) v xs) (hB : Below w.heap.size w wr) (hb2 : Below wr.heap.size wr w2) :
    kT.R 39 w2 w.heap.size (fun _ => True) v xs ∧ Below w.heap.size w w2 := ⟨Kd.R_below hR hb2, belT hB hb2⟩
def onF (s : ByteArray) (ts : List Ot) : List Ot := ts.filter (fun t => decide (t.1.node = s))
theorem kT_move {w w1 : World} {A : Option Addr} {n : Nat} {ts : List Ot} (h : kT.C w A n ts) (hs : ∀ ad, A = some ad → w1.heap[ad.block]? = w.heap[ad.block]?) : kT.C w1 A n ts :=
  ⟨h.1, h.2.1, fun hp => by
    obtain ⟨ad, e, hc⟩ := h.2.2 hp
    exact ⟨ad, e, fun j t hj => by
      obtain ⟨cs, hl, hK, hcell⟩ := hc j t hj
      exact ⟨cs, hl, hK, fun i u hu => (by unfold World.cell?; rw [add_block, hs ad e] : w1.cell? (ad.add (j * 32 + i)) = w.cell? (ad.add (j * 32 + i))).trans (hcell i u hu)⟩⟩⟩
theorem kT_is {w : World} {t : Ot} {cs : List Value} (h : kT.K w t cs) (hf : ObFits t.1) : IsObj cs.toArray := by
  obtain ⟨rfl, _⟩ := h
  exact ⟨t.1, t.2.1, t.2.2, by simp [Ot.cs], hf.1⟩
theorem kT_cmp {w : World} {x y : Ot} {cs ds : List Value} (h : kT.K w x cs) (h' : kT.K w y ds) : cNa cs.toArray ds.toArray < 0 ↔ cN x.1 y.1 < 0 := by
  obtain ⟨rfl, _⟩ := h
  obtain ⟨rfl, _⟩ := h'
  simp only [Array.toArray_toList]
  exact Iff.rfl
def cT (a b : Ot) : Int := cN a.1 b.1
theorem cT_map (ts : List Ot) : (Srt.isort cT ts).map (·.1) = Srt.isort cN (ts.map (·.1)) := Srt.isort_map cN (·.1) ts
theorem infoF1 : (Tryd.prog.info? 24).map (·.size) = some 4 := by kernel_rfl
def vOn (ps : List Ob) (s : ByteArray) : List Ob := ps.filter (fun o => decide (o.node = s))
theorem onF_map (s : ByteArray) (ts : List Ot) : (onF s ts).map (·.1) = vOn (ts.map (·.1)) s := by
  unfold onF vOn
  rw [List.filter_map]
  rfl
theorem vOn_len (ps : List Ob) (s : ByteArray) : (vOn ps s).length ≤ ps.length := List.length_filter_le _ _
end Go.Proofs.YtiaggfjfgoiafaaDoor

/- Inserting step by step; sorting what is filtered. -/
namespace Go.Proofs.YtiaggfjfgoiafaaDoor
open Go.RowKit Go.Proofs.YtiaggfjfgoiafaaDoorW.PrintWords Go.Proofs.YtiaggfjfgoiafaaDoorW.PrintLast
theorem ins_done {α : Type} (c : α → α → Int) (x y : α) : ∀ A : List α, (∃ a ∈ A, c x a < 0) → Srt.ins c x (A ++ [y]) = Srt.ins c x A ++ [y]
  | [], h => by obtain ⟨a, h, _⟩ := h; cases h
  | a :: A, h => by
    simp only [List.cons_append, Srt.ins]
    by_cases h1 : c x a < 0
    · rw [if_pos h1, if_pos h1]; rfl
    · rw [if_neg h1, if_neg h1, ins_done c x y A (by
        obtain ⟨b, hb, hc⟩ := h
        rcases List.mem_cons.1 hb with rfl | hb
        · exact absurd hc h1
        · exact ⟨b, hb, hc⟩)]
      rfl
theorem ins_end {α : Type} (c : α → α → Int) (x : α) (A : List α) (h : ∀ a ∈ A, ¬ c x a < 0) : Srt.ins c x A = A ++ [x] := by
  have := Srt.ins_at (c := c) x A [] h (by simp)
  simpa using this
theorem ins_new {α : Type} (c : α → α → Int) (x y : α) (A : List α) (h : ∀ a ∈ A, ¬ c x a < 0) (h2 : c x y < 0) : Srt.ins c x (A ++ [y]) = A ++ [x] ++ [y] := by
  rw [Srt.ins_at (c := c) x A [y] h (by simpa using h2)]
  simp
def doneB (t : Ot) (A : List Ot) : Bool := A.any fun a => decide (cT t a < 0)
def outP (t : Ot) (A : List Ot) : List Ot := if doneB t A = true then Srt.ins cT t A else A
theorem done_iff {t : Ot} {A : List Ot} : doneB t A = true ↔ ∃ a ∈ A, cT t a < 0 := by simp [doneB]
theorem done_no {t : Ot} {A : List Ot} (h : doneB t A = false) : ∀ a ∈ A, ¬ cT t a < 0 := fun a ha hc => by
  rw [done_iff.2 ⟨a, ha, hc⟩] at h
  cases h
theorem out_true {t y : Ot} {A : List Ot} (h : doneB t A = true) : doneB t (A ++ [y]) = true ∧ outP t (A ++ [y]) = outP t A ++ [y] := by
  have h1 : doneB t (A ++ [y]) = true := by
    obtain ⟨a, ha, hc⟩ := done_iff.1 h
    exact done_iff.2 ⟨a, List.mem_append_left _ ha, hc⟩
  refine ⟨h1, ?_⟩
  unfold outP
  rw [if_pos h1, if_pos h, ins_done cT t y A (done_iff.1 h)]
theorem out_new {t y : Ot} {A : List Ot} (h : doneB t A = false) (hy : cT t y < 0) : doneB t (A ++ [y]) = true ∧ outP t (A ++ [y]) = outP t A ++ [t] ++ [y] := by
  have h1 : doneB t (A ++ [y]) = true := done_iff.2 ⟨y, by simp, hy⟩
  refine ⟨h1, ?_⟩
  unfold outP
  rw [if_pos h1, if_neg (by simp [h]), ins_new cT t y A (done_no h) hy]
theorem out_old {t y : Ot} {A : List Ot} (h : doneB t A = false) (hy : ¬ cT t y < 0) : doneB t (A ++ [y]) = false ∧ outP t (A ++ [y]) = outP t A ++ [y] := by
  have h1 : doneB t (A ++ [y]) = false := by
    cases h2 : doneB t (A ++ [y])
    · rfl
    · obtain ⟨a, ha, hc⟩ := done_iff.1 h2
      rcases List.mem_append.1 ha with ha | ha
      · exact absurd hc (done_no h a ha)
      · rw [List.mem_singleton.1 ha] at hc
        exact absurd hc hy
  refine ⟨h1, ?_⟩
  unfold outP
  rw [if_neg (by simp [h1]), if_neg (by simp [h])]
theorem out_end {t : Ot} {A : List Ot} (h : doneB t A = false) : Srt.ins cT t A = outP t A ++ [t] := by
  unfold outP
  rw [if_neg (by simp [h]), ins_end cT t A (done_no h)]
theorem out_all {t : Ot} {A : List Ot} (h : doneB t A = true) : Srt.ins cT t A = outP t A := by
  unfold outP
  rw [if_pos h]
theorem out_len (t : Ot) (A : List Ot) : (outP t A).length ≤ A.length + 1 := by
  unfold outP
  split
  · rw [Srt.ins_length]; exact Nat.le_refl _
  · omega
theorem t_field {w : World} {ad : Addr} {k : Nat} {cs : Array Value} (h : ∀ (j : Nat) (u : Value), cs[j]? = some u → w.cell? ((ad.add (k * 32)).add j) = some u) (j : Nat) (hj : 0 < j) {u : Value} (hu : cs[j]? = some u) :
    w.cell? ⟨(ad.add (k * 32)).block, (ad.add (k * 32)).off + j, none⟩ = some u := by
  have := h j u hu
  rwa [add_add, add_field _ _ _ hj] at this
end Go.Proofs.YtiaggfjfgoiafaaDoor

/- Requests: their cells, lists of them. -/
namespace Go.Proofs.YtiaggfjfgoiafaaDoor
open Go.RowKit Go.Proofs.YtiaggfjfgoiafaaDoorW.PrintWords Go.Proofs.YtiaggfjfgoiafaaDoorW.PrintLast
@[ext] structure Rq where
  verb : Int
  ob : Ob
  kind : Int
  name : ByteArray
  version : Int
  node : ByteArray
  phase : Int
  ready : Bool
  now : Int
  «by» : ByteArray
  term : Int
def Rq.cells (r : Rq) (v4 v27 : Value) : Array Value := #[.int .i64 r.verb, .int .i64 r.ob.kind, .string r.ob.name, .int .i64 r.ob.version, .int .i64 r.ob.born, v4, .int .i64 r.ob.roomC, .int .i64 r.ob.roomM, .bool r.ob.cordoned, .bool r.ob.draining, .bool r.ob.lost, .int .i64 r.ob.beat, .string r.ob.deploy, .string r.ob.sset, .string r.ob.node, .int .i64 r.ob.phase, .bool r.ob.ready, .bool r.ob.ending, .int .i64 r.ob.needC, .int .i64 r.ob.needM, .string r.ob.image, .int .i64 r.ob.rise, .int .i64 r.ob.fall, .int .i64 r.ob.count, .int .i64 r.ob.surge, .int .i64 r.ob.slack, .bool r.ob.paused, .int .u64 r.ob.hash, v27, .int .i64 r.ob.least, .string r.ob.holder, .int .i64 r.ob.term, .int .i64 r.ob.till, .int .i64 r.kind, .string r.name, .int .i64 r.version, .string r.node, .int .i64 r.phase, .bool r.ready, .int .i64 r.now, .string r.by, .int .i64 r.term]
theorem Rq.cells_size (r : Rq) (v4 v27 : Value) : (r.cells v4 v27).size = 42 := rfl
theorem Rq.cells_one (o : Rq) {v4 v27 : Value} (h4 : v4.oneCell' = true) (h27 : v27.oneCell' = true) : (o.cells v4 v27).all (·.oneCell') = true := by
  unfold Rq.cells
  simp [Value.oneCell'] at h4 h27 ⊢
  exact ⟨h4, h27⟩
def Rq.zero : Rq := ⟨0, Ob.zero, 0, ⟨#[]⟩, 0, ⟨#[]⟩, 0, false, 0, ⟨#[]⟩, 0⟩
def kRq : Kd Rq where
  sz := 42
  E := [56]
  K := fun w o cs => ∃ v4 v27, cs = (o.cells v4 v27).toList ∧ LabK w o.ob.labels v4 ∧ LabK w o.ob.select v27
  M := fun w base ok o cs => ∃ v4 v27, cs = (o.cells v4 v27).toList ∧ kL.R 56 w base (fun k => ok k ∧ some k ≠ v27.ownBlock) v4 o.ob.labels ∧ kL.R 56 w base (fun k => ok k ∧ some k ≠ v4.ownBlock) v27 o.ob.select
  K_len := by
    rintro w x cs ⟨v4, v27, rfl, _⟩
    rfl
  K_one := by
    rintro w x cs ⟨v4, v27, rfl, h4, h27⟩ u hu
    exact (Array.all_eq_true_iff_forall_mem.1 (x.cells_one h4.one h27.one)) u (by simpa using hu)
  K_below := by
    rintro w w1 x cs hb ⟨v4, v27, rfl, h4, h27⟩
    exact ⟨v4, v27, rfl, h4.below hb, h27.below hb⟩
  K_of_M := by
    rintro w base ok x cs ⟨v4, v27, rfl, h4, h27⟩
    exact ⟨v4, v27, rfl, LabK.of_R h4, LabK.of_R h27⟩
  M_mono := by
    rintro w base ok ok' x cs hok ⟨v4, v27, rfl, h4, h27⟩
    exact ⟨v4, v27, rfl, Kd.R_mono h4 (fun k hk => ⟨hok k hk.1, hk.2⟩), Kd.R_mono h27 (fun k hk => ⟨hok k hk.1, hk.2⟩)⟩
  M_bound := by
    rintro w base ok x cs ⟨v4, v27, rfl, h4, h27⟩
    exact ⟨v4, v27, rfl, Kd.R_mono (Kd.R_bound h4) (fun k hk => ⟨⟨hk.1.1, hk.2⟩, hk.1.2⟩), Kd.R_mono (Kd.R_bound h27) (fun k hk => ⟨⟨hk.1.1, hk.2⟩, hk.1.2⟩)⟩
  M_move := by
    rintro w w1 base ok x cs hm ⟨v4, v27, rfl, h4, h27⟩
    exact ⟨v4, v27, rfl, Kd.R_move h4 (fun k hk => hm k hk.1), Kd.R_move h27 (fun k hk => hm k hk.1)⟩
  M_lower := by
    rintro w base base' ok x cs hb ⟨v4, v27, rfl, h4, h27⟩
    exact ⟨v4, v27, rfl, Kd.R_lower h4 hb, Kd.R_lower h27 hb⟩
theorem infoRq : (Tryd.prog.info? 42).map (fun i => (i.zero, i.size, i.bytes)) = some (some (.agg (Rq.zero.cells (.slice none 0 0) (.slice none 0 0))), 42, 416) := by kernel_rfl
theorem rq_at {w : World} {A : Option Addr} {n : Nat} {l : List Rq} (h : kRq.C w A n l) (i : Nat) (o : Rq) (hi : l[i]? = some o) :
    ∃ ad v4 v27, A = some ad ∧ LabK w o.ob.labels v4 ∧ LabK w o.ob.select v27 ∧ ∀ (j : Nat) (u : Value), (o.cells v4 v27)[j]? = some u → w.cell? ((ad.add (i * 42)).add j) = some u := by
  have hl := (List.getElem?_eq_some_iff.1 hi).1
  obtain ⟨ad, e, hc⟩ := h.2.2 (by have := h.1; omega)
  obtain ⟨c, hs, ⟨v4, v27, rfl, h4, h27⟩, hcell⟩ := hc i o hi
  exact ⟨ad, v4, v27, e, h4, h27, fun j u hu => by rw [add_add]; exact hcell j u (by simpa using hu)⟩
def upd (o : Ob) : Rq := { Rq.zero with verb := 1, ob := { o with cordoned := true }, version := o.version }
def evict (o : Ob) : Rq := { Rq.zero with verb := 6, name := o.name }
end Go.Proofs.YtiaggfjfgoiafaaDoor

/- A step within a loop that appends requests while it reads a list of the call's own. -/
namespace Go.Proofs.YtiaggfjfgoiafaaDoor
open Go.RowKit Go.Proofs.YtiaggfjfgoiafaaDoorW.PrintWords Go.Proofs.YtiaggfjfgoiafaaDoorW.PrintLast
structure Inn (w7 wq : World) (A6 : Option Addr) (m : Nat) (tv : List Ot) (v : Value) (xs : List Rq) : Prop where
  rq : Kd.S kRq 42 wq w7.heap.size (fun _ => True) v xs
  bl : Below w7.heap.size w7 wq
  vs : kT.C wq A6 m tv
  ap : ∀ ad, A6 = some ad → some ad.block ≠ v.ownBlock ∧ ad.block < wq.heap.size
theorem Inn.below {w7 wq w8 : World} {A6 : Option Addr} {m : Nat} {tv : List Ot} {v : Value} {xs : List Rq} (h : Inn w7 wq A6 m tv v xs) (hb : Below wq.heap.size wq w8) : Inn w7 w8 A6 m tv v xs :=
  ⟨Kd.S_below h.rq hb, belT h.bl hb, Kd.C_below h.vs hb, fun ad e => ⟨(h.ap ad e).1, Nat.lt_of_lt_of_le (h.ap ad e).2 hb.size⟩⟩
theorem Inn.app {w7 wq w8 : World} {A6 : Option Addr} {m : Nat} {tv : List Ot} {v v1 : Value} {xs ys : List Rq} (h : Inn w7 wq A6 m tv v xs) (hR : Kd.S kRq 42 w8 w7.heap.size (fun _ => True) v1 ys) (hB : Below w7.heap.size w7 w8) (hg : wq.grownBy w8 v.ownBlock) (hat : v1.ownBlock = v.ownBlock ∨ ∃ b, v1.ownBlock = some b ∧ wq.heap.size ≤ b) (hsz : wq.heap.size ≤ w8.heap.size) : Inn w7 w8 A6 m tv v1 ys :=
  ⟨hR, hB, kT_move h.vs (fun ad e => hg.block _ (h.ap ad e).2 (h.ap ad e).1), fun ad e => ⟨fun he => by
    rcases hat with h1 | ⟨b, h1, h2⟩
    · exact (h.ap ad e).1 (he.trans h1)
    · rw [h1] at he
      have := (h.ap ad e).2
      have : ad.block = b := Option.some.inj he
      omega, Nat.lt_of_lt_of_le (h.ap ad e).2 hsz⟩⟩
theorem inn_start {w7 w2 w3 w4 : World} {A6 : Option Addr} {m : Nat} {tv : List Ot} {v : Value} {xs : List Rq} (hR : Kd.S kRq 42 w2 w7.heap.size (fun _ => True) v xs) (hB : Below w7.heap.size w7 w2) (h3 : Below w2.heap.size w2 w3) (h4 : Below w3.heap.size w3 w4)
    (hC : kT.C w4 A6 m tv) (ha : ∀ ad, A6 = some ad → w3.heap.size ≤ ad.block ∧ ad.block < w4.heap.size) : Inn w7 w4 A6 m tv v xs :=
  ⟨Kd.S_below hR (belT h3 h4), belT hB (belT h3 h4), hC, fun ad e => ⟨fun he => by
    have h1 := Kd.S_lt hR _ he.symm
    have h2 := h3.size
    have := (ha ad e).1
    omega, (ha ad e).2⟩⟩
end Go.Proofs.YtiaggfjfgoiafaaDoor

/- What an agent's round asks for of nodes: the plain law. -/
namespace Go.Proofs.YtiaggfjfgoiafaaDoor
open Go.RowKit Go.Proofs.YtiaggfjfgoiafaaDoorW.PrintWords Go.Proofs.YtiaggfjfgoiafaaDoorW.PrintLast
def gone (nd nm : ByteArray) : Rq := { Rq.zero with verb := 8, name := nm, node := nd }
def lostR (nd : ByteArray) (z : Int) : Rq := { Rq.zero with verb := 10, node := nd, now := z }
def podsT (s : ByteArray) (ps : List Ot) : List Ot := Srt.isort cT (onF s ps)
theorem podsT_len (s : ByteArray) (ps : List Ot) : (podsT s ps).length ≤ ps.length := by
  unfold podsT onF
  rw [Srt.isort_length]
  exact List.length_filter_le _ _
theorem podsT_map (s : ByteArray) (ts : List Ot) : (podsT s ts).map (·.1) = Srt.isort cN (vOn (ts.map (·.1)) s) := by
  unfold podsT
  rw [cT_map, onF_map]
def lifeN (ps : List Ob) (sil : Int → Bool) (z : Int) (o : Ob) : List Rq := if o.lost then (Srt.isort cN (vOn ps o.name)).map (fun p => gone o.name p.name) else if sil o.beat then [lostR o.name z] else []
def lifeF (ns ps : List Ob) (sil : Int → Bool) (z : Int) : List Rq := ns.flatMap (lifeN ps sil z)
theorem lifeN_len (ps : List Ob) (sil : Int → Bool) (z : Int) (o : Ob) : (lifeN ps sil z o).length ≤ 1 + ps.length := by
  unfold lifeN
  have h1 : (vOn ps o.name).length ≤ ps.length := vOn_len ps o.name
  split
  · rw [List.length_map, Srt.isort_length]; omega
  · split
    · simp
    · simp
theorem lifeF_len (ps : List Ob) (sil : Int → Bool) (z : Int) (l : List Ob) : (lifeF l ps sil z).length ≤ l.length * (1 + ps.length) := by
  unfold lifeF
  induction l with
  | nil => simp
  | cons o l ih =>
    have := lifeN_len ps sil z o
    rw [List.flatMap_cons, List.length_append, List.length_cons, Nat.succ_mul]
    omega
theorem life_snoc (ps : List Ob) (sil : Int → Bool) (z : Int) {l : List Ob} {k : Nat} {o : Ob} (h : l[k]? = some o) : lifeF (l.take (k + 1)) ps sil z = lifeF (l.take k) ps sil z ++ lifeN ps sil z o := by
  unfold lifeF
  rw [List.take_add_one, h, List.flatMap_append]
  simp
theorem life_take (ps : List Ob) (sil : Int → Bool) (z : Int) {l : List Ob} {k : Nat} (hl : l.length ≤ 10000) (hp : ps.length ≤ 10000) : (lifeF (l.take k) ps sil z).length ≤ 10000 * 10001 := by
  have h1 := lifeF_len ps sil z (l.take k)
  rw [List.length_take] at h1
  have h3 : min k l.length * (1 + ps.length) ≤ 10000 * 10001 := Nat.mul_le_mul (by omega) (by omega)
  omega
theorem gone_M (nd nm : ByteArray) (w : World) (base : Nat) : kRq.M w base (fun _ => False) (gone nd nm) ((gone nd nm).cells (.slice none 0 0) (.slice none 0 0)).toList := ⟨_, _, rfl, Kd.R_nil _ _ _ _ _, Kd.R_nil _ _ _ _ _⟩
theorem lost_M (nd : ByteArray) (z : Int) (w : World) (base : Nat) : kRq.M w base (fun _ => False) (lostR nd z) ((lostR nd z).cells (.slice none 0 0) (.slice none 0 0)).toList := ⟨_, _, rfl, Kd.R_nil _ _ _ _ _, Kd.R_nil _ _ _ _ _⟩
end Go.Proofs.YtiaggfjfgoiafaaDoor

/- drain: nodes by names; the pods on a node. Lists whose objects' own lists lie elsewhere (kT: the cells alone). -/
namespace Go.Proofs.YtiaggfjfgoiafaaDoor
open Go.RowKit Go.Proofs.YtiaggfjfgoiafaaDoorW.PrintWords Go.Proofs.YtiaggfjfgoiafaaDoorW.PrintLast
end Go.Proofs.YtiaggfjfgoiafaaDoor

/- agent.pods: the pods of a node by names; agent.silent, flotillaref23.silent. -/
namespace Go.Proofs.YtiaggfjfgoiafaaDoor
open Go.RowKit Go.Proofs.YtiaggfjfgoiafaaDoorW.PrintWords Go.Proofs.YtiaggfjfgoiafaaDoorW.PrintLast
theorem pods1_calls (o p : Ob) (v4 v27 u4 u27 : Value) (m1 : o.name.size ≤ 140737488351232) (m2 : p.name.size ≤ 140737488351232) (w : World) :
    Calls Tryd.prog 38 #[.agg (o.cells v4 v27), .agg (p.cells u4 u27)] w fun e w' => e = .returned (.int .i64 (cN o p)) ∧ Below w.heap.size w w' := by
  obtain ⟨n1, hn1⟩ : ∃ k, k = o.name := ⟨_, rfl⟩
  obtain ⟨n2, hn2⟩ : ∃ k, k = p.name := ⟨_, rfl⟩
  obtain ⟨cw, hcw⟩ : ∃ c, c = Wc.cmpW n1 n2 := ⟨_, rfl⟩
  have hres : cN o p = cw := by rw [hcw, hn1, hn2]; rfl
  rw [hres]
  have QW := Lib.hid (fun W => Wc.words_calls n1 n2 cw W (by rw [hn1, hn2] at hcw ⊢; unfold Wc.cmpO; rw [if_pos ⟨m1, m2⟩, hcw]))
  obtain ⟨cs, hcs⟩ : ∃ cs, cs = o.cells v4 v27 := ⟨_, rfl⟩
  obtain ⟨ds, hds⟩ : ∃ cs, cs = p.cells u4 u27 := ⟨_, rfl⟩
  have e1 : cs[1]? = some (.string n1) := by rw [hcs, hn1]; rfl
  have f1 : ds[1]? = some (.string n2) := by rw [hds, hn2]; rfl
  have B1 : ((w.alloc (Obj.cells cs 39)).alloc (Obj.cells ds 39)).heap[w.heap.size]? = some (.cells cs 39 (0, 0)) := (heap_alloc_old _ _ (by simp)).trans (heap_alloc_new w _)
  have B2 : ((w.alloc (Obj.cells cs 39)).alloc (Obj.cells ds 39)).heap[w.heap.size + 1]? = some (.cells ds 39 (0, 0)) := heap_alloc2_new w _ _
  have C2 : ((w.alloc (Obj.cells cs 39)).alloc (Obj.cells ds 39)).cell? ⟨w.heap.size, 1, none⟩ = some (.string n1) := (cell_of_row _ _ 1 _ _ _ B1).trans e1
  have C4 : ((w.alloc (Obj.cells cs 39)).alloc (Obj.cells ds 39)).cell? ⟨w.heap.size + 1, 1, none⟩ = some (.string n2) := (cell_of_row _ _ 1 _ _ _ B2).trans f1
  have HB := Lib.hid (Go.Joins.below_alloc2 w (Obj.cells cs 39) (Obj.cells ds 39))
  rw [← hcs, ← hds]
  clear hn1 hn2 hcw hres hcs hds e1 f1 m1 m2 B1 B2
  go_enter Tryd.func38, Tryd.ntmps38
  go_wp2_with (first
    | (go_at_call 31; (with_reducible refine (QW.out _).mono ?_); rintro e w7 ⟨rfl, hb7⟩))
  go_ret
  exact ⟨rfl, belT HB.out hb7⟩
theorem pods1_at : CmpAt 38 IsObj cNa where
  fn := ⟨_, Tryd.func38, by kernel_rfl, by kernel_rfl⟩
  calls := by
    rintro x y ⟨o, v4, v27, rfl, m1⟩ ⟨p, u4, u27, rfl, m2⟩ W
    exact pods1_calls o p v4 v27 u4 u27 m1 m2 W
set_option maxHeartbeats 2000000 in
set_option maxRecDepth 100000 in
theorem agPods_calls (v0 v2 v3 : Value) (A : Option Addr) (c n : Nat) (s : ByteArray) (ts : List Ot) (w : World) (h0 : v0.oneCell' = true) (h2 : v2.oneCell' = true) (h3 : v3.oneCell' = true) (hr : kT.C w A n ts) (hl : n ≤ 1000000) (hft : ∀ t ∈ ts, ObFits t.1) :
    Calls Tryd.prog 21 #[.agg #[v0, .slice A n c, v2, v3], .string s] w fun e w' => ∃ v, e = .returned v ∧ kT.R 39 w' w.heap.size (fun _ => True) v (podsT s ts) ∧ Below w.heap.size w w' := by
  have HR := Lib.hid hr
  have HFt := Lib.hid hft
  have HL : Hid (ts.length = n) := Lib.hid hr.1
  have q0 : (w.alloc (Obj.cells #[v0, .slice A n c, v2, v3] 24)).cell? ⟨w.heap.size, 1, none⟩ = some (.slice A n c) := cell_of_row _ _ 1 _ _ _ (heap_alloc_new w _)
  have HB0 := Lib.hid (below_alloc (Below.refl w.heap.size w) (Obj.cells #[v0, .slice A n c, v2, v3] 24))
  clear hr hft
  go_enter Tryd.func21, Tryd.ntmps21
  go_wp2
  go_loopw [5, 11] (fun v5 v11 wr => ∃ k : Nat, v11 = .int .i64 k ∧ k ≤ n ∧ Hid (Kd.R kT 39 wr w.heap.size (fun _ => True) v5 (onF s (ts.take k)) ∧ Below w.heap.size w wr)) (fun _ v11 _ => n - (intOf v11).toNat)
  case atStart => exact ⟨0, rfl, Nat.zero_le _, Lib.hid ⟨Kd.R_nil _ _ _ _ _, HB0.out⟩⟩
  case round =>
    obtain ⟨k, rfl, hk, hI⟩ := hrel
    by_cases hlt : k < n
    · obtain ⟨t, ht⟩ : ∃ o, ts[k]? = some o := ⟨_, List.getElem?_eq_getElem (by have := HL.out; omega)⟩
      obtain ⟨ad, rfl, hc1, hO⟩ := tAt (Kd.C_below HR.out hI.out.2) k t ht
      have hlk : (k : Int) < (n : Int) := by omega
      obtain ⟨nd, hnd⟩ : ∃ x, x = t.1.node := ⟨_, rfl⟩
      have hsn : onF s (ts.take (k + 1)) = onF s (ts.take k) ++ (if nd = s then [t] else []) := by
        unfold onF
        rw [List.take_add_one, ht, List.filter_append, hnd]
        by_cases e : t.1.node = s <;> simp [e]
      have hlen : ((onF s (ts.take k)).length + 1) * 312 ≤ 140737488355328 := by
        have h1 : (onF s (ts.take k)).length ≤ (ts.take k).length := List.length_filter_le _ _
        rw [List.length_take] at h1
        omega
      obtain ⟨cs, hcs⟩ : ∃ cs, cs = Ot.cs t := ⟨_, rfl⟩
      have hM : Hid (∀ W : World, kT.M W w.heap.size (fun _ => False) t cs.toList) := Lib.hid (fun W => ⟨by rw [hcs], hc1⟩)
      rw [← hcs] at hc1 hO
      have HO := Lib.hid hO
      have e12 : cs[13]? = some (.string nd) := by rw [hcs, hnd]; rfl
      have hi1 : (Tryd.prog.info? 39).map (·.size) = some cs.size := by rw [hcs, Ot.cs_size]; kernel_rfl
      have hi2 : 32 = cs.size := by rw [hcs, Ot.cs_size]
      have HC := Lib.hid (And.intro hc1 (And.intro e12 (And.intro hi1 hi2)))
      have HLn := Lib.hid hlen
      clear hnd ht hO hcs hc1 e12 hi1 hi2 hlen
      by_cases hs : nd = s
      · have d1 : decide (nd = s) = true := decide_eq_true hs
        have d2 : (nd.toList == s.toList) = true := by rw [hs]; exact beq_self_eq_true _
        rw [if_pos hs] at hsn
        have HS := Lib.hid hsn
        clear hsn
        go_wp2_with (first
          | ((with_reducible refine wpList_load_any rfl 39 (.tmp 13) rfl (ad.add (k * 32)) ?l1 cs _ ?l2 Tryd.underlying39 ?l3 ?l4 ?_); (case l1 => rfl); (case l2 => exact HO.out); (case l3 => rfl); (case l4 => exact HC.out.2.2.1))
          | ((with_reducible refine wpList_store_blk rfl 39 (.tmp 7) (.tmp 14) rfl wr.heap.size 39 ?c0 cs ?c1 ?c2 ?c3 ?c4 ?c5 ?c6 ?_); (case c1 => rfl); (case c2 => rfl); (case c3 => exact heap_alloc_new _ _); (case c4 => exact HC.out.2.2.1); (case c5 => exact Eq.trans (b := 32) rfl HC.out.2.2.2); (case c6 => exact HC.out.1); intro w2 G hk2 hb hz; have HG := Lib.hid (And.intro (loc_step hI.out.1 hI.out.2 (hb _ _ (Below.alloc (Below.refl _ _) (Nat.le_refl _) _) (Nat.le_refl _))) G); obtain ⟨gx, hgx⟩ : ∃ g, g = wr.heap.size := ⟨_, rfl⟩; rw [← hgx] at HG ⊢; clear G hk2 hb hz hgx; have C12 : w2.cell? ⟨gx, 13, none⟩ = some (.string nd) := (cell_of_row _ _ 13 _ _ _ HG.out.2).trans HC.out.2.1)
          | ((with_reducible refine wpList_load_blk rfl 39 (.tmp 7) rfl gx 39 ?m1 cs _ ?m2 Tryd.underlying39 ?m3 ?m4 ?_); (case m1 => rfl); (case m2 => exact HG.out.2); (case m3 => rfl); (case m4 => exact HC.out.2.2.1))
          | ((with_reducible refine wpList_build1 rfl 22 39 (.tmp 20) rfl cs ?d1 (.agg (Ob.zero.cells (.slice none 0 0) (.slice none 0 0))) 32 312 Tryd.underlying22 ?d3 ?d4 (by omega) (by omega) ?d5 ?_); (case d1 => rfl); (case d3 => exact infoO); (case d4 => exact HC.out.2.2.2.symm); (case d5 => rfl))
          | (at_builtin; refine Kd.R_append kT (w0 := w) (W := w2) w.heap.size rfl (.tmp 19) (.tmp 21) 22 39 (.agg (Ob.zero.cells (.slice none 0 0) (.slice none 0 0))) 312 rfl Tryd.underlying22 infoO rfl (by decide) (by omega) u5 (onF s (ts.take k)) t cs.toList (fun _ => True) (fun _ => False) rfl rfl (hM.out w2) (fun _ h => h.elim) (fun _ _ => trivial) HG.out.1.1 HG.out.1.2 HG.out.1.2.size HLn.out ?_; intro v1 w6 hR6 hB6 hg6 hat6))
        go_roundw
        case rel => exact ⟨k + 1, by go_num, by omega, Lib.hid ⟨by rw [HS.out]; exact hR6, hB6⟩⟩
        case measure => simp [intOf]; omega
      · have d1 : decide (nd = s) = false := decide_eq_false hs
        have d2 : (nd.toList == s.toList) = false := beq_eq_false_iff_ne.mpr (fun e => hs (bytes_of_list e))
        rw [if_neg hs, List.append_nil] at hsn
        have HS := Lib.hid hsn
        clear hsn
        go_wp2_with (first
          | ((with_reducible refine wpList_load_any rfl 39 (.tmp 13) rfl (ad.add (k * 32)) ?l1 cs _ ?l2 Tryd.underlying39 ?l3 ?l4 ?_); (case l1 => rfl); (case l2 => exact HO.out); (case l3 => rfl); (case l4 => exact HC.out.2.2.1))
          | ((with_reducible refine wpList_store_blk rfl 39 (.tmp 7) (.tmp 14) rfl wr.heap.size 39 ?c0 cs ?c1 ?c2 ?c3 ?c4 ?c5 ?c6 ?_); (case c1 => rfl); (case c2 => rfl); (case c3 => exact heap_alloc_new _ _); (case c4 => exact HC.out.2.2.1); (case c5 => exact Eq.trans (b := 32) rfl HC.out.2.2.2); (case c6 => exact HC.out.1); intro w2 G hk2 hb hz; have HG := Lib.hid (And.intro (loc_step hI.out.1 hI.out.2 (hb _ _ (Below.alloc (Below.refl _ _) (Nat.le_refl _) _) (Nat.le_refl _))) G); obtain ⟨gx, hgx⟩ : ∃ g, g = wr.heap.size := ⟨_, rfl⟩; rw [← hgx] at HG ⊢; clear G hk2 hb hz hgx; have C12 : w2.cell? ⟨gx, 13, none⟩ = some (.string nd) := (cell_of_row _ _ 13 _ _ _ HG.out.2).trans HC.out.2.1))
        go_roundw
        case rel => exact ⟨k + 1, by go_num, by omega, Lib.hid ⟨by rw [HS.out]; exact HG.out.1.1, HG.out.1.2⟩⟩
        case measure => simp [intOf]; omega
    · obtain rfl : n = k := by omega
      have hI1 := hI.out.1
      rw [List.take_of_length_le (Nat.le_of_eq HL.out)] at hI1
      have QS := Lib.hid (sort_R kT rfl 38 IsObj cNa pods1_at cNa_cmp cT hI1 (fun x cs hx hK => kT_is hK (HFt.out x (List.mem_filter.1 hx).1)) (fun x y cs ds hx hy hK hK' => kT_cmp hK hK') (by
        have h1 : (onF s ts).length ≤ ts.length := List.length_filter_le _ _
        have := HL.out
        omega))
      clear hI1
      go_wp2_with (first
        | (go_at_call 29; (with_reducible refine QS.out.mono ?_); rintro e w7 ⟨⟨r7, rfl⟩, hR7, hB7, hz7, hk7⟩; have H7 := Lib.hid (And.intro hR7 hB7); clear hR7 hB7 hz7 hk7))
      go_ret
      exact ⟨_, rfl, H7.out.1, hI.out.2.trans H7.out.2⟩
def silB (z b : Int) : Bool := if z > b then decide (IntKind.u64.wrap (IntKind.u64.wrap z - IntKind.u64.wrap b) > 5) else false
set_option maxHeartbeats 8000000 in
set_option maxRecDepth 100000 in
theorem silent_calls (b z : Int) (w : World) : Calls Tryd.prog 22 #[.int .i64 b, .int .i64 z] w fun e w' => e = .returned (.bool (silB z b)) ∧ Below w.heap.size w w' := by
  unfold silB
  by_cases c : z > b
  · rw [if_pos c]
    have cb : decide (b < z) = true := decide_eq_true c
    clear c
    go_enter Tryd.func22, Tryd.ntmps22
    go_wp2
    go_ret
    exact ⟨by first | rfl | (simp; done) | (simp [*]; done), by repeat (first | exact Below.refl _ _ | exact below_drew (Below.refl _ _))⟩
  · rw [if_neg c]
    have cb : decide (b < z) = false := decide_eq_false c
    clear c
    go_enter Tryd.func22, Tryd.ntmps22
    go_wp2
    go_ret
    exact ⟨by first | rfl | (simp; done) | (simp [*]; done), by repeat (first | exact Below.refl _ _ | exact below_drew (Below.refl _ _))⟩
set_option maxHeartbeats 8000000 in
set_option maxRecDepth 100000 in
theorem silentR_calls (b z : Int) (w : World) : Calls Tryd.prog 24 #[.int .i64 b, .int .i64 z] w fun e w' => e = .returned (.bool (silB z b)) ∧ Below w.heap.size w w' := by
  unfold silB
  by_cases c : z > b
  · rw [if_pos c]
    have cb : decide (b < z) = true := decide_eq_true c
    clear c
    go_enter Tryd.func24, Tryd.ntmps24
    go_wp2
    go_ret
    exact ⟨by first | rfl | (simp; done) | (simp [*]; done), by repeat (first | exact Below.refl _ _ | exact below_drew (Below.refl _ _))⟩
  · rw [if_neg c]
    have cb : decide (b < z) = false := decide_eq_false c
    clear c
    go_enter Tryd.func24, Tryd.ntmps24
    go_wp2
    go_ret
    exact ⟨by first | rfl | (simp; done) | (simp [*]; done), by repeat (first | exact Below.refl _ _ | exact below_drew (Below.refl _ _))⟩
end Go.Proofs.YtiaggfjfgoiafaaDoor

/- agent.Life: what is asked for of nodes that are silent or lost. -/
namespace Go.Proofs.YtiaggfjfgoiafaaDoor
open Go.RowKit Go.Proofs.YtiaggfjfgoiafaaDoorW.PrintWords Go.Proofs.YtiaggfjfgoiafaaDoorW.PrintLast
def KeptBlk (g : Nat) (cs : Array Value) (v : Value) (w : World) : Prop := w.heap[g]? = some (.cells cs 39 (0, 0)) ∧ some g ≠ v.ownBlock
theorem KeptBlk.below {g : Nat} {cs : Array Value} {v : Value} {w w1 : World} (h : KeptBlk g cs v w) (hb : Below w.heap.size w w1) : KeptBlk g cs v w1 := ⟨blkB hb h.1, h.2⟩
theorem KeptBlk.app {g : Nat} {cs : Array Value} {v v1 : Value} {w w8 : World} (h : KeptBlk g cs v w) (hg : w.grownBy w8 v.ownBlock) (hat : v1.ownBlock = v.ownBlock ∨ ∃ b, v1.ownBlock = some b ∧ w.heap.size ≤ b) : KeptBlk g cs v1 w8 :=
  ⟨(hg.block g (blkLt h.1) h.2).trans h.1, fun e => by
    rcases hat with h1 | ⟨b, h1, h2⟩
    · exact h.2 (e.trans h1)
    · rw [h1] at e
      have := blkLt h.1
      have : g = b := Option.some.inj e
      omega⟩
theorem goneT (nm : ByteArray) {ps : List Ob} {qs : List Ot} (h : qs.map (·.1) = ps) : (Srt.isort cN (vOn ps nm)).map (fun p => gone nm p.name) = (podsT nm qs).map (fun t => gone nm t.1.name) := by
  rw [← h, ← podsT_map, List.map_map]
  rfl
theorem inn_pods {W0 w2 w4 : World} {A6 : Option Addr} {c6 m : Nat} {tv : List Ot} {v : Value} {xs : List Rq} (hR : Kd.S kRq 42 w2 W0.heap.size (fun _ => True) v xs) (hB : Below W0.heap.size W0 w2)
    (hP : kT.R 39 w4 w2.heap.size (fun _ => True) (.slice A6 m c6) tv) (hb : Below w2.heap.size w2 w4) : Inn W0 w4 A6 m tv v xs ∧ tv.length = m := by
  obtain ⟨h1, _, h3⟩ := Kd.R_reads' hP
  refine ⟨inn_start hR hB (Below.refl _ _) hb (by rw [h1]; exact h3) (fun ad e => ?_), h1.symm⟩
  subst e
  exact ⟨Kd.R_base hP _ rfl, Kd.R_lt hP _ rfl⟩
set_option maxHeartbeats 16000000 in
set_option maxRecDepth 100000 in
theorem life_calls (An Ap : Option Addr) (nn np cn cp : Nat) (v2 v3 : Value) (ns ps : List Ob) (z : Int) (w : World) (h2 : v2.oneCell' = true) (h3 : v3.oneCell' = true) (hn : kO.C w An nn ns) (hp : kO.C w Ap np ps) (ln : nn ≤ 10000) (lp : np ≤ 10000) (fp : ∀ o ∈ ps, ObFits o) :
    Calls Tryd.prog 8 #[.agg #[.slice An nn cn, .slice Ap np cp, v2, v3], .int .i64 z] w fun e w' => ∃ v, e = .returned v ∧ Kd.S kRq 42 w' w.heap.size (fun _ => True) v (lifeF ns ps (silB z) z) ∧ Below w.heap.size w w' := by
  obtain ⟨ts, hts, hT, hL⟩ := T_of_kO hn
  obtain ⟨qs, hqs, hP, hLP⟩ := T_of_kO hp
  have HTS := Lib.hid (And.intro hts hqs)
  obtain ⟨W0, hW0⟩ : ∃ x, x = w.alloc (Obj.cells #[.slice An nn cn, .slice Ap np cp, v2, v3] 24) := ⟨_, rfl⟩
  have HF0 : Hid (W0.heap[w.heap.size]? = some (.cells #[.slice An nn cn, .slice Ap np cp, v2, v3] 24 (0, 0))) := Lib.hid (by rw [hW0]; exact heap_alloc_new w _)
  have HB0 : Hid (Below w.heap.size w W0) := Lib.hid (by rw [hW0]; exact below_alloc (Below.refl w.heap.size w) _)
  have q0 : (w.alloc (Obj.cells #[.slice An nn cn, .slice Ap np cp, v2, v3] 24)).cell? ⟨w.heap.size, 0, none⟩ = some (.slice An nn cn) := cell_of_row _ _ 0 _ _ _ (heap_alloc_new w _)
  have HQ0 : Hid (W0.cell? ⟨w.heap.size, 0, none⟩ = some (.slice An nn cn)) := Lib.hid (by rw [hW0]; exact q0)
  have HSrc := Lib.hid (And.intro (Kd.C_below hT HB0.out) (Kd.C_below hP HB0.out))
  have HFt : Hid (∀ t ∈ qs, ObFits t.1) := Lib.hid (fun t ht => fp t.1 (by rw [← hqs]; exact List.mem_map_of_mem ht))
  have HLn : Hid (ts.length = nn) := Lib.hid hT.1
  have HLP : Hid (np ≤ 1000000 ∧ qs.length ≤ 10000) := Lib.hid ⟨by omega, by rw [hP.1]; exact lp⟩
  have HLL : Hid (ns.length ≤ 10000 ∧ ps.length ≤ 10000) := Lib.hid ⟨by rw [← hts, List.length_map, hT.1]; exact ln, by rw [← hqs, List.length_map, hP.1]; exact lp⟩
  have hlt0 : Hid (w.heap.size ≤ W0.heap.size) := Lib.hid HB0.out.size
  have HV := Lib.hid (And.intro h2 h3)
  replace hW0 := Lib.hid hW0
  clear hn hp hts hqs hT hL hP hLP fp h2 h3
  go_enter Tryd.func8, Tryd.ntmps8
  go_wp2
  rw [← hW0.out]
  clear hW0 q0
  go_loopw [5, 13] (fun v5 vk wr => ∃ k : Nat, vk = .int .i64 k ∧ k ≤ nn ∧ Hid (Kd.S kRq 42 wr W0.heap.size (fun _ => True) v5 (lifeF (ns.take k) ps (silB z) z) ∧ Below W0.heap.size W0 wr)) (fun _ vk _ => nn - (intOf vk).toNat)
  case atStart => exact ⟨0, rfl, Nat.zero_le _, Lib.hid ⟨Kd.S_nil _ _ _ _ _, Below.refl _ _⟩⟩
  case round =>
    obtain ⟨k, rfl, hk, hI⟩ := hrel
    rename World => wx
    have c1 : wx.cell? ⟨w.heap.size, 0, none⟩ = some (.slice An nn cn) := cell_below hI.out.2 HQ0.out
    by_cases hlt : k < nn
    · obtain ⟨⟨o, y4, y27⟩, ht⟩ : ∃ t, ts[k]? = some t := ⟨_, List.getElem?_eq_getElem (by have := HLn.out; omega)⟩
      obtain ⟨ad, hA1, hc1, hO⟩ := tAt (Kd.C_below HSrc.out.1 hI.out.2) k _ ht
      subst hA1
      replace hc1 : (o.cells y4 y27).all (·.oneCell') = true := hc1
      replace hO : ∀ (j : Nat) (u : Value), (o.cells y4 y27)[j]? = some u → wx.cell? ((ad.add (k * 32)).add j) = some u := hO
      have hlk : (k : Int) < (nn : Int) := by omega
      obtain ⟨ndn, hnm⟩ : ∃ s, s = o.name := ⟨_, rfl⟩
      obtain ⟨lo, hlo⟩ : ∃ s, s = o.lost := ⟨_, rfl⟩
      obtain ⟨bt, hbt⟩ : ∃ s, s = o.beat := ⟨_, rfl⟩
      obtain ⟨sl, hsl⟩ : ∃ s, s = silB z bt := ⟨_, rfl⟩
      have hsn := life_snoc ps (silB z) z (l := ns) (k := k) (o := o) (by rw [← HTS.out.1, List.getElem?_map, ht]; rfl)
      have hln : lifeN ps (silB z) z o = if lo = true then (podsT ndn qs).map (fun t => gone ndn t.1.name) else if sl = true then [lostR ndn z] else [] := by
        unfold lifeN
        rw [← hlo, ← hnm, ← hbt, ← hsl, goneT ndn HTS.out.2]
      have HSN := Lib.hid (And.intro hsn hln)
      have HSZ : Hid ((lifeF (ns.take k) ps (silB z) z).length ≤ 10000 * 10001) := Lib.hid (life_take ps (silB z) z HLL.out.1 HLL.out.2)
      have HLEN1 : Hid (((lifeF (ns.take k) ps (silB z) z).length + 1) * 416 ≤ 140737488355328) := Lib.hid (by have := HSZ.out; omega)
      have QSil := Lib.hid (fun W => silent_calls bt z W)
      rw [← hsl] at QSil
      have QP : Hid (∀ W : World, Below W0.heap.size W0 W → Calls Tryd.prog 21 #[.agg #[.slice (some ad) nn cn, .slice Ap np cp, v2, v3], .string ndn] W fun e w' => ∃ v, e = .returned v ∧ kT.R 39 w' W.heap.size (fun _ => True) v (podsT ndn qs) ∧ Below W.heap.size W w') := Lib.hid (fun W hW => agPods_calls (.slice (some ad) nn cn) v2 v3 Ap cp np ndn qs W rfl HV.out.1 HV.out.2 (Kd.C_below HSrc.out.2 hW) HLP.out.1 HFt.out)
      obtain ⟨cs, hcs⟩ : ∃ cs, cs = o.cells y4 y27 := ⟨_, rfl⟩
      have e1 : cs[1]? = some (.string ndn) := by rw [hcs, hnm]; rfl
      have e9 : cs[9]? = some (.bool lo) := by rw [hcs, hlo]; rfl
      have e10 : cs[10]? = some (.int .i64 bt) := by rw [hcs, hbt]; rfl
      have hi1 : (Tryd.prog.info? 39).map (·.size) = some cs.size := by rw [hcs]; exact infoO1
      have hi2 : 32 = cs.size := by rw [hcs]; rfl
      rw [← hcs] at hO hc1
      have HO := Lib.hid hO
      have HC := Lib.hid (And.intro hc1 (And.intro (And.intro e1 (And.intro e9 e10)) (And.intro hi1 hi2)))
      clear ht hO hcs hc1 e1 e9 e10 hi1 hi2 hsn hln hnm hlo hbt hsl
      cases lo
      · cases sl
        · have HEND : Hid (lifeF (ns.take (k + 1)) ps (silB z) z = lifeF (ns.take k) ps (silB z) z) := Lib.hid (by rw [HSN.out.1, HSN.out.2]; simp)
          go_wp2_with (first
            | ((with_reducible refine wpList_load_any (op := ⟨some 16, _, _, _, _, _⟩) rfl 39 (.tmp 15) rfl (ad.add (k * 32)) ?l1a cs _ ?l2a Tryd.underlying39 ?l3a ?l4a ?_); (case l1a => rfl); (case l2a => exact HO.out); (case l3a => rfl); (case l4a => exact HC.out.2.2.1))
            | ((with_reducible refine wpList_store_blk rfl 39 (.tmp 7) (.tmp 16) rfl wx.heap.size 39 ?c0a cs ?c1a ?c2a ?c3a ?c4a ?c5a ?c6a ?_); (case c1a => rfl); (case c2a => rfl); (case c3a => exact heap_alloc_new _ _); (case c4a => exact HC.out.2.2.1); (case c5a => exact Eq.trans (b := 32) rfl HC.out.2.2.2); (case c6a => exact HC.out.1); intro w2 G hk2 hb hz; have HX := Lib.hid (And.intro (Kd.S_below hI.out.1 (hb _ _ (Below.alloc (Below.refl _ _) (Nat.le_refl _) _) (Nat.le_refl _))) (belT hI.out.2 (hb _ _ (Below.alloc (Below.refl _ _) (Nat.le_refl _) _) (Nat.le_refl _)))); obtain ⟨gx, hgx⟩ : ∃ g, g = wx.heap.size := ⟨_, rfl⟩; have HGX := Lib.hid hgx; rw [← hgx] at G ⊢; have HG := Lib.hid G; have C9 : w2.cell? ⟨gx, 9, none⟩ = some (.bool false) := (cell_of_row _ _ 9 _ _ _ G).trans HC.out.2.1.2.1; have C1 : w2.cell? ⟨gx, 1, none⟩ = some (.string ndn) := (cell_of_row _ _ 1 _ _ _ G).trans HC.out.2.1.1; have C10 : w2.cell? ⟨gx, 10, none⟩ = some (.int .i64 bt) := (cell_of_row _ _ 10 _ _ _ G).trans HC.out.2.1.2.2; clear G hk2 hb hz hgx)
            | (go_at_call 22; (with_reducible refine (QSil.out _).mono ?_); rintro e w3 ⟨rfl, hb3⟩; have C1s : w3.cell? ⟨gx, 1, none⟩ = some (.string ndn) := cell_below hb3 C1; have HX3 := Lib.hid (And.intro (Kd.S_below HX.out.1 hb3) (belT HX.out.2 hb3)); clear hb3))
          go_roundw
          case rel => exact ⟨k + 1, by go_num, by omega, Lib.hid ⟨by rw [HEND.out]; exact HX3.out.1, HX3.out.2⟩⟩
          case measure => simp [intOf]; omega
        · have HEND : Hid (lifeF (ns.take (k + 1)) ps (silB z) z = lifeF (ns.take k) ps (silB z) z ++ [lostR ndn z]) := Lib.hid (by rw [HSN.out.1, HSN.out.2]; simp)
          go_wp2_with (first
            | ((with_reducible refine wpList_load_any (op := ⟨some 16, _, _, _, _, _⟩) rfl 39 (.tmp 15) rfl (ad.add (k * 32)) ?l1b cs _ ?l2b Tryd.underlying39 ?l3b ?l4b ?_); (case l1b => rfl); (case l2b => exact HO.out); (case l3b => rfl); (case l4b => exact HC.out.2.2.1))
            | ((with_reducible refine wpList_store_blk rfl 39 (.tmp 7) (.tmp 16) rfl wx.heap.size 39 ?c0b cs ?c1b ?c2b ?c3b ?c4b ?c5b ?c6b ?_); (case c1b => rfl); (case c2b => rfl); (case c3b => exact heap_alloc_new _ _); (case c4b => exact HC.out.2.2.1); (case c5b => exact Eq.trans (b := 32) rfl HC.out.2.2.2); (case c6b => exact HC.out.1); intro w2 G hk2 hb hz; have HX := Lib.hid (And.intro (Kd.S_below hI.out.1 (hb _ _ (Below.alloc (Below.refl _ _) (Nat.le_refl _) _) (Nat.le_refl _))) (belT hI.out.2 (hb _ _ (Below.alloc (Below.refl _ _) (Nat.le_refl _) _) (Nat.le_refl _)))); obtain ⟨gx, hgx⟩ : ∃ g, g = wx.heap.size := ⟨_, rfl⟩; have HGX := Lib.hid hgx; rw [← hgx] at G ⊢; have HG := Lib.hid G; have C9 : w2.cell? ⟨gx, 9, none⟩ = some (.bool false) := (cell_of_row _ _ 9 _ _ _ G).trans HC.out.2.1.2.1; have C1 : w2.cell? ⟨gx, 1, none⟩ = some (.string ndn) := (cell_of_row _ _ 1 _ _ _ G).trans HC.out.2.1.1; have C10 : w2.cell? ⟨gx, 10, none⟩ = some (.int .i64 bt) := (cell_of_row _ _ 10 _ _ _ G).trans HC.out.2.1.2.2; clear G hk2 hb hz hgx)
            | (go_at_call 22; (with_reducible refine (QSil.out _).mono ?_); rintro e w3 ⟨rfl, hb3⟩; have C1s : w3.cell? ⟨gx, 1, none⟩ = some (.string ndn) := cell_below hb3 C1; have HX3 := Lib.hid (And.intro (Kd.S_below HX.out.1 hb3) (belT HX.out.2 hb3)); clear hb3)
            | ((with_reducible refine wpList_build1 (op := ⟨some 48, _, _, _, _, _⟩) rfl 28 42 (.tmp 47) rfl ((lostR ndn z).cells (.slice none 0 0) (.slice none 0 0)) ?d1b (.agg (Rq.zero.cells (.slice none 0 0) (.slice none 0 0))) 42 416 Tryd.underlying28 ?d3b ?d4b (by omega) (by omega) ?d5b ?_); (case d1b => rfl); (case d3b => exact infoRq); (case d4b => exact rfl); (case d5b => rfl))
            | ((with_reducible refine gate_ (.call { callee := .builtin .append, args := #[.tmp 43, .tmp 48], argTypes := #[28, 28] }) rfl ?_); refine Kd.S_append kRq (w0 := W0) (W := w3) W0.heap.size rfl (.tmp 43) (.tmp 48) 28 42 (.agg (Rq.zero.cells (.slice none 0 0) (.slice none 0 0))) 416 rfl Tryd.underlying28 infoRq rfl (by decide) (by decide) u5 (lifeF (ns.take k) ps (silB z) z) (lostR ndn z) ((lostR ndn z).cells (.slice none 0 0) (.slice none 0 0)).toList (fun _ => True) (fun _ => False) rfl rfl ?p1b ?p0b (fun _ _ => trivial) ?p2b ?p3b ?p4b ?p5b ?_; (case p1b => exact lost_M ndn z w3 _); (case p0b => exact fun _ h => h.elim); (case p2b => exact Kd.S_mono (HX3.out.1) (fun _ _ => ⟨trivial, fun h => h⟩)); (case p3b => exact HX3.out.2); (case p4b => exact (HX3.out.2).size); (case p5b => exact HLEN1.out); intro v1 wd hRd hBd hgd hatd))
          go_roundw
          case rel => exact ⟨k + 1, by go_num, by omega, Lib.hid ⟨by rw [HEND.out]; exact hRd, hBd⟩⟩
          case measure => simp [intOf]; omega
      · have HEND : Hid (lifeF (ns.take (k + 1)) ps (silB z) z = lifeF (ns.take k) ps (silB z) z ++ (podsT ndn qs).map (fun t => gone ndn t.1.name)) := Lib.hid (by rw [HSN.out.1, HSN.out.2]; simp)
        go_wp2_with (first
          | ((with_reducible refine wpList_load_any (op := ⟨some 16, _, _, _, _, _⟩) rfl 39 (.tmp 15) rfl (ad.add (k * 32)) ?l1c cs _ ?l2c Tryd.underlying39 ?l3c ?l4c ?_); (case l1c => rfl); (case l2c => exact HO.out); (case l3c => rfl); (case l4c => exact HC.out.2.2.1))
          | ((with_reducible refine wpList_store_blk rfl 39 (.tmp 7) (.tmp 16) rfl wx.heap.size 39 ?c0c cs ?c1c ?c2c ?c3c ?c4c ?c5c ?c6c ?_); (case c1c => rfl); (case c2c => rfl); (case c3c => exact heap_alloc_new _ _); (case c4c => exact HC.out.2.2.1); (case c5c => exact Eq.trans (b := 32) rfl HC.out.2.2.2); (case c6c => exact HC.out.1); intro w2 G hk2 hb hz; have HX := Lib.hid (And.intro (Kd.S_below hI.out.1 (hb _ _ (Below.alloc (Below.refl _ _) (Nat.le_refl _) _) (Nat.le_refl _))) (belT hI.out.2 (hb _ _ (Below.alloc (Below.refl _ _) (Nat.le_refl _) _) (Nat.le_refl _)))); obtain ⟨gx, hgx⟩ : ∃ g, g = wx.heap.size := ⟨_, rfl⟩; have HGX := Lib.hid hgx; rw [← hgx] at G ⊢; have HG := Lib.hid G; have C9 : w2.cell? ⟨gx, 9, none⟩ = some (.bool true) := (cell_of_row _ _ 9 _ _ _ G).trans HC.out.2.1.2.1; have C1 : w2.cell? ⟨gx, 1, none⟩ = some (.string ndn) := (cell_of_row _ _ 1 _ _ _ G).trans HC.out.2.1.1; have C10 : w2.cell? ⟨gx, 10, none⟩ = some (.int .i64 bt) := (cell_of_row _ _ 10 _ _ _ G).trans HC.out.2.1.2.2; clear G hk2 hb hz hgx)
          | ((with_reducible refine wpList_load_blk (op := ⟨some 20, _, _, _, _, _⟩) rfl 24 (.tmp 2) rfl w.heap.size 24 ?f1 #[.slice (some ad) nn cn, .slice Ap np cp, v2, v3] _ ?f2 Tryd.underlying24 ?f3 ?f4 ?_); (case f1 => rfl); (case f2 => exact blkB HX.out.2 HF0.out); (case f3 => rfl); (case f4 => exact infoF1))
          | (go_at_call 21; (with_reducible refine (QP.out _ HX.out.2).mono ?_); rintro e w4 ⟨v6, rfl, hP4, hb4⟩; obtain ⟨A6, c6, hv6⟩ := Kd.R_slice hP4; obtain ⟨m, hm⟩ : ∃ x, x = (podsT ndn qs).length := ⟨_, rfl⟩; rw [← hm] at hv6; subst hv6; obtain ⟨tv, htv⟩ : ∃ x, x = podsT ndn qs := ⟨_, rfl⟩; rw [← htv] at hP4 hm; have HI4 := Lib.hid (inn_pods HX.out.1 HX.out.2 hP4 hb4); have HK4 : Hid (KeptBlk gx cs u5 w4) := Lib.hid ⟨blkB hb4 HG.out, fun e => by have := Kd.S_lt hI.out.1 _ e.symm; have := HGX.out; omega⟩; have HTV := Lib.hid (And.intro htv hm); clear hP4 hb4 htv hm))
        have HML : Hid (m ≤ 10000) := Lib.hid (by rw [HTV.out.2, HTV.out.1]; exact Nat.le_trans (podsT_len ndn qs) HLP.out.2)
        go_loopw [5, 25] (fun v5 vj wr => ∃ j : Nat, vj = .int .i64 j ∧ j ≤ m ∧ Hid (Inn W0 wr A6 m tv v5 ((lifeF (ns.take k) ps (silB z) z) ++ (tv.take j).map (fun t => gone ndn t.1.name)) ∧ KeptBlk gx cs v5 wr)) (fun _ vj _ => m - (intOf vj).toNat)
        case atStart => exact ⟨0, rfl, Nat.zero_le _, Lib.hid ⟨by simpa using HI4.out.1, HK4.out⟩⟩
        case round =>
          obtain ⟨j, rfl, hj, hJ⟩ := hrel
          by_cases hjm : j < m
          · obtain ⟨⟨p, x4, x27⟩, ht⟩ : ∃ t, tv[j]? = some t := ⟨_, List.getElem?_eq_getElem (by have := HI4.out.2; omega)⟩
            obtain ⟨bd, hA6, hd1, hY⟩ := tAt hJ.out.1.vs j _ ht
            subst hA6
            replace hd1 : (p.cells x4 x27).all (·.oneCell') = true := hd1
            replace hY : ∀ (i : Nat) (u : Value), (p.cells x4 x27)[i]? = some u → wr.cell? ((bd.add (j * 32)).add i) = some u := hY
            obtain ⟨pn, hpn⟩ : ∃ s, s = p.name := ⟨_, rfl⟩
            have D1 : wr.cell? ⟨(bd.add (j * 32)).block, (bd.add (j * 32)).off + 1, none⟩ = some (.string pn) := t_field hY 1 (by decide) (by rw [hpn]; rfl)
            have N1 : wr.cell? ⟨gx, 1, none⟩ = some (.string ndn) := (cell_of_row _ _ 1 _ _ _ hJ.out.2.1).trans HC.out.2.1.1
            have hjl : (j : Int) < (m : Int) := by omega
            have HTK : Hid ((tv.take (j + 1)).map (fun t => gone ndn t.1.name) = (tv.take j).map (fun t => gone ndn t.1.name) ++ [gone ndn pn]) := Lib.hid (by rw [List.take_add_one, ht, List.map_append, hpn]; rfl)
            have HLEN : Hid (((((lifeF (ns.take k) ps (silB z) z) ++ (tv.take j).map (fun t => gone ndn t.1.name))).length + 1) * 416 ≤ 140737488355328) := Lib.hid (by
              have h1 := HSZ.out
              have h2 := HML.out
              simp only [List.length_append, List.length_map, List.length_take]
              omega)
            obtain ⟨ds, hds⟩ : ∃ cs, cs = p.cells x4 x27 := ⟨_, rfl⟩
            have f1 : ds[1]? = some (.string pn) := by rw [hds, hpn]; rfl
            have hi1 : (Tryd.prog.info? 39).map (·.size) = some ds.size := by rw [hds]; exact infoO1
            have hi2 : 32 = ds.size := by rw [hds]; rfl
            rw [← hds] at hY hd1
            have HY := Lib.hid hY
            have HD := Lib.hid (And.intro hd1 (And.intro f1 (And.intro hi1 hi2)))
            clear ht hY hd1 hds f1 hi1 hi2 hpn
            have hjm10 : j ≤ 10000 := by have := HML.out; omega
            go_wp2_with (first
              | ((with_reducible refine wpList_load_any (op := ⟨some 28, _, _, _, _, _⟩) rfl 39 (.tmp 27) rfl (bd.add (j * 32)) ?l1d ds _ ?l2d Tryd.underlying39 ?l3d ?l4d ?_); (case l1d => rfl); (case l2d => exact HY.out); (case l3d => rfl); (case l4d => exact HD.out.2.2.1))
              | ((with_reducible refine wpList_store_blk rfl 39 (.tmp 9) (.tmp 28) rfl wr.heap.size 39 ?c0d ds ?c1d ?c2d ?c3d ?c4d ?c5d ?c6d ?_); (case c1d => rfl); (case c2d => rfl); (case c3d => exact heap_alloc_new _ _); (case c4d => exact HD.out.2.2.1); (case c5d => exact Eq.trans (b := 32) rfl HD.out.2.2.2); (case c6d => exact HD.out.1); intro w5 G5 hk5 hb hz5; have HJ5 := Lib.hid (And.intro (hJ.out.1.below (hb _ _ (Below.alloc (Below.refl _ _) (Nat.le_refl _) _) (Nat.le_refl _))) (hJ.out.2.below (hb _ _ (Below.alloc (Below.refl _ _) (Nat.le_refl _) _) (Nat.le_refl _)))); obtain ⟨g9, hg9⟩ : ∃ g, g = wr.heap.size := ⟨_, rfl⟩; rw [← hg9] at G5 ⊢; have P1 : w5.cell? ⟨g9, 1, none⟩ = some (.string pn) := (cell_of_row _ _ 1 _ _ _ G5).trans HD.out.2.1; have N5 : w5.cell? ⟨gx, 1, none⟩ = some (.string ndn) := (cell_of_row _ _ 1 _ _ _ HJ5.out.2.1).trans HC.out.2.1.1; clear G5 hk5 hb hz5 hg9)
              | ((with_reducible refine wpList_build1 (op := ⟨some 35, _, _, _, _, _⟩) rfl 28 42 (.tmp 34) rfl ((gone ndn pn).cells (.slice none 0 0) (.slice none 0 0)) ?d1d (.agg (Rq.zero.cells (.slice none 0 0) (.slice none 0 0))) 42 416 Tryd.underlying28 ?d3d ?d4d (by omega) (by omega) ?d5d ?_); (case d1d => rfl); (case d3d => exact infoRq); (case d4d => exact rfl); (case d5d => rfl))
              | ((with_reducible refine gate_ (.call { callee := .builtin .append, args := #[.tmp 29, .tmp 35], argTypes := #[28, 28] }) rfl ?_); refine Kd.S_append kRq (w0 := W0) (W := w5) W0.heap.size rfl (.tmp 29) (.tmp 35) 28 42 (.agg (Rq.zero.cells (.slice none 0 0) (.slice none 0 0))) 416 rfl Tryd.underlying28 infoRq rfl (by decide) (by decide) u5 ((lifeF (ns.take k) ps (silB z) z) ++ (tv.take j).map (fun t => gone ndn t.1.name)) (gone ndn pn) ((gone ndn pn).cells (.slice none 0 0) (.slice none 0 0)).toList (fun _ => True) (fun _ => False) rfl rfl ?p1d ?p0d (fun _ _ => trivial) ?p2d ?p3d ?p4d ?p5d ?_; (case p1d => exact gone_M ndn pn w5 _); (case p0d => exact fun _ h => h.elim); (case p2d => exact Kd.S_mono (HJ5.out.1.rq) (fun _ _ => ⟨trivial, fun h => h⟩)); (case p3d => exact HJ5.out.1.bl); (case p4d => exact (HJ5.out.1.bl).size); (case p5d => exact HLEN.out); intro v1 wd hRd hBd hgd hatd))
            go_roundw
            case rel => exact ⟨j + 1, by go_num, by omega, Lib.hid ⟨by rw [HTK.out, ← List.append_assoc]; exact HJ5.out.1.app hRd hBd hgd hatd hgd.size, HJ5.out.2.app hgd hatd⟩⟩
            case measure => simp [intOf]; omega
          · obtain rfl : j = m := by omega
            have hfin : Hid (Kd.S kRq 42 wr W0.heap.size (fun _ => True) u5 (lifeF (ns.take (k + 1)) ps (silB z) z) ∧ Below W0.heap.size W0 wr) := Lib.hid (by
              have h1 := hJ.out.1.rq
              rw [List.take_of_length_le (Nat.le_of_eq HI4.out.2), HTV.out.1] at h1
              rw [HEND.out]
              exact ⟨h1, hJ.out.1.bl⟩)
            go_wp2
            go_roundw
            case rel => exact ⟨k + 1, by go_num, by omega, hfin⟩
            case measure => simp [intOf]; omega
    · obtain rfl : k = nn := by omega
      have hR := Kd.S_lower hI.out.1 hlt0.out
      rw [List.take_of_length_le (by rw [← HTS.out.1, List.length_map, HLn.out]; exact Nat.le_refl _)] at hR
      have HR := Lib.hid hR
      have HB := Lib.hid (belT HB0.out hI.out.2)
      clear hR
      go_wp2
      go_ret
      exact ⟨_, rfl, HR.out, HB.out⟩
end Go.Proofs.YtiaggfjfgoiafaaDoor

/- flotillaref23.Pods: the document's pods of a node, by names. -/
namespace Go.Proofs.YtiaggfjfgoiafaaDoor
open Go.RowKit Go.Proofs.YtiaggfjfgoiafaaDoorW.PrintWords Go.Proofs.YtiaggfjfgoiafaaDoorW.PrintLast
def rg23_12_T : Bool × List (List Nat × List Nat) := (true, [([], []), ([0], [0]), ([1], [1]), ([2], [2]), ([3, 2], [2, 3]), ([2], [2]), ([2], [2]), ([5, 6, 2], [2, 5, 6]), ([7, 2], [2, 7]), ([8, 2], [2, 8]), ([4, 9, 2, 2], [2, 4, 9]), ([10, 2], [2, 10]), ([2, 11], [2, 11])])
def rg23_12_B : List Nat := [0, 1, 3, 7, 15, 7, 7, 103, 231, 487, 1023, 2047, 4095]
theorem rg23_12_tab : rtab .any (opsOf Tryd.f23 12) = rg23_12_T := by kernel_rfl
theorem rg23_12_bits : waitsOk rg23_12_T.2 rg23_12_B = true := by kernel_rfl
theorem sort23_snoc {p : Ot → Bool} {ts : List Ot} {k : Nat} {t : Ot} (h : ts[k]? = some t) : Srt.isort cT ((ts.take (k + 1)).filter p) = if p t = true then Srt.ins cT t (Srt.isort cT ((ts.take k).filter p)) else Srt.isort cT ((ts.take k).filter p) := by
  rw [List.take_add_one, h, List.filter_append]
  cases hp : p t
  · simp [hp]
  · rw [if_pos rfl, show (some t).toList.filter p = [t] by simp [hp], Srt.isort_snoc]
set_option maxHeartbeats 8000000 in
set_option maxRecDepth 100000 in
theorem refPods_calls (v0 v1 v2 : Value) (A : Option Addr) (c n : Nat) (s : ByteArray) (ts : List Ot) (w : World) (hr : kT.C w A n ts) (hl : n ≤ 10000) (hfn : ∀ t ∈ ts, t.1.name.size ≤ 140737488351232) :
    Calls Tryd.prog 23 #[.agg #[v0, .slice A n c, v1, v2], .string s] w fun e w' => ∃ v, e = .returned v ∧ kT.R 39 w' w.heap.size (fun _ => True) v (Srt.isort cT (ts.filter (fun t => decide (t.1.node = s)))) ∧ Below w.heap.size w w' := by
  have HL : Hid (ts.length = n) := Lib.hid hr.1
  have HFn := Lib.hid hfn
  obtain ⟨W0, hW0⟩ : ∃ x, x = w.alloc (Obj.cells #[v0, .slice A n c, v1, v2] 24) := ⟨_, rfl⟩
  have hn0 : W0.heap[w.heap.size]? = some (.cells #[v0, .slice A n c, v1, v2] 24 (0, 0)) := by rw [hW0]; exact heap_alloc_new w _
  have q0 : Hid (W0.cell? ⟨w.heap.size, 1, none⟩ = some (.slice A n c)) := Lib.hid (cell_of_row _ _ 1 _ _ _ hn0)
  have hlt0 : Hid (w.heap.size < W0.heap.size) := Lib.hid (blkLt hn0)
  have HB0 : Hid (Below w.heap.size w W0) := Lib.hid (by rw [hW0]; exact below_alloc (Below.refl w.heap.size w) _)
  have HR := Lib.hid (Kd.C_below hr HB0.out)
  clear hr hn0 hfn
  replace hW0 := Lib.hid hW0
  go_enter Tryd.func23, Tryd.ntmps23
  go_wp2
  rw [← hW0.out]
  clear hW0
  go_loopw [5, 6] (fun vL vI wr => ∃ k : Nat, vI = .int .i64 k ∧ k ≤ n ∧ Hid (Kd.R kT 39 wr W0.heap.size (fun _ => True) vL (Srt.isort cT ((ts.take k).filter (fun t => decide (t.1.node = s)))) ∧ Below W0.heap.size W0 wr)) (fun _ vI _ => n - (intOf vI).toNat)
  case atStart => exact ⟨0, rfl, Nat.zero_le _, Lib.hid ⟨Kd.R_nil _ _ _ _ _, Below.refl _ _⟩⟩
  case round =>
    obtain ⟨k, rfl, hk, hI⟩ := hrel
    rename World => wx
    have c1 : wx.cell? ⟨w.heap.size, 1, none⟩ = some (.slice A n c) := cell_below hI.out.2 q0.out
    by_cases hlt : k < n
    · obtain ⟨t, ht⟩ : ∃ o, ts[k]? = some o := ⟨_, List.getElem?_eq_getElem (by have := HL.out; omega)⟩
      obtain ⟨ad, hA, hc1, hO⟩ := tAt (Kd.C_below HR.out hI.out.2) k t ht
      subst hA
      have hlk : (k : Int) < (n : Int) := by omega
      have hsn := sort23_snoc (p := (fun t => decide (t.1.node = s))) ht
      obtain ⟨acc, hacc⟩ : ∃ acc, acc = Srt.isort cT ((ts.take k).filter (fun t => decide (t.1.node = s))) := ⟨_, rfl⟩
      obtain ⟨m, hm⟩ : ∃ m, m = acc.length := ⟨_, rfl⟩
      have hmn : m ≤ 10000 := by
        have h1 : ((ts.take k).filter (fun t => decide (t.1.node = s))).length ≤ (ts.take k).length := List.length_filter_le _ _
        rw [List.length_take] at h1
        rw [hm, hacc, Srt.isort_length]
        omega
      have hnt := HFn.out t (List.mem_of_getElem? ht)
      have HFa : Hid (∀ y ∈ acc, y.1.name.size ≤ 140737488351232) := Lib.hid (fun y hy => by
        rw [hacc, Srt.mem_isort] at hy
        exact HFn.out y (List.mem_of_mem_take (List.mem_filter.1 hy).1))
      rw [← hacc] at hsn hI
      obtain ⟨pd, hpd⟩ : ∃ b, b = decide (t.1.node = s) := ⟨_, rfl⟩
      have e0 : decide (t.1.node = s) = pd := hpd.symm
      rw [e0] at hsn
      obtain ⟨cs, hcs⟩ : ∃ cs, cs = Ot.cs t := ⟨_, rfl⟩
      have hM : Hid (∀ (W : World) (b : Nat), kT.M W b (fun _ => False) t cs.toList) := Lib.hid (fun W b => ⟨by rw [hcs], hc1⟩)
      rw [← hcs] at hc1 hO
      have HO := Lib.hid hO
      obtain ⟨n1, hn1⟩ : ∃ s, s = t.1.name := ⟨_, rfl⟩
      rw [← hn1] at hnt
      have e1 : cs[1]? = some (.string n1) := by rw [hcs, hn1]; rfl
      obtain ⟨nd, hnd⟩ : ∃ x, x = t.1.node := ⟨_, rfl⟩
      have e8 : cs[13]? = some (.string nd) := by rw [hcs, hnd]; rfl
      rw [← hnd] at hpd
      have hi1 : (Tryd.prog.info? 39).map (·.size) = some cs.size := by rw [hcs, Ot.cs_size]; kernel_rfl
      have hi2 : 32 = cs.size := by rw [hcs, Ot.cs_size]
      have HC := Lib.hid (And.intro hc1 (And.intro (And.intro e1 e8) (And.intro hi1 hi2)))
      have HN := Lib.hid (And.intro hn1 (And.intro hm hnt))
      have HSN := Lib.hid hsn
      have HP := Lib.hid hpd
      obtain ⟨A5, c5, h5⟩ := Kd.R_slice hI.out.1
      rw [← hm] at h5
      clear hnd ht hO hcs hc1 e1 e8 hi1 hi2 hsn hacc hpd e0 hn1 hm hnt
      subst h5
      cases pd
      · have HS : Hid (Srt.isort cT ((ts.take (k + 1)).filter (fun t => decide (t.1.node = s))) = acc) := Lib.hid (by rw [HSN.out]; rfl)
        have hs : nd ≠ s := of_decide_eq_false HP.out.symm
        have d1 : decide (nd = s) = false := HP.out.symm
        have d2 : (nd.toList == s.toList) = false := beq_eq_false_iff_ne.mpr (fun e => hs (bytes_of_list e))
        clear hs
        go_wp2_with (first
          | ((with_reducible refine wpList_load_any (op := ⟨some 22, _, _, _, _, _⟩) rfl 39 (.tmp 21) rfl (ad.add (k * 32)) ?l1sf cs _ ?l2sf Tryd.underlying39 ?l3sf ?l4sf ?_); (case l1sf => rfl); (case l2sf => exact HO.out); (case l3sf => rfl); (case l4sf => exact HC.out.2.2.1))
          | ((with_reducible refine wpList_store_blk rfl 39 (.tmp 7) (.tmp 22) rfl wx.heap.size 39 ?c0sf cs ?c1sf ?c2sf ?c3sf ?c4sf ?c5sf ?c6sf ?_); (case c1sf => rfl); (case c2sf => rfl); (case c3sf => exact heap_alloc_new _ _); (case c4sf => exact HC.out.2.2.1); (case c5sf => exact Eq.trans (b := 32) rfl HC.out.2.2.2); (case c6sf => exact HC.out.1); intro w2 G hk2 hb hz; have HX := Lib.hid (And.intro (Kd.R_below hI.out.1 (hb _ _ (Below.alloc (Below.refl _ _) (Nat.le_refl _) _) (Nat.le_refl _))) (belT hI.out.2 (hb _ _ (Below.alloc (Below.refl _ _) (Nat.le_refl _) _) (Nat.le_refl _)))); obtain ⟨gx, hgx⟩ : ∃ g, g = wx.heap.size := ⟨_, rfl⟩; rw [← hgx] at G ⊢; have HG := Lib.hid G; have C8 : w2.cell? ⟨gx, 13, none⟩ = some (.string nd) := (cell_of_row _ _ 13 _ _ _ G).trans HC.out.2.1.2; clear G hk2 hb hz hgx))
        go_roundw
        case rel => exact ⟨k + 1, by go_num, by omega, Lib.hid ⟨by rw [HS.out]; exact HX.out.1, HX.out.2⟩⟩
        case measure => simp [intOf]; omega
      · have HS : Hid (Srt.isort cT ((ts.take (k + 1)).filter (fun t => decide (t.1.node = s))) = Srt.ins cT t acc) := Lib.hid (by rw [HSN.out]; rfl)
        have hs : nd = s := of_decide_eq_true HP.out.symm
        have d1 : decide (nd = s) = true := HP.out.symm
        have d2 : (nd.toList == s.toList) = true := by rw [hs]; exact beq_self_eq_true _
        clear hs
        go_wp2_with (first
          | ((with_reducible refine wpList_load_any (op := ⟨some 22, _, _, _, _, _⟩) rfl 39 (.tmp 21) rfl (ad.add (k * 32)) ?l1st cs _ ?l2st Tryd.underlying39 ?l3st ?l4st ?_); (case l1st => rfl); (case l2st => exact HO.out); (case l3st => rfl); (case l4st => exact HC.out.2.2.1))
          | ((with_reducible refine wpList_store_blk rfl 39 (.tmp 7) (.tmp 22) rfl wx.heap.size 39 ?c0st cs ?c1st ?c2st ?c3st ?c4st ?c5st ?c6st ?_); (case c1st => rfl); (case c2st => rfl); (case c3st => exact heap_alloc_new _ _); (case c4st => exact HC.out.2.2.1); (case c5st => exact Eq.trans (b := 32) rfl HC.out.2.2.2); (case c6st => exact HC.out.1); intro w2 G hk2 hb hz; have HX := Lib.hid (And.intro (Kd.R_below hI.out.1 (hb _ _ (Below.alloc (Below.refl _ _) (Nat.le_refl _) _) (Nat.le_refl _))) (belT hI.out.2 (hb _ _ (Below.alloc (Below.refl _ _) (Nat.le_refl _) _) (Nat.le_refl _)))); obtain ⟨gx, hgx⟩ : ∃ g, g = wx.heap.size := ⟨_, rfl⟩; rw [← hgx] at G ⊢; have HG := Lib.hid G; have C8 : w2.cell? ⟨gx, 13, none⟩ = some (.string nd) := (cell_of_row _ _ 13 _ _ _ G).trans HC.out.2.1.2; clear G hk2 hb hz hgx))
        have HC5 := Lib.hid (Kd.R_reads' HX.out.1)
        have HBX := Lib.hid HX.out.2
        go_loopw [8, 9, 10] (fun v6 v7 v8 wr => ∃ (j : Nat) (d : Bool), v8 = .int .i64 j ∧ j ≤ m ∧ v7 = .bool d ∧ Hid (doneB t (acc.take j) = d ∧ Kd.R kT 39 wr w2.heap.size (fun _ => True) v6 (outP t (acc.take j)) ∧ Below w2.heap.size w2 wr)) (fun _ _ v8 _ => m - (intOf v8).toNat)
        case atStart => exact ⟨0, false, rfl, Nat.zero_le _, rfl, Lib.hid ⟨rfl, Kd.R_nil _ _ _ _ _, Below.refl _ _⟩⟩
        case round =>
          obtain ⟨j, d, rfl, hj, rfl, hJ⟩ := hrel
          by_cases hjm : j < m
          · obtain ⟨y, hy⟩ : ∃ o, acc[j]? = some o := ⟨_, List.getElem?_eq_getElem (by have := HN.out.2.1; omega)⟩
            have hC5 := Kd.C_below HC5.out.2.2 hJ.out.2.2
            rw [← HN.out.2.1] at hC5
            obtain ⟨ad5, hA5, hd1, hY⟩ := tAt hC5 j y hy
            subst hA5
            have hljm : (j : Int) < (m : Int) := by omega
            have hny := HFa.out y (List.mem_of_getElem? hy)
            have htk : acc.take (j + 1) = acc.take j ++ [y] := by rw [List.take_add_one, hy]; rfl
            have HTK := Lib.hid htk
            have hol := out_len t (acc.take j)
            rw [List.length_take] at hol
            have HL2 : Hid (((outP t (acc.take j) ++ [t]).length + 1) * 312 ≤ 140737488355328) := Lib.hid (by rw [List.length_append, List.length_singleton]; omega)
            have HL1 : Hid (((outP t (acc.take j)).length + 1) * 312 ≤ 140737488355328) := Lib.hid (by omega)
            obtain ⟨ds, hds⟩ : ∃ cs, cs = Ot.cs y := ⟨_, rfl⟩
            have hMy : Hid (∀ (W : World) (b : Nat), kT.M W b (fun _ => False) y ds.toList) := Lib.hid (fun W b => ⟨by rw [hds], hd1⟩)
            rw [← hds] at hd1 hY
            have HYQF : Hid (∀ W : World, Below w2.heap.size w2 W → ∀ (i : Nat) (u : Value), ds[i]? = some u → W.cell? ((ad5.add (j * 32)).add i) = some u) := Lib.hid (fun W hW => by
              have hC := Kd.C_below HC5.out.2.2 hW
              rw [← HN.out.2.1] at hC
              obtain ⟨ad6, hA6, _, hY6⟩ := tAt hC j y hy
              injection hA6 with hA6
              subst hA6
              rw [hds]
              exact hY6)
            obtain ⟨n2, hn2⟩ : ∃ s, s = y.1.name := ⟨_, rfl⟩
            rw [← hn2] at hny
            have f1 : ds[1]? = some (.string n2) := by rw [hds, hn2]; rfl
            have hi1 : (Tryd.prog.info? 39).map (·.size) = some ds.size := by rw [hds, Ot.cs_size]; kernel_rfl
            have hi2 : 32 = ds.size := by rw [hds, Ot.cs_size]
            have HD := Lib.hid (And.intro hd1 (And.intro f1 (And.intro hi1 hi2)))
            have C2 := t_field hY 1 (by decide) f1
            have C1 : wr.cell? ⟨gx, 1, none⟩ = some (.string n1) := (cell_of_row _ _ 1 _ _ _ (blkB hJ.out.2.2 HG.out)).trans HC.out.2.1.1
            have HY := Lib.hid hY
            obtain ⟨cw, hcw⟩ : ∃ c, c = Wc.cmpW n1 n2 := ⟨_, rfl⟩
            have HCW : Hid (cT t y = cw) := Lib.hid (by rw [hcw, HN.out.1, hn2]; rfl)
            have QW := Lib.hid (fun W => Wc.ref_calls n1 n2 cw W (by unfold Wc.cmpO; rw [if_pos ⟨HN.out.2.2, hny⟩, hcw]))
            clear hy hY hd1 hny htk hol hds hn2 f1 hi1 hi2 hcw hC5
            have HB : Below wr.heap.size wr wr := Below.refl _ _
            replace HB := below_drew HB
            cases d
            · by_cases hneg : cw < 0
              · have g4 : decide (cw < 0) = true := decide_eq_true hneg
                go_upto_region 12 with (fail)
                refine start_ (n := 13) (S := fun w' => Below wr.heap.size wr w' ∧ w'.cell? ⟨gx, 1, none⟩ = some (.string n1) ∧ w'.cell? ⟨(ad5.add (j * 32)).block, (ad5.add (j * 32)).off + 1, none⟩ = some (.string n2)) (ds := []) (bs 13 0) (by kernel_rfl) rfl (by kernel_rfl) ⟨HB, C1, C2⟩ (fun hHeld => ?_)
                refine with_tabW rg23_12_tab rg23_12_bits (fun HT_ HW_ => ?_)
                refine pu 0 (some 33) (bs 13 1) HT_ rfl rfl (by kernel_rfl) (fun _ _ _ _ h => h) ⟨_, .inl ⟨by rfl, fun _ => by go_simp; with_reducible rfl⟩, _, by simp only [Act.put, sA, sB, sC, i64_w, i32_w]; rfl, ?_⟩
                refine pu 1 (some 34) (bs 13 3) HT_ rfl rfl (by kernel_rfl) (fun _ _ _ _ h => h) ⟨_, .inl ⟨by rfl, fun _ => by go_simp; with_reducible rfl⟩, _, by simp only [Act.put, sA, sB, sC, i64_w, i32_w]; rfl, ?_⟩
                refine pu 2 (some 35) (bs 13 7) HT_ rfl rfl (by kernel_rfl) (fun _ _ _ _ h => h) ⟨_, .inl ⟨by rfl, fun _ => by go_simp; with_reducible rfl⟩, _, by simp only [Act.put, sA, sB, sC, i64_w, i32_w]; rfl, ?_⟩
                refine pu 3 (some 36) (bs 13 15) HT_ rfl rfl (by kernel_rfl) (fun _ _ _ _ h => h) ⟨_, .inl ⟨by rfl, fun _ => by go_simp; with_reducible rfl⟩, _, by simp only [Act.put, sA, sB, sC, i64_w, i32_w]; rfl, ?_⟩
                refine pu 5 (some 38) (bs 13 47) HT_ rfl rfl (by kernel_rfl) (fun _ _ _ _ h => h) ⟨_, .inl ⟨by rfl, fun _ => by go_simp; with_reducible rfl⟩, _, by simp only [Act.put, sA, sB, sC, i64_w, i32_w]; rfl, ?_⟩
                refine pu 6 (some 39) (bs 13 111) HT_ rfl rfl (by kernel_rfl) (fun _ _ _ _ h => h) ⟨_, .inl ⟨by rfl, fun _ => by go_simp; with_reducible rfl⟩, _, by simp only [Act.put, sA, sB, sC, i64_w, i32_w]; rfl, ?_⟩
                refine pu 7 (some 40) (bs 13 239) HT_ rfl rfl (by kernel_rfl) (fun _ _ _ _ h => h) ⟨_, .inl ⟨by rfl, fun _ => by go_simp; with_reducible rfl⟩, _, by simp only [Act.put, sA, sB, sC, i64_w, i32_w]; rfl, ?_⟩
                refine pu 8 (some 41) (bs 13 495) HT_ rfl rfl (by kernel_rfl) (fun _ _ _ _ h => h) ⟨_, .inl ⟨by rfl, fun _ => by go_simp; with_reducible rfl⟩, _, by simp only [Act.put, sA, sB, sC, i64_w, i32_w]; rfl, ?_⟩
                refine tk 4 (some 37) (bs 13 511) HT_ HW_ rfl rfl (by kernel_rfl) (fun _ _ _ _ h => h) hHeld ⟨_, .inl ⟨by rfl, by rintro w' ⟨s0, s1, s2⟩; go_simp; with_reducible rfl⟩, _, by simp only [Act.put, sA, sB, sC, i64_w, i32_w]; rfl, ?_⟩
                refine tk 9 (some 42) (bs 13 1023) HT_ HW_ rfl rfl (by kernel_rfl) (fun _ _ _ _ h => h) hHeld ⟨_, .inl ⟨by rfl, by rintro w' ⟨s0, s1, s2⟩; go_simp; with_reducible rfl⟩, _, by simp only [Act.put, sA, sB, sC, i64_w, i32_w]; rfl, ?_⟩
                refine on1 10 (some 43) (bs 13 2047) HT_ rfl rfl (by kernel_rfl) (by decide) (fun K hK => ?_)
                refine goes_ Tryd.func39 (by kernel_rfl) rfl #[.string n1, .string n2] (by rfl) rfl rfl (by (try simp only [List.map_toArray, List.map_cons, List.map_nil]); first | done | rfl) ?_
                with_reducible refine (QW.out _).mono ?_
                rintro e w5 ⟨rfl, hb⟩
                replace HB := belT HB hb
                replace C1 := cell_below hb C1
                replace C2 := cell_below hb C2
                clear hb
                refine ⟨_, rfl, ?_⟩
                refine hK.out _ _ ⟨HB, C1, C2⟩ (fun hHeld => ?_)
                clear hK K
                refine nm ⟨_, show Act.put _ (some 43) _ = _ by simp only [Act.put, sA, sB, sC, i64_w, i32_w]; rfl, ?_⟩
                refine pu 11 (some 44) (bs 13 4095) HT_ rfl rfl (by kernel_rfl) (fun _ _ _ _ h => h) ⟨_, .inl ⟨by rfl, fun _ => by go_simp; with_reducible rfl⟩, _, by simp only [Act.put, sA, sB, sC, i64_w, i32_w]; rfl, ?_⟩
                refine pu 12 (some 45) (bs 13 8191) HT_ rfl rfl (by kernel_rfl) (fun _ _ _ _ h => h) ⟨_, .inl ⟨by rfl, fun _ => by go_simp; with_reducible rfl⟩, _, by simp only [Act.put, sA, sB, sC, i64_w, i32_w]; rfl, ?_⟩
                refine done_ (done_of HT_.out (by kernel_rfl)) ?_
                have HQ := Lib.hid (And.intro (Kd.R_below hJ.out.2.1 HB) (belT hJ.out.2.2 HB))
                go_wp2_with (first
                  | ((with_reducible refine wpList_load_blk (op := ⟨some 47, _, _, _, _, _⟩) rfl 39 (.tmp 7) rfl gx 39 ?l1p cs _ ?l2p Tryd.underlying39 ?l3p ?l4p ?_); (case l1p => rfl); (case l2p => exact blkB HQ.out.2 HG.out); (case l3p => rfl); (case l4p => exact HC.out.2.2.1))
                  | ((with_reducible refine wpList_build1 (op := ⟨some 48, _, _, _, _, _⟩) rfl 22 39 (.tmp 47) rfl cs ?d1p (.agg (Ob.zero.cells (.slice none 0 0) (.slice none 0 0))) 32 312 Tryd.underlying22 ?d3p ?d4p (by omega) (by omega) ?d5p ?_); (case d1p => rfl); (case d3p => exact infoO); (case d4p => exact HC.out.2.2.2.symm); (case d5p => rfl))
                  | ((with_reducible refine gate_ (.call { callee := .builtin .append, args := #[.tmp 46, .tmp 48], argTypes := #[22, 22] }) rfl ?_); refine Kd.R_append kT (w0 := w2) (W := w5) w2.heap.size rfl (.tmp 46) (.tmp 48) 22 39 (.agg (Ob.zero.cells (.slice none 0 0) (.slice none 0 0))) 312 rfl Tryd.underlying22 infoO rfl (by decide) (by decide) u8 (outP t (acc.take j)) t cs.toList (fun _ => True) (fun _ => False) rfl rfl ?p1p (fun _ h => h.elim) (fun _ _ => trivial) ?p2p ?p3p ?p4p ?p5p ?_; (case p1p => exact hM.out w5 w2.heap.size); (case p2p => exact HQ.out.1); (case p3p => exact HQ.out.2); (case p4p => exact (HQ.out.2).size); (case p5p => exact HL1.out); intro v1 w6 hR6 hB6 hg6 hat6; have H6 := Lib.hid (And.intro hR6 hB6); clear hR6 hB6 hg6 hat6; have HYQ : Hid (∀ (i : Nat) (u : Value), ds[i]? = some u → w6.cell? ((ad5.add (j * 32)).add i) = some u) := Lib.hid (HYQF.out w6 H6.out.2))
                  | ((with_reducible refine wpList_load_any (op := ⟨some 54, _, _, _, _, _⟩) rfl 39 (.tmp 53) rfl (ad5.add (j * 32)) ?l1q ds _ ?l2q Tryd.underlying39 ?l3q ?l4q ?_); (case l1q => rfl); (case l2q => exact HYQ.out); (case l3q => rfl); (case l4q => exact HD.out.2.2.1))
                  | ((with_reducible refine wpList_build1 (op := ⟨some 55, _, _, _, _, _⟩) rfl 22 39 (.tmp 54) rfl ds ?d1q (.agg (Ob.zero.cells (.slice none 0 0) (.slice none 0 0))) 32 312 Tryd.underlying22 ?d3q ?d4q (by omega) (by omega) ?d5q ?_); (case d1q => rfl); (case d3q => exact infoO); (case d4q => exact HD.out.2.2.2.symm); (case d5q => rfl))
                  | ((with_reducible refine gate_ (.call { callee := .builtin .append, args := #[.tmp 50, .tmp 55], argTypes := #[22, 22] }) rfl ?_); refine Kd.R_append kT (w0 := w2) (W := w6) w2.heap.size rfl (.tmp 50) (.tmp 55) 22 39 (.agg (Ob.zero.cells (.slice none 0 0) (.slice none 0 0))) 312 rfl Tryd.underlying22 infoO rfl (by decide) (by decide) v1 (outP t (acc.take j) ++ [t]) y ds.toList (fun _ => True) (fun _ => False) rfl rfl ?p1q (fun _ h => h.elim) (fun _ _ => trivial) ?p2q ?p3q ?p4q ?p5q ?_; (case p1q => exact hMy.out w6 w2.heap.size); (case p2q => exact H6.out.1); (case p3q => exact H6.out.2); (case p4q => exact (H6.out.2).size); (case p5q => exact HL2.out); intro v9 w7 hR7 hB7 hg7 hat7; have H7 := Lib.hid (And.intro hR7 hB7); clear hR7 hB7 hg7 hat7))
                go_roundw
                case rel => exact ⟨j + 1, true, by go_num, by omega, rfl, Lib.hid ⟨by rw [HTK.out]; exact (out_new hJ.out.1 (by rw [HCW.out]; exact hneg)).1, by rw [HTK.out, (out_new hJ.out.1 (by rw [HCW.out]; exact hneg)).2]; exact H7.out.1, H7.out.2⟩⟩
                case measure => simp [intOf]; omega
              · have g4 : decide (cw < 0) = false := decide_eq_false hneg
                go_upto_region 12 with (fail)
                refine start_ (n := 13) (S := fun w' => Below wr.heap.size wr w' ∧ w'.cell? ⟨gx, 1, none⟩ = some (.string n1) ∧ w'.cell? ⟨(ad5.add (j * 32)).block, (ad5.add (j * 32)).off + 1, none⟩ = some (.string n2)) (ds := []) (bs 13 0) (by kernel_rfl) rfl (by kernel_rfl) ⟨HB, C1, C2⟩ (fun hHeld => ?_)
                refine with_tabW rg23_12_tab rg23_12_bits (fun HT_ HW_ => ?_)
                refine pu 0 (some 33) (bs 13 1) HT_ rfl rfl (by kernel_rfl) (fun _ _ _ _ h => h) ⟨_, .inl ⟨by rfl, fun _ => by go_simp; with_reducible rfl⟩, _, by simp only [Act.put, sA, sB, sC, i64_w, i32_w]; rfl, ?_⟩
                refine pu 1 (some 34) (bs 13 3) HT_ rfl rfl (by kernel_rfl) (fun _ _ _ _ h => h) ⟨_, .inl ⟨by rfl, fun _ => by go_simp; with_reducible rfl⟩, _, by simp only [Act.put, sA, sB, sC, i64_w, i32_w]; rfl, ?_⟩
                refine pu 2 (some 35) (bs 13 7) HT_ rfl rfl (by kernel_rfl) (fun _ _ _ _ h => h) ⟨_, .inl ⟨by rfl, fun _ => by go_simp; with_reducible rfl⟩, _, by simp only [Act.put, sA, sB, sC, i64_w, i32_w]; rfl, ?_⟩
                refine pu 3 (some 36) (bs 13 15) HT_ rfl rfl (by kernel_rfl) (fun _ _ _ _ h => h) ⟨_, .inl ⟨by rfl, fun _ => by go_simp; with_reducible rfl⟩, _, by simp only [Act.put, sA, sB, sC, i64_w, i32_w]; rfl, ?_⟩
                refine pu 5 (some 38) (bs 13 47) HT_ rfl rfl (by kernel_rfl) (fun _ _ _ _ h => h) ⟨_, .inl ⟨by rfl, fun _ => by go_simp; with_reducible rfl⟩, _, by simp only [Act.put, sA, sB, sC, i64_w, i32_w]; rfl, ?_⟩
                refine pu 6 (some 39) (bs 13 111) HT_ rfl rfl (by kernel_rfl) (fun _ _ _ _ h => h) ⟨_, .inl ⟨by rfl, fun _ => by go_simp; with_reducible rfl⟩, _, by simp only [Act.put, sA, sB, sC, i64_w, i32_w]; rfl, ?_⟩
                refine pu 7 (some 40) (bs 13 239) HT_ rfl rfl (by kernel_rfl) (fun _ _ _ _ h => h) ⟨_, .inl ⟨by rfl, fun _ => by go_simp; with_reducible rfl⟩, _, by simp only [Act.put, sA, sB, sC, i64_w, i32_w]; rfl, ?_⟩
                refine pu 8 (some 41) (bs 13 495) HT_ rfl rfl (by kernel_rfl) (fun _ _ _ _ h => h) ⟨_, .inl ⟨by rfl, fun _ => by go_simp; with_reducible rfl⟩, _, by simp only [Act.put, sA, sB, sC, i64_w, i32_w]; rfl, ?_⟩
                refine tk 4 (some 37) (bs 13 511) HT_ HW_ rfl rfl (by kernel_rfl) (fun _ _ _ _ h => h) hHeld ⟨_, .inl ⟨by rfl, by rintro w' ⟨s0, s1, s2⟩; go_simp; with_reducible rfl⟩, _, by simp only [Act.put, sA, sB, sC, i64_w, i32_w]; rfl, ?_⟩
                refine tk 9 (some 42) (bs 13 1023) HT_ HW_ rfl rfl (by kernel_rfl) (fun _ _ _ _ h => h) hHeld ⟨_, .inl ⟨by rfl, by rintro w' ⟨s0, s1, s2⟩; go_simp; with_reducible rfl⟩, _, by simp only [Act.put, sA, sB, sC, i64_w, i32_w]; rfl, ?_⟩
                refine on1 10 (some 43) (bs 13 2047) HT_ rfl rfl (by kernel_rfl) (by decide) (fun K hK => ?_)
                refine goes_ Tryd.func39 (by kernel_rfl) rfl #[.string n1, .string n2] (by rfl) rfl rfl (by (try simp only [List.map_toArray, List.map_cons, List.map_nil]); first | done | rfl) ?_
                with_reducible refine (QW.out _).mono ?_
                rintro e w5 ⟨rfl, hb⟩
                replace HB := belT HB hb
                replace C1 := cell_below hb C1
                replace C2 := cell_below hb C2
                clear hb
                refine ⟨_, rfl, ?_⟩
                refine hK.out _ _ ⟨HB, C1, C2⟩ (fun hHeld => ?_)
                clear hK K
                refine nm ⟨_, show Act.put _ (some 43) _ = _ by simp only [Act.put, sA, sB, sC, i64_w, i32_w]; rfl, ?_⟩
                refine pu 11 (some 44) (bs 13 4095) HT_ rfl rfl (by kernel_rfl) (fun _ _ _ _ h => h) ⟨_, .inl ⟨by rfl, fun _ => by go_simp; with_reducible rfl⟩, _, by simp only [Act.put, sA, sB, sC, i64_w, i32_w]; rfl, ?_⟩
                refine pu 12 (some 45) (bs 13 8191) HT_ rfl rfl (by kernel_rfl) (fun _ _ _ _ h => h) ⟨_, .inl ⟨by rfl, fun _ => by go_simp; with_reducible rfl⟩, _, by simp only [Act.put, sA, sB, sC, i64_w, i32_w]; rfl, ?_⟩
                refine done_ (done_of HT_.out (by kernel_rfl)) ?_
                have HQ := Lib.hid (And.intro (Kd.R_below hJ.out.2.1 HB) (belT hJ.out.2.2 HB))
                go_wp2_with (first
                  | ((with_reducible refine wpList_load_any (op := ⟨some 54, _, _, _, _, _⟩) rfl 39 (.tmp 53) rfl (ad5.add (j * 32)) ?l1b ds _ ?l2b Tryd.underlying39 ?l3b ?l4b ?_); (case l1b => rfl); (case l2b => exact HYQF.out _ HQ.out.2); (case l3b => rfl); (case l4b => exact HD.out.2.2.1))
                  | ((with_reducible refine wpList_build1 (op := ⟨some 55, _, _, _, _, _⟩) rfl 22 39 (.tmp 54) rfl ds ?d1b (.agg (Ob.zero.cells (.slice none 0 0) (.slice none 0 0))) 32 312 Tryd.underlying22 ?d3b ?d4b (by omega) (by omega) ?d5b ?_); (case d1b => rfl); (case d3b => exact infoO); (case d4b => exact HD.out.2.2.2.symm); (case d5b => rfl))
                  | ((with_reducible refine gate_ (.call { callee := .builtin .append, args := #[.tmp 50, .tmp 55], argTypes := #[22, 22] }) rfl ?_); refine Kd.R_append kT (w0 := w2) (W := w5) w2.heap.size rfl (.tmp 50) (.tmp 55) 22 39 (.agg (Ob.zero.cells (.slice none 0 0) (.slice none 0 0))) 312 rfl Tryd.underlying22 infoO rfl (by decide) (by decide) u8 (outP t (acc.take j)) y ds.toList (fun _ => True) (fun _ => False) rfl rfl ?p1b (fun _ h => h.elim) (fun _ _ => trivial) ?p2b ?p3b ?p4b ?p5b ?_; (case p1b => exact hMy.out w5 w2.heap.size); (case p2b => exact HQ.out.1); (case p3b => exact HQ.out.2); (case p4b => exact (HQ.out.2).size); (case p5b => exact HL1.out); intro v1 w6 hR6 hB6 hg6 hat6; have H6 := Lib.hid (And.intro hR6 hB6); clear hR6 hB6 hg6 hat6))
                go_roundw
                case rel => exact ⟨j + 1, false, by go_num, by omega, rfl, Lib.hid ⟨by rw [HTK.out]; exact (out_old hJ.out.1 (by rw [HCW.out]; exact hneg)).1, by rw [HTK.out, (out_old hJ.out.1 (by rw [HCW.out]; exact hneg)).2]; exact H6.out.1, H6.out.2⟩⟩
                case measure => simp [intOf]; omega
            · go_upto_region 12 with (fail)
              refine start_ (n := 13) (S := fun w' => Below wr.heap.size wr w') (ds := []) (bs 13 0) (by kernel_rfl) rfl (by kernel_rfl) HB (fun hHeld => ?_)
              refine with_tabW rg23_12_tab rg23_12_bits (fun HT_ HW_ => ?_)
              refine pu 0 (some 33) (bs 13 1) HT_ rfl rfl (by kernel_rfl) (fun _ _ _ _ h => h) ⟨_, .inl ⟨by rfl, fun _ => by go_simp; with_reducible rfl⟩, _, by simp only [Act.put, sA, sB, sC, i64_w, i32_w]; rfl, ?_⟩
              refine pu 1 (some 34) (bs 13 3) HT_ rfl rfl (by kernel_rfl) (fun _ _ _ _ h => h) ⟨_, .inl ⟨by rfl, fun _ => by go_simp; with_reducible rfl⟩, _, by simp only [Act.put, sA, sB, sC, i64_w, i32_w]; rfl, ?_⟩
              refine pu 2 (some 35) (bs 13 7) HT_ rfl rfl (by kernel_rfl) (fun _ _ _ _ h => h) ⟨_, .inl ⟨by rfl, fun _ => by go_simp; with_reducible rfl⟩, _, by simp only [Act.put, sA, sB, sC, i64_w, i32_w]; rfl, ?_⟩
              refine pu 3 (some 36) (bs 13 15) HT_ rfl rfl (by kernel_rfl) (fun _ _ _ _ h => h) ⟨_, .inr ⟨by rfl, rfl⟩, _, by simp only [Act.put, sA, sB, sC, i64_w, i32_w]; rfl, ?_⟩
              refine pu 4 (some 37) (bs 13 31) HT_ rfl rfl (by kernel_rfl) (fun _ _ _ _ h => h) ⟨_, .inr ⟨by rfl, rfl⟩, _, by simp only [Act.put, sA, sB, sC, i64_w, i32_w]; rfl, ?_⟩
              refine pu 5 (some 38) (bs 13 63) HT_ rfl rfl (by kernel_rfl) (fun _ _ _ _ h => h) ⟨_, .inr ⟨by rfl, rfl⟩, _, by simp only [Act.put, sA, sB, sC, i64_w, i32_w]; rfl, ?_⟩
              refine pu 6 (some 39) (bs 13 127) HT_ rfl rfl (by kernel_rfl) (fun _ _ _ _ h => h) ⟨_, .inr ⟨by rfl, rfl⟩, _, by simp only [Act.put, sA, sB, sC, i64_w, i32_w]; rfl, ?_⟩
              refine pu 7 (some 40) (bs 13 255) HT_ rfl rfl (by kernel_rfl) (fun _ _ _ _ h => h) ⟨_, .inr ⟨by rfl, rfl⟩, _, by simp only [Act.put, sA, sB, sC, i64_w, i32_w]; rfl, ?_⟩
              refine pu 8 (some 41) (bs 13 511) HT_ rfl rfl (by kernel_rfl) (fun _ _ _ _ h => h) ⟨_, .inr ⟨by rfl, rfl⟩, _, by simp only [Act.put, sA, sB, sC, i64_w, i32_w]; rfl, ?_⟩
              refine pu 9 (some 42) (bs 13 1023) HT_ rfl rfl (by kernel_rfl) (fun _ _ _ _ h => h) ⟨_, .inr ⟨by rfl, rfl⟩, _, by simp only [Act.put, sA, sB, sC, i64_w, i32_w]; rfl, ?_⟩
              refine pu 10 (some 43) (bs 13 2047) HT_ rfl rfl (by kernel_rfl) (fun _ _ _ _ h => h) ⟨_, .inr ⟨by rfl, rfl⟩, _, by simp only [Act.put, sA, sB, sC, i64_w, i32_w]; rfl, ?_⟩
              refine pu 11 (some 44) (bs 13 4095) HT_ rfl rfl (by kernel_rfl) (fun _ _ _ _ h => h) ⟨_, .inr ⟨by rfl, rfl⟩, _, by simp only [Act.put, sA, sB, sC, i64_w, i32_w]; rfl, ?_⟩
              refine pu 12 (some 45) (bs 13 8191) HT_ rfl rfl (by kernel_rfl) (fun _ _ _ _ h => h) ⟨_, .inl ⟨by rfl, fun _ => by go_simp; with_reducible rfl⟩, _, by simp only [Act.put, sA, sB, sC, i64_w, i32_w]; rfl, ?_⟩
              refine done_ (done_of HT_.out (by kernel_rfl)) ?_
              have HQ := Lib.hid (And.intro (Kd.R_below hJ.out.2.1 HB) (belT hJ.out.2.2 HB))
              go_wp2_with (first
                | ((with_reducible refine wpList_load_any (op := ⟨some 54, _, _, _, _, _⟩) rfl 39 (.tmp 53) rfl (ad5.add (j * 32)) ?l1e ds _ ?l2e Tryd.underlying39 ?l3e ?l4e ?_); (case l1e => rfl); (case l2e => exact HYQF.out _ HQ.out.2); (case l3e => rfl); (case l4e => exact HD.out.2.2.1))
                | ((with_reducible refine wpList_build1 (op := ⟨some 55, _, _, _, _, _⟩) rfl 22 39 (.tmp 54) rfl ds ?d1e (.agg (Ob.zero.cells (.slice none 0 0) (.slice none 0 0))) 32 312 Tryd.underlying22 ?d3e ?d4e (by omega) (by omega) ?d5e ?_); (case d1e => rfl); (case d3e => exact infoO); (case d4e => exact HD.out.2.2.2.symm); (case d5e => rfl))
                | ((with_reducible refine gate_ (.call { callee := .builtin .append, args := #[.tmp 50, .tmp 55], argTypes := #[22, 22] }) rfl ?_); refine Kd.R_append kT (w0 := w2) (W := wr.drew) w2.heap.size rfl (.tmp 50) (.tmp 55) 22 39 (.agg (Ob.zero.cells (.slice none 0 0) (.slice none 0 0))) 312 rfl Tryd.underlying22 infoO rfl (by decide) (by decide) u8 (outP t (acc.take j)) y ds.toList (fun _ => True) (fun _ => False) rfl rfl ?p1e (fun _ h => h.elim) (fun _ _ => trivial) ?p2e ?p3e ?p4e ?p5e ?_; (case p1e => exact hMy.out wr.drew w2.heap.size); (case p2e => exact HQ.out.1); (case p3e => exact HQ.out.2); (case p4e => exact (HQ.out.2).size); (case p5e => exact HL1.out); intro v1 w6 hR6 hB6 hg6 hat6; have H6 := Lib.hid (And.intro hR6 hB6); clear hR6 hB6 hg6 hat6))
              go_roundw
              case rel => exact ⟨j + 1, true, by go_num, by omega, rfl, Lib.hid ⟨by rw [HTK.out]; exact (out_true hJ.out.1).1, by rw [HTK.out, (out_true hJ.out.1).2]; exact H6.out.1, H6.out.2⟩⟩
              case measure => simp [intOf]; omega
          · obtain rfl : j = m := by omega
            have hJ1 := hJ.out
            rw [List.take_of_length_le (Nat.le_of_eq HN.out.2.1.symm)] at hJ1
            have hJ' := Lib.hid hJ1
            have hol := out_len t acc
            rw [← HN.out.2.1] at hol
            have HL1 : Hid (((outP t acc).length + 1) * 312 ≤ 140737488355328) := Lib.hid (by omega)
            clear hJ1 hJ hol
            cases d
            · go_wp2_with (first
                | ((with_reducible refine wpList_load_blk (op := ⟨some 60, _, _, _, _, _⟩) rfl 39 (.tmp 7) rfl gx 39 ?l1z cs _ ?l2z Tryd.underlying39 ?l3z ?l4z ?_); (case l1z => rfl); (case l2z => exact blkB hJ'.out.2.2 HG.out); (case l3z => rfl); (case l4z => exact HC.out.2.2.1))
                | ((with_reducible refine wpList_build1 (op := ⟨some 61, _, _, _, _, _⟩) rfl 22 39 (.tmp 60) rfl cs ?d1z (.agg (Ob.zero.cells (.slice none 0 0) (.slice none 0 0))) 32 312 Tryd.underlying22 ?d3z ?d4z (by omega) (by omega) ?d5z ?_); (case d1z => rfl); (case d3z => exact infoO); (case d4z => exact HC.out.2.2.2.symm); (case d5z => rfl))
                | ((with_reducible refine gate_ (.call { callee := .builtin .append, args := #[.tmp 59, .tmp 61], argTypes := #[22, 22] }) rfl ?_); refine Kd.R_append kT (w0 := w2) (W := wr) w2.heap.size rfl (.tmp 59) (.tmp 61) 22 39 (.agg (Ob.zero.cells (.slice none 0 0) (.slice none 0 0))) 312 rfl Tryd.underlying22 infoO rfl (by decide) (by decide) u8 (outP t acc) t cs.toList (fun _ => True) (fun _ => False) rfl rfl ?p1z (fun _ h => h.elim) (fun _ _ => trivial) ?p2z ?p3z ?p4z ?p5z ?_; (case p1z => exact hM.out wr w2.heap.size); (case p2z => exact hJ'.out.2.1); (case p3z => exact hJ'.out.2.2); (case p4z => exact (hJ'.out.2.2).size); (case p5z => exact HL1.out); intro v1 w6 hR6 hB6 hg6 hat6; have H6 := Lib.hid (And.intro hR6 hB6); clear hR6 hB6 hg6 hat6))
              go_roundw
              case rel => exact ⟨k + 1, by go_num, by omega, Lib.hid ⟨by rw [HS.out, out_end hJ'.out.1]; exact Kd.R_lower H6.out.1 HBX.out.size, belT HBX.out H6.out.2⟩⟩
              case measure => simp [intOf]; omega
            · go_wp2
              go_roundw
              case rel => exact ⟨k + 1, by go_num, by omega, Lib.hid ⟨by rw [HS.out, out_all hJ'.out.1]; exact Kd.R_lower hJ'.out.2.1 HBX.out.size, belT HBX.out (hJ'.out.2.2)⟩⟩
              case measure => simp [intOf]; omega
    · obtain rfl : n = k := by omega
      have hI1 := hI.out.1
      rw [List.take_of_length_le (Nat.le_of_eq HL.out)] at hI1
      have HI1 := Lib.hid (And.intro (Kd.R_lower hI1 (Nat.le_of_lt hlt0.out)) (belT HB0.out hI.out.2))
      clear hI1
      go_wp2
      go_ret
      exact ⟨_, rfl, HI1.out.1, HI1.out.2⟩
end Go.Proofs.YtiaggfjfgoiafaaDoor

/- flotillaref23.Life: what the document asks for. -/
namespace Go.Proofs.YtiaggfjfgoiafaaDoor
open Go.RowKit Go.Proofs.YtiaggfjfgoiafaaDoorW.PrintWords Go.Proofs.YtiaggfjfgoiafaaDoorW.PrintLast
def rg9_11_T : Bool × List (List Nat × List Nat) := (true, [([], []), ([], []), ([], []), ([1, 2], [1, 2]), ([3], [3]), ([4], [4]), ([], []), ([6], [6]), ([5, 7], [5, 7]), ([8], [8]), ([0, 9], [0, 9]), ([10, 10, 0, 1, 2, 3, 4, 5, 6, 7, 8, 9, 10], [0, 10])])
def rg9_11_B : List Nat := [0, 0, 0, 6, 14, 30, 0, 64, 254, 510, 1023, 2047]
theorem rg9_11_tab : rtab .any (opsOf Tryd.f9 11) = rg9_11_T := by kernel_rfl
theorem rg9_11_bits : waitsOk rg9_11_T.2 rg9_11_B = true := by kernel_rfl
set_option maxHeartbeats 16000000 in
set_option maxRecDepth 100000 in
theorem refLife_calls (An Ap : Option Addr) (nn np cn cp : Nat) (v2 v3 : Value) (ns ps : List Ob) (z : Int) (w : World) (h2 : v2.oneCell' = true) (h3 : v3.oneCell' = true) (hn : kO.C w An nn ns) (hp : kO.C w Ap np ps) (ln : nn ≤ 10000) (lp : np ≤ 10000) (fp : ∀ o ∈ ps, ObFits o) :
    Calls Tryd.prog 9 #[.agg #[.slice An nn cn, .slice Ap np cp, v2, v3], .int .i64 z] w fun e w' => ∃ v, e = .returned v ∧ Kd.S kRq 42 w' w.heap.size (fun _ => True) v (lifeF ns ps (silB z) z) ∧ Below w.heap.size w w' := by
  obtain ⟨ts, hts, hT, hL⟩ := T_of_kO hn
  obtain ⟨qs, hqs, hP, hLP⟩ := T_of_kO hp
  have HTS := Lib.hid (And.intro hts hqs)
  obtain ⟨W0, hW0⟩ : ∃ x, x = w.alloc (Obj.cells #[.slice An nn cn, .slice Ap np cp, v2, v3] 24) := ⟨_, rfl⟩
  have HF0 : Hid (W0.heap[w.heap.size]? = some (.cells #[.slice An nn cn, .slice Ap np cp, v2, v3] 24 (0, 0))) := Lib.hid (by rw [hW0]; exact heap_alloc_new w _)
  have HB0 : Hid (Below w.heap.size w W0) := Lib.hid (by rw [hW0]; exact below_alloc (Below.refl w.heap.size w) _)
  have q0 : (w.alloc (Obj.cells #[.slice An nn cn, .slice Ap np cp, v2, v3] 24)).cell? ⟨w.heap.size, 0, none⟩ = some (.slice An nn cn) := cell_of_row _ _ 0 _ _ _ (heap_alloc_new w _)
  have HQ0 : Hid (W0.cell? ⟨w.heap.size, 0, none⟩ = some (.slice An nn cn)) := Lib.hid (by rw [hW0]; exact q0)
  have HSrc := Lib.hid (And.intro (Kd.C_below hT HB0.out) (Kd.C_below hP HB0.out))
  have HFt : Hid (∀ t ∈ qs, ObFits t.1) := Lib.hid (fun t ht => fp t.1 (by rw [← hqs]; exact List.mem_map_of_mem ht))
  have HLn : Hid (ts.length = nn) := Lib.hid hT.1
  have HLP : Hid (np ≤ 1000000 ∧ qs.length ≤ 10000) := Lib.hid ⟨by omega, by rw [hP.1]; exact lp⟩
  have HLL : Hid (ns.length ≤ 10000 ∧ ps.length ≤ 10000) := Lib.hid ⟨by rw [← hts, List.length_map, hT.1]; exact ln, by rw [← hqs, List.length_map, hP.1]; exact lp⟩
  have hlt0 : Hid (w.heap.size ≤ W0.heap.size) := Lib.hid HB0.out.size
  have HV := Lib.hid (And.intro h2 h3)
  replace hW0 := Lib.hid hW0
  clear hn hp hts hqs hT hL hP hLP fp h2 h3
  go_enter Tryd.func9, Tryd.ntmps9
  go_wp2
  rw [← hW0.out]
  clear hW0 q0
  go_loopw [5, 6] (fun v5 vk wr => ∃ k : Nat, vk = .int .i64 k ∧ k ≤ nn ∧ Hid (Kd.S kRq 42 wr W0.heap.size (fun _ => True) v5 (lifeF (ns.take k) ps (silB z) z) ∧ Below W0.heap.size W0 wr)) (fun _ vk _ => nn - (intOf vk).toNat)
  case atStart => exact ⟨0, rfl, Nat.zero_le _, Lib.hid ⟨Kd.S_nil _ _ _ _ _, Below.refl _ _⟩⟩
  case round =>
    obtain ⟨k, rfl, hk, hI⟩ := hrel
    rename World => wx
    have c1 : wx.cell? ⟨w.heap.size, 0, none⟩ = some (.slice An nn cn) := cell_below hI.out.2 HQ0.out
    by_cases hlt : k < nn
    · obtain ⟨⟨o, y4, y27⟩, ht⟩ : ∃ t, ts[k]? = some t := ⟨_, List.getElem?_eq_getElem (by have := HLn.out; omega)⟩
      obtain ⟨ad, hA1, hc1, hO⟩ := tAt (Kd.C_below HSrc.out.1 hI.out.2) k _ ht
      subst hA1
      replace hc1 : (o.cells y4 y27).all (·.oneCell') = true := hc1
      replace hO : ∀ (j : Nat) (u : Value), (o.cells y4 y27)[j]? = some u → wx.cell? ((ad.add (k * 32)).add j) = some u := hO
      have hlk : (k : Int) < (nn : Int) := by omega
      obtain ⟨ndn, hnm⟩ : ∃ s, s = o.name := ⟨_, rfl⟩
      obtain ⟨lo, hlo⟩ : ∃ s, s = o.lost := ⟨_, rfl⟩
      obtain ⟨bt, hbt⟩ : ∃ s, s = o.beat := ⟨_, rfl⟩
      obtain ⟨sl, hsl⟩ : ∃ s, s = silB z bt := ⟨_, rfl⟩
      have hsn := life_snoc ps (silB z) z (l := ns) (k := k) (o := o) (by rw [← HTS.out.1, List.getElem?_map, ht]; rfl)
      have hln : lifeN ps (silB z) z o = if lo = true then (podsT ndn qs).map (fun t => gone ndn t.1.name) else if sl = true then [lostR ndn z] else [] := by
        unfold lifeN
        rw [← hlo, ← hnm, ← hbt, ← hsl, goneT ndn HTS.out.2]
      have HSN := Lib.hid (And.intro hsn hln)
      have HSZ : Hid ((lifeF (ns.take k) ps (silB z) z).length ≤ 10000 * 10001) := Lib.hid (life_take ps (silB z) z HLL.out.1 HLL.out.2)
      have HLEN1 : Hid (((lifeF (ns.take k) ps (silB z) z).length + 1) * 416 ≤ 140737488355328) := Lib.hid (by have := HSZ.out; omega)
      have QSil := Lib.hid (fun W => silentR_calls bt z W)
      rw [← hsl] at QSil
      have QP : Hid (∀ W : World, Below W0.heap.size W0 W → Calls Tryd.prog 23 #[.agg #[.slice (some ad) nn cn, .slice Ap np cp, v2, v3], .string ndn] W fun e w' => ∃ v, e = .returned v ∧ kT.R 39 w' W.heap.size (fun _ => True) v (podsT ndn qs) ∧ Below W.heap.size W w') := Lib.hid (fun W hW => refPods_calls (.slice (some ad) nn cn) v2 v3 Ap cp np ndn qs W (Kd.C_below HSrc.out.2 hW) lp (fun t ht => (HFt.out t ht).1))
      obtain ⟨cs, hcs⟩ : ∃ cs, cs = o.cells y4 y27 := ⟨_, rfl⟩
      have e1 : cs[1]? = some (.string ndn) := by rw [hcs, hnm]; rfl
      have e9 : cs[9]? = some (.bool lo) := by rw [hcs, hlo]; rfl
      have e10 : cs[10]? = some (.int .i64 bt) := by rw [hcs, hbt]; rfl
      have hi1 : (Tryd.prog.info? 39).map (·.size) = some cs.size := by rw [hcs]; exact infoO1
      have hi2 : 32 = cs.size := by rw [hcs]; rfl
      rw [← hcs] at hO hc1
      have HO := Lib.hid hO
      have HC := Lib.hid (And.intro hc1 (And.intro (And.intro e1 (And.intro e9 e10)) (And.intro hi1 hi2)))
      clear ht hO hcs hc1 e1 e9 e10 hi1 hi2 hsn hln hnm hlo hbt hsl
      cases lo
      · cases sl
        · have HEND : Hid (lifeF (ns.take (k + 1)) ps (silB z) z = lifeF (ns.take k) ps (silB z) z) := Lib.hid (by rw [HSN.out.1, HSN.out.2]; simp)
          go_wp2_with (first
            | ((with_reducible refine wpList_load_any (op := ⟨some 21, _, _, _, _, _⟩) rfl 39 (.tmp 20) rfl (ad.add (k * 32)) ?l1a cs _ ?l2a Tryd.underlying39 ?l3a ?l4a ?_); (case l1a => rfl); (case l2a => exact HO.out); (case l3a => rfl); (case l4a => exact HC.out.2.2.1))
            | ((with_reducible refine wpList_store_blk rfl 39 (.tmp 7) (.tmp 21) rfl wx.heap.size 39 ?c0a cs ?c1a ?c2a ?c3a ?c4a ?c5a ?c6a ?_); (case c1a => rfl); (case c2a => rfl); (case c3a => exact heap_alloc_new _ _); (case c4a => exact HC.out.2.2.1); (case c5a => exact Eq.trans (b := 32) rfl HC.out.2.2.2); (case c6a => exact HC.out.1); intro w2 G hk2 hb hz; have HX := Lib.hid (And.intro (Kd.S_below hI.out.1 (hb _ _ (Below.alloc (Below.refl _ _) (Nat.le_refl _) _) (Nat.le_refl _))) (belT hI.out.2 (hb _ _ (Below.alloc (Below.refl _ _) (Nat.le_refl _) _) (Nat.le_refl _)))); obtain ⟨gx, hgx⟩ : ∃ g, g = wx.heap.size := ⟨_, rfl⟩; have HGX := Lib.hid hgx; rw [← hgx] at G ⊢; have HG := Lib.hid G; have C9 : w2.cell? ⟨gx, 9, none⟩ = some (.bool false) := (cell_of_row _ _ 9 _ _ _ G).trans HC.out.2.1.2.1; have C1 : w2.cell? ⟨gx, 1, none⟩ = some (.string ndn) := (cell_of_row _ _ 1 _ _ _ G).trans HC.out.2.1.1; have C10 : w2.cell? ⟨gx, 10, none⟩ = some (.int .i64 bt) := (cell_of_row _ _ 10 _ _ _ G).trans HC.out.2.1.2.2; clear G hk2 hb hz hgx)
            | (go_at_call 24; (with_reducible refine (QSil.out _).mono ?_); rintro e w3 ⟨rfl, hb3⟩; have C1s : w3.cell? ⟨gx, 1, none⟩ = some (.string ndn) := cell_below hb3 C1; have HX3 := Lib.hid (And.intro (Kd.S_below HX.out.1 hb3) (belT HX.out.2 hb3)); clear hb3))
          go_roundw
          case rel => exact ⟨k + 1, by go_num, by omega, Lib.hid ⟨by rw [HEND.out]; exact HX3.out.1, HX3.out.2⟩⟩
          case measure => simp [intOf]; omega
        · have HEND : Hid (lifeF (ns.take (k + 1)) ps (silB z) z = lifeF (ns.take k) ps (silB z) z ++ [lostR ndn z]) := Lib.hid (by rw [HSN.out.1, HSN.out.2]; simp)
          go_wp2_with (first
            | ((with_reducible refine wpList_load_any (op := ⟨some 21, _, _, _, _, _⟩) rfl 39 (.tmp 20) rfl (ad.add (k * 32)) ?l1b cs _ ?l2b Tryd.underlying39 ?l3b ?l4b ?_); (case l1b => rfl); (case l2b => exact HO.out); (case l3b => rfl); (case l4b => exact HC.out.2.2.1))
            | ((with_reducible refine wpList_store_blk rfl 39 (.tmp 7) (.tmp 21) rfl wx.heap.size 39 ?c0b cs ?c1b ?c2b ?c3b ?c4b ?c5b ?c6b ?_); (case c1b => rfl); (case c2b => rfl); (case c3b => exact heap_alloc_new _ _); (case c4b => exact HC.out.2.2.1); (case c5b => exact Eq.trans (b := 32) rfl HC.out.2.2.2); (case c6b => exact HC.out.1); intro w2 G hk2 hb hz; have HX := Lib.hid (And.intro (Kd.S_below hI.out.1 (hb _ _ (Below.alloc (Below.refl _ _) (Nat.le_refl _) _) (Nat.le_refl _))) (belT hI.out.2 (hb _ _ (Below.alloc (Below.refl _ _) (Nat.le_refl _) _) (Nat.le_refl _)))); obtain ⟨gx, hgx⟩ : ∃ g, g = wx.heap.size := ⟨_, rfl⟩; have HGX := Lib.hid hgx; rw [← hgx] at G ⊢; have HG := Lib.hid G; have C9 : w2.cell? ⟨gx, 9, none⟩ = some (.bool false) := (cell_of_row _ _ 9 _ _ _ G).trans HC.out.2.1.2.1; have C1 : w2.cell? ⟨gx, 1, none⟩ = some (.string ndn) := (cell_of_row _ _ 1 _ _ _ G).trans HC.out.2.1.1; have C10 : w2.cell? ⟨gx, 10, none⟩ = some (.int .i64 bt) := (cell_of_row _ _ 10 _ _ _ G).trans HC.out.2.1.2.2; clear G hk2 hb hz hgx)
            | (go_at_call 24; (with_reducible refine (QSil.out _).mono ?_); rintro e w3 ⟨rfl, hb3⟩; have C1s : w3.cell? ⟨gx, 1, none⟩ = some (.string ndn) := cell_below hb3 C1; have HX3 := Lib.hid (And.intro (Kd.S_below HX.out.1 hb3) (belT HX.out.2 hb3)); clear hb3)
            | ((with_reducible refine wpList_build1 (op := ⟨some 54, _, _, _, _, _⟩) rfl 28 42 (.tmp 53) rfl ((lostR ndn z).cells (.slice none 0 0) (.slice none 0 0)) ?d1b (.agg (Rq.zero.cells (.slice none 0 0) (.slice none 0 0))) 42 416 Tryd.underlying28 ?d3b ?d4b (by omega) (by omega) ?d5b ?_); (case d1b => rfl); (case d3b => exact infoRq); (case d4b => exact rfl); (case d5b => rfl))
            | ((with_reducible refine gate_ (.call { callee := .builtin .append, args := #[.tmp 49, .tmp 54], argTypes := #[28, 28] }) rfl ?_); refine Kd.S_append kRq (w0 := W0) (W := w3) W0.heap.size rfl (.tmp 49) (.tmp 54) 28 42 (.agg (Rq.zero.cells (.slice none 0 0) (.slice none 0 0))) 416 rfl Tryd.underlying28 infoRq rfl (by decide) (by decide) u5 (lifeF (ns.take k) ps (silB z) z) (lostR ndn z) ((lostR ndn z).cells (.slice none 0 0) (.slice none 0 0)).toList (fun _ => True) (fun _ => False) rfl rfl ?p1b ?p0b (fun _ _ => trivial) ?p2b ?p3b ?p4b ?p5b ?_; (case p1b => exact lost_M ndn z w3 _); (case p0b => exact fun _ h => h.elim); (case p2b => exact Kd.S_mono (HX3.out.1) (fun _ _ => ⟨trivial, fun h => h⟩)); (case p3b => exact HX3.out.2); (case p4b => exact (HX3.out.2).size); (case p5b => exact HLEN1.out); intro v1 wd hRd hBd hgd hatd))
          go_roundw
          case rel => exact ⟨k + 1, by go_num, by omega, Lib.hid ⟨by rw [HEND.out]; exact hRd, hBd⟩⟩
          case measure => simp [intOf]; omega
      · have HEND : Hid (lifeF (ns.take (k + 1)) ps (silB z) z = lifeF (ns.take k) ps (silB z) z ++ (podsT ndn qs).map (fun t => gone ndn t.1.name)) := Lib.hid (by rw [HSN.out.1, HSN.out.2]; simp)
        go_wp2_with (first
          | ((with_reducible refine wpList_load_any (op := ⟨some 21, _, _, _, _, _⟩) rfl 39 (.tmp 20) rfl (ad.add (k * 32)) ?l1c cs _ ?l2c Tryd.underlying39 ?l3c ?l4c ?_); (case l1c => rfl); (case l2c => exact HO.out); (case l3c => rfl); (case l4c => exact HC.out.2.2.1))
          | ((with_reducible refine wpList_store_blk rfl 39 (.tmp 7) (.tmp 21) rfl wx.heap.size 39 ?c0c cs ?c1c ?c2c ?c3c ?c4c ?c5c ?c6c ?_); (case c1c => rfl); (case c2c => rfl); (case c3c => exact heap_alloc_new _ _); (case c4c => exact HC.out.2.2.1); (case c5c => exact Eq.trans (b := 32) rfl HC.out.2.2.2); (case c6c => exact HC.out.1); intro w2 G hk2 hb hz; have HX := Lib.hid (And.intro (Kd.S_below hI.out.1 (hb _ _ (Below.alloc (Below.refl _ _) (Nat.le_refl _) _) (Nat.le_refl _))) (belT hI.out.2 (hb _ _ (Below.alloc (Below.refl _ _) (Nat.le_refl _) _) (Nat.le_refl _)))); obtain ⟨gx, hgx⟩ : ∃ g, g = wx.heap.size := ⟨_, rfl⟩; have HGX := Lib.hid hgx; rw [← hgx] at G ⊢; have HG := Lib.hid G; have C9 : w2.cell? ⟨gx, 9, none⟩ = some (.bool true) := (cell_of_row _ _ 9 _ _ _ G).trans HC.out.2.1.2.1; have C1 : w2.cell? ⟨gx, 1, none⟩ = some (.string ndn) := (cell_of_row _ _ 1 _ _ _ G).trans HC.out.2.1.1; have C10 : w2.cell? ⟨gx, 10, none⟩ = some (.int .i64 bt) := (cell_of_row _ _ 10 _ _ _ G).trans HC.out.2.1.2.2; clear G hk2 hb hz hgx)
          | ((with_reducible refine wpList_load_blk (op := ⟨some 24, _, _, _, _, _⟩) rfl 24 (.tmp 2) rfl w.heap.size 24 ?f1 #[.slice (some ad) nn cn, .slice Ap np cp, v2, v3] _ ?f2 Tryd.underlying24 ?f3 ?f4 ?_); (case f1 => rfl); (case f2 => exact blkB HX.out.2 HF0.out); (case f3 => rfl); (case f4 => exact infoF1))
          | (go_at_call 23; (with_reducible refine (QP.out _ HX.out.2).mono ?_); rintro e w4 ⟨v6, rfl, hP4, hb4⟩; obtain ⟨A6, c6, hv6⟩ := Kd.R_slice hP4; obtain ⟨m, hm⟩ : ∃ x, x = (podsT ndn qs).length := ⟨_, rfl⟩; rw [← hm] at hv6; subst hv6; obtain ⟨tv, htv⟩ : ∃ x, x = podsT ndn qs := ⟨_, rfl⟩; rw [← htv] at hP4 hm; have HI4 := Lib.hid (inn_pods HX.out.1 HX.out.2 hP4 hb4); have HK4 : Hid (KeptBlk gx cs u5 w4) := Lib.hid ⟨blkB hb4 HG.out, fun e => by have := Kd.S_lt hI.out.1 _ e.symm; have := HGX.out; omega⟩; have HTV := Lib.hid (And.intro htv hm); clear hP4 hb4 htv hm))
        have HML : Hid (m ≤ 10000) := Lib.hid (by rw [HTV.out.2, HTV.out.1]; exact Nat.le_trans (podsT_len ndn qs) HLP.out.2)
        go_loopw [5, 9] (fun v5 vj wr => ∃ j : Nat, vj = .int .i64 j ∧ j ≤ m ∧ Hid (Inn W0 wr A6 m tv v5 ((lifeF (ns.take k) ps (silB z) z) ++ (tv.take j).map (fun t => gone ndn t.1.name)) ∧ KeptBlk gx cs v5 wr)) (fun _ vj _ => m - (intOf vj).toNat)
        case atStart => exact ⟨0, rfl, Nat.zero_le _, Lib.hid ⟨by simpa using HI4.out.1, HK4.out⟩⟩
        case round =>
          obtain ⟨j, rfl, hj, hJ⟩ := hrel
          by_cases hjm : j < m
          · obtain ⟨⟨p, x4, x27⟩, ht⟩ : ∃ t, tv[j]? = some t := ⟨_, List.getElem?_eq_getElem (by have := HI4.out.2; omega)⟩
            obtain ⟨bd, hA6, hd1, hY⟩ := tAt hJ.out.1.vs j _ ht
            subst hA6
            replace hd1 : (p.cells x4 x27).all (·.oneCell') = true := hd1
            replace hY : ∀ (i : Nat) (u : Value), (p.cells x4 x27)[i]? = some u → wr.cell? ((bd.add (j * 32)).add i) = some u := hY
            obtain ⟨pn, hpn⟩ : ∃ s, s = p.name := ⟨_, rfl⟩
            have D1 : wr.cell? ⟨(bd.add (j * 32)).block, (bd.add (j * 32)).off + 1, none⟩ = some (.string pn) := t_field hY 1 (by decide) (by rw [hpn]; rfl)
            have N1 : wr.cell? ⟨gx, 1, none⟩ = some (.string ndn) := (cell_of_row _ _ 1 _ _ _ hJ.out.2.1).trans HC.out.2.1.1
            have hjl : (j : Int) < (m : Int) := by omega
            have HTK : Hid ((tv.take (j + 1)).map (fun t => gone ndn t.1.name) = (tv.take j).map (fun t => gone ndn t.1.name) ++ [gone ndn pn]) := Lib.hid (by rw [List.take_add_one, ht, List.map_append, hpn]; rfl)
            have HLEN : Hid (((((lifeF (ns.take k) ps (silB z) z) ++ (tv.take j).map (fun t => gone ndn t.1.name))).length + 1) * 416 ≤ 140737488355328) := Lib.hid (by
              have h1 := HSZ.out
              have h2 := HML.out
              simp only [List.length_append, List.length_map, List.length_take]
              omega)
            obtain ⟨ds, hds⟩ : ∃ cs, cs = p.cells x4 x27 := ⟨_, rfl⟩
            have f1 : ds[1]? = some (.string pn) := by rw [hds, hpn]; rfl
            have hi1 : (Tryd.prog.info? 39).map (·.size) = some ds.size := by rw [hds]; exact infoO1
            have hi2 : 32 = ds.size := by rw [hds]; rfl
            rw [← hds] at hY hd1
            have HY := Lib.hid hY
            have HD := Lib.hid (And.intro hd1 (And.intro f1 (And.intro hi1 hi2)))
            clear ht hY hd1 hds f1 hi1 hi2 hpn
            have hjm10 : j ≤ 10000 := by have := HML.out; omega
            have HB : Below wr.heap.size wr wr := Below.refl _ _
            replace HB := below_drew HB
            have HJ2 := Lib.hid (And.intro (hJ.out.1.below HB) (hJ.out.2.below HB))
            go_upto_region 11 with (fail)
            refine start_ (n := 12) (S := fun w' => Below wr.heap.size wr w' ∧ w'.cell? ⟨(bd.add (j * 32)).block, (bd.add (j * 32)).off + 1, none⟩ = some (.string pn) ∧ w'.cell? ⟨gx, 1, none⟩ = some (.string ndn)) (ds := [9, 10]) (bs 12 0) (by kernel_rfl) rfl (by kernel_rfl) ⟨HB, D1, N1⟩ (fun hHeld => ?_)
            refine with_tabW rg9_11_tab rg9_11_bits (fun HT_ HW_ => ?_)
            refine pu 0 (some 34) (bs 12 1) HT_ rfl rfl (by kernel_rfl) (fun _ _ _ _ h => h) ⟨_, .inl ⟨by rfl, fun _ => by go_simp; with_reducible rfl⟩, _, by simp only [Act.put, sA, sB, sC, i64_w, i32_w]; rfl, ?_⟩
            refine pu 1 (some 35) (bs 12 3) HT_ rfl rfl (by kernel_rfl) (fun _ _ _ _ h => h) ⟨_, .inl ⟨by rfl, fun _ => by go_simp; with_reducible rfl⟩, _, by simp only [Act.put, sA, sB, sC, i64_w, i32_w]; rfl, ?_⟩
            refine pu 2 (some 36) (bs 12 7) HT_ rfl rfl (by kernel_rfl) (fun _ _ _ _ h => h) ⟨_, .inl ⟨by rfl, fun _ => by go_simp; with_reducible rfl⟩, _, by simp only [Act.put, sA, sB, sC, i64_w, i32_w]; rfl, ?_⟩
            refine pu 3 (some 37) (bs 12 15) HT_ rfl rfl (by kernel_rfl) (fun _ _ _ _ h => h) ⟨_, .inl ⟨by rfl, fun _ => by go_simp; with_reducible rfl⟩, _, by simp only [Act.put, sA, sB, sC, i64_w, i32_w]; rfl, ?_⟩
            refine pu 4 (some 38) (bs 12 31) HT_ rfl rfl (by kernel_rfl) (fun _ _ _ _ h => h) ⟨_, .inl ⟨by rfl, fun _ => by go_simp; with_reducible rfl⟩, _, by simp only [Act.put, sA, sB, sC, i64_w, i32_w]; rfl, ?_⟩
            refine pu 6 (some 40) (bs 12 95) HT_ rfl rfl (by kernel_rfl) (fun _ _ _ _ h => h) ⟨_, .inl ⟨by rfl, fun _ => by go_simp; with_reducible rfl⟩, _, by simp only [Act.put, sA, sB, sC, i64_w, i32_w]; rfl, ?_⟩
            refine tk 5 (some 39) (bs 12 127) HT_ HW_ rfl rfl (by kernel_rfl) (fun _ _ _ _ h => h) hHeld ⟨_, .inl ⟨by rfl, by rintro w' ⟨s0, s1, s2⟩; go_simp; with_reducible rfl⟩, _, by simp only [Act.put, sA, sB, sC, i64_w, i32_w]; rfl, ?_⟩
            refine tk 7 (some 41) (bs 12 255) HT_ HW_ rfl rfl (by kernel_rfl) (fun _ _ _ _ h => h) hHeld ⟨_, .inl ⟨by rfl, by rintro w' ⟨s0, s1, s2⟩; go_simp; with_reducible rfl⟩, _, by simp only [Act.put, sA, sB, sC, i64_w, i32_w]; rfl, ?_⟩
            refine pu 8 (some 42) (bs 12 511) HT_ rfl rfl (by kernel_rfl) (fun _ _ _ _ h => h) ⟨.agg ((gone ndn pn).cells (.slice none 0 0) (.slice none 0 0)), .inl ⟨by rfl, fun _ => by first | kernel_rfl | (go_simp; rfl)⟩, _, by simp only [Act.put, sA, sB, sC, i64_w, i32_w]; rfl, ?_⟩
            refine la1 9 (some 43) (bs 12 1023) HT_ rfl rfl (by kernel_rfl) (by decide) (fun K hK => ?_)
            refine build1_ (by rfl) rfl 28 42 (.tmp 42) rfl ((gone ndn pn).cells (.slice none 0 0) (.slice none 0 0)) rfl (.agg (Rq.zero.cells (.slice none 0 0) (.slice none 0 0))) 42 416 Tryd.underlying28 infoRq rfl (by decide) (by decide) rfl ?_
            refine hK.out _ _ ?_
            clear hK K
            refine nm ⟨_, show Act.put _ (some 43) _ = _ by simp only [Act.put, sA, sB, sC, i64_w, i32_w]; rfl, ?_⟩
            refine la1 10 (some 44) (bs 12 2047) HT_ rfl rfl (by kernel_rfl) (by decide) (fun K hK => ?_)
            refine Kd.S_append_step kRq (w0 := W0) (W := wr.drew) W0.heap.size (by rfl) (.tmp 34) (.tmp 43) 28 42 (.agg (Rq.zero.cells (.slice none 0 0) (.slice none 0 0))) 416 rfl Tryd.underlying28 infoRq rfl (by decide) (by decide) u5 ((lifeF (ns.take k) ps (silB z) z) ++ (tv.take j).map (fun t => gone ndn t.1.name)) (gone ndn pn) ((gone ndn pn).cells (.slice none 0 0) (.slice none 0 0)).toList (fun _ => True) (fun _ => False) rfl rfl (gone_M ndn pn wr.drew _) (fun _ h => h.elim) (fun _ _ => trivial) (Kd.S_mono HJ2.out.1.rq (fun _ _ => ⟨trivial, fun h => h⟩)) HJ2.out.1.bl HJ2.out.1.bl.size HLEN.out ?_
            intro v1 wd hRd hBd hgd hatd
            refine hK.out _ _ ?_
            clear hK K
            refine nm ⟨_, show Act.put _ (some 44) _ = _ by simp only [Act.put, sA, sB, sC, i64_w, i32_w]; rfl, ?_⟩
            refine pu 11 (some 5) (bs 12 4095) HT_ rfl rfl (by kernel_rfl) (fun _ _ _ _ h => h) ⟨_, .inl ⟨by rfl, fun _ => by go_simp; with_reducible rfl⟩, _, by simp only [Act.put, sA, sB, sC, i64_w, i32_w]; rfl, ?_⟩
            refine done_ (done_of HT_.out (by kernel_rfl)) ?_
            go_wp2
            go_roundw
            case rel => exact ⟨j + 1, by go_num, by omega, Lib.hid ⟨by rw [HTK.out, ← List.append_assoc]; exact HJ2.out.1.app hRd hBd hgd hatd hgd.size, HJ2.out.2.app hgd hatd⟩⟩
            case measure => simp [intOf]; omega
          · obtain rfl : j = m := by omega
            have hfin : Hid (Kd.S kRq 42 wr W0.heap.size (fun _ => True) u5 (lifeF (ns.take (k + 1)) ps (silB z) z) ∧ Below W0.heap.size W0 wr) := Lib.hid (by
              have h1 := hJ.out.1.rq
              rw [List.take_of_length_le (Nat.le_of_eq HI4.out.2), HTV.out.1] at h1
              rw [HEND.out]
              exact ⟨h1, hJ.out.1.bl⟩)
            go_wp2
            go_roundw
            case rel => exact ⟨k + 1, by go_num, by omega, hfin⟩
            case measure => simp [intOf]; omega
    · obtain rfl : k = nn := by omega
      have hR := Kd.S_lower hI.out.1 hlt0.out
      rw [List.take_of_length_le (by rw [← HTS.out.1, List.length_map, HLn.out]; exact Nat.le_refl _)] at hR
      have HR := Lib.hid hR
      have HB := Lib.hid (belT HB0.out hI.out.2)
      clear hR
      go_wp2
      go_ret
      exact ⟨_, rfl, HR.out, HB.out⟩
end Go.Proofs.YtiaggfjfgoiafaaDoor

/- SameRequest, SameRequests: are two requests, two lists of them, the same? -/
namespace Go.Proofs.YtiaggfjfgoiafaaDoor
open Go.RowKit Go.Proofs.YtiaggfjfgoiafaaDoorW.PrintWords Go.Proofs.YtiaggfjfgoiafaaDoorW.PrintLast
theorem rq_ob (r : Rq) (v4 v27 : Value) : ∀ (j : Nat) (u : Value), (r.ob.cells v4 v27)[j]? = some u → (r.cells v4 v27)[1 + j]? = some u := by
  intro j u hu
  have hj : j < 32 := by
    have := (Array.getElem?_eq_some_iff.1 hu).1
    rwa [Ob.cells_size] at this
  have e : r.cells v4 v27 = #[Value.int .i64 r.verb] ++ (r.ob.cells v4 v27 ++ #[.int .i64 r.kind, .string r.name, .int .i64 r.version, .string r.node, .int .i64 r.phase, .bool r.ready, .int .i64 r.now, .string r.«by», .int .i64 r.term]) := by kernel_rfl
  rw [e, Array.getElem?_append_right (by simp), Array.getElem?_append_left (by rw [Ob.cells_size]; simp; omega)]
  simpa using hu
theorem rcells_at0 (r : Rq) (v4 v27 : Value) (h : 0 < (r.cells v4 v27).size) : (r.cells v4 v27)[0]'h = .int .i64 r.verb := rfl
theorem rcells_at33 (r : Rq) (v4 v27 : Value) (h : 33 < (r.cells v4 v27).size) : (r.cells v4 v27)[33]'h = .int .i64 r.kind := rfl
theorem rcells_at34 (r : Rq) (v4 v27 : Value) (h : 34 < (r.cells v4 v27).size) : (r.cells v4 v27)[34]'h = .string r.name := rfl
theorem rcells_at35 (r : Rq) (v4 v27 : Value) (h : 35 < (r.cells v4 v27).size) : (r.cells v4 v27)[35]'h = .int .i64 r.version := rfl
theorem rcells_at36 (r : Rq) (v4 v27 : Value) (h : 36 < (r.cells v4 v27).size) : (r.cells v4 v27)[36]'h = .string r.node := rfl
theorem rcells_at37 (r : Rq) (v4 v27 : Value) (h : 37 < (r.cells v4 v27).size) : (r.cells v4 v27)[37]'h = .int .i64 r.phase := rfl
theorem rcells_at38 (r : Rq) (v4 v27 : Value) (h : 38 < (r.cells v4 v27).size) : (r.cells v4 v27)[38]'h = .bool r.ready := rfl
theorem rcells_at39 (r : Rq) (v4 v27 : Value) (h : 39 < (r.cells v4 v27).size) : (r.cells v4 v27)[39]'h = .int .i64 r.now := rfl
theorem rcells_at40 (r : Rq) (v4 v27 : Value) (h : 40 < (r.cells v4 v27).size) : (r.cells v4 v27)[40]'h = .string r.«by» := rfl
theorem rcells_at41 (r : Rq) (v4 v27 : Value) (h : 41 < (r.cells v4 v27).size) : (r.cells v4 v27)[41]'h = .int .i64 r.term := rfl
attribute [local go_sem] rcells_at0 rcells_at33 rcells_at34 rcells_at35 rcells_at36 rcells_at37 rcells_at38 rcells_at39 rcells_at40 rcells_at41
def sameR (r s : Rq) : Bool := decide (r.verb = s.verb) && (sameB r.ob s.ob && (decide (r.kind = s.kind) && decide (r.name.toList = s.name.toList) && decide (r.version = s.version) && decide (r.node.toList = s.node.toList) && decide (r.phase = s.phase) && decide (r.ready = s.ready) && decide (r.now = s.now) && decide (r.«by».toList = s.«by».toList) && decide (r.term = s.term)))
theorem sameR_iff (r s : Rq) : sameR r s = true ↔ r = s := by
  constructor
  · intro h
    simp only [sameR, tl_inj, Bool.and_eq_true, decide_eq_true_eq, sameB_iff] at h
    obtain ⟨a0, a1, ⟨⟨⟨⟨⟨⟨⟨⟨a2, a3⟩, a4⟩, a5⟩, a6⟩, a7⟩, a8⟩, a9⟩, a10⟩⟩ := h
    cases r
    cases s
    simp only at a0 a1 a2 a3 a4 a5 a6 a7 a8 a9 a10
    subst_vars
    rfl
  · rintro rfl
    simp [sameR, sameB_dec]
instance rqDec : DecidableEq Rq := fun o p => decidable_of_iff (sameR o p = true) (sameR_iff o p)
theorem sameR_dec (o p : Rq) : sameR o p = decide (o = p) := by
  rw [Bool.eq_iff_iff, sameR_iff, decide_eq_true_eq]
theorem rq_cells_at {W : World} {g : Nat} {r : Rq} {v4 v27 : Value} (h : W.heap[g]? = some (.cells (r.cells v4 v27) 42 (0, 0))) : ∀ (j : Nat) (u : Value), (r.ob.cells v4 v27)[j]? = some u → W.cell? ((⟨g, 1, none⟩ : Addr).add j) = some u := fun j u hu => by
  rw [add_at, cell_of_row _ _ _ _ _ _ h]
  exact rq_ob r v4 v27 j u hu
set_option maxRecDepth 100000 in
set_option maxHeartbeats 4000000 in
theorem sameReq_calls (r s : Rq) (v4 v27 u4 u27 : Value) (w : World) (l4 : LabK w r.ob.labels v4) (l27 : LabK w r.ob.select v27) (m4 : LabK w s.ob.labels u4) (m27 : LabK w s.ob.select u27) :
    Calls Tryd.prog 20 #[.agg (r.cells v4 v27), .agg (s.cells u4 u27)] w fun e w' => e = .returned (.bool (sameR r s)) ∧ Below w.heap.size w w' := by
  obtain ⟨cs, hcs⟩ : ∃ cs, cs = r.cells v4 v27 := ⟨_, rfl⟩
  obtain ⟨ds, hds⟩ : ∃ ds, ds = s.cells u4 u27 := ⟨_, rfl⟩
  obtain ⟨oc, hoc⟩ : ∃ cs, cs = r.ob.cells v4 v27 := ⟨_, rfl⟩
  obtain ⟨pc, hpc⟩ : ∃ ds, ds = s.ob.cells u4 u27 := ⟨_, rfl⟩
  obtain ⟨sb, hsb⟩ : ∃ b, b = sameB r.ob s.ob := ⟨_, rfl⟩
  have QS := Lib.hid (fun (W : World) (hW : Below w.heap.size w W) => sameObject_calls r.ob s.ob v4 v27 u4 u27 W (l4.below hW) (l27.below hW) (m4.below hW) (m27.below hW))
  have hi1 : Hid ((Tryd.prog.info? 39).map (·.size) = some oc.size) := Lib.hid (by rw [hoc, Ob.cells_size]; kernel_rfl)
  have hi2 : Hid ((Tryd.prog.info? 39).map (·.size) = some pc.size) := Lib.hid (by rw [hpc, Ob.cells_size]; kernel_rfl)
  have HX1 : Hid (∀ W : World, W.heap[w.heap.size]? = some (.cells cs 42 (0, 0)) → (∀ (j : Nat) (u : Value), oc[j]? = some u → W.cell? ((⟨w.heap.size, 1, none⟩ : Addr).add j) = some u) ∧ ∀ (j : Nat) (u : Value), (r.cells v4 v27)[j]? = some u → W.cell? ⟨w.heap.size, j, none⟩ = some u) :=
    Lib.hid (fun W h => by rw [hcs] at h; rw [hoc]; exact ⟨rq_cells_at h, fun j u hu => (cell_of_row _ _ _ _ _ _ h).trans hu⟩)
  have HX2 : Hid (∀ W : World, W.heap[w.heap.size + 1]? = some (.cells ds 42 (0, 0)) → (∀ (j : Nat) (u : Value), pc[j]? = some u → W.cell? ((⟨w.heap.size + 1, 1, none⟩ : Addr).add j) = some u) ∧ ∀ (j : Nat) (u : Value), (s.cells u4 u27)[j]? = some u → W.cell? ⟨w.heap.size + 1, j, none⟩ = some u) :=
    Lib.hid (fun W h => by rw [hds] at h; rw [hpc]; exact ⟨rq_cells_at h, fun j u hu => (cell_of_row _ _ _ _ _ _ h).trans hu⟩)
  rw [← hcs, ← hds]
  rw [← hoc, ← hpc, ← hsb] at QS
  have es : sameR r s = (decide (r.verb = s.verb) && (sb && (decide (r.kind = s.kind) && decide (r.name.toList = s.name.toList) && decide (r.version = s.version) && decide (r.node.toList = s.node.toList) && decide (r.phase = s.phase) && decide (r.ready = s.ready) && decide (r.now = s.now) && decide (r.«by».toList = s.«by».toList) && decide (r.term = s.term)))) := by rw [hsb]; rfl
  obtain ⟨rb, hrb⟩ : ∃ rb, rb = sameR r s := ⟨_, rfl⟩
  rw [← hrb]
  rw [← hrb] at es
  have HR := Lib.hid es
  have HM := Lib.hid (Eq.refl 0)
  clear hcs hds hoc hpc hsb es l4 l27 m4 m27 hrb
  go_enter Tryd.func20, Tryd.ntmps20
  simp only [List.append_eq, List.cons_append, List.nil_append]
  go_wp2_with (first
    | ((with_reducible refine gate_ (.fieldAddr 42 (.tmp 2) 0) rfl ?_); clear HM; (have HW : Hid (Below w.heap.size w ((w.alloc (Obj.cells cs 42)).alloc (Obj.cells ds 42))) := Lib.hid (Go.Joins.below_alloc2 w _ _)); (have B1 : Hid (((w.alloc (Obj.cells cs 42)).alloc (Obj.cells ds 42)).heap[w.heap.size]? = some (.cells cs 42 (0, 0))) := Lib.hid ((heap_alloc_old _ _ (by simp)).trans (heap_alloc_new w _))); (have B2 : Hid (((w.alloc (Obj.cells cs 42)).alloc (Obj.cells ds 42)).heap[w.heap.size + 1]? = some (.cells ds 42 (0, 0))) := Lib.hid (heap_alloc2_new w _ _)); (generalize ((w.alloc (Obj.cells cs 42)).alloc (Obj.cells ds 42)) = W0 at HW B1 B2 ⊢); obtain ⟨ga, hga⟩ : ∃ x, x = w.heap.size := ⟨_, rfl⟩; obtain ⟨gb, hgb⟩ : ∃ x, x = w.heap.size + 1 := ⟨_, rfl⟩; rw [← hgb] at B2 HX2 ⊢; rw [← hga] at B1 HX1 ⊢; (have HC1 := Lib.hid (HX1.out _ B1.out).2); (have HC2 := Lib.hid (HX2.out _ B2.out).2); clear hga hgb)
    | ((with_reducible refine wpList_load_any_w ?lg 39 _ rfl ⟨ga, 1, none⟩ ?lx oc _ ?lc Tryd.underlying39 ?ld ?li ?_); (case lg => rfl); (case lx => rfl); (case lc => exact (HX1.out _ B1.out).1); (case ld => rfl); (case li => exact hi1.out))
    | ((with_reducible refine wpList_load_any_w ?lg2 39 _ rfl ⟨gb, 1, none⟩ ?lx2 pc _ ?lc2 Tryd.underlying39 ?ld2 ?li2 ?_); (case lg2 => rfl); (case lx2 => rfl); (case lc2 => exact (HX2.out _ B2.out).1); (case ld2 => rfl); (case li2 => exact hi2.out))
    | (go_at_call 16; (with_reducible refine (QS.out _ HW.out).mono ?_); rintro e w1 ⟨rfl, hb⟩; replace HC1 := Lib.hid (fun j u h => cell_below hb (HC1.out j u h)); replace HC2 := Lib.hid (fun j u h => cell_below hb (HC2.out j u h)); replace HW := Lib.hid (belT HW.out hb); clear hb)
    | ((with_reducible refine gate_ (.load 3 _) rfl ?_); first | refine wpList_load1_w 3 _ rfl _ rfl rfl _ _ (HC1.out _ _ rfl) Tryd.underlying3 rfl ?_ | refine wpList_load1_w 3 _ rfl _ rfl rfl _ _ (HC2.out _ _ rfl) Tryd.underlying3 rfl ?_)
    | ((with_reducible refine gate_ (.load 9 _) rfl ?_); first | refine wpList_load1_w 9 _ rfl _ rfl rfl _ _ (HC1.out _ _ rfl) Tryd.underlying9 rfl ?_ | refine wpList_load1_w 9 _ rfl _ rfl rfl _ _ (HC2.out _ _ rfl) Tryd.underlying9 rfl ?_)
    | ((with_reducible refine gate_ (.load 4 _) rfl ?_); first | refine wpList_load1_w 4 _ rfl _ rfl rfl _ _ (HC1.out _ _ rfl) Tryd.underlying4 rfl ?_ | refine wpList_load1_w 4 _ rfl _ rfl rfl _ _ (HC2.out _ _ rfl) Tryd.underlying4 rfl ?_))
  all_goals go_ret
  all_goals (refine ⟨?_, HW.out⟩; clear HC1 HC2 HW; rw [HR.out]; clear HR QS HX1 HX2; first | (simp_all; done) | (simp_all; rw [Bool.eq_iff_iff]; simp))
structure RqAt (w : World) (ad : Addr) (k : Nat) (o : Rq) (v4 v27 : Value) : Prop where
  l4 : LabK w o.ob.labels v4
  l27 : LabK w o.ob.select v27
  cells : ∀ (j : Nat) (u : Value), (o.cells v4 v27)[j]? = some u → w.cell? ((ad.add (k * 42)).add j) = some u
theorem RqAt.below {w w1 : World} {ad : Addr} {k : Nat} {o : Rq} {v4 v27 : Value} (h : RqAt w ad k o v4 v27) (hb : Below w.heap.size w w1) : RqAt w1 ad k o v4 v27 :=
  ⟨h.l4.below hb, h.l27.below hb, fun j u hu => cell_below hb (h.cells j u hu)⟩
theorem rqAt {w : World} {A : Option Addr} {n : Nat} {l : List Rq} (h : kRq.C w A n l) (k : Nat) (o : Rq) (hk : l[k]? = some o) : ∃ ad v4 v27, A = some ad ∧ RqAt w ad k o v4 v27 := by
  obtain ⟨ad, v4, v27, e, h4, h27, hc⟩ := rq_at h k o hk
  exact ⟨ad, v4, v27, e, h4, h27, hc⟩
theorem take_sameR {l m : List Rq} {k : Nat} (h : l.take k = m.take k) {o p : Rq} (ho : l[k]? = some o) (hp : m[k]? = some p) : l.take (k + 1) = m.take (k + 1) ↔ o = p := by
  rw [List.take_add_one, List.take_add_one, h, ho, hp]
  simp
def rg7_6_T : Bool × List (List Nat × List Nat) := (true, [([], []), ([], []), ([0, 1], [0, 1]), ([2], [2]), ([], []), ([], []), ([4, 5], [4, 5]), ([6], [6]), ([3, 7], [3, 7]), ([8], [8])])
def rg7_6_B : List Nat := [0, 0, 3, 7, 0, 0, 48, 112, 255, 511]
theorem rg7_6_tab : rtab .any (opsOf Tryd.f7 6) = rg7_6_T := by kernel_rfl
theorem rg7_6_bits : waitsOk rg7_6_T.2 rg7_6_B = true := by kernel_rfl
set_option maxHeartbeats 1600000 in
set_option maxRecDepth 100000 in
theorem sameReqs_eq (A B : Option Addr) (l m : List Rq) (c d n : Nat) (w : World) (hr : kRq.C w A l.length l) (hs : kRq.C w B m.length m) (hl : l.length = n) (hm : m.length = n) (hn : n ≤ 1000000) :
    Calls Tryd.prog 7 #[.slice A n c, .slice B n d] w fun e w' => e = .returned (.bool (decide (l = m))) ∧ Below w.heap.size w w' := by
  have HR := Lib.hid hr
  have HS := Lib.hid hs
  have HL := Lib.hid (And.intro hl hm)
  clear hr hs hl hm
  go_enter Tryd.func7, Tryd.ntmps7
  go_wp2
  go_loopw [5] (fun v5 wr => ∃ k : Nat, k ≤ n ∧ v5 = .int .i64 k ∧ Hid (l.take k = m.take k ∧ Below w.heap.size w wr)) (fun v5 _ => n - (intOf v5).toNat)
  case atStart => exact ⟨0, Nat.zero_le _, rfl, Lib.hid ⟨by simp, Below.refl _ _⟩⟩
  case round =>
    obtain ⟨k, hk, rfl, hI⟩ := hrel
    by_cases hlt : k < n
    · obtain ⟨o, ho⟩ : ∃ o, l[k]? = some o := ⟨_, List.getElem?_eq_getElem (by have := HL.out; omega)⟩
      obtain ⟨p, hp⟩ : ∃ p, m[k]? = some p := ⟨_, List.getElem?_eq_getElem (by have := HL.out; omega)⟩
      obtain ⟨ad, v4, v27, rfl, hO⟩ := rqAt (Kd.C_below HR.out hI.out.2) k o ho
      obtain ⟨bd, u4, u27, rfl, hP⟩ := rqAt (Kd.C_below HS.out hI.out.2) k p hp
      obtain ⟨cs, hcs⟩ : ∃ cs, cs = o.cells v4 v27 := ⟨_, rfl⟩
      obtain ⟨ds, hds⟩ : ∃ ds, ds = p.cells u4 u27 := ⟨_, rfl⟩
      have hi1 : Hid ((Tryd.prog.info? 42).map (·.size) = some cs.size) := Lib.hid (by rw [hcs, Rq.cells_size]; kernel_rfl)
      have hi2 : Hid ((Tryd.prog.info? 42).map (·.size) = some ds.size) := Lib.hid (by rw [hds, Rq.cells_size]; kernel_rfl)
      have B1 := hO.cells
      have B2 := hP.cells
      rw [← hcs] at B1
      rw [← hds] at B2
      obtain ⟨rb, hrb⟩ : ∃ rb, rb = sameR o p := ⟨_, rfl⟩
      have QS := Lib.hid (fun (W : World) (hW : Below wr.heap.size wr W) => sameReq_calls o p v4 v27 u4 u27 W (hO.l4.below hW) (hO.l27.below hW) (hP.l4.below hW) (hP.l27.below hW))
      rw [← hrb, ← hcs, ← hds] at QS
      have HT := Lib.hid (And.intro ho (And.intro hp hrb))
      replace B1 := Lib.hid (fun (W : World) (hW : Below wr.heap.size wr W) j u hu => cell_below hW (B1 j u hu))
      replace B2 := Lib.hid (fun (W : World) (hW : Below wr.heap.size wr W) j u hu => cell_below hW (B2 j u hu))
      clear ho hp hrb hcs hds hO hP
      have HB : Below wr.heap.size wr wr := Below.refl _ _
      replace HB := below_drew HB
      have hlk : (k : Int) < (n : Int) := by omega
      go_upto_region 6 with (fail)
      refine start_ (n := 10) (S := fun w' => Below wr.heap.size wr w') (ds := []) (bs 10 0) (by kernel_rfl) rfl (by kernel_rfl) HB (fun hHeld => ?_)
      refine with_tabW rg7_6_tab rg7_6_bits (fun HT_ HW_ => ?_)
      refine pu 0 (some 17) (bs 10 1) HT_ rfl rfl (by kernel_rfl) (fun _ _ _ _ h => h) ⟨_, .inl ⟨by rfl, fun _ => by go_simp; with_reducible rfl⟩, _, by simp only [Act.put, sA, sB, sC, i64_w, i32_w]; rfl, ?_⟩
      refine pu 1 (some 18) (bs 10 3) HT_ rfl rfl (by kernel_rfl) (fun _ _ _ _ h => h) ⟨_, .inl ⟨by rfl, fun _ => by go_simp; with_reducible rfl⟩, _, by simp only [Act.put, sA, sB, sC, i64_w, i32_w]; rfl, ?_⟩
      refine pu 2 (some 19) (bs 10 7) HT_ rfl rfl (by kernel_rfl) (fun _ _ _ _ h => h) ⟨_, .inl ⟨by rfl, fun _ => by go_simp; with_reducible rfl⟩, _, by simp only [Act.put, sA, sB, sC, i64_w, i32_w]; rfl, ?_⟩
      refine pu 4 (some 21) (bs 10 23) HT_ rfl rfl (by kernel_rfl) (fun _ _ _ _ h => h) ⟨_, .inl ⟨by rfl, fun _ => by go_simp; with_reducible rfl⟩, _, by simp only [Act.put, sA, sB, sC, i64_w, i32_w]; rfl, ?_⟩
      refine pu 5 (some 22) (bs 10 55) HT_ rfl rfl (by kernel_rfl) (fun _ _ _ _ h => h) ⟨_, .inl ⟨by rfl, fun _ => by go_simp; with_reducible rfl⟩, _, by simp only [Act.put, sA, sB, sC, i64_w, i32_w]; rfl, ?_⟩
      refine pu 6 (some 23) (bs 10 119) HT_ rfl rfl (by kernel_rfl) (fun _ _ _ _ h => h) ⟨_, .inl ⟨by rfl, fun _ => by go_simp; with_reducible rfl⟩, _, by simp only [Act.put, sA, sB, sC, i64_w, i32_w]; rfl, ?_⟩
      refine tk 3 (some 20) (bs 10 127) HT_ HW_ rfl rfl (by kernel_rfl) (fun _ _ _ _ h => h) hHeld ⟨_, .inl ⟨by rfl, by rintro w' s0; refine load_any_ (x := .tmp 19) (p := ad.add (k * 42)) ?_ ?_ (B1.out _ s0) Tryd.underlying42 rfl hi1.out <;> rfl⟩, _, by simp only [Act.put, sA, sB, sC, i64_w, i32_w]; rfl, ?_⟩
      refine tk 7 (some 24) (bs 10 255) HT_ HW_ rfl rfl (by kernel_rfl) (fun _ _ _ _ h => h) hHeld ⟨_, .inl ⟨by rfl, by rintro w' s0; refine load_any_ (x := .tmp 23) (p := bd.add (k * 42)) ?_ ?_ (B2.out _ s0) Tryd.underlying42 rfl hi2.out <;> rfl⟩, _, by simp only [Act.put, sA, sB, sC, i64_w, i32_w]; rfl, ?_⟩
      refine on1 8 (some 25) (bs 10 511) HT_ rfl rfl (by kernel_rfl) (by decide) (fun K hK => ?_)
      refine goes_ Tryd.func20 (by kernel_rfl) rfl #[.agg cs, .agg ds] (by rfl) rfl rfl (by (try simp only [List.map_toArray, List.map_cons, List.map_nil]); first | done | rfl) ?_
      with_reducible refine (QS.out _ HB).mono ?_
      rintro e w1 ⟨rfl, hb⟩
      replace HB := belT HB hb
      clear hb
      refine ⟨_, rfl, ?_⟩
      refine hK.out _ _ HB (fun hHeld => ?_)
      clear hK K
      refine nm ⟨_, show Act.put _ (some 25) _ = _ by simp only [Act.put, sA, sB, sC, i64_w, i32_w]; rfl, ?_⟩
      refine pu 9 (some 26) (bs 10 1023) HT_ rfl rfl (by kernel_rfl) (fun _ _ _ _ h => h) ⟨_, .inl ⟨by rfl, fun _ => by go_simp; with_reducible rfl⟩, _, by simp only [Act.put, sA, sB, sC, i64_w, i32_w]; rfl, ?_⟩
      refine done_ (done_of HT_.out (by kernel_rfl)) ?_
      cases rb
      · go_wp2
        go_ret
        refine ⟨?_, belT hI.out.2 HB⟩
        have e : ¬ l = m := fun e => by
          subst e
          obtain ⟨h1, h2, h3⟩ := HT.out
          rw [h1] at h2
          injection h2 with h2
          subst h2
          rw [sameR_dec] at h3
          simp at h3
        rw [decide_eq_false e]
        rfl
      · go_wp2
        go_roundw
        case rel =>
          obtain ⟨h1, h2, h3⟩ := HT.out
          rw [sameR_dec] at h3
          exact ⟨k + 1, by omega, by go_num, Lib.hid ⟨(take_sameR hI.out.1 h1 h2).2 (of_decide_eq_true h3.symm), belT hI.out.2 HB⟩⟩
        case measure => simp [intOf]; omega
    · obtain rfl : k = n := by omega
      go_wp2
      go_ret
      refine ⟨?_, hI.out.2⟩
      obtain ⟨h1, h2⟩ := HL.out
      have h := hI.out.1
      rw [← h1, List.take_length, h1, ← h2, List.take_length] at h
      rw [decide_eq_true h]
      rfl
theorem sameReqs_calls (A B : Option Addr) (l m : List Rq) (c d : Nat) (w : World) (hr : kRq.C w A l.length l) (hs : kRq.C w B m.length m) (hn : l.length ≤ 1000000) :
    Calls Tryd.prog 7 #[.slice A l.length c, .slice B m.length d] w fun e w' => e = .returned (.bool (decide (l = m))) ∧ Below w.heap.size w w' := by
  by_cases h : l.length = m.length
  · have := sameReqs_eq A B l m c d l.length w hr hs rfl h.symm hn
    rw [← h]
    exact this
  · have hne : ¬ l = m := fun e => h (by rw [e])
    rw [decide_eq_false hne]
    have e1 : ((l.length : Int) != (m.length : Int)) = true := by simp; omega
    clear hr hs hne
    go_enter Tryd.func7, Tryd.ntmps7
    go_wp2
    go_ret
    exact ⟨rfl, Below.refl _ _⟩
end Go.Proofs.YtiaggfjfgoiafaaDoor

/- An object that is an argument, opened: the parts that rank.Less looks at. -/
namespace Go.Proofs.YtiaggfjfgoiafaaDoor
open Go.ChangeShapes Go.WideShapes Go.RowKit
theorem okWide_agg {P : Program} {W : World} {r : Reach} {b0 : Nat} {t : TypeId} {fs : Array Field} {v : Value} (ht : P.underlying t = some (.struct fs)) (h : Value.okWide P W r b0 t v) : ∃ cs, v = .agg cs ∧ cs.size = P.cellsOf t := by
  unfold Value.okWide at h
  rw [ht] at h
  obtain ⟨cs, h1, h2, _⟩ := h
  exact ⟨cs, h1, h2⟩
end Go.Proofs.YtiaggfjfgoiafaaDoor

/- Objects, and lists of objects, that are arguments: opened. -/
namespace Go.Proofs.YtiaggfjfgoiafaaDoor
set_option maxRecDepth 100000
open Go.ChangeShapes Go.WideShapes Go.RowKit Go.Proofs.YtiaggfjfgoiafaaDoorW.PrintWords
theorem weights_mem_all {H : Type} {P : Program} {e : TypeId} : ∀ {ds : List (DataW H)} {j : Nat} {d : DataW H}, ds[j]? = some d → ∀ n ∈ d.weights P e, n ∈ DataW.weightsAll P e ds
  | [], _, _, h, _, _ => by simp at h
  | d0 :: ds, 0, d, h, n, hn => by
    obtain rfl : d0 = d := by simpa using h
    simp only [DataW.weightsAll, List.mem_append]
    exact .inl hn
  | d0 :: ds, j + 1, d, h, n, hn => by
    simp only [DataW.weightsAll, List.mem_append]
    exact .inr (weights_mem_all (by simpa using h) n hn)
section
variable {H : Type} {enc : TypeId × Value → H} {W : World} {base : Nat} {spare : Nat → Bool} {held : Bool}
set_option maxRecDepth 100000 in
theorem open_labels {fuel : Nat} {cs : List Value} {x : DataW H × List MemPlace} (hw : ∀ n ∈ x.1.weights Tryd.prog 34, n ≤ reachBytes) (h : DataW.trod enc Tryd.prog W base spare held fuel 34 cs = some x) :
    ∃ v l, cs = [v] ∧ LabK W l v ∧ l.length ≤ 4398046510976 := by
  rcases Deep.open_slice_pairs Tryd.underlying34 Tryd.underlying56 (by kernel_rfl) rfl rfl (by kernel_rfl) (by kernel_rfl) h with ⟨hcs, hx⟩ | ⟨a, len, cap, m, n, V0, V1, D0, D1, P0, P1, hcs, hb, hl, hm, hmm, hx, hc⟩
  · subst hcs
    exact ⟨_, [], rfl, ⟨none, 0, rfl, Nat.le_refl _, Kd.C_nil _ _⟩, by simp⟩
  · subst hcs
    subst hx
    have hlm : len ≤ m := by rw [hmm]; split <;> omega
    have z : (len + (m - len)) * Tryd.prog.bytesOf 56 ≤ reachBytes := hw _ (by
      unfold DataW.weights
      rw [Tryd.underlying34]
      simp)
    rw [show Tryd.prog.bytesOf 56 = 32 by kernel_rfl] at z
    have each : ∀ i, i < len → ∃ p : Lab, W.cell? (a.add (i * 2)) = some (.string p.f0) ∧ W.cell? (a.add (i * 2 + 1)) = some (.string p.f1) := by
      intro i hi
      obtain ⟨h1, h2, h3, h4⟩ := hc i (by omega)
      obtain ⟨a0, e0, _, _⟩ := DataW.trod_string Tryd.underlying9 h3
      obtain ⟨a1, e1, _, _⟩ := DataW.trod_string Tryd.underlying9 h4
      simp at e0 e1
      exact ⟨⟨a0, a1⟩, by rw [h1, e0], by rw [h2, e1]⟩
    haveI : Inhabited Lab := ⟨⟨ByteArray.empty, ByteArray.empty⟩⟩
    obtain ⟨f, hf'⟩ := Deep.choose_lt each
    have hlen : ((List.range len).map f).length = len := by simp
    unfold reachBytes at z
    refine ⟨_, (List.range len).map f, rfl, ⟨some a, cap, by rw [hlen], by rw [hlen]; exact hl, ?_⟩, by rw [hlen]; omega⟩
    rw [hlen]
    refine ⟨hlen, by omega, fun _ => ⟨a, rfl, fun j p hj => ?_⟩⟩
    have hjl : j < len := by have := (List.getElem?_eq_some_iff.1 hj).1; rw [hlen] at this; exact this
    have hp : f j = p := by simpa [List.getElem?_range hjl] using hj
    subst hp
    refine ⟨[.string (f j).f0, .string (f j).f1], rfl, QLb.k56_mk W (f j), fun i u hu => ?_⟩
    match i with
    | 0 => obtain rfl : Value.string (f j).f0 = u := by simpa using hu
           exact (hf' j hjl).1
    | 1 => obtain rfl : Value.string (f j).f1 = u := by simpa using hu
           exact (hf' j hjl).2
    | i + 2 => simp at hu
def Ob.ints (o : Ob) : List Int := [o.kind, o.version, o.born, o.roomC, o.roomM, o.beat, o.phase, o.needC, o.needM, o.rise, o.fall, o.count, o.surge, o.slack, o.least, o.term, o.till]
def ObInts (o : Ob) : Prop := ∀ z ∈ o.ints, -9223372036854775808 ≤ z ∧ z ≤ 9223372036854775807
set_option maxRecDepth 100000 in
set_option maxHeartbeats 1000000 in
theorem open_obj {fuel : Nat} {cs : List Value} {x : DataW H × List MemPlace} (hw : ∀ n ∈ x.1.weights Tryd.prog 39, n ≤ reachBytes) (h : DataW.trod enc Tryd.prog W base spare held fuel 39 cs = some x) :
    ∃ o v4 v27, cs = (o.cells v4 v27).toList ∧ LabK W o.labels v4 ∧ LabK W o.select v27 ∧ ObFits o ∧ ObInts o := by
  have hu := Tryd.underlying39
  obtain ⟨xs, m, _, hx, hlen, hl, hfd⟩ := DataW.trod_struct hu h
  rw [show Tryd.prog.cellsOf 39 = 32 by kernel_rfl] at hlen
  have hwd : ∀ (j : Nat) (t : TypeId) (y : DataW H × List MemPlace), xs[j]? = some y → (Program.underlying Tryd.prog 39).elim none (fun d => match d with | .struct fs => (fs.toList.map (·.type))[j]? | _ => none) = some t → ∀ n ∈ y.1.weights Tryd.prog t, n ≤ reachBytes := fun j t y hy ht n hn => hw n (by
    rw [hx]
    unfold DataW.weights
    rw [hu] at ht ⊢
    exact DataW.weights_mem_each (j := j) (t := t) (d := y.1) ht (by simp [hy]) n hn)
  rw [hu] at hwd
  have c1 : Tryd.prog.cellsOf 9 = 1 := by kernel_rfl
  have c2 : Tryd.prog.cellsOf 3 = 1 := by kernel_rfl
  have c3 : Tryd.prog.cellsOf 4 = 1 := by kernel_rfl
  have c4 : Tryd.prog.cellsOf 37 = 1 := by kernel_rfl
  have c5 : Tryd.prog.cellsOf 34 = 1 := by kernel_rfl
  have c6 : Tryd.prog.cellsOf 36 = 2 := by kernel_rfl
  have ex : ∀ j, j < 30 → ∃ y, xs[j]? = some y := fun j hj => ⟨_, List.getElem?_eq_getElem (by rw [hl]; exact hj)⟩
  have f0 : DataW.trod enc Tryd.prog W base spare held m 3 ((cs.drop 0).take (Tryd.prog.cellsOf 3)) = xs[0]? := hfd 0 _ rfl
  rw [c2] at f0
  obtain ⟨y0, e0⟩ := ex 0 (by omega)
  rw [e0] at f0
  clear e0
  have f1 : DataW.trod enc Tryd.prog W base spare held m 9 ((cs.drop 1).take (Tryd.prog.cellsOf 9)) = xs[1]? := hfd 1 _ rfl
  rw [c1] at f1
  obtain ⟨y1, e1⟩ := ex 1 (by omega)
  rw [e1] at f1
  have w1 := hwd 1 9 y1 e1 rfl
  clear e1
  have f2 : DataW.trod enc Tryd.prog W base spare held m 3 ((cs.drop 2).take (Tryd.prog.cellsOf 3)) = xs[2]? := hfd 2 _ rfl
  rw [c2] at f2
  obtain ⟨y2, e2⟩ := ex 2 (by omega)
  rw [e2] at f2
  clear e2
  have f3 : DataW.trod enc Tryd.prog W base spare held m 3 ((cs.drop 3).take (Tryd.prog.cellsOf 3)) = xs[3]? := hfd 3 _ rfl
  rw [c2] at f3
  obtain ⟨y3, e3⟩ := ex 3 (by omega)
  rw [e3] at f3
  clear e3
  have f4 : DataW.trod enc Tryd.prog W base spare held m 34 ((cs.drop 4).take (Tryd.prog.cellsOf 34)) = xs[4]? := hfd 4 _ rfl
  rw [c5] at f4
  obtain ⟨y4, e4⟩ := ex 4 (by omega)
  rw [e4] at f4
  have w4 := hwd 4 34 y4 e4 rfl
  clear e4
  have f5 : DataW.trod enc Tryd.prog W base spare held m 36 ((cs.drop 5).take (Tryd.prog.cellsOf 36)) = xs[5]? := hfd 5 _ rfl
  rw [c6] at f5
  obtain ⟨y5, e5⟩ := ex 5 (by omega)
  rw [e5] at f5
  clear e5
  have f6 : DataW.trod enc Tryd.prog W base spare held m 4 ((cs.drop 7).take (Tryd.prog.cellsOf 4)) = xs[6]? := hfd 6 _ rfl
  rw [c3] at f6
  obtain ⟨y6, e6⟩ := ex 6 (by omega)
  rw [e6] at f6
  clear e6
  have f7 : DataW.trod enc Tryd.prog W base spare held m 4 ((cs.drop 8).take (Tryd.prog.cellsOf 4)) = xs[7]? := hfd 7 _ rfl
  rw [c3] at f7
  obtain ⟨y7, e7⟩ := ex 7 (by omega)
  rw [e7] at f7
  clear e7
  have f8 : DataW.trod enc Tryd.prog W base spare held m 4 ((cs.drop 9).take (Tryd.prog.cellsOf 4)) = xs[8]? := hfd 8 _ rfl
  rw [c3] at f8
  obtain ⟨y8, e8⟩ := ex 8 (by omega)
  rw [e8] at f8
  clear e8
  have f9 : DataW.trod enc Tryd.prog W base spare held m 3 ((cs.drop 10).take (Tryd.prog.cellsOf 3)) = xs[9]? := hfd 9 _ rfl
  rw [c2] at f9
  obtain ⟨y9, e9⟩ := ex 9 (by omega)
  rw [e9] at f9
  clear e9
  have f10 : DataW.trod enc Tryd.prog W base spare held m 9 ((cs.drop 11).take (Tryd.prog.cellsOf 9)) = xs[10]? := hfd 10 _ rfl
  rw [c1] at f10
  obtain ⟨y10, e10⟩ := ex 10 (by omega)
  rw [e10] at f10
  have w10 := hwd 10 9 y10 e10 rfl
  clear e10
  have f11 : DataW.trod enc Tryd.prog W base spare held m 9 ((cs.drop 12).take (Tryd.prog.cellsOf 9)) = xs[11]? := hfd 11 _ rfl
  rw [c1] at f11
  obtain ⟨y11, e11⟩ := ex 11 (by omega)
  rw [e11] at f11
  have w11 := hwd 11 9 y11 e11 rfl
  clear e11
  have f12 : DataW.trod enc Tryd.prog W base spare held m 9 ((cs.drop 13).take (Tryd.prog.cellsOf 9)) = xs[12]? := hfd 12 _ rfl
  rw [c1] at f12
  obtain ⟨y12, e12⟩ := ex 12 (by omega)
  rw [e12] at f12
  have w12 := hwd 12 9 y12 e12 rfl
  clear e12
  have f13 : DataW.trod enc Tryd.prog W base spare held m 3 ((cs.drop 14).take (Tryd.prog.cellsOf 3)) = xs[13]? := hfd 13 _ rfl
  rw [c2] at f13
  obtain ⟨y13, e13⟩ := ex 13 (by omega)
  rw [e13] at f13
  clear e13
  have f14 : DataW.trod enc Tryd.prog W base spare held m 4 ((cs.drop 15).take (Tryd.prog.cellsOf 4)) = xs[14]? := hfd 14 _ rfl
  rw [c3] at f14
  obtain ⟨y14, e14⟩ := ex 14 (by omega)
  rw [e14] at f14
  clear e14
  have f15 : DataW.trod enc Tryd.prog W base spare held m 4 ((cs.drop 16).take (Tryd.prog.cellsOf 4)) = xs[15]? := hfd 15 _ rfl
  rw [c3] at f15
  obtain ⟨y15, e15⟩ := ex 15 (by omega)
  rw [e15] at f15
  clear e15
  have f16 : DataW.trod enc Tryd.prog W base spare held m 36 ((cs.drop 17).take (Tryd.prog.cellsOf 36)) = xs[16]? := hfd 16 _ rfl
  rw [c6] at f16
  obtain ⟨y16, e16⟩ := ex 16 (by omega)
  rw [e16] at f16
  clear e16
  have f17 : DataW.trod enc Tryd.prog W base spare held m 9 ((cs.drop 19).take (Tryd.prog.cellsOf 9)) = xs[17]? := hfd 17 _ rfl
  rw [c1] at f17
  obtain ⟨y17, e17⟩ := ex 17 (by omega)
  rw [e17] at f17
  have w17 := hwd 17 9 y17 e17 rfl
  clear e17
  have f18 : DataW.trod enc Tryd.prog W base spare held m 3 ((cs.drop 20).take (Tryd.prog.cellsOf 3)) = xs[18]? := hfd 18 _ rfl
  rw [c2] at f18
  obtain ⟨y18, e18⟩ := ex 18 (by omega)
  rw [e18] at f18
  clear e18
  have f19 : DataW.trod enc Tryd.prog W base spare held m 3 ((cs.drop 21).take (Tryd.prog.cellsOf 3)) = xs[19]? := hfd 19 _ rfl
  rw [c2] at f19
  obtain ⟨y19, e19⟩ := ex 19 (by omega)
  rw [e19] at f19
  clear e19
  have f20 : DataW.trod enc Tryd.prog W base spare held m 3 ((cs.drop 22).take (Tryd.prog.cellsOf 3)) = xs[20]? := hfd 20 _ rfl
  rw [c2] at f20
  obtain ⟨y20, e20⟩ := ex 20 (by omega)
  rw [e20] at f20
  clear e20
  have f21 : DataW.trod enc Tryd.prog W base spare held m 3 ((cs.drop 23).take (Tryd.prog.cellsOf 3)) = xs[21]? := hfd 21 _ rfl
  rw [c2] at f21
  obtain ⟨y21, e21⟩ := ex 21 (by omega)
  rw [e21] at f21
  clear e21
  have f22 : DataW.trod enc Tryd.prog W base spare held m 3 ((cs.drop 24).take (Tryd.prog.cellsOf 3)) = xs[22]? := hfd 22 _ rfl
  rw [c2] at f22
  obtain ⟨y22, e22⟩ := ex 22 (by omega)
  rw [e22] at f22
  clear e22
  have f23 : DataW.trod enc Tryd.prog W base spare held m 4 ((cs.drop 25).take (Tryd.prog.cellsOf 4)) = xs[23]? := hfd 23 _ rfl
  rw [c3] at f23
  obtain ⟨y23, e23⟩ := ex 23 (by omega)
  rw [e23] at f23
  clear e23
  have f24 : DataW.trod enc Tryd.prog W base spare held m 37 ((cs.drop 26).take (Tryd.prog.cellsOf 37)) = xs[24]? := hfd 24 _ rfl
  rw [c4] at f24
  obtain ⟨y24, e24⟩ := ex 24 (by omega)
  rw [e24] at f24
  clear e24
  have f25 : DataW.trod enc Tryd.prog W base spare held m 34 ((cs.drop 27).take (Tryd.prog.cellsOf 34)) = xs[25]? := hfd 25 _ rfl
  rw [c5] at f25
  obtain ⟨y25, e25⟩ := ex 25 (by omega)
  rw [e25] at f25
  have w25 := hwd 25 34 y25 e25 rfl
  clear e25
  have f26 : DataW.trod enc Tryd.prog W base spare held m 3 ((cs.drop 28).take (Tryd.prog.cellsOf 3)) = xs[26]? := hfd 26 _ rfl
  rw [c2] at f26
  obtain ⟨y26, e26⟩ := ex 26 (by omega)
  rw [e26] at f26
  clear e26
  have f27 : DataW.trod enc Tryd.prog W base spare held m 9 ((cs.drop 29).take (Tryd.prog.cellsOf 9)) = xs[27]? := hfd 27 _ rfl
  rw [c1] at f27
  obtain ⟨y27, e27⟩ := ex 27 (by omega)
  rw [e27] at f27
  have w27 := hwd 27 9 y27 e27 rfl
  clear e27
  have f28 : DataW.trod enc Tryd.prog W base spare held m 3 ((cs.drop 30).take (Tryd.prog.cellsOf 3)) = xs[28]? := hfd 28 _ rfl
  rw [c2] at f28
  obtain ⟨y28, e28⟩ := ex 28 (by omega)
  rw [e28] at f28
  clear e28
  have f29 : DataW.trod enc Tryd.prog W base spare held m 3 ((cs.drop 31).take (Tryd.prog.cellsOf 3)) = xs[29]? := hfd 29 _ rfl
  rw [c2] at f29
  obtain ⟨y29, e29⟩ := ex 29 (by omega)
  rw [e29] at f29
  clear e29
  clear hwd hw hx hfd ex h
  match cs, hlen with
  | [c0, c1, c2, c3, c4, c5, c6, c7, c8, c9, c10, c11, c12, c13, c14, c15, c16, c17, c18, c19, c20, c21, c22, c23, c24, c25, c26, c27, c28, c29, c30, c31], _ =>
    simp only [List.drop_succ_cons, List.drop_zero, List.take_succ_cons, List.take_zero] at f0
    obtain ⟨g0, h0, _, b0⟩ := DataW.trod_int Tryd.underlying3 f0
    obtain rfl : c0 = _ := by simpa using h0
    simp only [List.drop_succ_cons, List.drop_zero, List.take_succ_cons, List.take_zero] at f1
    obtain ⟨g1, h1, x1, _⟩ := DataW.trod_string Tryd.underlying9 f1
    obtain rfl : c1 = _ := by simpa using h1
    simp only [List.drop_succ_cons, List.drop_zero, List.take_succ_cons, List.take_zero] at f2
    obtain ⟨g2, h2, _, b2⟩ := DataW.trod_int Tryd.underlying3 f2
    obtain rfl : c2 = _ := by simpa using h2
    simp only [List.drop_succ_cons, List.drop_zero, List.take_succ_cons, List.take_zero] at f3
    obtain ⟨g3, h3, _, b3⟩ := DataW.trod_int Tryd.underlying3 f3
    obtain rfl : c3 = _ := by simpa using h3
    simp only [List.drop_succ_cons, List.drop_zero, List.take_succ_cons, List.take_zero] at f4
    obtain ⟨g4, l4, h4, K4, z4⟩ := open_labels w4 f4
    obtain rfl : c4 = _ := by simpa using h4
    simp only [List.drop_succ_cons, List.drop_zero, List.take_succ_cons, List.take_zero] at f5
    obtain ⟨p5, q5, m5, _, _, s5, t5⟩ := trod_struct2 Tryd.underlying36 f5
    simp only [c2, List.drop_succ_cons, List.drop_zero, List.take_succ_cons, List.take_zero] at s5 t5
    obtain ⟨g5, h5, _, b5⟩ := DataW.trod_int Tryd.underlying3 s5
    obtain ⟨g5', h5', _, b5'⟩ := DataW.trod_int Tryd.underlying3 t5
    obtain rfl : c5 = _ := by simpa using h5
    obtain rfl : c6 = _ := by simpa using h5'
    simp only [List.drop_succ_cons, List.drop_zero, List.take_succ_cons, List.take_zero] at f6
    obtain ⟨g6, h6, _⟩ := DataW.trod_bool Tryd.underlying4 f6
    obtain rfl : c7 = _ := by simpa using h6
    simp only [List.drop_succ_cons, List.drop_zero, List.take_succ_cons, List.take_zero] at f7
    obtain ⟨g7, h7, _⟩ := DataW.trod_bool Tryd.underlying4 f7
    obtain rfl : c8 = _ := by simpa using h7
    simp only [List.drop_succ_cons, List.drop_zero, List.take_succ_cons, List.take_zero] at f8
    obtain ⟨g8, h8, _⟩ := DataW.trod_bool Tryd.underlying4 f8
    obtain rfl : c9 = _ := by simpa using h8
    simp only [List.drop_succ_cons, List.drop_zero, List.take_succ_cons, List.take_zero] at f9
    obtain ⟨g9, h9, _, b9⟩ := DataW.trod_int Tryd.underlying3 f9
    obtain rfl : c10 = _ := by simpa using h9
    simp only [List.drop_succ_cons, List.drop_zero, List.take_succ_cons, List.take_zero] at f10
    obtain ⟨g10, h10, x10, _⟩ := DataW.trod_string Tryd.underlying9 f10
    obtain rfl : c11 = _ := by simpa using h10
    simp only [List.drop_succ_cons, List.drop_zero, List.take_succ_cons, List.take_zero] at f11
    obtain ⟨g11, h11, x11, _⟩ := DataW.trod_string Tryd.underlying9 f11
    obtain rfl : c12 = _ := by simpa using h11
    simp only [List.drop_succ_cons, List.drop_zero, List.take_succ_cons, List.take_zero] at f12
    obtain ⟨g12, h12, x12, _⟩ := DataW.trod_string Tryd.underlying9 f12
    obtain rfl : c13 = _ := by simpa using h12
    simp only [List.drop_succ_cons, List.drop_zero, List.take_succ_cons, List.take_zero] at f13
    obtain ⟨g13, h13, _, b13⟩ := DataW.trod_int Tryd.underlying3 f13
    obtain rfl : c14 = _ := by simpa using h13
    simp only [List.drop_succ_cons, List.drop_zero, List.take_succ_cons, List.take_zero] at f14
    obtain ⟨g14, h14, _⟩ := DataW.trod_bool Tryd.underlying4 f14
    obtain rfl : c15 = _ := by simpa using h14
    simp only [List.drop_succ_cons, List.drop_zero, List.take_succ_cons, List.take_zero] at f15
    obtain ⟨g15, h15, _⟩ := DataW.trod_bool Tryd.underlying4 f15
    obtain rfl : c16 = _ := by simpa using h15
    simp only [List.drop_succ_cons, List.drop_zero, List.take_succ_cons, List.take_zero] at f16
    obtain ⟨p16, q16, m16, _, _, s16, t16⟩ := trod_struct2 Tryd.underlying36 f16
    simp only [c2, List.drop_succ_cons, List.drop_zero, List.take_succ_cons, List.take_zero] at s16 t16
    obtain ⟨g16, h16, _, b16⟩ := DataW.trod_int Tryd.underlying3 s16
    obtain ⟨g16', h16', _, b16'⟩ := DataW.trod_int Tryd.underlying3 t16
    obtain rfl : c17 = _ := by simpa using h16
    obtain rfl : c18 = _ := by simpa using h16'
    simp only [List.drop_succ_cons, List.drop_zero, List.take_succ_cons, List.take_zero] at f17
    obtain ⟨g17, h17, x17, _⟩ := DataW.trod_string Tryd.underlying9 f17
    obtain rfl : c19 = _ := by simpa using h17
    simp only [List.drop_succ_cons, List.drop_zero, List.take_succ_cons, List.take_zero] at f18
    obtain ⟨g18, h18, _, b18⟩ := DataW.trod_int Tryd.underlying3 f18
    obtain rfl : c20 = _ := by simpa using h18
    simp only [List.drop_succ_cons, List.drop_zero, List.take_succ_cons, List.take_zero] at f19
    obtain ⟨g19, h19, _, b19⟩ := DataW.trod_int Tryd.underlying3 f19
    obtain rfl : c21 = _ := by simpa using h19
    simp only [List.drop_succ_cons, List.drop_zero, List.take_succ_cons, List.take_zero] at f20
    obtain ⟨g20, h20, _, b20⟩ := DataW.trod_int Tryd.underlying3 f20
    obtain rfl : c22 = _ := by simpa using h20
    simp only [List.drop_succ_cons, List.drop_zero, List.take_succ_cons, List.take_zero] at f21
    obtain ⟨g21, h21, _, b21⟩ := DataW.trod_int Tryd.underlying3 f21
    obtain rfl : c23 = _ := by simpa using h21
    simp only [List.drop_succ_cons, List.drop_zero, List.take_succ_cons, List.take_zero] at f22
    obtain ⟨g22, h22, _, b22⟩ := DataW.trod_int Tryd.underlying3 f22
    obtain rfl : c24 = _ := by simpa using h22
    simp only [List.drop_succ_cons, List.drop_zero, List.take_succ_cons, List.take_zero] at f23
    obtain ⟨g23, h23, _⟩ := DataW.trod_bool Tryd.underlying4 f23
    obtain rfl : c25 = _ := by simpa using h23
    simp only [List.drop_succ_cons, List.drop_zero, List.take_succ_cons, List.take_zero] at f24
    obtain ⟨g24, h24, _, b24⟩ := DataW.trod_int Tryd.underlying37 f24
    obtain rfl : c26 = _ := by simpa using h24
    simp only [List.drop_succ_cons, List.drop_zero, List.take_succ_cons, List.take_zero] at f25
    obtain ⟨g25, l25, h25, K25, z25⟩ := open_labels w25 f25
    obtain rfl : c27 = _ := by simpa using h25
    simp only [List.drop_succ_cons, List.drop_zero, List.take_succ_cons, List.take_zero] at f26
    obtain ⟨g26, h26, _, b26⟩ := DataW.trod_int Tryd.underlying3 f26
    obtain rfl : c28 = _ := by simpa using h26
    simp only [List.drop_succ_cons, List.drop_zero, List.take_succ_cons, List.take_zero] at f27
    obtain ⟨g27, h27, x27, _⟩ := DataW.trod_string Tryd.underlying9 f27
    obtain rfl : c29 = _ := by simpa using h27
    simp only [List.drop_succ_cons, List.drop_zero, List.take_succ_cons, List.take_zero] at f28
    obtain ⟨g28, h28, _, b28⟩ := DataW.trod_int Tryd.underlying3 f28
    obtain rfl : c30 = _ := by simpa using h28
    simp only [List.drop_succ_cons, List.drop_zero, List.take_succ_cons, List.take_zero] at f29
    obtain ⟨g29, h29, _, b29⟩ := DataW.trod_int Tryd.underlying3 f29
    obtain rfl : c31 = _ := by simpa using h29
    refine ⟨⟨g0, g1, g2, g3, l4, g5, g5', g6, g7, g8, g9, g10, g11, g12, g13, g14, g15, g16, g16', g17, g18, g19, g20, g21, g22, g23, g24, l25, g26, g27, g28, g29⟩, c4, c27, rfl, K4, K25, ⟨?_, z4, z25⟩, ?_⟩
    · have hz : g1.data.toList.length ≤ reachBytes := w1 _ (by rw [x1]; simp [DataW.weights])
      rw [Array.length_toList] at hz
      exact hz
    · intro z hz
      simp only [Ob.ints, List.mem_cons, List.not_mem_nil, or_false] at hz
      rcases hz with rfl | rfl | rfl | rfl | rfl | rfl | rfl | rfl | rfl | rfl | rfl | rfl | rfl | rfl | rfl | rfl | rfl
      all_goals (first | exact bounds_i64 b0 | exact bounds_i64 b2 | exact bounds_i64 b3 | exact bounds_i64 b5 | exact bounds_i64 b5' | exact bounds_i64 b9 | exact bounds_i64 b13 | exact bounds_i64 b16 | exact bounds_i64 b16' | exact bounds_i64 b18 | exact bounds_i64 b19 | exact bounds_i64 b20 | exact bounds_i64 b21 | exact bounds_i64 b22 | exact bounds_i64 b26 | exact bounds_i64 b28 | exact bounds_i64 b29)
set_option maxRecDepth 100000 in
theorem open_objs {fuel : Nat} {cs : List Value} {x : DataW H × List MemPlace} (hw : ∀ n ∈ x.1.weights Tryd.prog 22, n ≤ reachBytes) (h : DataW.trod enc Tryd.prog W base spare held fuel 22 cs = some x) :
    ∃ A c l, cs = [.slice A l.length c] ∧ l.length ≤ c ∧ kO.C W A l.length l ∧ (∀ o ∈ l, ObFits o ∧ ObInts o) ∧ l.length * 312 ≤ 140737488351232 := by
  rcases Deep.open_slice Tryd.underlying22 h with ⟨hcs, hx⟩ | ⟨a, len, cap, m, n, D, Pl, hcs, hb, hl, hm, hmm, hx, hc⟩
  · subst hcs
    exact ⟨none, 0, [], rfl, Nat.le_refl _, Kd.C_nil _ _, fun o ho => absurd ho List.not_mem_nil, by simp⟩
  · subst hcs
    subst hx
    have hlm : len ≤ m := by rw [hmm]; split <;> omega
    have z : (len + (m - len)) * Tryd.prog.bytesOf 39 ≤ reachBytes := hw _ (by
      unfold DataW.weights
      rw [Tryd.underlying22]
      simp)
    rw [show Tryd.prog.bytesOf 39 = 312 by kernel_rfl] at z
    unfold reachBytes at z
    have each : ∀ i, i < len → ∃ q : Ob × Value × Value, LabK W q.1.labels q.2.1 ∧ LabK W q.1.select q.2.2 ∧ (∀ j u, (q.1.cells q.2.1 q.2.2)[j]? = some u → W.cell? (a.add (i * 32 + j)) = some u) ∧ ObFits q.1 ∧ ObInts q.1 := by
      intro i hi
      obtain ⟨cs', h1, h2⟩ := hc i (by omega)
      rw [show Tryd.prog.cellsOf 39 = 32 by kernel_rfl] at h1
      obtain ⟨_, hlen, hcell⟩ := World.cells?_some h1
      obtain ⟨o, v4, v27, rfl, k4, k27, hf, hi'⟩ := open_obj (x := (D i, Pl i)) (fun n hn => hw n (by
        unfold DataW.weights
        rw [Tryd.underlying22]
        refine List.mem_cons_of_mem _ (List.mem_append.2 (.inl ?_))
        exact weights_mem_all (j := i) (d := D i) (by simp [hi]) n hn)) h2
      refine ⟨(o, v4, v27), k4, k27, fun j u hu => ?_, hf, hi'⟩
      have hj : j < 32 := by
        have := (Array.getElem?_eq_some_iff.1 hu).1
        rwa [Ob.cells_size] at this
      have := hcell j hj
      rw [add_add] at this
      rw [this]
      simpa using hu
    haveI : Inhabited (Ob × Value × Value) := ⟨(Ob.zero, .slice none 0 0, .slice none 0 0)⟩
    obtain ⟨f, hf'⟩ := Deep.choose_lt each
    have hlen : ((List.range len).map fun i => (f i).1).length = len := by simp
    refine ⟨some a, cap, (List.range len).map fun i => (f i).1, by rw [hlen], by rw [hlen]; exact hl, ?_, ?_, by rw [hlen]; omega⟩
    · rw [hlen]
      refine ⟨hlen, by omega, fun _ => ⟨a, rfl, fun j p hj => ?_⟩⟩
      have hjl : j < len := by have := (List.getElem?_eq_some_iff.1 hj).1; rw [hlen] at this; exact this
      have hp : (f j).1 = p := by simpa [List.getElem?_range hjl] using hj
      subst hp
      obtain ⟨k4, k27, hcell, _, _⟩ := hf' j hjl
      exact ⟨((f j).1.cells (f j).2.1 (f j).2.2).toList, by rw [Array.length_toList, Ob.cells_size]; rfl, ⟨_, _, rfl, k4, k27⟩, fun i u hu => hcell i u (by simpa using hu)⟩
    · intro o ho
      obtain ⟨j, hj, rfl⟩ := List.mem_map.1 ho
      exact ⟨(hf' j (List.mem_range.1 hj)).2.2.2.1, (hf' j (List.mem_range.1 hj)).2.2.2.2⟩
theorem open_intV {r : Reach} {b0 : Nat} {v : Value} {d : DataW H} {ps : List MemPlace} (hval : Value.okWide Tryd.prog W r b0 3 v) (h : DataW.Trod enc Tryd.prog W base spare held 3 v d ps) : ∃ z, v = .int .i64 z ∧ -9223372036854775808 ≤ z ∧ z ≤ 9223372036854775807 := by
  obtain ⟨fuel, hf⟩ := h
  obtain ⟨z, e, _, wb⟩ := DataW.trod_int Tryd.underlying3 hf
  obtain ⟨n, rfl⟩ := okWide_int Tryd.underlying3 hval
  simp [Value.cells] at e
  subst e
  exact ⟨_, rfl, bounds_i64 wb⟩
end
end Go.Proofs.YtiaggfjfgoiafaaDoor

/- Fleets: their four lists. -/
namespace Go.Proofs.YtiaggfjfgoiafaaDoor
open Go.RowKit Go.Proofs.YtiaggfjfgoiafaaDoorW.PrintWords Go.Proofs.YtiaggfjfgoiafaaDoorW.PrintLast
theorem R_off {α : Type} {d : Kd α} {e base g : Nat} {w w1 : World} {v : Value} {xs : List α} (h : d.R e w base (fun _ => True) v xs) (hb : g < base) (hk : ∀ k, k ≠ g → w1.heap[k]? = w.heap[k]?) : d.R e w1 base (fun _ => True) v xs :=
  Kd.R_mono (Kd.R_move (Kd.R_bound h) (fun k hk' => hk k (by have := hk'.2.1; omega))) (fun _ _ => trivial)
theorem infoF4 : (Tryd.prog.info? 24).map (·.size) = some 4 := by kernel_rfl
structure F4 where
  A0 : Option Addr
  A1 : Option Addr
  A2 : Option Addr
  A3 : Option Addr
  n0 : Nat
  n1 : Nat
  n2 : Nat
  n3 : Nat
  c0 : Nat
  c1 : Nat
  c2 : Nat
  c3 : Nat
  l0 : List Ob
  l1 : List Ob
  l2 : List Ob
  l3 : List Ob
def F4.v (f : F4) : Array Value := #[.slice f.A0 f.n0 f.c0, .slice f.A1 f.n1 f.c1, .slice f.A2 f.n2 f.c2, .slice f.A3 f.n3 f.c3]
structure F4.At (d : Kd Ob) (w : World) (f : F4) : Prop where
  a0 : d.C w f.A0 f.n0 f.l0
  a1 : d.C w f.A1 f.n1 f.l1
  a2 : d.C w f.A2 f.n2 f.l2
  a3 : d.C w f.A3 f.n3 f.l3
theorem F4.At.below {d : Kd Ob} {w w1 : World} {f : F4} (h : F4.At d w f) (hb : Below w.heap.size w w1) : F4.At d w1 f := ⟨Kd.C_below h.a0 hb, Kd.C_below h.a1 hb, Kd.C_below h.a2 hb, Kd.C_below h.a3 hb⟩
structure F4.Ok (f : F4) : Prop where
  n0 : f.n0 ≤ 451081693433
  n1 : f.n1 ≤ 451081693433
  n2 : f.n2 ≤ 451081693433
  n3 : f.n3 ≤ 451081693433
  f0 : ∀ o ∈ f.l0, ObFits o ∧ ObInts o
  f1 : ∀ o ∈ f.l1, ObFits o ∧ ObInts o
  f2 : ∀ o ∈ f.l2, ObFits o ∧ ObInts o
  f3 : ∀ o ∈ f.l3, ObFits o ∧ ObInts o
theorem heap_alloc_at4 (W : World) (o : Obj) (n : Nat) (h : n = W.heap.size) : (W.alloc o).heap[n]? = some o := by subst h; exact heap_alloc_new W o
end Go.Proofs.YtiaggfjfgoiafaaDoor

/- flotillalaw23.wide: where it answers false, there are no more nodes and pods than the statement speaks of. -/
namespace Go.Proofs.YtiaggfjfgoiafaaDoor
open Go.RowKit Go.Proofs.YtiaggfjfgoiafaaDoorW.PrintWords Go.Proofs.YtiaggfjfgoiafaaDoorW.PrintLast
def WideP (n0 n1 : Nat) (w : World) (e : Ending) (w' : World) : Prop := ∃ b : Bool, e = .returned (.bool b) ∧ (b = false → n0 ≤ 100 ∧ n1 ≤ 100) ∧ Below w.heap.size w w'
set_option maxHeartbeats 2000000 in
set_option maxRecDepth 100000 in
theorem wide_calls (v2 v3 : Value) (A0 A1 : Option Addr) (c0 c1 n0 n1 : Nat) (l0 l1 : List Ob) (w : World) (h0 : kO.C w A0 n0 l0) (h1 : kO.C w A1 n1 l1) :
    Calls Tryd.prog 5 #[.agg #[.slice A0 n0 c0, .slice A1 n1 c1, v2, v3]] w (WideP n0 n1 w) := by
  obtain ⟨W0, hW0⟩ : ∃ x, x = w.alloc (Obj.cells #[.slice A0 n0 c0, .slice A1 n1 c1, v2, v3] 24) := ⟨_, rfl⟩
  have hn0 : W0.heap[w.heap.size]? = some (.cells #[.slice A0 n0 c0, .slice A1 n1 c1, v2, v3] 24 (0, 0)) := by rw [hW0]; exact heap_alloc_new w _
  have q0 : W0.cell? ⟨w.heap.size, 0, none⟩ = some (.slice A0 n0 c0) := cell_of_row _ _ 0 _ _ _ hn0
  have q1 : W0.cell? ⟨w.heap.size, 1, none⟩ = some (.slice A1 n1 c1) := cell_of_row _ _ 1 _ _ _ hn0
  have HB0 : Hid (Below w.heap.size w W0) := Lib.hid (by rw [hW0]; exact below_alloc (Below.refl w.heap.size w) _)
  have H0 := Lib.hid (And.intro (Kd.C_below h0 HB0.out) (Kd.C_below h1 HB0.out))
  clear h0 h1 hn0
  replace hW0 := Lib.hid hW0
  by_cases ha : 100 < n0
  · have g0 : ((100 : Int) < (n0 : Int)) := by omega
    go_enter Tryd.func5, Tryd.ntmps5
    go_wp2_with (first
      | ((with_reducible refine gate_ (.load 22 (.tmp 4)) rfl ?_); rw [← hW0.out]; clear hW0; (with_reducible refine wpList_load1_w 22 (.tmp 4) rfl ⟨w.heap.size, 0, none⟩ ?la ?lb (.slice A0 n0 c0) _ ?lc Tryd.underlying22 rfl ?_); (case la => rfl); (case lb => rfl); (case lc => exact q0)))
    go_ret
    exact ⟨true, rfl, (fun h => by cases h), HB0.out⟩
  · by_cases hb : 100 < n1
    · have g0 : ¬ ((100 : Int) < (n0 : Int)) := by omega
      have g1 : ((100 : Int) < (n1 : Int)) := by omega
      go_enter Tryd.func5, Tryd.ntmps5
      go_wp2_with (first
        | ((with_reducible refine gate_ (.load 22 (.tmp 4)) rfl ?_); rw [← hW0.out]; clear hW0; (with_reducible refine wpList_load1_w 22 (.tmp 4) rfl ⟨w.heap.size, 0, none⟩ ?la ?lb (.slice A0 n0 c0) _ ?lc Tryd.underlying22 rfl ?_); (case la => rfl); (case lb => rfl); (case lc => exact q0)))
      go_ret
      exact ⟨true, rfl, (fun h => by cases h), HB0.out⟩
    · have g0 : ¬ ((100 : Int) < (n0 : Int)) := by omega
      have g1 : ¬ ((100 : Int) < (n1 : Int)) := by omega
      have HN : Hid (n0 ≤ 100 ∧ n1 ≤ 100) := Lib.hid ⟨by omega, by omega⟩
      go_enter Tryd.func5, Tryd.ntmps5
      go_wp2_with (first
        | ((with_reducible refine gate_ (.load 22 (.tmp 4)) rfl ?_); rw [← hW0.out]; clear hW0; (with_reducible refine wpList_load1_w 22 (.tmp 4) rfl ⟨w.heap.size, 0, none⟩ ?la ?lb (.slice A0 n0 c0) _ ?lc Tryd.underlying22 rfl ?_); (case la => rfl); (case lb => rfl); (case lc => exact q0)))
      go_loop [3] (fun v3 => ∃ k : Nat, k ≤ n1 ∧ v3 = .int .i64 k) (fun v3 => n1 - (intOf v3).toNat)
      case atStart => exact ⟨0, Nat.zero_le _, rfl⟩
      case round =>
        obtain ⟨j, hj, rfl⟩ := hrel
        by_cases hjn : j < n1
        · obtain ⟨o, ho⟩ : ∃ o, l1[j]? = some o := ⟨_, List.getElem?_eq_getElem (by have := H0.out.2.1; omega)⟩
          obtain ⟨ad, v4, v27, hA, hO⟩ := objAt H0.out.2 j o ho
          subst hA
          have d1 := hO.field 1 (by decide) (u := .string o.name) rfl
          have hlk : (j : Int) < (n1 : Int) := by omega
          obtain ⟨nm, hnm⟩ : ∃ s, s = o.name := ⟨_, rfl⟩
          rw [← hnm] at d1
          clear hO ho hnm
          by_cases hs : 1000 < nm.size
          · have g3 : ((1000 : Int) < (nm.size : Int)) := by omega
            go_wp2
            go_ret
            exact ⟨true, rfl, (fun h => by cases h), HB0.out⟩
          · have g3 : ¬ ((1000 : Int) < (nm.size : Int)) := by omega
            go_wp2
            go_round
            case rel => exact ⟨j + 1, by omega, by go_num⟩
            case measure => simp [intOf]; omega
        · obtain rfl : j = n1 := by omega
          go_wp2
          go_ret
          exact ⟨false, rfl, fun _ => HN.out, HB0.out⟩
end Go.Proofs.YtiaggfjfgoiafaaDoor

/- LentFleet walked. -/
namespace Go.Proofs.YtiaggfjfgoiafaaDoor
open Go.RowKit Go.Proofs.YtiaggfjfgoiafaaDoorW.PrintWords Go.Proofs.YtiaggfjfgoiafaaDoorW.PrintLast
set_option maxHeartbeats 4000000 in
set_option maxRecDepth 100000 in
theorem lentFleet_calls (f : F4) (w : World) (h : F4.At kO w f) (hok : F4.Ok f) :
    Calls Tryd.prog 6 #[.agg f.v] w fun e w' => ∃ B0 b0 B1 b1 B2 b2 B3 b3, e = .returned (.agg #[.slice B0 f.n0 f.n0, .slice B1 f.n1 f.n1, .slice B2 f.n2 f.n2, .slice B3 f.n3 f.n3]) ∧ (kLent.R 39 w' w.heap.size (fun _ => True) (.slice B0 f.n0 b0) f.l0 ∧ kLent.R 39 w' w.heap.size (fun _ => True) (.slice B1 f.n1 b1) f.l1 ∧ kLent.R 39 w' w.heap.size (fun _ => True) (.slice B2 f.n2 b2) f.l2 ∧ kLent.R 39 w' w.heap.size (fun _ => True) (.slice B3 f.n3 b3) f.l3) ∧ Below w.heap.size w w' := by
  obtain ⟨A0, A1, A2, A3, n0, n1, n2, n3, c0, c1, c2, c3, l0, l1, l2, l3⟩ := f
  have Q0 : Hid (∀ W : World, Below w.heap.size w W → Calls Tryd.prog 19 #[.slice A0 n0 c0] W fun e w' => ∃ A' c', e = .returned (.slice A' n0 n0) ∧ kLent.R 39 w' W.heap.size (fun _ => True) (.slice A' n0 c') l0 ∧ Below W.heap.size W w') := Lib.hid (fun W hW => lentObjects_R A0 c0 n0 l0 W (by have := Kd.C_below h.a0 hW; rw [show l0.length = n0 from h.a0.1]; exact this) h.a0.1 hok.n0 (fun o ho => (hok.f0 o ho).1))
  have Q1 : Hid (∀ W : World, Below w.heap.size w W → Calls Tryd.prog 19 #[.slice A1 n1 c1] W fun e w' => ∃ A' c', e = .returned (.slice A' n1 n1) ∧ kLent.R 39 w' W.heap.size (fun _ => True) (.slice A' n1 c') l1 ∧ Below W.heap.size W w') := Lib.hid (fun W hW => lentObjects_R A1 c1 n1 l1 W (by have := Kd.C_below h.a1 hW; rw [show l1.length = n1 from h.a1.1]; exact this) h.a1.1 hok.n1 (fun o ho => (hok.f1 o ho).1))
  have Q2 : Hid (∀ W : World, Below w.heap.size w W → Calls Tryd.prog 19 #[.slice A2 n2 c2] W fun e w' => ∃ A' c', e = .returned (.slice A' n2 n2) ∧ kLent.R 39 w' W.heap.size (fun _ => True) (.slice A' n2 c') l2 ∧ Below W.heap.size W w') := Lib.hid (fun W hW => lentObjects_R A2 c2 n2 l2 W (by have := Kd.C_below h.a2 hW; rw [show l2.length = n2 from h.a2.1]; exact this) h.a2.1 hok.n2 (fun o ho => (hok.f2 o ho).1))
  have Q3 : Hid (∀ W : World, Below w.heap.size w W → Calls Tryd.prog 19 #[.slice A3 n3 c3] W fun e w' => ∃ A' c', e = .returned (.slice A' n3 n3) ∧ kLent.R 39 w' W.heap.size (fun _ => True) (.slice A' n3 c') l3 ∧ Below W.heap.size W w') := Lib.hid (fun W hW => lentObjects_R A3 c3 n3 l3 W (by have := Kd.C_below h.a3 hW; rw [show l3.length = n3 from h.a3.1]; exact this) h.a3.1 hok.n3 (fun o ho => (hok.f3 o ho).1))
  clear h hok
  have HM := Lib.hid (Eq.refl 0)
  simp only [F4.v]
  go_enter Tryd.func6, Tryd.ntmps6
  go_wp2_with (first
    | ((with_reducible refine gate_ (.load 22 (.tmp 4)) rfl ?_); clear HM; (have HB : Hid (Below w.heap.size w (((w.alloc (Obj.cells #[.slice A0 n0 c0, .slice A1 n1 c1, .slice A2 n2 c2, .slice A3 n3 c3] 24)).alloc (Obj.cells #[.slice none 0 0, .slice none 0 0, .slice none 0 0, .slice none 0 0] 24)).alloc (Obj.cells #[.slice none 0 0, .slice none 0 0, .slice none 0 0, .slice none 0 0] 24))) := Lib.hid (below_alloc (below_alloc (below_alloc (Below.refl _ _) _) _) _)); (have BA : Hid ((((w.alloc (Obj.cells #[.slice A0 n0 c0, .slice A1 n1 c1, .slice A2 n2 c2, .slice A3 n3 c3] 24)).alloc (Obj.cells #[.slice none 0 0, .slice none 0 0, .slice none 0 0, .slice none 0 0] 24)).alloc (Obj.cells #[.slice none 0 0, .slice none 0 0, .slice none 0 0, .slice none 0 0] 24)).heap[w.heap.size]? = some (.cells #[.slice A0 n0 c0, .slice A1 n1 c1, .slice A2 n2 c2, .slice A3 n3 c3] 24 (0, 0))) := Lib.hid (blkB (below_alloc (below_alloc (Below.refl _ _) _) _) (heap_alloc_new w _))); (have BC : Hid ((((w.alloc (Obj.cells #[.slice A0 n0 c0, .slice A1 n1 c1, .slice A2 n2 c2, .slice A3 n3 c3] 24)).alloc (Obj.cells #[.slice none 0 0, .slice none 0 0, .slice none 0 0, .slice none 0 0] 24)).alloc (Obj.cells #[.slice none 0 0, .slice none 0 0, .slice none 0 0, .slice none 0 0] 24)).heap[w.heap.size + 1]? = some (.cells #[.slice none 0 0, .slice none 0 0, .slice none 0 0, .slice none 0 0] 24 (0, 0))) := Lib.hid (blkB (below_alloc (Below.refl _ _) _) (heap_alloc2_new w _ _))); (have BX : Hid ((((w.alloc (Obj.cells #[.slice A0 n0 c0, .slice A1 n1 c1, .slice A2 n2 c2, .slice A3 n3 c3] 24)).alloc (Obj.cells #[.slice none 0 0, .slice none 0 0, .slice none 0 0, .slice none 0 0] 24)).alloc (Obj.cells #[.slice none 0 0, .slice none 0 0, .slice none 0 0, .slice none 0 0] 24)).heap[w.heap.size + 2]? = some (.cells #[.slice none 0 0, .slice none 0 0, .slice none 0 0, .slice none 0 0] 24 (0, 0))) := Lib.hid (heap_alloc_at4 _ _ _ (by simp))); (generalize (((w.alloc (Obj.cells #[.slice A0 n0 c0, .slice A1 n1 c1, .slice A2 n2 c2, .slice A3 n3 c3] 24)).alloc (Obj.cells #[.slice none 0 0, .slice none 0 0, .slice none 0 0, .slice none 0 0] 24)).alloc (Obj.cells #[.slice none 0 0, .slice none 0 0, .slice none 0 0, .slice none 0 0] 24)) = W0 at HB BA BC BX ⊢); obtain ⟨ga, hga⟩ : ∃ x, x = w.heap.size := ⟨_, rfl⟩; obtain ⟨gc, hgc⟩ : ∃ x, x = w.heap.size + 1 := ⟨_, rfl⟩; obtain ⟨gx, hgx⟩ : ∃ x, x = w.heap.size + 2 := ⟨_, rfl⟩; rw [← hgx] at BX ⊢; rw [← hgc] at BC ⊢; rw [← hga] at BA ⊢; (have HN : Hid (w.heap.size ≤ ga ∧ w.heap.size ≤ gc ∧ w.heap.size ≤ gx ∧ ga ≠ gx ∧ gc ≠ gx ∧ ga ≠ gc ∧ gx < W0.heap.size ∧ gc < W0.heap.size) := Lib.hid ⟨by omega, by omega, by omega, by omega, by omega, by omega, blkLt BX.out, blkLt BC.out⟩); have HW0 := Lib.hid (Nat.le_refl W0.heap.size); clear hga hgc hgx)
    | ((with_reducible refine wpList_load1_w (op := ⟨some 5, _, _, _, _, _⟩) 22 (.tmp 4) rfl ⟨ga, 0, none⟩ ?la0 ?lb0 (.slice A0 n0 c0) _ ?lc0 Tryd.underlying22 rfl ?_); (case la0 => rfl); (case lb0 => rfl); (case lc0 => exact (cell_of_row _ _ 0 _ _ _ BA.out).trans rfl))
    | (go_at_call 19; (with_reducible refine (Q0.out _ HB.out).mono ?_); rintro e w1 ⟨B0, b0, rfl, hR, hb⟩; have HR0 := Lib.hid (Kd.R_lower hR HW0.out); clear hR; replace HW0 := Lib.hid (Nat.le_trans HW0.out hb.size); replace BA := Lib.hid (blkB hb BA.out); replace BC := Lib.hid (blkB hb BC.out); replace BX := Lib.hid (blkB hb BX.out); replace HB := Lib.hid (belT HB.out hb); clear hb)
    | ((with_reducible refine wpList_store1 rfl 22 (.tmp 7) (.tmp 6) rfl gx 0 24 #[.slice none 0 0, .slice none 0 0, .slice none 0 0, .slice none 0 0] (.slice B0 n0 n0) ?sa0 ?sb0 ?sc0 ?sd0 ?se0 ?sf0 ?sg0 ?_); (case sa0 => rfl); (case sb0 => rfl); (case sc0 => exact rfl); (case sd0 => exact BX.out); (case se0 => exact (show 0 < 4 by decide)); (case sf0 => kernel_rfl); (case sg0 => exact rfl); intro W1 BX' hk hb hz; replace BX : Hid (W1.heap[gx]? = some (.cells #[.slice B0 n0 n0, .slice none 0 0, .slice none 0 0, .slice none 0 0] 24 (0, 0))) := Lib.hid BX'; replace BA := Lib.hid ((hk _ HN.out.2.2.2.1).trans BA.out); replace BC := Lib.hid ((hk _ HN.out.2.2.2.2.1).trans BC.out); replace HR0 := Lib.hid (R_off HR0.out HN.out.2.2.2.2.2.2.1 hk); replace HB := Lib.hid (hb _ _ HB.out HN.out.2.2.1); replace HW0 : Hid (W0.heap.size ≤ W1.heap.size) := Lib.hid (by have := HW0.out; omega); clear BX' hk hb hz)
    | ((with_reducible refine wpList_load1_w (op := ⟨some 9, _, _, _, _, _⟩) 22 (.tmp 8) rfl ⟨ga, 1, none⟩ ?la1 ?lb1 (.slice A1 n1 c1) _ ?lc1 Tryd.underlying22 rfl ?_); (case la1 => rfl); (case lb1 => rfl); (case lc1 => exact (cell_of_row _ _ 1 _ _ _ BA.out).trans rfl))
    | (go_at_call 19; (with_reducible refine (Q1.out _ HB.out).mono ?_); rintro e w2 ⟨B1, b1, rfl, hR, hb⟩; have HR1 := Lib.hid (Kd.R_lower hR HW0.out); clear hR; replace HR0 := Lib.hid (Kd.R_below HR0.out hb); replace HW0 := Lib.hid (Nat.le_trans HW0.out hb.size); replace BA := Lib.hid (blkB hb BA.out); replace BC := Lib.hid (blkB hb BC.out); replace BX := Lib.hid (blkB hb BX.out); replace HB := Lib.hid (belT HB.out hb); clear hb)
    | ((with_reducible refine wpList_store1 rfl 22 (.tmp 11) (.tmp 10) rfl gx 1 24 #[.slice B0 n0 n0, .slice none 0 0, .slice none 0 0, .slice none 0 0] (.slice B1 n1 n1) ?sa1 ?sb1 ?sc1 ?sd1 ?se1 ?sf1 ?sg1 ?_); (case sa1 => rfl); (case sb1 => rfl); (case sc1 => exact rfl); (case sd1 => exact BX.out); (case se1 => exact (show 1 < 4 by decide)); (case sf1 => kernel_rfl); (case sg1 => exact rfl); intro W2 BX' hk hb hz; replace BX : Hid (W2.heap[gx]? = some (.cells #[.slice B0 n0 n0, .slice B1 n1 n1, .slice none 0 0, .slice none 0 0] 24 (0, 0))) := Lib.hid BX'; replace BA := Lib.hid ((hk _ HN.out.2.2.2.1).trans BA.out); replace BC := Lib.hid ((hk _ HN.out.2.2.2.2.1).trans BC.out); replace HR0 := Lib.hid (R_off HR0.out HN.out.2.2.2.2.2.2.1 hk); replace HR1 := Lib.hid (R_off HR1.out HN.out.2.2.2.2.2.2.1 hk); replace HB := Lib.hid (hb _ _ HB.out HN.out.2.2.1); replace HW0 : Hid (W0.heap.size ≤ W2.heap.size) := Lib.hid (by have := HW0.out; omega); clear BX' hk hb hz)
    | ((with_reducible refine wpList_load1_w (op := ⟨some 13, _, _, _, _, _⟩) 22 (.tmp 12) rfl ⟨ga, 2, none⟩ ?la2 ?lb2 (.slice A2 n2 c2) _ ?lc2 Tryd.underlying22 rfl ?_); (case la2 => rfl); (case lb2 => rfl); (case lc2 => exact (cell_of_row _ _ 2 _ _ _ BA.out).trans rfl))
    | (go_at_call 19; (with_reducible refine (Q2.out _ HB.out).mono ?_); rintro e w3 ⟨B2, b2, rfl, hR, hb⟩; have HR2 := Lib.hid (Kd.R_lower hR HW0.out); clear hR; replace HR0 := Lib.hid (Kd.R_below HR0.out hb); replace HR1 := Lib.hid (Kd.R_below HR1.out hb); replace HW0 := Lib.hid (Nat.le_trans HW0.out hb.size); replace BA := Lib.hid (blkB hb BA.out); replace BC := Lib.hid (blkB hb BC.out); replace BX := Lib.hid (blkB hb BX.out); replace HB := Lib.hid (belT HB.out hb); clear hb)
    | ((with_reducible refine wpList_store1 rfl 22 (.tmp 15) (.tmp 14) rfl gx 2 24 #[.slice B0 n0 n0, .slice B1 n1 n1, .slice none 0 0, .slice none 0 0] (.slice B2 n2 n2) ?sa2 ?sb2 ?sc2 ?sd2 ?se2 ?sf2 ?sg2 ?_); (case sa2 => rfl); (case sb2 => rfl); (case sc2 => exact rfl); (case sd2 => exact BX.out); (case se2 => exact (show 2 < 4 by decide)); (case sf2 => kernel_rfl); (case sg2 => exact rfl); intro W3 BX' hk hb hz; replace BX : Hid (W3.heap[gx]? = some (.cells #[.slice B0 n0 n0, .slice B1 n1 n1, .slice B2 n2 n2, .slice none 0 0] 24 (0, 0))) := Lib.hid BX'; replace BA := Lib.hid ((hk _ HN.out.2.2.2.1).trans BA.out); replace BC := Lib.hid ((hk _ HN.out.2.2.2.2.1).trans BC.out); replace HR0 := Lib.hid (R_off HR0.out HN.out.2.2.2.2.2.2.1 hk); replace HR1 := Lib.hid (R_off HR1.out HN.out.2.2.2.2.2.2.1 hk); replace HR2 := Lib.hid (R_off HR2.out HN.out.2.2.2.2.2.2.1 hk); replace HB := Lib.hid (hb _ _ HB.out HN.out.2.2.1); replace HW0 : Hid (W0.heap.size ≤ W3.heap.size) := Lib.hid (by have := HW0.out; omega); clear BX' hk hb hz)
    | ((with_reducible refine wpList_load1_w (op := ⟨some 17, _, _, _, _, _⟩) 22 (.tmp 16) rfl ⟨ga, 3, none⟩ ?la3 ?lb3 (.slice A3 n3 c3) _ ?lc3 Tryd.underlying22 rfl ?_); (case la3 => rfl); (case lb3 => rfl); (case lc3 => exact (cell_of_row _ _ 3 _ _ _ BA.out).trans rfl))
    | (go_at_call 19; (with_reducible refine (Q3.out _ HB.out).mono ?_); rintro e w4 ⟨B3, b3, rfl, hR, hb⟩; have HR3 := Lib.hid (Kd.R_lower hR HW0.out); clear hR; replace HR0 := Lib.hid (Kd.R_below HR0.out hb); replace HR1 := Lib.hid (Kd.R_below HR1.out hb); replace HR2 := Lib.hid (Kd.R_below HR2.out hb); replace HW0 := Lib.hid (Nat.le_trans HW0.out hb.size); replace BA := Lib.hid (blkB hb BA.out); replace BC := Lib.hid (blkB hb BC.out); replace BX := Lib.hid (blkB hb BX.out); replace HB := Lib.hid (belT HB.out hb); clear hb)
    | ((with_reducible refine wpList_store1 rfl 22 (.tmp 19) (.tmp 18) rfl gx 3 24 #[.slice B0 n0 n0, .slice B1 n1 n1, .slice B2 n2 n2, .slice none 0 0] (.slice B3 n3 n3) ?sa3 ?sb3 ?sc3 ?sd3 ?se3 ?sf3 ?sg3 ?_); (case sa3 => rfl); (case sb3 => rfl); (case sc3 => exact rfl); (case sd3 => exact BX.out); (case se3 => exact (show 3 < 4 by decide)); (case sf3 => kernel_rfl); (case sg3 => exact rfl); intro W4 BX' hk hb hz; replace BX : Hid (W4.heap[gx]? = some (.cells #[.slice B0 n0 n0, .slice B1 n1 n1, .slice B2 n2 n2, .slice B3 n3 n3] 24 (0, 0))) := Lib.hid BX'; replace BA := Lib.hid ((hk _ HN.out.2.2.2.1).trans BA.out); replace BC := Lib.hid ((hk _ HN.out.2.2.2.2.1).trans BC.out); replace HR0 := Lib.hid (R_off HR0.out HN.out.2.2.2.2.2.2.1 hk); replace HR1 := Lib.hid (R_off HR1.out HN.out.2.2.2.2.2.2.1 hk); replace HR2 := Lib.hid (R_off HR2.out HN.out.2.2.2.2.2.2.1 hk); replace HR3 := Lib.hid (R_off HR3.out HN.out.2.2.2.2.2.2.1 hk); replace HB := Lib.hid (hb _ _ HB.out HN.out.2.2.1); replace HW0 : Hid (W0.heap.size ≤ W4.heap.size) := Lib.hid (by have := HW0.out; omega); clear BX' hk hb hz)
    | ((with_reducible refine wpList_load_blk (op := ⟨some 20, _, _, _, _, _⟩) rfl 24 (.tmp 3) rfl gx 24 ?l1 #[.slice B0 n0 n0, .slice B1 n1 n1, .slice B2 n2 n2, .slice B3 n3 n3] _ ?l2 Tryd.underlying24 ?l3 ?l4 ?_); (case l1 => rfl); (case l2 => exact BX.out); (case l3 => rfl); (case l4 => exact infoF4))
    | ((with_reducible refine wpList_store_blk rfl 24 (.tmp 2) (.tmp 20) rfl gc 24 #[.slice none 0 0, .slice none 0 0, .slice none 0 0, .slice none 0 0] #[.slice B0 n0 n0, .slice B1 n1 n1, .slice B2 n2 n2, .slice B3 n3 n3] ?y1 ?y2 ?y3 ?y4 ?y5 ?y6 ?_); (case y1 => rfl); (case y2 => rfl); (case y3 => exact BC.out); (case y4 => exact infoF4); (case y5 => rfl); (case y6 => exact (by simp [Value.oneCell'])); intro W5 BC' hk hb hz; replace HR0 := Lib.hid (R_off HR0.out HN.out.2.2.2.2.2.2.2 hk); replace HR1 := Lib.hid (R_off HR1.out HN.out.2.2.2.2.2.2.2 hk); replace HR2 := Lib.hid (R_off HR2.out HN.out.2.2.2.2.2.2.2 hk); replace HR3 := Lib.hid (R_off HR3.out HN.out.2.2.2.2.2.2.2 hk); replace HB := Lib.hid (hb _ _ HB.out HN.out.2.1); clear hk hb hz))
  refine bodyPost_ret (v := .agg #[.slice B0 n0 n0, .slice B1 n1 n1, .slice B2 n2 n2, .slice B3 n3 n3]) (results_cell_row (p := 2) (ty := 24) rfl _ _ gc 24 #[.slice B0 n0 n0, .slice B1 n1 n1, .slice B2 n2 n2, .slice B3 n3 n3] (0, 0) _ (by rfl) BC' Tryd.underlying24 rfl infoF4) rfl ?_
  exact ⟨B0, b0, B1, b1, B2, b2, B3, b3, rfl, ⟨Kd.R_lower HR0.out (Nat.le_trans HN.out.2.2.1 (Nat.le_of_lt HN.out.2.2.2.2.2.2.1)), Kd.R_lower HR1.out (Nat.le_trans HN.out.2.2.1 (Nat.le_of_lt HN.out.2.2.2.2.2.2.1)), Kd.R_lower HR2.out (Nat.le_trans HN.out.2.2.1 (Nat.le_of_lt HN.out.2.2.2.2.2.2.1)), Kd.R_lower HR3.out (Nat.le_trans HN.out.2.2.1 (Nat.le_of_lt HN.out.2.2.2.2.2.2.1))⟩, HB.out⟩
end Go.Proofs.YtiaggfjfgoiafaaDoor

/- Labels and objects that were lent: are they as they were? -/
namespace Go.Proofs.YtiaggfjfgoiafaaDoor
open Go.RowKit Go.Proofs.YtiaggfjfgoiafaaDoorW.PrintWords Go.Proofs.YtiaggfjfgoiafaaDoorW.PrintLast
section
attribute [local go_sem high] eqLab
theorem labAt {w : World} {b : Addr} {n k : Nat} {xs : List Lab} {p : Lab} (h : kL.C w (some b) n xs) (hp : xs[k]? = some p) :
    w.cell? (b.add (k * 2)) = some (.string p.f0) ∧ w.cell? ⟨(b.add (k * 2)).block, (b.add (k * 2)).off + 1, none⟩ = some (.string p.f1) := by
  have hk : k < xs.length := (List.getElem?_eq_some_iff.1 hp).1
  have hn := h.1
  obtain ⟨ad, e, h0, h1⟩ := QLb.at_T56 h (k : Int) (by omega) (by omega)
  obtain rfl := Option.some.inj e
  have hr : QLb.rd_T56 xs (k : Int) = p := by simp [QLb.rd_T56, List.getD_eq_getElem?_getD, hp]
  rw [hr] at h0 h1
  simpa using ⟨h0, h1⟩
theorem markLabels_calls (j : Int) (w : World) : ∃ s0 s1, markL j = ⟨s0, s1⟩ ∧ Calls Tryd.prog 76 #[.int .i64 90, .int .i64 j] w fun e w' => e = .returned (.agg #[.string s0, .string s1]) ∧ Below w.heap.size w w' :=
  ⟨_, _, rfl, QLb.flotillakit_markLabels.calls 90 j _ _ w (mark_f j)⟩
set_option maxHeartbeats 1600000 in
theorem keptFullLabels (l : List Lab) (b0 : Addr) (A1 : Option Addr) (c0 c1 n0 : Nat) (w : World) (h0 : kL.C w (some b0) (l.length + 16) (l ++ marksL)) (h1 : kL.C w A1 l.length l) (hn0 : n0 = l.length + 16) (hbd : l.length ≤ 4398046510976) :
    Calls Tryd.prog 69 #[.slice (some b0) n0 c0, .slice A1 l.length c1] w fun e w' => e = .returned (.bool true) ∧ Below w.heap.size w w' := by
  rw [← hn0] at h0
  have H0 := Lib.hid h0
  have H1 := Lib.hid h1
  have e1 : ((n0 : Int) != (l.length : Int) + 16) = false := by simp; omega
  have hk16 : n0 ≤ l.length + 16 := by omega
  have hk17 : l.length + 16 ≤ n0 := by omega
  clear h0 h1 hn0
  go_enter Tryd.func69, Tryd.ntmps69
  go_wp2
  go_loopw [5] (fun v5 wr => ∃ k : Nat, k ≤ n0 ∧ v5 = .int .i64 k ∧ Below w.heap.size w wr) (fun v5 _ => n0 - (intOf v5).toNat)
  case atStart => exact ⟨0, Nat.zero_le _, rfl, Below.refl _ _⟩
  case round =>
    obtain ⟨k, hk, rfl, hB⟩ := hrel
    have hC0 : Hid (kL.C wr (some b0) n0 (l ++ marksL)) := Lib.hid (Kd.C_below H0.out hB)
    have hC1 : Hid (kL.C wr A1 l.length l) := Lib.hid (Kd.C_below H1.out hB)
    by_cases hlt : k < n0
    · obtain ⟨s0, s1, hm, QM⟩ := markLabels_calls ((k : Int) - (l.length : Int)) wr
      by_cases hl1 : k < l.length
      · obtain ⟨p, hp⟩ : ∃ p, l[k]? = some p := ⟨l[k], List.getElem?_eq_getElem hl1⟩
        have hp0 : Hid ((l ++ marksL)[k]? = some p) := Lib.hid (by rw [List.getElem?_append_left hl1]; exact hp)
        have hp1 : Hid (l[k]? = some p) := Lib.hid hp
        have HQ := Lib.hid QM
        clear hp hm QM
        obtain ⟨b1, rfl⟩ : ∃ b1, A1 = some b1 := by obtain ⟨ad, e, _⟩ := hC1.out.2.2 (by omega); exact ⟨ad, e⟩
        go_wp2_with (go_at_call 76; refine HQ.out.mono ?_; rintro e w1 ⟨rfl, hb1⟩; have q0 := fun X => (labAt (Kd.C_below hC0.out (below_alloc hb1 X)) hp0.out).1; have q1 := fun X => (labAt (Kd.C_below hC0.out (below_alloc hb1 X)) hp0.out).2; have r0 := fun X => (labAt (Kd.C_below hC1.out (below_alloc hb1 X)) hp1.out).1; have r1 := fun X => (labAt (Kd.C_below hC1.out (below_alloc hb1 X)) hp1.out).2)
        go_quiet (fail)
        go_wp2
        go_roundw
        case rel => exact ⟨k + 1, by omega, by go_num, hB.trans ((pw_below_drewN (below_alloc hb1 _) _).mono hB.size)⟩
        case measure => simp [intOf]; omega
      · have hp0 : Hid ((l ++ marksL)[k]? = some ⟨s0, s1⟩) := Lib.hid (by
          rw [List.getElem?_append_right (by omega), marksN_at 16 _ (by omega), ← hm]
          have e : ((k - l.length : Nat) : Int) = (k : Int) - (l.length : Int) := by omega
          rw [e])
        have HQ := Lib.hid QM
        clear hm QM
        go_wp2_with (go_at_call 76; refine HQ.out.mono ?_; rintro e w1 ⟨rfl, hb1⟩; have q0 := fun X => (labAt (Kd.C_below hC0.out (below_alloc hb1 X)) hp0.out).1; have q1 := fun X => (labAt (Kd.C_below hC0.out (below_alloc hb1 X)) hp0.out).2)
        go_quiet (fail)
        go_wp2
        go_roundw
        case rel => exact ⟨k + 1, by omega, by go_num, hB.trans ((pw_below_drewN (below_alloc hb1 _) _).mono hB.size)⟩
        case measure => simp [intOf]; omega
    · go_wp2
      go_ret
      exact ⟨rfl, hB⟩
theorem keptLabels_calls {w : World} {l : List Lab} {v u : Value} (h : LentK w l v) (g : LabK w l u) (hbd : l.length ≤ 4398046510976) :
    Calls Tryd.prog 54 #[v, u] w fun e w' => e = .returned (.bool true) ∧ Below w.heap.size w w' := by
  obtain ⟨b0, c0, rfl, hc0, h0⟩ := h
  obtain ⟨A1, c1, rfl, hc1', h1⟩ := g
  have hc1 : (l.length : Int) + 16 ≤ (c0 : Int) := by omega
  have hn : ((l.length : Int) + 16).toNat = l.length + 16 := by omega
  have HC := Lib.hid (keptFullLabels l b0 A1 c0 c1 (l.length + 16) w h0 h1 rfl hbd)
  clear h0 h1 hc0
  go_enter Tryd.func54, Tryd.ntmps54
  go_wp2_with (go_at_call 69; refine HC.out.mono ?_; rintro e w1 ⟨rfl, hb1⟩)
  go_ret
  exact ⟨rfl, hb1⟩
end
end Go.Proofs.YtiaggfjfgoiafaaDoor

/- Objects that were lent: are they as they were? -/
namespace Go.Proofs.YtiaggfjfgoiafaaDoor
open Go.RowKit Go.Proofs.YtiaggfjfgoiafaaDoorW.PrintWords Go.Proofs.YtiaggfjfgoiafaaDoorW.PrintLast
set_option maxRecDepth 100000 in
set_option maxHeartbeats 1000000 in
theorem keptObject_calls (o : Ob) (v4 v27 u4 u27 : Value) (w : World) (l4 : LentK w o.labels v4) (l27 : LentK w o.select v27) (m4 : LabK w o.labels u4) (m27 : LabK w o.select u27) (hf : ObFits o) :
    Calls Tryd.prog 40 #[.agg (o.cells v4 v27), .agg (o.cells u4 u27)] w fun e w' => e = .returned (.bool true) ∧ Below w.heap.size w w' := by
  obtain ⟨cs, hcs⟩ : ∃ cs, cs = o.cells v4 v27 := ⟨_, rfl⟩
  obtain ⟨ds, hds⟩ : ∃ ds, ds = o.cells u4 u27 := ⟨_, rfl⟩
  have QB := Lib.hid (fun (W : World) (hW : Below w.heap.size w W) => sameObject_calls o o v4 v27 u4 u27 W (l4.below hW).lab (l27.below hW).lab (m4.below hW) (m27.below hW))
  rw [(sameB_iff o o).2 rfl] at QB
  rw [← hcs, ← hds] at QB ⊢
  have QL4 := Lib.hid (fun (W : World) (hW : Below w.heap.size w W) => keptLabels_calls (l4.below hW) (m4.below hW) hf.2.1)
  have QL27 := Lib.hid (fun (W : World) (hW : Below w.heap.size w W) => keptLabels_calls (l27.below hW) (m27.below hW) hf.2.2)
  have Hcs := Lib.hid hcs
  have Hds := Lib.hid hds
  have hi1 : Hid ((Tryd.prog.info? 39).map (·.size) = some cs.size) := Lib.hid (by rw [hcs, Ob.cells_size]; kernel_rfl)
  have hi2 : Hid ((Tryd.prog.info? 39).map (·.size) = some ds.size) := Lib.hid (by rw [hds, Ob.cells_size]; kernel_rfl)
  clear hcs hds l4 l27 m4 m27 hf
  have HM := Lib.hid (Eq.refl 0)
  go_enter Tryd.func40, Tryd.ntmps40
  go_wp2_with (first
    | ((with_reducible refine gate_ (.load 39 (.tmp 2)) rfl ?_); clear HM; (have HW : Below w.heap.size w ((w.alloc (Obj.cells cs 39)).alloc (Obj.cells ds 39)) := (Go.Joins.below_alloc2 w _ _)); (have B1 : ((w.alloc (Obj.cells cs 39)).alloc (Obj.cells ds 39)).heap[w.heap.size]? = some (.cells cs 39 (0, 0)) := (heap_alloc_old _ _ (by simp)).trans (heap_alloc_new w _)); (have B2 : ((w.alloc (Obj.cells cs 39)).alloc (Obj.cells ds 39)).heap[w.heap.size + 1]? = some (.cells ds 39 (0, 0)) := heap_alloc2_new w _ _); (generalize ((w.alloc (Obj.cells cs 39)).alloc (Obj.cells ds 39)) = W0 at HW B1 B2 ⊢); obtain ⟨ga, hga⟩ : ∃ x, x = w.heap.size := ⟨_, rfl⟩; obtain ⟨gb, hgb⟩ : ∃ x, x = w.heap.size + 1 := ⟨_, rfl⟩; rw [← hgb] at B2 ⊢; rw [← hga] at B1 ⊢; clear hga hgb)
    | ((with_reducible refine wpList_load_blk_w 39 (.tmp 2) rfl ga 39 ?l0 ?l1 cs _ ?l2 Tryd.underlying39 ?l3 ?l4 ?_); (case l0 => rfl); (case l1 => rfl); (case l2 => exact B1); (case l3 => rfl); (case l4 => exact hi1.out))
    | ((with_reducible refine wpList_load_blk_w 39 (.tmp 3) rfl gb 39 ?l0 ?l1 ds _ ?l2 Tryd.underlying39 ?l3 ?l4 ?_); (case l0 => rfl); (case l1 => rfl); (case l2 => exact B2); (case l3 => rfl); (case l4 => exact hi2.out))
    | ((with_reducible refine gate_ (.load 34 _) rfl ?_); first | refine wpList_load1_w 34 _ rfl ⟨ga, 4, none⟩ rfl rfl v4 _ (((cell_of_row _ _ 4 _ _ _ B1).trans (by rw [Hcs.out]; rfl))) Tryd.underlying34 rfl ?_ | refine wpList_load1_w 34 _ rfl ⟨ga, 27, none⟩ rfl rfl v27 _ (((cell_of_row _ _ 27 _ _ _ B1).trans (by rw [Hcs.out]; rfl))) Tryd.underlying34 rfl ?_ | refine wpList_load1_w 34 _ rfl ⟨gb, 4, none⟩ rfl rfl u4 _ (((cell_of_row _ _ 4 _ _ _ B2).trans (by rw [Hds.out]; rfl))) Tryd.underlying34 rfl ?_ | refine wpList_load1_w 34 _ rfl ⟨gb, 27, none⟩ rfl rfl u27 _ (((cell_of_row _ _ 27 _ _ _ B2).trans (by rw [Hds.out]; rfl))) Tryd.underlying34 rfl ?_)
    | (go_at_call 16; (with_reducible refine (QB.out _ HW).mono ?_); rintro e w1 ⟨rfl, hb⟩; replace B1 := blkB hb B1; replace B2 := blkB hb B2; replace HW := belT HW hb; clear hb)
    | (go_at_call 54; (with_reducible first | refine (QL4.out _ HW).mono ?_ | refine (QL27.out _ HW).mono ?_); rintro e w1 ⟨rfl, hb⟩; replace B1 := blkB hb B1; replace B2 := blkB hb B2; replace HW := belT HW hb; clear hb))
  go_ret
  exact ⟨rfl, HW⟩
structure LentAt (w : World) (ad : Addr) (k : Nat) (o : Ob) (v4 v27 : Value) : Prop where
  l4 : LentK w o.labels v4
  l27 : LentK w o.select v27
  cells : ∀ (j : Nat) (u : Value), (o.cells v4 v27)[j]? = some u → w.cell? ((ad.add (k * 32)).add j) = some u
theorem lentAt {w : World} {A : Option Addr} {n : Nat} {l : List Ob} (h : kLent.C w A n l) (k : Nat) (o : Ob) (hk : l[k]? = some o) : ∃ ad v4 v27, A = some ad ∧ LentAt w ad k o v4 v27 := by
  have hl := (List.getElem?_eq_some_iff.1 hk).1
  obtain ⟨ad, e, hc⟩ := h.2.2 (by have := h.1; omega)
  obtain ⟨c, hs, ⟨v4, v27, rfl, h4, h27⟩, hcell⟩ := hc k o hk
  exact ⟨ad, v4, v27, e, h4, h27, fun j u hu => by rw [add_add]; exact hcell j u (by simpa using hu)⟩
def rg25_6_T : Bool × List (List Nat × List Nat) := (true, [([], []), ([], []), ([0, 1], [0, 1]), ([2], [2]), ([], []), ([], []), ([4, 5], [4, 5]), ([6], [6]), ([3, 7], [3, 7]), ([8], [8])])
def rg25_6_B : List Nat := [0, 0, 3, 7, 0, 0, 48, 112, 255, 511]
theorem rg25_6_tab : rtab .any (opsOf Tryd.f25 6) = rg25_6_T := by kernel_rfl
theorem rg25_6_bits : waitsOk rg25_6_T.2 rg25_6_B = true := by kernel_rfl
set_option maxHeartbeats 1600000 in
set_option maxRecDepth 100000 in
theorem keptObjects_big (A B : Option Addr) (l : List Ob) (c d n : Nat) (w : World) (hr : kLent.C w A n l) (hs : kO.C w B n l) (hl : l.length = n) (hn : n ≤ 451081693433) (hf : ∀ o ∈ l, ObFits o) :
    Calls Tryd.prog 25 #[.slice A n c, .slice B n d] w fun e w' => e = .returned (.bool true) ∧ Below w.heap.size w w' := by
  have HR := Lib.hid hr
  have HS := Lib.hid hs
  have HL := Lib.hid hl
  have HF := Lib.hid hf
  clear hr hs hl hf
  go_enter Tryd.func25, Tryd.ntmps25
  go_wp2
  go_loopw [5] (fun v5 wr => ∃ k : Nat, k ≤ n ∧ v5 = .int .i64 k ∧ Hid (Below w.heap.size w wr)) (fun v5 _ => n - (intOf v5).toNat)
  case atStart => exact ⟨0, Nat.zero_le _, rfl, Lib.hid (Below.refl _ _)⟩
  case round =>
    obtain ⟨k, hk, rfl, hI⟩ := hrel
    by_cases hlt : k < n
    · obtain ⟨o, ho⟩ : ∃ o, l[k]? = some o := ⟨_, List.getElem?_eq_getElem (by have := HL.out; omega)⟩
      obtain ⟨ad, v4, v27, rfl, hO⟩ := lentAt (Kd.C_below HR.out hI.out) k o ho
      obtain ⟨bd, u4, u27, rfl, hP⟩ := objAt (Kd.C_below HS.out hI.out) k o ho
      obtain ⟨cs, hcs⟩ : ∃ cs, cs = o.cells v4 v27 := ⟨_, rfl⟩
      obtain ⟨ds, hds⟩ : ∃ ds, ds = o.cells u4 u27 := ⟨_, rfl⟩
      have hi1 : Hid ((Tryd.prog.info? 39).map (·.size) = some cs.size) := Lib.hid (by rw [hcs, Ob.cells_size]; kernel_rfl)
      have hi2 : Hid ((Tryd.prog.info? 39).map (·.size) = some ds.size) := Lib.hid (by rw [hds, Ob.cells_size]; kernel_rfl)
      have B1 := hO.cells
      have B2 := hP.cells
      rw [← hcs] at B1
      rw [← hds] at B2
      have QS := Lib.hid (fun (W : World) (hW : Below wr.heap.size wr W) => keptObject_calls o v4 v27 u4 u27 W (hO.l4.below hW) (hO.l27.below hW) (hP.l4.below hW) (hP.l27.below hW) (HF.out o (List.mem_of_getElem? ho)))
      rw [← hcs, ← hds] at QS
      replace B1 := Lib.hid (fun (W : World) (hW : Below wr.heap.size wr W) j u hu => cell_below hW (B1 j u hu))
      replace B2 := Lib.hid (fun (W : World) (hW : Below wr.heap.size wr W) j u hu => cell_below hW (B2 j u hu))
      clear ho hcs hds hO hP
      have HB : Below wr.heap.size wr wr := Below.refl _ _
      replace HB := below_drew HB
      have hlk : (k : Int) < (n : Int) := by omega
      go_upto_region 6 with (fail)
      refine start_ (n := 10) (S := fun w' => Below wr.heap.size wr w') (ds := []) (bs 10 0) (by kernel_rfl) rfl (by kernel_rfl) HB (fun hHeld => ?_)
      refine with_tabW rg25_6_tab rg25_6_bits (fun HT_ HW_ => ?_)
      refine pu 0 (some 17) (bs 10 1) HT_ rfl rfl (by kernel_rfl) (fun _ _ _ _ h => h) ⟨_, .inl ⟨by rfl, fun _ => by go_simp; with_reducible rfl⟩, _, by simp only [Act.put, sA, sB, sC, i64_w, i32_w]; rfl, ?_⟩
      refine pu 1 (some 18) (bs 10 3) HT_ rfl rfl (by kernel_rfl) (fun _ _ _ _ h => h) ⟨_, .inl ⟨by rfl, fun _ => by go_simp; with_reducible rfl⟩, _, by simp only [Act.put, sA, sB, sC, i64_w, i32_w]; rfl, ?_⟩
      refine pu 2 (some 19) (bs 10 7) HT_ rfl rfl (by kernel_rfl) (fun _ _ _ _ h => h) ⟨_, .inl ⟨by rfl, fun _ => by go_simp; with_reducible rfl⟩, _, by simp only [Act.put, sA, sB, sC, i64_w, i32_w]; rfl, ?_⟩
      refine pu 4 (some 21) (bs 10 23) HT_ rfl rfl (by kernel_rfl) (fun _ _ _ _ h => h) ⟨_, .inl ⟨by rfl, fun _ => by go_simp; with_reducible rfl⟩, _, by simp only [Act.put, sA, sB, sC, i64_w, i32_w]; rfl, ?_⟩
      refine pu 5 (some 22) (bs 10 55) HT_ rfl rfl (by kernel_rfl) (fun _ _ _ _ h => h) ⟨_, .inl ⟨by rfl, fun _ => by go_simp; with_reducible rfl⟩, _, by simp only [Act.put, sA, sB, sC, i64_w, i32_w]; rfl, ?_⟩
      refine pu 6 (some 23) (bs 10 119) HT_ rfl rfl (by kernel_rfl) (fun _ _ _ _ h => h) ⟨_, .inl ⟨by rfl, fun _ => by go_simp; with_reducible rfl⟩, _, by simp only [Act.put, sA, sB, sC, i64_w, i32_w]; rfl, ?_⟩
      refine tk 3 (some 20) (bs 10 127) HT_ HW_ rfl rfl (by kernel_rfl) (fun _ _ _ _ h => h) hHeld ⟨_, .inl ⟨by rfl, by rintro w' s0; refine load_any_ (x := .tmp 19) (p := ad.add (k * 32)) ?_ ?_ (B1.out _ s0) Tryd.underlying39 rfl hi1.out <;> rfl⟩, _, by simp only [Act.put, sA, sB, sC, i64_w, i32_w]; rfl, ?_⟩
      refine tk 7 (some 24) (bs 10 255) HT_ HW_ rfl rfl (by kernel_rfl) (fun _ _ _ _ h => h) hHeld ⟨_, .inl ⟨by rfl, by rintro w' s0; refine load_any_ (x := .tmp 23) (p := bd.add (k * 32)) ?_ ?_ (B2.out _ s0) Tryd.underlying39 rfl hi2.out <;> rfl⟩, _, by simp only [Act.put, sA, sB, sC, i64_w, i32_w]; rfl, ?_⟩
      refine on1 8 (some 25) (bs 10 511) HT_ rfl rfl (by kernel_rfl) (by decide) (fun K hK => ?_)
      refine goes_ Tryd.func40 (by kernel_rfl) rfl #[.agg cs, .agg ds] (by rfl) rfl rfl (by (try simp only [List.map_toArray, List.map_cons, List.map_nil]); first | done | rfl) ?_
      with_reducible refine (QS.out _ HB).mono ?_
      rintro e w1 ⟨rfl, hb⟩
      replace HB := belT HB hb
      clear hb
      refine ⟨_, rfl, ?_⟩
      refine hK.out _ _ HB (fun hHeld => ?_)
      clear hK K
      refine nm ⟨_, show Act.put _ (some 25) _ = _ by simp only [Act.put, sA, sB, sC, i64_w, i32_w]; rfl, ?_⟩
      refine pu 9 (some 26) (bs 10 1023) HT_ rfl rfl (by kernel_rfl) (fun _ _ _ _ h => h) ⟨_, .inl ⟨by rfl, fun _ => by go_simp; with_reducible rfl⟩, _, by simp only [Act.put, sA, sB, sC, i64_w, i32_w]; rfl, ?_⟩
      refine done_ (done_of HT_.out (by kernel_rfl)) ?_
      go_wp2
      go_roundw
      case rel => exact ⟨k + 1, by omega, by go_num, Lib.hid (belT hI.out HB)⟩
      case measure => simp [intOf]; omega
    · obtain rfl : n = k := by omega
      go_wp2
      go_ret
      exact ⟨rfl, hI.out⟩
end Go.Proofs.YtiaggfjfgoiafaaDoor

/- KeptFleet walked. -/
namespace Go.Proofs.YtiaggfjfgoiafaaDoor
open Go.RowKit Go.Proofs.YtiaggfjfgoiafaaDoorW.PrintWords Go.Proofs.YtiaggfjfgoiafaaDoorW.PrintLast
set_option maxHeartbeats 4000000 in
set_option maxRecDepth 100000 in
theorem keptFleet_calls (f g : F4) (w : World) (h : F4.At kLent w g) (h' : F4.At kO w f) (hl : g.l0 = f.l0 ∧ g.l1 = f.l1 ∧ g.l2 = f.l2 ∧ g.l3 = f.l3) (hn : g.n0 = f.n0 ∧ g.n1 = f.n1 ∧ g.n2 = f.n2 ∧ g.n3 = f.n3) (hok : F4.Ok f) :
    Calls Tryd.prog 10 #[.agg g.v, .agg f.v] w fun e w' => e = .returned (.bool true) ∧ Below w.heap.size w w' := by
  obtain ⟨A0, A1, A2, A3, n0, n1, n2, n3, c0, c1, c2, c3, l0, l1, l2, l3⟩ := f
  obtain ⟨B0, B1, B2, B3, m0, m1, m2, m3, d0, d1, d2, d3, k0, k1, k2, k3⟩ := g
  obtain ⟨e0, e1, e2, e3⟩ := hl
  obtain ⟨p0, p1, p2, p3⟩ := hn
  simp only at e0 e1 e2 e3 p0 p1 p2 p3
  subst e0 e1 e2 e3 p0 p1 p2 p3
  have Q0 : Hid (∀ W : World, Below w.heap.size w W → Calls Tryd.prog 25 #[.slice B0 m0 d0, .slice A0 m0 c0] W fun e w' => e = .returned (.bool true) ∧ Below W.heap.size W w') := Lib.hid (fun W hW => keptObjects_big B0 A0 k0 d0 c0 m0 W (Kd.C_below h.a0 hW) (Kd.C_below h'.a0 hW) h.a0.1 hok.n0 (fun o ho => (hok.f0 o ho).1))
  have Q1 : Hid (∀ W : World, Below w.heap.size w W → Calls Tryd.prog 25 #[.slice B1 m1 d1, .slice A1 m1 c1] W fun e w' => e = .returned (.bool true) ∧ Below W.heap.size W w') := Lib.hid (fun W hW => keptObjects_big B1 A1 k1 d1 c1 m1 W (Kd.C_below h.a1 hW) (Kd.C_below h'.a1 hW) h.a1.1 hok.n1 (fun o ho => (hok.f1 o ho).1))
  have Q2 : Hid (∀ W : World, Below w.heap.size w W → Calls Tryd.prog 25 #[.slice B2 m2 d2, .slice A2 m2 c2] W fun e w' => e = .returned (.bool true) ∧ Below W.heap.size W w') := Lib.hid (fun W hW => keptObjects_big B2 A2 k2 d2 c2 m2 W (Kd.C_below h.a2 hW) (Kd.C_below h'.a2 hW) h.a2.1 hok.n2 (fun o ho => (hok.f2 o ho).1))
  have Q3 : Hid (∀ W : World, Below w.heap.size w W → Calls Tryd.prog 25 #[.slice B3 m3 d3, .slice A3 m3 c3] W fun e w' => e = .returned (.bool true) ∧ Below W.heap.size W w') := Lib.hid (fun W hW => keptObjects_big B3 A3 k3 d3 c3 m3 W (Kd.C_below h.a3 hW) (Kd.C_below h'.a3 hW) h.a3.1 hok.n3 (fun o ho => (hok.f3 o ho).1))
  clear h h' hok
  have HM := Lib.hid (Eq.refl 0)
  simp only [F4.v]
  go_enter Tryd.func10, Tryd.ntmps10
  go_wp2_with (first
    | ((with_reducible refine gate_ (.load 22 (.tmp 5)) rfl ?_); clear HM; (have HB : Hid (Below w.heap.size w ((w.alloc (Obj.cells #[.slice B0 m0 d0, .slice B1 m1 d1, .slice B2 m2 d2, .slice B3 m3 d3] 24)).alloc (Obj.cells #[.slice A0 m0 c0, .slice A1 m1 c1, .slice A2 m2 c2, .slice A3 m3 c3] 24))) := Lib.hid (Go.Joins.below_alloc2 w _ _)); (have BA : Hid (((w.alloc (Obj.cells #[.slice B0 m0 d0, .slice B1 m1 d1, .slice B2 m2 d2, .slice B3 m3 d3] 24)).alloc (Obj.cells #[.slice A0 m0 c0, .slice A1 m1 c1, .slice A2 m2 c2, .slice A3 m3 c3] 24)).heap[w.heap.size]? = some (.cells #[.slice B0 m0 d0, .slice B1 m1 d1, .slice B2 m2 d2, .slice B3 m3 d3] 24 (0, 0))) := Lib.hid ((heap_alloc_old _ _ (by simp)).trans (heap_alloc_new w _))); (have BC : Hid (((w.alloc (Obj.cells #[.slice B0 m0 d0, .slice B1 m1 d1, .slice B2 m2 d2, .slice B3 m3 d3] 24)).alloc (Obj.cells #[.slice A0 m0 c0, .slice A1 m1 c1, .slice A2 m2 c2, .slice A3 m3 c3] 24)).heap[w.heap.size + 1]? = some (.cells #[.slice A0 m0 c0, .slice A1 m1 c1, .slice A2 m2 c2, .slice A3 m3 c3] 24 (0, 0))) := Lib.hid (heap_alloc2_new w _ _)); (generalize ((w.alloc (Obj.cells #[.slice B0 m0 d0, .slice B1 m1 d1, .slice B2 m2 d2, .slice B3 m3 d3] 24)).alloc (Obj.cells #[.slice A0 m0 c0, .slice A1 m1 c1, .slice A2 m2 c2, .slice A3 m3 c3] 24)) = W0 at HB BA BC ⊢); obtain ⟨ga, hga⟩ : ∃ x, x = w.heap.size := ⟨_, rfl⟩; obtain ⟨gc, hgc⟩ : ∃ x, x = w.heap.size + 1 := ⟨_, rfl⟩; rw [← hgc] at BC ⊢; rw [← hga] at BA ⊢; clear hga hgc)
    | ((with_reducible refine wpList_load1_w (op := ⟨some 6, _, _, _, _, _⟩) 22 (.tmp 5) rfl ⟨ga, 0, none⟩ ?la0 ?lb0 (.slice B0 m0 d0) _ ?lc0 Tryd.underlying22 rfl ?_); (case la0 => rfl); (case lb0 => rfl); (case lc0 => exact (cell_of_row _ _ 0 _ _ _ BA.out).trans rfl))
    | ((with_reducible refine wpList_load1_w (op := ⟨some 8, _, _, _, _, _⟩) 22 (.tmp 7) rfl ⟨gc, 0, none⟩ ?ma0 ?mb0 (.slice A0 m0 c0) _ ?mc0 Tryd.underlying22 rfl ?_); (case ma0 => rfl); (case mb0 => rfl); (case mc0 => exact (cell_of_row _ _ 0 _ _ _ BC.out).trans rfl))
    | (go_at_call 25; (with_reducible refine (Q0.out _ HB.out).mono ?_); rintro e w1 ⟨rfl, hb⟩; replace BA := Lib.hid (blkB hb BA.out); replace BC := Lib.hid (blkB hb BC.out); replace HB := Lib.hid (belT HB.out hb); clear hb)
    | ((with_reducible refine wpList_load1_w (op := ⟨some 12, _, _, _, _, _⟩) 22 (.tmp 11) rfl ⟨ga, 1, none⟩ ?la1 ?lb1 (.slice B1 m1 d1) _ ?lc1 Tryd.underlying22 rfl ?_); (case la1 => rfl); (case lb1 => rfl); (case lc1 => exact (cell_of_row _ _ 1 _ _ _ BA.out).trans rfl))
    | ((with_reducible refine wpList_load1_w (op := ⟨some 14, _, _, _, _, _⟩) 22 (.tmp 13) rfl ⟨gc, 1, none⟩ ?ma1 ?mb1 (.slice A1 m1 c1) _ ?mc1 Tryd.underlying22 rfl ?_); (case ma1 => rfl); (case mb1 => rfl); (case mc1 => exact (cell_of_row _ _ 1 _ _ _ BC.out).trans rfl))
    | (go_at_call 25; (with_reducible refine (Q1.out _ HB.out).mono ?_); rintro e w2 ⟨rfl, hb⟩; replace BA := Lib.hid (blkB hb BA.out); replace BC := Lib.hid (blkB hb BC.out); replace HB := Lib.hid (belT HB.out hb); clear hb)
    | ((with_reducible refine wpList_load1_w (op := ⟨some 19, _, _, _, _, _⟩) 22 (.tmp 18) rfl ⟨ga, 2, none⟩ ?la2 ?lb2 (.slice B2 m2 d2) _ ?lc2 Tryd.underlying22 rfl ?_); (case la2 => rfl); (case lb2 => rfl); (case lc2 => exact (cell_of_row _ _ 2 _ _ _ BA.out).trans rfl))
    | ((with_reducible refine wpList_load1_w (op := ⟨some 21, _, _, _, _, _⟩) 22 (.tmp 20) rfl ⟨gc, 2, none⟩ ?ma2 ?mb2 (.slice A2 m2 c2) _ ?mc2 Tryd.underlying22 rfl ?_); (case ma2 => rfl); (case mb2 => rfl); (case mc2 => exact (cell_of_row _ _ 2 _ _ _ BC.out).trans rfl))
    | (go_at_call 25; (with_reducible refine (Q2.out _ HB.out).mono ?_); rintro e w3 ⟨rfl, hb⟩; replace BA := Lib.hid (blkB hb BA.out); replace BC := Lib.hid (blkB hb BC.out); replace HB := Lib.hid (belT HB.out hb); clear hb)
    | ((with_reducible refine wpList_load1_w (op := ⟨some 26, _, _, _, _, _⟩) 22 (.tmp 25) rfl ⟨ga, 3, none⟩ ?la3 ?lb3 (.slice B3 m3 d3) _ ?lc3 Tryd.underlying22 rfl ?_); (case la3 => rfl); (case lb3 => rfl); (case lc3 => exact (cell_of_row _ _ 3 _ _ _ BA.out).trans rfl))
    | ((with_reducible refine wpList_load1_w (op := ⟨some 28, _, _, _, _, _⟩) 22 (.tmp 27) rfl ⟨gc, 3, none⟩ ?ma3 ?mb3 (.slice A3 m3 c3) _ ?mc3 Tryd.underlying22 rfl ?_); (case ma3 => rfl); (case mb3 => rfl); (case mc3 => exact (cell_of_row _ _ 3 _ _ _ BC.out).trans rfl))
    | (go_at_call 25; (with_reducible refine (Q3.out _ HB.out).mono ?_); rintro e w4 ⟨rfl, hb⟩; replace BA := Lib.hid (blkB hb BA.out); replace BC := Lib.hid (blkB hb BC.out); replace HB := Lib.hid (belT HB.out hb); clear hb))
  go_ret
  exact ⟨rfl, HB.out⟩
end Go.Proofs.YtiaggfjfgoiafaaDoor

/- AgentLife walked: what is asked for is the document's; the fleet stays. -/
namespace Go.Proofs.YtiaggfjfgoiafaaDoor
open Go.RowKit Go.Proofs.YtiaggfjfgoiafaaDoorW.PrintWords Go.Proofs.YtiaggfjfgoiafaaDoorW.PrintLast
theorem S_at_k {w : World} {base : Nat} {v : Value} {xs : List Rq} {k : Nat} (h : Kd.S kRq 42 w base (fun _ => True) v xs) (hk : xs.length = k) : ∃ A c, v = .slice A k c ∧ kRq.C w A k xs := by
  obtain ⟨A, c, rfl⟩ := Kd.S_slice h
  have h3 := (Kd.S_reads' h).2.2
  rw [hk] at h3
  exact ⟨A, c, by rw [hk], h3⟩
theorem same_rqs {A B : Option Addr} {l : List Rq} {k c d : Nat} {w : World} (hr : kRq.C w A k l) (hs : kRq.C w B k l) (hl : l.length = k) (hn : k ≤ 1000000) :
    Calls Tryd.prog 7 #[.slice A k c, .slice B k d] w fun e w' => e = .returned (.bool true) ∧ Below w.heap.size w w' := by
  subst hl
  have h := sameReqs_calls A B l l c d w hr hs hn
  rw [decide_eq_true rfl] at h
  exact h
theorem lent_at {w2 : World} {B0 B1 B2 B3 : Option Addr} {n0 n1 n2 n3 b0 b1 b2 b3 base : Nat} {l0 l1 l2 l3 : List Ob} (h0 : kLent.R 39 w2 base (fun _ => True) (.slice B0 n0 b0) l0) (h1 : kLent.R 39 w2 base (fun _ => True) (.slice B1 n1 b1) l1)
    (h2 : kLent.R 39 w2 base (fun _ => True) (.slice B2 n2 b2) l2) (h3 : kLent.R 39 w2 base (fun _ => True) (.slice B3 n3 b3) l3) {m0 m1 m2 m3 : Nat} : F4.At kLent w2 ⟨B0, B1, B2, B3, n0, n1, n2, n3, m0, m1, m2, m3, l0, l1, l2, l3⟩ := by
  refine ⟨?_, ?_, ?_, ?_⟩
  · have := (Kd.R_reads' h0); have h := this.2.2; rw [← this.1] at h; exact h
  · have := (Kd.R_reads' h1); have h := this.2.2; rw [← this.1] at h; exact h
  · have := (Kd.R_reads' h2); have h := this.2.2; rw [← this.1] at h; exact h
  · have := (Kd.R_reads' h3); have h := this.2.2; rw [← this.1] at h; exact h
def AL (w : World) (e : Ending) (w' : World) : Prop := e = .returned (.bool true) ∧ Below w.heap.size w w'
def rg3_4_T : Bool × List (List Nat × List Nat) := (true, [([], []), ([], []), ([0, 1], [0, 1]), ([], []), ([], []), ([3, 4, 2], [3, 4]), ([2, 5, 5], [2, 5]), ([6, 6], [6]), ([7], [7]), ([7], [7]), ([8, 9, 7, 7], [7, 8, 9]), ([7, 10], [7, 10]), ([11, 10, 0, 1, 2, 3, 4, 5, 6, 7, 8, 9, 10, 11], [11])])
def rg3_4_B : List Nat := [0, 0, 3, 0, 0, 31, 63, 127, 255, 255, 1023, 2047, 4095]
theorem rg3_4_tab : rtab .any (opsOf Tryd.f3 4) = rg3_4_T := by kernel_rfl
theorem rg3_4_bits : waitsOk rg3_4_T.2 rg3_4_B = true := by kernel_rfl
set_option maxHeartbeats 16000000 in
set_option maxRecDepth 100000 in
theorem agentLife_calls (f : F4) (z : Int) (w : World) (h : F4.At kO w f) (hok : F4.Ok f) :
    Calls Tryd.prog 3 #[.agg f.v, .int .i64 z] w (AL w) := by
  have QWd := Lib.hid (fun W (hW : Below w.heap.size w W) => wide_calls (.slice f.A2 f.n2 f.c2) (.slice f.A3 f.n3 f.c3) f.A0 f.A1 f.c0 f.c1 f.n0 f.n1 f.l0 f.l1 W (Kd.C_below h.a0 hW) (Kd.C_below h.a1 hW))
  have QLn : Hid (∀ W, Below w.heap.size w W → Calls Tryd.prog 6 #[.agg #[.slice f.A0 f.n0 f.c0, .slice f.A1 f.n1 f.c1, .slice f.A2 f.n2 f.c2, .slice f.A3 f.n3 f.c3]] W fun e w' => ∃ B0 b0 B1 b1 B2 b2 B3 b3, e = .returned (.agg #[.slice B0 f.n0 f.n0, .slice B1 f.n1 f.n1, .slice B2 f.n2 f.n2, .slice B3 f.n3 f.n3]) ∧ (kLent.R 39 w' W.heap.size (fun _ => True) (.slice B0 f.n0 b0) f.l0 ∧ kLent.R 39 w' W.heap.size (fun _ => True) (.slice B1 f.n1 b1) f.l1 ∧ kLent.R 39 w' W.heap.size (fun _ => True) (.slice B2 f.n2 b2) f.l2 ∧ kLent.R 39 w' W.heap.size (fun _ => True) (.slice B3 f.n3 b3) f.l3) ∧ Below W.heap.size W w') := Lib.hid (fun W hW => lentFleet_calls f W (h.below hW) hok)
  have QR : Hid (∀ W, Below w.heap.size w W → f.n0 ≤ 100 ∧ f.n1 ≤ 100 → Calls Tryd.prog 9 #[.agg #[.slice f.A0 f.n0 f.c0, .slice f.A1 f.n1 f.c1, .slice f.A2 f.n2 f.c2, .slice f.A3 f.n3 f.c3], .int .i64 z] W fun e w' => ∃ v, e = .returned v ∧ Kd.S kRq 42 w' W.heap.size (fun _ => True) v (lifeF f.l0 f.l1 (silB z) z) ∧ Below W.heap.size W w') := Lib.hid (fun W hW hb => refLife_calls f.A0 f.A1 f.n0 f.n1 f.c0 f.c1 _ _ f.l0 f.l1 z W rfl rfl (Kd.C_below h.a0 hW) (Kd.C_below h.a1 hW) (by omega) (by omega) (fun o ho => (hok.f1 o ho).1))
  have HH := Lib.hid (And.intro h hok)
  have HB0 := Lib.hid (below_alloc (Below.refl w.heap.size w) (Obj.cells #[.slice f.A0 f.n0 f.c0, .slice f.A1 f.n1 f.c1, .slice f.A2 f.n2 f.c2, .slice f.A3 f.n3 f.c3] 24))
  have HA0 : Hid ((w.alloc (Obj.cells #[.slice f.A0 f.n0 f.c0, .slice f.A1 f.n1 f.c1, .slice f.A2 f.n2 f.c2, .slice f.A3 f.n3 f.c3] 24)).heap[w.heap.size]? = some (.cells #[.slice f.A0 f.n0 f.c0, .slice f.A1 f.n1 f.c1, .slice f.A2 f.n2 f.c2, .slice f.A3 f.n3 f.c3] 24 (0, 0))) := Lib.hid (heap_alloc_new w _)
  obtain ⟨pl, hpl⟩ : ∃ x, x = lifeF f.l0 f.l1 (silB z) z := ⟨_, rfl⟩
  rw [← hpl] at QR
  obtain ⟨kp, hkp⟩ : ∃ x, pl.length = x := ⟨_, rfl⟩
  have HP := Lib.hid (And.intro hpl hkp)
  clear h hok hpl hkp
  simp only [F4.v]
  go_enter Tryd.func3, Tryd.ntmps3
  go_wp2_with (first
    | ((with_reducible refine wpList_load_blk (op := ⟨some 6, _, _, _, _, _⟩) rfl 24 (.tmp 2) rfl w.heap.size 24 ?a1 #[.slice f.A0 f.n0 f.c0, .slice f.A1 f.n1 f.c1, .slice f.A2 f.n2 f.c2, .slice f.A3 f.n3 f.c3] _ ?a2 Tryd.underlying24 ?a3 ?a4 ?_); (case a1 => rfl); (case a2 => exact HA0.out); (case a3 => rfl); (case a4 => exact infoF4))
    | (go_at_call 5; (with_reducible refine (QWd.out _ HB0.out).mono ?_); rintro e w1 ⟨b, rfl, hbd, hb1⟩; have HA1 := Lib.hid (blkB hb1 HA0.out); have HB1 := Lib.hid (belT HB0.out hb1); have HBD := Lib.hid hbd; clear hbd hb1; cases b)
    | ((with_reducible refine wpList_load_blk (op := ⟨some 8, _, _, _, _, _⟩) rfl 24 (.tmp 2) rfl w.heap.size 24 ?b1 #[.slice f.A0 f.n0 f.c0, .slice f.A1 f.n1 f.c1, .slice f.A2 f.n2 f.c2, .slice f.A3 f.n3 f.c3] _ ?b2 Tryd.underlying24 ?b3 ?b4 ?_); (case b1 => rfl); (case b2 => exact HA1.out); (case b3 => rfl); (case b4 => exact infoF4))
    | (go_at_call 6; (with_reducible refine (QLn.out _ HB1.out).mono ?_); rintro e w2 ⟨B0, b0, B1, b1, B2, b2, B3, b3, rfl, ⟨hR0, hR1, hR2, hR3⟩, hb2⟩; have HLf : Hid (F4.At kLent w2 ⟨B0, B1, B2, B3, f.n0, f.n1, f.n2, f.n3, f.n0, f.n1, f.n2, f.n3, f.l0, f.l1, f.l2, f.l3⟩) := Lib.hid (lent_at hR0 hR1 hR2 hR3); have HA2 := Lib.hid (blkB hb2 HA1.out); have HB2 := Lib.hid (belT HB1.out hb2); clear hR0 hR1 hR2 hR3 hb2)
    | ((with_reducible refine wpList_store_blk rfl 24 (.tmp 5) (.tmp 9) rfl w2.heap.size 24 #[.slice none 0 0, .slice none 0 0, .slice none 0 0, .slice none 0 0] #[.slice B0 f.n0 f.n0, .slice B1 f.n1 f.n1, .slice B2 f.n2 f.n2, .slice B3 f.n3 f.n3] ?s1 ?s2 ?s3 ?s4 ?s5 ?s6 ?_); (case s1 => rfl); (case s2 => rfl); (case s3 => exact heap_alloc_new _ _); (case s4 => exact infoF4); (case s5 => rfl); (case s6 => simp [Value.oneCell']); intro w3 G3 hk3 hb3 hz3; have hB23 := hb3 _ _ (below_alloc (Below.refl w2.heap.size w2) _) (Nat.le_refl _); obtain ⟨gx, hgx⟩ : ∃ g, g = w2.heap.size := ⟨_, rfl⟩; rw [← hgx] at G3 ⊢; have HX3 := Lib.hid G3; have HA3 := Lib.hid (blkB hB23 HA2.out); have HB3 := Lib.hid (belT HB2.out hB23); have HL3 := Lib.hid (HLf.out.below hB23); have HN := Lib.hid (HBD.out (by trivial)); clear G3 hk3 hb3 hz3 hB23 hgx))
  · have HKP : Hid (kp ≤ 1000000) := Lib.hid (by
      rw [← HP.out.2, HP.out.1]
      have h1 := lifeF_len f.l1 (silB z) z f.l0
      have h2 := HH.out.1.a0.1
      have h3 := HH.out.1.a1.1
      have hn := HN.out
      have h4 : f.l0.length * (1 + f.l1.length) ≤ 100 * 101 := Nat.mul_le_mul (by omega) (by omega)
      omega)
    have QA : Hid (∀ W, Below w3.heap.size w3 W → Calls Tryd.prog 8 #[.agg #[.slice B0 f.n0 f.n0, .slice B1 f.n1 f.n1, .slice B2 f.n2 f.n2, .slice B3 f.n3 f.n3], .int .i64 z] W fun e w' => ∃ v, e = .returned v ∧ Kd.S kRq 42 w' W.heap.size (fun _ => True) v pl ∧ Below W.heap.size W w') := Lib.hid (fun W hW => by
      rw [HP.out.1]
      exact life_calls B0 B1 f.n0 f.n1 f.n0 f.n1 (.slice B2 f.n2 f.n2) (.slice B3 f.n3 f.n3) f.l0 f.l1 z W rfl rfl (kLent_C (HL3.out.below hW).a0) (kLent_C (HL3.out.below hW).a1) (by have := HN.out; omega) (by have := HN.out; omega) (fun o ho => (HH.out.2.f1 o ho).1))
    have QR3 := Lib.hid (fun W (hW : Below w3.heap.size w3 W) => QR.out W (belT HB3.out hW) HN.out)
    have QKt : Hid (∀ W, Below w3.heap.size w3 W → Calls Tryd.prog 10 #[.agg #[.slice B0 f.n0 f.n0, .slice B1 f.n1 f.n1, .slice B2 f.n2 f.n2, .slice B3 f.n3 f.n3], .agg #[.slice f.A0 f.n0 f.c0, .slice f.A1 f.n1 f.c1, .slice f.A2 f.n2 f.c2, .slice f.A3 f.n3 f.c3]] W fun e w' => e = .returned (.bool true) ∧ Below W.heap.size W w') := Lib.hid (fun W hW => keptFleet_calls f ⟨B0, B1, B2, B3, f.n0, f.n1, f.n2, f.n3, f.n0, f.n1, f.n2, f.n3, f.l0, f.l1, f.l2, f.l3⟩ W (HL3.out.below hW) (HH.out.1.below (belT HB3.out hW)) ⟨rfl, rfl, rfl, rfl⟩ ⟨rfl, rfl, rfl, rfl⟩ HH.out.2)
    have HB : Below w3.heap.size w3 w3.drew := below_drew (Below.refl _ _)
    have E1 : w3.drew.heap[gx]? = some (.cells #[.slice B0 f.n0 f.n0, .slice B1 f.n1 f.n1, .slice B2 f.n2 f.n2, .slice B3 f.n3 f.n3] 24 (0, 0)) := HX3.out
    have E2 : w3.drew.heap[w.heap.size]? = some (.cells #[.slice f.A0 f.n0 f.c0, .slice f.A1 f.n1 f.c1, .slice f.A2 f.n2 f.c2, .slice f.A3 f.n3 f.c3] 24 (0, 0)) := HA3.out
    go_upto_region 4 with (fail)
    refine start_ (n := 13) (S := fun w' => Below w3.heap.size w3 w' ∧ w'.heap[gx]? = some (.cells #[.slice B0 f.n0 f.n0, .slice B1 f.n1 f.n1, .slice B2 f.n2 f.n2, .slice B3 f.n3 f.n3] 24 (0, 0)) ∧ w'.heap[w.heap.size]? = some (.cells #[.slice f.A0 f.n0 f.c0, .slice f.A1 f.n1 f.c1, .slice f.A2 f.n2 f.c2, .slice f.A3 f.n3 f.c3] 24 (0, 0))) (ds := [10]) (bs 13 0) (by kernel_rfl) rfl (by kernel_rfl) ⟨HB, E1, E2⟩ (fun hHeld => ?_)
    refine with_tabW rg3_4_tab rg3_4_bits (fun HT_ HW_ => ?_)
    refine pu 1 (some 11) (bs 13 2) HT_ rfl rfl (by kernel_rfl) (fun _ _ _ _ h => h) ⟨_, .inl ⟨by rfl, fun _ => by go_simp; with_reducible rfl⟩, _, by simp only [Act.put, sA, sB, sC, i64_w, i32_w]; rfl, ?_⟩
    refine pu 4 (some 14) (bs 13 18) HT_ rfl rfl (by kernel_rfl) (fun _ _ _ _ h => h) ⟨_, .inl ⟨by rfl, fun _ => by go_simp; with_reducible rfl⟩, _, by simp only [Act.put, sA, sB, sC, i64_w, i32_w]; rfl, ?_⟩
    refine tk 0 (some 10) (bs 13 19) HT_ HW_ rfl rfl (by kernel_rfl) (fun _ _ _ _ h => h) hHeld ⟨_, .inl ⟨by rfl, by rintro w' ⟨s0, s1, s2⟩; refine load_row (x := .tmp 5) ?_ ?_ s1 Tryd.underlying24 rfl infoF4 <;> rfl⟩, _, by simp only [Act.put, sA, sB, sC, i64_w, i32_w]; rfl, ?_⟩
    refine tk 3 (some 13) (bs 13 27) HT_ HW_ rfl rfl (by kernel_rfl) (fun _ _ _ _ h => h) hHeld ⟨_, .inl ⟨by rfl, by rintro w' ⟨s0, s1, s2⟩; refine load_row (x := .tmp 2) ?_ ?_ s2 Tryd.underlying24 rfl infoF4 <;> rfl⟩, _, by simp only [Act.put, sA, sB, sC, i64_w, i32_w]; rfl, ?_⟩
    refine join_ (σ := Value × Value) 7 (bs 13 63) (fun s => [(12, s.1), (15, s.2)]) (fun s w' => Below w3.heap.size w3 w' ∧ w'.heap[gx]? = some (.cells #[.slice B0 f.n0 f.n0, .slice B1 f.n1 f.n1, .slice B2 f.n2 f.n2, .slice B3 f.n3 f.n3] 24 (0, 0)) ∧ w'.heap[w.heap.size]? = some (.cells #[.slice f.A0 f.n0 f.c0, .slice f.A1 f.n1 f.c1, .slice f.A2 f.n2 f.c2, .slice f.A3 f.n3 f.c3] 24 (0, 0)) ∧ Kd.S kRq 42 w' w3.heap.size (fun _ => True) s.1 pl ∧ Kd.S kRq 42 w' w3.heap.size (fun _ => True) s.2 pl) ?_ ?_
    rotate_left
    · intro hCont
      refine one_ (i := 2) (N := some 12) (bs 13 31) rfl rfl (one_of HT_.out (by kernel_rfl)) (by decide) (fun K hK => ?_)
      refine goes_ Tryd.func8 (by kernel_rfl) rfl #[.agg #[.slice B0 f.n0 f.n0, .slice B1 f.n1 f.n1, .slice B2 f.n2 f.n2, .slice B3 f.n3 f.n3], .int .i64 z] (by rfl) rfl rfl (by (try simp only [List.map_toArray, List.map_cons, List.map_nil]); first | done | rfl) ?_
      with_reducible refine (QA.out _ HB).mono ?_
      rintro e w7 ⟨va, rfl, SA, hb⟩
      replace SA := Kd.S_lower SA HB.size
      replace E1 := blkB hb E1
      replace E2 := blkB hb E2
      replace HB := belT HB hb
      clear hb
      refine ⟨_, rfl, ?_⟩
      refine hK.out _ _ ⟨HB, E1, E2⟩ (fun hHeld => ?_)
      clear hK K
      refine norm_ (a' := ?_) ?_ ?_
      rotate_left
      · show Act.put _ (some 12) _ = _
        simp only [Act.put, List.setIfInBounds_toArray, List.set_cons_zero, List.set_cons_succ, i64_w, i32_w]
        rfl
      refine one_ (i := 5) (N := some 15) (bs 13 63) rfl rfl (one_of HT_.out (by kernel_rfl)) (by decide) (fun K hK => ?_)
      refine goes_ Tryd.func9 (by kernel_rfl) rfl #[.agg #[.slice f.A0 f.n0 f.c0, .slice f.A1 f.n1 f.c1, .slice f.A2 f.n2 f.c2, .slice f.A3 f.n3 f.c3], .int .i64 z] (by rfl) rfl rfl (by (try simp only [List.map_toArray, List.map_cons, List.map_nil]); first | done | rfl) ?_
      with_reducible refine (QR3.out _ HB).mono ?_
      rintro e w8 ⟨vb, rfl, SB, hb⟩
      replace SB := Kd.S_lower SB HB.size
      replace E1 := blkB hb E1
      replace E2 := blkB hb E2
      replace SA := (by first | exact Kd.S_below SA hb | exact SA)
      replace HB := belT HB hb
      clear hb
      refine ⟨_, rfl, ?_⟩
      refine hK.out _ _ ⟨HB, E1, E2⟩ (fun hHeld => ?_)
      clear hK K
      refine norm_ (a' := ?_) ?_ ?_
      rotate_left
      · show Act.put _ (some 15) _ = _
        simp only [Act.put, List.setIfInBounds_toArray, List.set_cons_zero, List.set_cons_succ, i64_w, i32_w]
        rfl
      exact norm_ (by simp only [putAll, Act.put, List.setIfInBounds_toArray, List.set_cons_zero, List.set_cons_succ]) (hCont (va, vb) _ ⟨HB, E1, E2, SA, SB⟩)
    rintro ⟨va, vb⟩ w4 ⟨HB, E1, E2, SA, SB⟩
    simp only at SA SB
    obtain ⟨Aa, ca, rfl, CA⟩ := S_at_k SA HP.out.2
    obtain ⟨Ab, cb, rfl, CB⟩ := S_at_k SB HP.out.2
    have HCC := Lib.hid (And.intro CA CB)
    clear CA CB SA SB
    have hHeld := And.intro HB (And.intro E1 E2)
    simp only
    refine norm_ (a' := ?_) ?_ ?_
    rotate_left
    · simp only [putAll, Act.put, List.setIfInBounds_toArray, List.set_cons_zero, List.set_cons_succ]
      rfl
    refine on1 6 (some 16) (bs 13 127) HT_ rfl rfl (by kernel_rfl) (by decide) (fun K hK => ?_)
    refine goes_ Tryd.func7 (by kernel_rfl) rfl #[.slice Aa kp ca, .slice Ab kp cb] (by rfl) rfl rfl (by (try simp only [List.map_toArray, List.map_cons, List.map_nil]); first | done | rfl) ?_
    with_reducible refine (same_rqs (c := ca) (d := cb) HCC.out.1 HCC.out.2 HP.out.2 HKP.out).mono ?_
    rintro e w5 ⟨rfl, hb⟩
    replace E1 := blkB hb E1
    replace E2 := blkB hb E2
    replace HB := belT HB hb
    clear hb
    refine ⟨_, rfl, ?_⟩
    refine hK.out _ _ ⟨HB, E1, E2⟩ (fun hHeld => ?_)
    clear hK K
    refine nm ⟨_, show Act.put _ (some 16) _ = _ by simp only [Act.put, sA, sB, sC, i64_w, i32_w]; rfl, ?_⟩
    refine pu 7 (some 17) (bs 13 255) HT_ rfl rfl (by kernel_rfl) (fun _ _ _ _ h => h) ⟨_, .inl ⟨by rfl, fun _ => by go_simp; with_reducible rfl⟩, _, by simp only [Act.put, sA, sB, sC, i64_w, i32_w]; rfl, ?_⟩
    refine tk 8 (some 18) (bs 13 511) HT_ HW_ rfl rfl (by kernel_rfl) (fun _ _ _ _ h => h) hHeld ⟨_, .inl ⟨by rfl, by rintro w' ⟨s0, s1, s2⟩; refine load_row (x := .tmp 5) ?_ ?_ s1 Tryd.underlying24 rfl infoF4 <;> rfl⟩, _, by simp only [Act.put, sA, sB, sC, i64_w, i32_w]; rfl, ?_⟩
    refine tk 9 (some 19) (bs 13 1023) HT_ HW_ rfl rfl (by kernel_rfl) (fun _ _ _ _ h => h) hHeld ⟨_, .inl ⟨by rfl, by rintro w' ⟨s0, s1, s2⟩; refine load_row (x := .tmp 2) ?_ ?_ s2 Tryd.underlying24 rfl infoF4 <;> rfl⟩, _, by simp only [Act.put, sA, sB, sC, i64_w, i32_w]; rfl, ?_⟩
    refine la1 10 (some 20) (bs 13 2047) HT_ rfl rfl (by kernel_rfl) (by decide) (fun K hK => ?_)
    refine goes_ Tryd.func10 (by kernel_rfl) rfl #[.agg #[.slice B0 f.n0 f.n0, .slice B1 f.n1 f.n1, .slice B2 f.n2 f.n2, .slice B3 f.n3 f.n3], .agg #[.slice f.A0 f.n0 f.c0, .slice f.A1 f.n1 f.c1, .slice f.A2 f.n2 f.c2, .slice f.A3 f.n3 f.c3]] (by rfl) rfl rfl (by (try simp only [List.map_toArray, List.map_cons, List.map_nil]); first | done | rfl) ?_
    with_reducible refine (QKt.out _ HB).mono ?_
    rintro e wa ⟨rfl, hb⟩
    replace HB := belT HB hb
    clear hb E1 E2
    refine ⟨_, rfl, ?_⟩
    refine hK.out _ _ ?_
    clear hK K
    refine nm ⟨_, show Act.put _ (some 20) _ = _ by simp only [Act.put, sA, sB, sC, i64_w, i32_w]; rfl, ?_⟩
    refine pu 11 (some 21) (bs 13 4095) HT_ rfl rfl (by kernel_rfl) (fun _ _ _ _ h => h) ⟨_, .inl ⟨by rfl, fun _ => by go_simp; with_reducible rfl⟩, _, by simp only [Act.put, sA, sB, sC, i64_w, i32_w]; rfl, ?_⟩
    refine pu 12 (some 4) (bs 13 8191) HT_ rfl rfl (by kernel_rfl) (fun _ _ _ _ h => h) ⟨_, .inl ⟨by rfl, fun _ => by go_simp; with_reducible rfl⟩, _, by simp only [Act.put, sA, sB, sC, i64_w, i32_w]; rfl, ?_⟩
    refine done_ (done_of HT_.out (by kernel_rfl)) ?_
    have HE := Lib.hid (belT HB3.out HB)
    go_wp2
    go_ret
    exact ⟨rfl, HE.out⟩
  · go_ret
    exact ⟨rfl, HB1.out⟩
end Go.Proofs.YtiaggfjfgoiafaaDoor
