/- Lemmas on which the law stands, part 5: SymP, SymM, Stb, Ord, Stable, SortK, SortR, Vict, LentO, ObjAt, LentS, Copy, Bld, KT, Drn, DrOn, Req, Inn, DrP, FirstP, SetP, OpenPod, OpenObj, Fl4, Find, FlCopy, SameR. -/
import Derived.Test.YtiaggfjfgoiafaaDoorKSettles4
import Derived.Test.YtiaggfjfgoiafaaDoorKSettles1
import Derived.SizedLaws
import Derived.ChangeArms
import Derived.WideShapes
import Derived.OpenShut
import Derived.Deep.SlicePairs
import Derived.ChangeSame
set_option linter.unusedVariables false
set_option linter.unusedSimpArgs false
/- slices' symMerge over a block of objects: a stable merge of two sorted rows. -/
namespace Go.Proofs.YtiaggfjfgoiafaaDoor
open Go.RowKit Go.Proofs.YtiaggfjfgoiafaaDoorW.PrintWords Go.Proofs.YtiaggfjfgoiafaaDoorW.PrintLast
def SymOk (f : FuncId) (D : Array Value → Prop) (c : Array Value → Array Value → Int) (g cap : Nat) (N : Nat) : Prop :=
  ∀ (X A B Z : List (Array Value)), A.length + B.length ≤ N → 0 < A.length → 0 < B.length → Srt.Sorted c A → Srt.Sorted c B → (∀ y ∈ A, D y) → (∀ y ∈ B, D y) →
    ∀ (len : Nat), len = (X ++ A ++ B ++ Z).length → len ≤ cap → len ≤ 1099511627776 → ∀ (a m b : Int), a = X.length → m = (X.length + A.length : Nat) → b = (X.length + A.length + B.length : Nat) → ∀ w, RowsAt w g 32 (X ++ A ++ B ++ Z) →
      Calls Tryd.prog 57 #[.slice (some ⟨g, 0, none⟩) len cap, .int .i64 a, .int .i64 m, .int .i64 b, .func (.func f) #[] #[]] w fun e w' =>
        (∃ v, e = .returned v) ∧ RowsAt w' g 32 (X ++ Srt.merge c A B ++ Z) ∧ But g w w'
set_option maxHeartbeats 4000000 in
theorem sym_parts (f : FuncId) (D : Array Value → Prop) (c : Array Value → Array Value → Int) (g cap N : Nat) (ih : SymOk f D c g cap N) (X A B Z : List (Array Value)) (hN : A.length + B.length ≤ N + 1) (h0A : 2 ≤ A.length) (h0B : 2 ≤ B.length)
    (hA : Srt.Sorted c A) (hB : Srt.Sorted c B) (hDA : ∀ y ∈ A, D y) (hDB : ∀ y ∈ B, D y) (s t : Nat) (hs : s ≤ A.length) (ht : t ≤ B.length) (hst : s + t = (A.length + B.length) / 2) (len : Nat) (hlen : len = (X ++ A ++ B ++ Z).length) (hcap : len ≤ cap) (hn : len ≤ 1099511627776)
    (a m b z ze zm : Int) (ha : a = X.length) (hm : m = (X.length + A.length : Nat)) (hb : b = (X.length + A.length + B.length : Nat)) (hz : z = a + s) (hze : ze = m + t) (hzm : zm = a + s + t) :
    ∃ R1 R2 R3 : List (Array Value), R3 = X ++ (Srt.merge c (A.take s) (B.take t) ++ Srt.merge c (A.drop s) (B.drop t)) ++ Z ∧
      ((s < A.length → 0 < t → ∀ W, RowsAt W g 32 (X ++ A ++ B ++ Z) → Calls Tryd.prog 70 #[.slice (some ⟨g, 0, none⟩) len cap, .int .i64 z, .int .i64 m, .int .i64 ze, .func (.func f) #[] #[]] W fun e w' => (∃ v, e = .returned v) ∧ RowsAt w' g 32 (R1) ∧ But g W w') ∧ (¬ (s < A.length ∧ 0 < t) → R1 = X ++ A ++ B ++ Z)) ∧
      ((0 < s → 0 < t → ∀ W, RowsAt W g 32 (R1) → Calls Tryd.prog 57 #[.slice (some ⟨g, 0, none⟩) len cap, .int .i64 a, .int .i64 z, .int .i64 zm, .func (.func f) #[] #[]] W fun e w' => (∃ v, e = .returned v) ∧ RowsAt w' g 32 (R2) ∧ But g W w') ∧ (¬ (0 < s ∧ 0 < t) → R2 = R1)) ∧
      ((s < A.length → t < B.length → ∀ W, RowsAt W g 32 (R2) → Calls Tryd.prog 57 #[.slice (some ⟨g, 0, none⟩) len cap, .int .i64 zm, .int .i64 ze, .int .i64 b, .func (.func f) #[] #[]] W fun e w' => (∃ v, e = .returned v) ∧ RowsAt w' g 32 (R3) ∧ But g W w') ∧ (¬ (s < A.length ∧ t < B.length) → R3 = R2)) := by
  have lA : (A.take s).length = s := by rw [List.length_take]; omega
  have lB : (B.take t).length = t := by rw [List.length_take]; omega
  have kA : (A.drop s).length = A.length - s := List.length_drop ..
  have kB : (B.drop t).length = B.length - t := List.length_drop ..
  have hl0 : len = X.length + A.length + B.length + Z.length := by rw [hlen]; simp; omega
  have hmm : ∀ P Q : List (Array Value), (Srt.merge c P Q).length = P.length + Q.length := fun P Q => Srt.merge_length P Q _ (Nat.le_refl _)
  have eA : A.take s ++ A.drop s = A := List.take_append_drop ..
  have eB : B.take t ++ B.drop t = B := List.take_append_drop ..
  refine ⟨X ++ A.take s ++ B.take t ++ (A.drop s ++ B.drop t ++ Z), X ++ Srt.merge c (A.take s) (B.take t) ++ (A.drop s ++ B.drop t ++ Z), _, rfl, ⟨fun h1 h2 W hW => ?_, fun h => ?_⟩, ⟨fun h1 h2 W hW => ?_, fun h => ?_⟩, ⟨fun h1 h2 W hW => ?_, fun h => ?_⟩⟩
  · have e0 : X ++ A ++ B ++ Z = (X ++ A.take s) ++ A.drop s ++ B.take t ++ (B.drop t ++ Z) := by
      conv => lhs; rw [← eA, ← eB]
      simp only [List.append_assoc]
    rw [e0] at hW
    refine (rotate_calls (X ++ A.take s) (A.drop s) (B.take t) (B.drop t ++ Z) (by omega) (by omega) g cap len (by rw [hlen, e0]) hcap hn z m ze (by rw [List.length_append]; omega) (by rw [List.length_append]; omega) (by rw [List.length_append]; omega) _ W hW).mono ?_
    rintro e w' ⟨hv, hR, hb⟩
    exact ⟨hv, by simpa only [List.append_assoc] using hR, hb⟩
  · rcases Nat.eq_zero_or_pos t with h0 | h0
    · subst h0
      simp only [List.take_zero, List.drop_zero, List.append_nil, List.append_assoc]
      rw [← List.append_assoc (A.take s), eA]
    · have h3 : s = A.length := by omega
      subst h3
      simp only [List.take_length, List.drop_length, List.nil_append, List.append_assoc]
      rw [← List.append_assoc (B.take t), eB]
  · exact ih X (A.take s) (B.take t) _ (by omega) (by omega) (by omega) (Srt.sorted_take hA s) (Srt.sorted_take hB t) (fun y hy => hDA y (List.mem_of_mem_take hy)) (fun y hy => hDB y (List.mem_of_mem_take hy)) len (by rw [hl0]; simp; omega) hcap hn a z zm ha (by omega) (by omega) W hW
  · rcases Nat.eq_zero_or_pos s with h0 | h0
    · subst h0; simp [Srt.merge_nil_left]
    · have h3 : t = 0 := by omega
      subst h3; simp [Srt.merge_nil_right]
  · have e0 : X ++ Srt.merge c (A.take s) (B.take t) ++ (A.drop s ++ B.drop t ++ Z) = (X ++ Srt.merge c (A.take s) (B.take t)) ++ A.drop s ++ B.drop t ++ Z := by simp only [List.append_assoc]
    rw [e0] at hW
    refine (ih (X ++ Srt.merge c (A.take s) (B.take t)) (A.drop s) (B.drop t) Z (by omega) (by omega) (by omega) (Srt.sorted_drop hA s) (Srt.sorted_drop hB t) (fun y hy => hDA y (List.mem_of_mem_drop hy)) (fun y hy => hDB y (List.mem_of_mem_drop hy)) len (by rw [hl0]; simp [hmm]; omega) hcap hn zm ze b (by rw [List.length_append, hmm]; omega) (by rw [List.length_append, hmm]; omega) (by rw [List.length_append, hmm]; omega) W hW).mono ?_
    rintro e w' ⟨hv, hR, hb⟩
    exact ⟨hv, by simpa only [List.append_assoc] using hR, hb⟩
  · rcases Nat.lt_or_ge s A.length with h0 | h0
    · have h3 : t = B.length := by omega
      subst h3; simp [Srt.merge_nil_right]
    · have h3 : s = A.length := by omega
      subst h3; simp [Srt.merge_nil_left]
end Go.Proofs.YtiaggfjfgoiafaaDoor

/- slices' symMerge over a block of objects: a stable merge of two sorted rows. -/
namespace Go.Proofs.YtiaggfjfgoiafaaDoor
open Go.RowKit Go.Proofs.YtiaggfjfgoiafaaDoorW.PrintWords Go.Proofs.YtiaggfjfgoiafaaDoorW.PrintLast
def rg57_35_T : Bool × List (List Nat × List Nat) := (true, [([], []), ([], []), ([], []), ([], []), ([2, 3], [2, 3]), ([1, 4], [1, 4]), ([5], [5]), ([], []), ([], []), ([7, 8], [7, 8]), ([9], [9]), ([0, 6, 10], [0, 6, 10]), ([11], [11]), ([12], [12])])
def rg57_35_B : List Nat := [0, 0, 0, 0, 12, 30, 62, 0, 0, 384, 896, 2047, 4095, 8191]
theorem rg57_35_tab : rtab .any (opsOf Tryd.f57 35) = rg57_35_T := by kernel_rfl
theorem rg57_35_bits : waitsOk rg57_35_T.2 rg57_35_B = true := by kernel_rfl
set_option maxHeartbeats 32000000 in
set_option maxRecDepth 100000 in
theorem sym_main (f : FuncId) (D : Array Value → Prop) (c : Array Value → Array Value → Int) (hcmp : CmpAt f D c) (hc : Wc.IsCmp c) (g cap N : Nat) (ih : SymOk f D c g cap N) (X A B Z : List (Array Value)) (hN : A.length + B.length ≤ N + 1) (h0A : 2 ≤ A.length) (h0B : 2 ≤ B.length)
    (hA : Srt.Sorted c A) (hB : Srt.Sorted c B) (hDA : ∀ y ∈ A, D y) (hDB : ∀ y ∈ B, D y) (len : Nat) (hlen : len = (X ++ A ++ B ++ Z).length) (hcap : len ≤ cap) (hn : len ≤ 1099511627776) (a m b : Int) (ha : a = X.length) (hm : m = (X.length + A.length : Nat)) (hb : b = (X.length + A.length + B.length : Nat)) (w : World)
    (hR : RowsAt w g 32 (X ++ A ++ B ++ Z)) :
    Calls Tryd.prog 57 #[.slice (some ⟨g, 0, none⟩) len cap, .int .i64 a, .int .i64 m, .int .i64 b, .func (.func f) #[] #[]] w fun e w' =>
      (∃ v, e = .returned v) ∧ RowsAt w' g 32 (X ++ Srt.merge c A B ++ Z) ∧ But g w w' := by
  obtain ⟨fn, hf1, hf2, hf3⟩ := hcmp.fn
  have hle : len = X.length + A.length + B.length + Z.length := by rw [hlen]; simp; omega
  obtain ⟨mu, hmu⟩ : ∃ mu : Nat, mu = (A.length + B.length) / 2 := ⟨_, rfl⟩
  obtain ⟨zm, hzm⟩ : ∃ zm : Int, zm = a + mu := ⟨_, rfl⟩
  obtain ⟨zn, hzn⟩ : ∃ zn : Int, zn = zm + m := ⟨_, rfl⟩
  obtain ⟨zp, hzp⟩ : ∃ zp : Int, zp = zn - 1 := ⟨_, rfl⟩
  have e1 : (wrap64 (m - a) == 1) = false := beq_eq_false_iff_ne.mpr (by unfold wrap64; omega)
  have e2 : (wrap64 (b - m) == 1) = false := beq_eq_false_iff_ne.mpr (by unfold wrap64; omega)
  have em : wrap64 (IntKind.u64.wrap (wrap64 (a + b)) / 2) = zm := by rw [half_ _ (by omega) (by omega)]; omega
  have en : wrap64 (zm + m) = zn := by unfold wrap64; omega
  have ep : wrap64 (zn - 1) = zp := by unfold wrap64; omega
  -- where the search begins, where it ends at most
  obtain ⟨st0, r0, hcase⟩ : ∃ st0 r0 : Int, (decide (zm < m) = true ∧ zm < m ∧ wrap64 (zn - b) = st0 ∧ st0 = zn - b ∧ r0 = zm) ∨ (decide (zm < m) = false ∧ ¬ zm < m ∧ st0 = a ∧ r0 = m) := by
    by_cases h : zm < m
    · exact ⟨zn - b, zm, .inl ⟨decide_eq_true h, h, by unfold wrap64; omega, rfl, rfl⟩⟩
    · exact ⟨a, m, .inr ⟨decide_eq_false h, h, rfl, rfl⟩⟩
  have hs0 : a ≤ st0 ∧ st0 ≤ r0 ∧ r0 ≤ m ∧ r0 ≤ zm ∧ zm - st0 ≤ B.length ∧ (st0 = a ∨ zm - st0 = B.length) ∧ (r0 = m ∨ r0 = zm) := by omega
  have HH := Lib.hid (And.intro hcmp (And.intro ih (And.intro hN (And.intro h0A (And.intro h0B (And.intro hA (And.intro hB (And.intro hDA hDB))))))))
  have HE := Lib.hid (And.intro ha (And.intro hm (And.intro hb (And.intro hle (And.intro hmu (And.intro hzm (And.intro hzn (And.intro hzp hs0))))))))
  have HR := Lib.hid hR
  have HF := Lib.hid (And.intro hf1 (And.intro hf2 hf3))
  clear hcmp ih hN h0A h0B hA hB hDA hDB ha hm hb hle hmu hzm hzn hzp hs0 hR hf1 hf2 hf3 hlen
  have HS : Hid ((decide (zm < m) = true ∧ zm < m ∧ wrap64 (zn - b) = st0 ∧ st0 = zn - b ∧ r0 = zm) ∨ (decide (zm < m) = false ∧ ¬ zm < m ∧ st0 = a ∧ r0 = m)) := Lib.hid hcase
  rcases hcase with ⟨d1, d0, es, q1, q2⟩ | ⟨d1, d0, q1, q2⟩
  · clear d0
    replace q1 := Lib.hid q1
    replace q2 := Lib.hid q2
    go_enter Tryd.func57, Tryd.ntmps57
    go_wp2
    clear e1 e2 em en ep d1
    go_loopw [20, 21] (fun v20 v21 wr => ∃ (z r : Int), v20 = .int .i64 z ∧ v21 = .int .i64 r ∧ Hid (st0 ≤ z ∧ z ≤ r ∧ r ≤ r0 ∧ (∀ (i : Nat) (x y : Array Value), st0 ≤ a + i → a + i < z → A[i]? = some x → B[mu - 1 - i]? = some y → 0 ≤ c y x) ∧ (∀ (i : Nat) (x y : Array Value), r ≤ a + i → a + i < r0 → A[i]? = some x → B[mu - 1 - i]? = some y → c y x < 0) ∧ RowsAt wr g 32 (X ++ A ++ B ++ Z) ∧ But g w wr)) (fun v20 v21 _ => (intOf v21 - intOf v20).toNat)
    case atStart =>
      refine ⟨st0, r0, by first | rfl | exact congrArg _ q1.out.symm, by first | rfl | exact congrArg _ q2.out.symm, Lib.hid ⟨Int.le_refl _, HE.out.2.2.2.2.2.2.2.2.2.1, Int.le_refl _, fun i x y h1 h2 => absurd h2 (by omega), fun i x y h1 h2 => absurd h2 (by omega), HR.out, But.refl _ _⟩⟩
    case round =>
      obtain ⟨z, r, rfl, rfl, hI⟩ := hrel
      by_cases hlt : z < r
      · have d1 : decide (z < r) = true := decide_eq_true hlt
        obtain ⟨i1, i2, i3, i4, i5, i6, i7⟩ := hI.out
        obtain ⟨k1, k2, k3, k4, k5, k6, k7, k8, k9, k10, k11, k12, k13, k14, k15⟩ := HE.out
        obtain ⟨u1, u2, u3, u4, u5, u6, u7, u8, u9⟩ := HH.out
        obtain ⟨zk, hzk⟩ : ∃ zk : Int, zk = (z + r) / 2 := ⟨_, rfl⟩
        have eh : wrap64 (IntKind.u64.wrap (wrap64 (z + r)) / 2) = zk := by rw [half_ _ (by omega) (by omega), hzk]
        obtain ⟨zq, hzq⟩ : ∃ zq : Int, zq = zp - zk := ⟨_, rfl⟩
        have eqq : wrap64 (zp - zk) = zq := by unfold wrap64; omega
        obtain ⟨ki, hki⟩ : ∃ ki : Nat, zk = a + ki := ⟨(zk - a).toNat, by omega⟩
        have hkA : ki < A.length := by omega
        have hkm : ki < mu := by omega
        have hkB : mu - 1 - ki < B.length := by omega
        obtain ⟨x, hx⟩ : ∃ x, A[ki]? = some x := ⟨_, List.getElem?_eq_getElem hkA⟩
        obtain ⟨y, hy⟩ : ∃ y, B[mu - 1 - ki]? = some y := ⟨_, List.getElem?_eq_getElem hkB⟩
        have J0 : (X ++ A ++ B ++ Z)[zk.toNat]? = some x := by
          rw [List.append_assoc, List.append_assoc, List.getElem?_append_right (by omega), List.getElem?_append_left (by omega), show zk.toNat - X.length = ki by omega, hx]
        have J1 : (X ++ A ++ B ++ Z)[zq.toNat]? = some y := by
          rw [List.append_assoc, List.getElem?_append_right (by rw [List.length_append]; omega), List.getElem?_append_left (by rw [List.length_append]; omega), List.length_append, show zq.toNat - (X.length + A.length) = mu - 1 - ki by omega, hy]
        have dx : D x := u8 x (List.mem_of_getElem? hx)
        have dy : D y := u9 y (List.mem_of_getElem? hy)
        obtain ⟨cv, hcv⟩ : ∃ cv, cv = c y x := ⟨_, rfl⟩
        have HQ := u1.calls y x dy dx
        rw [← hcv] at HQ
        replace HQ := Lib.hid HQ
        have d2 : (0 ≤ zk) = True := eq_true (by omega)
        have d3 : (zk < (len : Int)) = True := eq_true (by omega)
        have d4 : (0 ≤ zq) = True := eq_true (by omega)
        have d5 : (zq < (len : Int)) = True := eq_true (by omega)
        have eq1 : wrap64 (zk + 1) = zk + 1 := by unfold wrap64; omega
        have hm1 : zk + 1 ≤ r ∧ z ≤ zk := by omega
        have hR2 := i6.below (below_drew (Below.refl _ _))
        have hBt := i7.trans (But.of_below (below_drew (Below.refl _ _)))
        have HZ := Lib.hid (And.intro hki (And.intro hx (And.intro hy (And.intro hcv (And.intro hkm (And.intro hm1 (And.intro eq1 hlt)))))))
        replace J0 := Lib.hid J0
        replace J1 := Lib.hid J1
        clear i1 i2 i3 i4 i5 i6 i7 k1 k2 k3 k4 k5 k6 k7 k8 k9 k10 k11 k12 k13 k14 k15 u1 u2 u3 u4 u5 u6 u7 u8 u9 hzk hzq hki hkA hkm hkB hx hy dx dy hcv eq1 hm1 hlt
        go_upto_region 35 with (fail)
        refine start_ (n := 14) (S := fun w' => RowsAt w' g 32 (X ++ A ++ B ++ Z)) (ds := []) (bs 14 0) (by kernel_rfl) rfl (by kernel_rfl) hR2 (fun hHeld => ?_)
        refine with_tabW rg57_35_tab rg57_35_bits (fun HT_ HW_ => ?_)
        refine pu 0 (some 158) (bs 14 1) HT_ rfl rfl (by kernel_rfl) (fun _ _ _ _ h => h) ⟨_, .inl ⟨by rfl, fun _ => by go_simp; with_reducible rfl⟩, _, by simp only [Act.put, sA, sB, sC, i64_w, i32_w]; rfl, ?_⟩
        refine pu 1 (some 159) (bs 14 3) HT_ rfl rfl (by kernel_rfl) (fun _ _ _ _ h => h) ⟨_, .inl ⟨by rfl, fun _ => by go_simp; with_reducible rfl⟩, _, by simp only [Act.put, sA, sB, sC, i64_w, i32_w]; rfl, ?_⟩
        refine pu 2 (some 160) (bs 14 7) HT_ rfl rfl (by kernel_rfl) (fun _ _ _ _ h => h) ⟨_, .inl ⟨by rfl, fun _ => by go_simp; with_reducible rfl⟩, _, by simp only [Act.put, sA, sB, sC, i64_w, i32_w]; rfl, ?_⟩
        refine pu 3 (some 161) (bs 14 15) HT_ rfl rfl (by kernel_rfl) (fun _ _ _ _ h => h) ⟨_, .inl ⟨by rfl, fun _ => by go_simp; with_reducible rfl⟩, _, by simp only [Act.put, sA, sB, sC, i64_w, i32_w]; rfl, ?_⟩
        refine pu 4 (some 162) (bs 14 31) HT_ rfl rfl (by kernel_rfl) (fun _ _ _ _ h => h) ⟨_, .inl ⟨by rfl, fun _ => by go_simp; with_reducible rfl⟩, _, by simp only [Act.put, sA, sB, sC, i64_w, i32_w]; rfl, ?_⟩
        refine pu 5 (some 163) (bs 14 63) HT_ rfl rfl (by kernel_rfl) (fun _ _ _ _ h => h) ⟨_, .inl ⟨by rfl, fun _ => by go_simp; with_reducible rfl⟩, _, by simp only [Act.put, sA, sB, sC, i64_w, i32_w]; rfl, ?_⟩
        refine pu 7 (some 165) (bs 14 191) HT_ rfl rfl (by kernel_rfl) (fun _ _ _ _ h => h) ⟨_, .inl ⟨by rfl, fun _ => by go_simp; with_reducible rfl⟩, _, by simp only [Act.put, sA, sB, sC, i64_w, i32_w]; rfl, ?_⟩
        refine pu 8 (some 166) (bs 14 447) HT_ rfl rfl (by kernel_rfl) (fun _ _ _ _ h => h) ⟨_, .inl ⟨by rfl, fun _ => by go_simp; with_reducible rfl⟩, _, by simp only [Act.put, sA, sB, sC, i64_w, i32_w]; rfl, ?_⟩
        refine pu 9 (some 167) (bs 14 959) HT_ rfl rfl (by kernel_rfl) (fun _ _ _ _ h => h) ⟨_, .inl ⟨by rfl, fun _ => by go_simp; with_reducible rfl⟩, _, by simp only [Act.put, sA, sB, sC, i64_w, i32_w]; rfl, ?_⟩
        refine tk 6 (some 164) (bs 14 1023) HT_ HW_ rfl rfl (by kernel_rfl) (fun _ _ _ _ h => h) hHeld ⟨_, .inl ⟨by rfl, by rintro w' s0; refine load_mid (x := .tmp 163) (j := zq.toNat) ?_ ?_ rfl s0 J1.out Tryd.underlying39 rfl (by kernel_rfl) <;> rfl⟩, _, by simp only [Act.put, sA, sB, sC, i64_w, i32_w]; rfl, ?_⟩
        refine tk 10 (some 168) (bs 14 2047) HT_ HW_ rfl rfl (by kernel_rfl) (fun _ _ _ _ h => h) hHeld ⟨_, .inl ⟨by rfl, by rintro w' s0; refine load_mid (x := .tmp 167) (j := zk.toNat) ?_ ?_ rfl s0 J0.out Tryd.underlying39 rfl (by kernel_rfl) <;> rfl⟩, _, by simp only [Act.put, sA, sB, sC, i64_w, i32_w]; rfl, ?_⟩
        refine on1 11 (some 169) (bs 14 4095) HT_ rfl rfl (by kernel_rfl) (by decide) (fun K hK => ?_)
        refine goesv_ (f := f) (x := .tmp 158) HF.out.1 HF.out.2.1 HF.out.2.2 #[.agg y, .agg x] (by rfl) rfl rfl rfl (by (try simp only [List.map_toArray, List.map_cons, List.map_nil]); first | done | rfl) ?_
        refine (HQ.out _).mono ?_
        rintro e w1 ⟨rfl, hb1⟩
        replace hR2 := hR2.below hb1
        replace hBt := hBt.trans (But.of_below hb1)
        clear hb1
        refine ⟨_, rfl, ?_⟩
        refine hK.out _ _ hR2 (fun hHeld => ?_)
        clear hK K
        refine nm ⟨_, show Act.put _ (some 169) _ = _ by simp only [Act.put, sA, sB, sC, i64_w, i32_w]; rfl, ?_⟩
        refine pu 12 (some 170) (bs 14 8191) HT_ rfl rfl (by kernel_rfl) (fun _ _ _ _ h => h) ⟨_, .inl ⟨by rfl, fun _ => by go_simp; with_reducible rfl⟩, _, by simp only [Act.put, sA, sB, sC, i64_w, i32_w]; rfl, ?_⟩
        refine pu 13 (some 171) (bs 14 16383) HT_ rfl rfl (by kernel_rfl) (fun _ _ _ _ h => h) ⟨_, .inl ⟨by rfl, fun _ => by go_simp; with_reducible rfl⟩, _, by simp only [Act.put, sA, sB, sC, i64_w, i32_w]; rfl, ?_⟩
        refine done_ (done_of HT_.out (by kernel_rfl)) ?_
        generalize hnb : (!decide (cv < 0)) = nb
        cases nb
        · have hneg : cv < 0 := by
            by_cases h9 : cv < 0
            · exact h9
            · rw [decide_eq_false h9] at hnb; cases hnb
          clear hnb
          go_wp2
          go_roundw
          case rel =>
            obtain ⟨i1, i2, i3, i4, i5, i6, i7⟩ := hI.out
            obtain ⟨j1, j2, j3, j4, j5, j6, j7, j8⟩ := HZ.out
            obtain ⟨u1, u2, u3, u4, u5, u6, u7, u8, u9⟩ := HH.out
            refine ⟨z, zk, rfl, by first | rfl | rw [eh], Lib.hid ⟨i1, by omega, by omega, i4, fun i x' y' h1 h2 h3 h4 => ?_, hR2, hBt⟩⟩
            by_cases h5 : r ≤ a + i
            · exact i5 i x' y' h5 h2 h3 h4
            · have k10 := HE.out.2.2.2.2.2.2.2.2
              have hik := HE.out.2.2.2.2.2
              exact Srt.test_up hc A B u6 u7 mu ki i (by omega) (by omega) j2 j3 h3 h4 (by rw [← j4]; exact hneg)
          case measure => have := HZ.out.2.2.2.2.2; simp [intOf]; omega
        · have hneg : ¬ cv < 0 := fun h9 => by rw [decide_eq_true h9] at hnb; cases hnb
          clear hnb
          go_wp2
          go_roundw
          case rel =>
            obtain ⟨i1, i2, i3, i4, i5, i6, i7⟩ := hI.out
            obtain ⟨j1, j2, j3, j4, j5, j6, j7, j8⟩ := HZ.out
            obtain ⟨u1, u2, u3, u4, u5, u6, u7, u8, u9⟩ := HH.out
            refine ⟨zk + 1, r, by first | rfl | rw [j7], rfl, Lib.hid ⟨by omega, by omega, i3, fun i x' y' h1 h2 h3 h4 => ?_, i5, hR2, hBt⟩⟩
            by_cases h5 : c y' x' < 0
            · have := Srt.test_up hc A B u6 u7 mu i ki (by omega) j5 h3 h4 j2 j3 h5
              rw [← j4] at this
              omega
            · omega
          case measure => have := HZ.out.2.2.2.2.2; simp [intOf]; omega
      · have hzr : z = r := by have := hI.out.2.1; omega
        have d1 : decide (z < r) = false := decide_eq_false hlt
        clear hlt
        obtain ⟨i1, i2, i3, i4, i5, i6, i7⟩ := hI.out
        obtain ⟨k1, k2, k3, k4, k5, k6, k7, k8, k9, k10, k11, k12, k13, k14, k15⟩ := HE.out
        obtain ⟨u1, u2, u3, u4, u5, u6, u7, u8, u9⟩ := HH.out
        obtain ⟨ze, hze⟩ : ∃ ze : Int, ze = zn - z := ⟨_, rfl⟩
        have eze : wrap64 (zn - z) = ze := by unfold wrap64; omega
        obtain ⟨s, hs⟩ : ∃ s : Nat, z = a + s := ⟨(z - a).toNat, by omega⟩
        obtain ⟨t, ht⟩ : ∃ t : Nat, mu = s + t := ⟨mu - s, by omega⟩
        have hsA : s ≤ A.length := by omega
        have htB : t ≤ B.length := by omega
        have hcut := Srt.merge_cut hc A B u6 u7 s t hsA htB (fun x y h1 h2 h3 => by
            have h4 := (List.getElem?_eq_some_iff.1 h3).1
            have := i4 (s - 1) x y (by omega) (by omega) h2 (by rw [show mu - 1 - (s - 1) = t by omega]; exact h3)
            omega) (fun x y h1 h2 h3 => by
            have h4 := (List.getElem?_eq_some_iff.1 h2).1
            exact i5 s x y (by omega) (by omega) h2 (by rw [show mu - 1 - s = t - 1 by omega]; exact h3))
        have b1 : decide (z < m) = decide (s < A.length) := by by_cases h : s < A.length <;> simp [h] <;> omega
        have b2 : decide (m < ze) = decide (0 < t) := by by_cases h : 0 < t <;> simp [h] <;> omega
        have b3 : decide (a < z) = decide (0 < s) := by by_cases h : 0 < s <;> simp [h] <;> omega
        have b4 : decide (z < zm) = decide (0 < t) := by by_cases h : 0 < t <;> simp [h] <;> omega
        have b5 : decide (zm < ze) = decide (s < A.length) := by by_cases h : s < A.length <;> simp [h] <;> omega
        have b6 : decide (ze < b) = decide (t < B.length) := by by_cases h : t < B.length <;> simp [h] <;> omega
        obtain ⟨R1, R2, R3, hR3, ⟨p1, p2⟩, ⟨p3, p4⟩, ⟨p5, p6⟩⟩ := sym_parts f D c g cap N u2 X A B Z u3 u4 u5 u6 u7 u8 u9 s t hsA htB (by omega) len (by rw [List.length_append, List.length_append, List.length_append]; omega) hcap hn a m b z ze zm (by omega) (by omega) (by omega) hs (by omega) (by omega)
        rw [← hcut] at hR3
        have HP := Lib.hid (And.intro p1 (And.intro p2 (And.intro p3 (And.intro p4 (And.intro p5 p6)))))
        have hR2 := Lib.hid (And.intro i6 i7)
        clear p1 p2 p3 p4 p5 p6 i1 i2 i3 i4 i5 i6 i7 k1 k2 k3 k4 k5 k6 k7 k8 k9 k10 k11 k12 k13 k14 k15 u1 u2 u3 u4 u5 u6 u7 u8 u9 hze hs ht hsA htB hcut hzr
        generalize hp : decide (s < A.length) = p at b1 b5
        generalize hq : decide (0 < t) = q at b2 b4
        generalize hu : decide (0 < s) = u at b3
        generalize hv : decide (t < B.length) = v at b6
        cases p <;> cases q <;> cases u <;> cases v
        case true.true.true.true =>
          go_wp2_with (first
            | (go_at_call 70; (with_reducible refine (HP.out.1 (of_decide_eq_true hp) (of_decide_eq_true hq) _ hR2.out.1).mono ?_); rintro e w7 ⟨⟨v7, rfl⟩, hR7, hB7⟩)
            | (go_at_call 57; (with_reducible refine (HP.out.2.2.1 (of_decide_eq_true hu) (of_decide_eq_true hq) _ hR7).mono ?_); rintro e w8 ⟨⟨v8, rfl⟩, hR8, hB8⟩)
            | (go_at_call 57; (with_reducible refine (HP.out.2.2.2.2.1 (of_decide_eq_true hp) (of_decide_eq_true hv) _ hR8).mono ?_); rintro e w9 ⟨⟨v9, rfl⟩, hR9, hB9⟩))
          exact ⟨rfl, .tuple #[], by simp [results, Tryd.results57], ⟨_, rfl⟩, by rw [← hR3]; exact hR9, (((hR2.out.2.trans hB7).trans hB8).trans hB9)⟩
        case true.true.true.false =>
          have q3 := Lib.hid (HP.out.2.2.2.2.2 (fun h => of_decide_eq_false hv h.2))
          go_wp2_with (first
            | (go_at_call 70; (with_reducible refine (HP.out.1 (of_decide_eq_true hp) (of_decide_eq_true hq) _ hR2.out.1).mono ?_); rintro e w7 ⟨⟨v7, rfl⟩, hR7, hB7⟩)
            | (go_at_call 57; (with_reducible refine (HP.out.2.2.1 (of_decide_eq_true hu) (of_decide_eq_true hq) _ hR7).mono ?_); rintro e w8 ⟨⟨v8, rfl⟩, hR8, hB8⟩))
          exact ⟨rfl, .tuple #[], by simp [results, Tryd.results57], ⟨_, rfl⟩, by rw [← hR3]; exact (q3.out ▸ hR8), ((hR2.out.2.trans hB7).trans hB8)⟩
        case true.true.false.true =>
          have q2 := Lib.hid (HP.out.2.2.2.1 (fun h => of_decide_eq_false hu h.1))
          go_wp2_with (first
            | (go_at_call 70; (with_reducible refine (HP.out.1 (of_decide_eq_true hp) (of_decide_eq_true hq) _ hR2.out.1).mono ?_); rintro e w7 ⟨⟨v7, rfl⟩, hR7, hB7⟩)
            | (go_at_call 57; (with_reducible refine (HP.out.2.2.2.2.1 (of_decide_eq_true hp) (of_decide_eq_true hv) _ (q2.out ▸ hR7)).mono ?_); rintro e w9 ⟨⟨v9, rfl⟩, hR9, hB9⟩))
          exact ⟨rfl, .tuple #[], by simp [results, Tryd.results57], ⟨_, rfl⟩, by rw [← hR3]; exact hR9, ((hR2.out.2.trans hB7).trans hB9)⟩
        case true.true.false.false =>
          have q2 := Lib.hid (HP.out.2.2.2.1 (fun h => of_decide_eq_false hu h.1))
          have q3 := Lib.hid (HP.out.2.2.2.2.2 (fun h => of_decide_eq_false hv h.2))
          go_wp2_with (first
            | (go_at_call 70; (with_reducible refine (HP.out.1 (of_decide_eq_true hp) (of_decide_eq_true hq) _ hR2.out.1).mono ?_); rintro e w7 ⟨⟨v7, rfl⟩, hR7, hB7⟩))
          exact ⟨rfl, .tuple #[], by simp [results, Tryd.results57], ⟨_, rfl⟩, by rw [← hR3]; exact (q3.out ▸ (q2.out ▸ hR7)), (hR2.out.2.trans hB7)⟩
        case true.false.true.true =>
          have q1 := Lib.hid (HP.out.2.1 (fun h => of_decide_eq_false hq h.2))
          have q2 := Lib.hid (HP.out.2.2.2.1 (fun h => of_decide_eq_false hq h.2))
          go_wp2_with (first
            | (go_at_call 57; (with_reducible refine (HP.out.2.2.2.2.1 (of_decide_eq_true hp) (of_decide_eq_true hv) _ (q2.out ▸ (q1.out ▸ hR2.out.1))).mono ?_); rintro e w9 ⟨⟨v9, rfl⟩, hR9, hB9⟩))
          exact ⟨rfl, .tuple #[], by simp [results, Tryd.results57], ⟨_, rfl⟩, by rw [← hR3]; exact hR9, (hR2.out.2.trans hB9)⟩
        case true.false.true.false =>
          have q1 := Lib.hid (HP.out.2.1 (fun h => of_decide_eq_false hq h.2))
          have q2 := Lib.hid (HP.out.2.2.2.1 (fun h => of_decide_eq_false hq h.2))
          have q3 := Lib.hid (HP.out.2.2.2.2.2 (fun h => of_decide_eq_false hv h.2))
          go_wp2
          exact ⟨rfl, .tuple #[], by simp [results, Tryd.results57], ⟨_, rfl⟩, by rw [← hR3]; exact (q3.out ▸ (q2.out ▸ (q1.out ▸ hR2.out.1))), hR2.out.2⟩
        case true.false.false.true =>
          have q1 := Lib.hid (HP.out.2.1 (fun h => of_decide_eq_false hq h.2))
          have q2 := Lib.hid (HP.out.2.2.2.1 (fun h => of_decide_eq_false hu h.1))
          go_wp2_with (first
            | (go_at_call 57; (with_reducible refine (HP.out.2.2.2.2.1 (of_decide_eq_true hp) (of_decide_eq_true hv) _ (q2.out ▸ (q1.out ▸ hR2.out.1))).mono ?_); rintro e w9 ⟨⟨v9, rfl⟩, hR9, hB9⟩))
          exact ⟨rfl, .tuple #[], by simp [results, Tryd.results57], ⟨_, rfl⟩, by rw [← hR3]; exact hR9, (hR2.out.2.trans hB9)⟩
        case true.false.false.false =>
          have q1 := Lib.hid (HP.out.2.1 (fun h => of_decide_eq_false hq h.2))
          have q2 := Lib.hid (HP.out.2.2.2.1 (fun h => of_decide_eq_false hu h.1))
          have q3 := Lib.hid (HP.out.2.2.2.2.2 (fun h => of_decide_eq_false hv h.2))
          go_wp2
          exact ⟨rfl, .tuple #[], by simp [results, Tryd.results57], ⟨_, rfl⟩, by rw [← hR3]; exact (q3.out ▸ (q2.out ▸ (q1.out ▸ hR2.out.1))), hR2.out.2⟩
        case false.true.true.true =>
          have q1 := Lib.hid (HP.out.2.1 (fun h => of_decide_eq_false hp h.1))
          have q3 := Lib.hid (HP.out.2.2.2.2.2 (fun h => of_decide_eq_false hp h.1))
          go_wp2_with (first
            | (go_at_call 57; (with_reducible refine (HP.out.2.2.1 (of_decide_eq_true hu) (of_decide_eq_true hq) _ (q1.out ▸ hR2.out.1)).mono ?_); rintro e w8 ⟨⟨v8, rfl⟩, hR8, hB8⟩))
          exact ⟨rfl, .tuple #[], by simp [results, Tryd.results57], ⟨_, rfl⟩, by rw [← hR3]; exact (q3.out ▸ hR8), (hR2.out.2.trans hB8)⟩
        case false.true.true.false =>
          have q1 := Lib.hid (HP.out.2.1 (fun h => of_decide_eq_false hp h.1))
          have q3 := Lib.hid (HP.out.2.2.2.2.2 (fun h => of_decide_eq_false hp h.1))
          go_wp2_with (first
            | (go_at_call 57; (with_reducible refine (HP.out.2.2.1 (of_decide_eq_true hu) (of_decide_eq_true hq) _ (q1.out ▸ hR2.out.1)).mono ?_); rintro e w8 ⟨⟨v8, rfl⟩, hR8, hB8⟩))
          exact ⟨rfl, .tuple #[], by simp [results, Tryd.results57], ⟨_, rfl⟩, by rw [← hR3]; exact (q3.out ▸ hR8), (hR2.out.2.trans hB8)⟩
        case false.true.false.true =>
          have q1 := Lib.hid (HP.out.2.1 (fun h => of_decide_eq_false hp h.1))
          have q2 := Lib.hid (HP.out.2.2.2.1 (fun h => of_decide_eq_false hu h.1))
          have q3 := Lib.hid (HP.out.2.2.2.2.2 (fun h => of_decide_eq_false hp h.1))
          go_wp2
          exact ⟨rfl, .tuple #[], by simp [results, Tryd.results57], ⟨_, rfl⟩, by rw [← hR3]; exact (q3.out ▸ (q2.out ▸ (q1.out ▸ hR2.out.1))), hR2.out.2⟩
        case false.true.false.false =>
          have q1 := Lib.hid (HP.out.2.1 (fun h => of_decide_eq_false hp h.1))
          have q2 := Lib.hid (HP.out.2.2.2.1 (fun h => of_decide_eq_false hu h.1))
          have q3 := Lib.hid (HP.out.2.2.2.2.2 (fun h => of_decide_eq_false hp h.1))
          go_wp2
          exact ⟨rfl, .tuple #[], by simp [results, Tryd.results57], ⟨_, rfl⟩, by rw [← hR3]; exact (q3.out ▸ (q2.out ▸ (q1.out ▸ hR2.out.1))), hR2.out.2⟩
        case false.false.true.true =>
          have q1 := Lib.hid (HP.out.2.1 (fun h => of_decide_eq_false hp h.1))
          have q2 := Lib.hid (HP.out.2.2.2.1 (fun h => of_decide_eq_false hq h.2))
          have q3 := Lib.hid (HP.out.2.2.2.2.2 (fun h => of_decide_eq_false hp h.1))
          go_wp2
          exact ⟨rfl, .tuple #[], by simp [results, Tryd.results57], ⟨_, rfl⟩, by rw [← hR3]; exact (q3.out ▸ (q2.out ▸ (q1.out ▸ hR2.out.1))), hR2.out.2⟩
        case false.false.true.false =>
          have q1 := Lib.hid (HP.out.2.1 (fun h => of_decide_eq_false hp h.1))
          have q2 := Lib.hid (HP.out.2.2.2.1 (fun h => of_decide_eq_false hq h.2))
          have q3 := Lib.hid (HP.out.2.2.2.2.2 (fun h => of_decide_eq_false hp h.1))
          go_wp2
          exact ⟨rfl, .tuple #[], by simp [results, Tryd.results57], ⟨_, rfl⟩, by rw [← hR3]; exact (q3.out ▸ (q2.out ▸ (q1.out ▸ hR2.out.1))), hR2.out.2⟩
        case false.false.false.true =>
          have q1 := Lib.hid (HP.out.2.1 (fun h => of_decide_eq_false hp h.1))
          have q2 := Lib.hid (HP.out.2.2.2.1 (fun h => of_decide_eq_false hu h.1))
          have q3 := Lib.hid (HP.out.2.2.2.2.2 (fun h => of_decide_eq_false hp h.1))
          go_wp2
          exact ⟨rfl, .tuple #[], by simp [results, Tryd.results57], ⟨_, rfl⟩, by rw [← hR3]; exact (q3.out ▸ (q2.out ▸ (q1.out ▸ hR2.out.1))), hR2.out.2⟩
        case false.false.false.false =>
          have q1 := Lib.hid (HP.out.2.1 (fun h => of_decide_eq_false hp h.1))
          have q2 := Lib.hid (HP.out.2.2.2.1 (fun h => of_decide_eq_false hu h.1))
          have q3 := Lib.hid (HP.out.2.2.2.2.2 (fun h => of_decide_eq_false hp h.1))
          go_wp2
          exact ⟨rfl, .tuple #[], by simp [results, Tryd.results57], ⟨_, rfl⟩, by rw [← hR3]; exact (q3.out ▸ (q2.out ▸ (q1.out ▸ hR2.out.1))), hR2.out.2⟩
  · clear d0
    replace q1 := Lib.hid q1
    replace q2 := Lib.hid q2
    go_enter Tryd.func57, Tryd.ntmps57
    go_wp2
    clear e1 e2 em en ep d1
    go_loopw [20, 21] (fun v20 v21 wr => ∃ (z r : Int), v20 = .int .i64 z ∧ v21 = .int .i64 r ∧ Hid (st0 ≤ z ∧ z ≤ r ∧ r ≤ r0 ∧ (∀ (i : Nat) (x y : Array Value), st0 ≤ a + i → a + i < z → A[i]? = some x → B[mu - 1 - i]? = some y → 0 ≤ c y x) ∧ (∀ (i : Nat) (x y : Array Value), r ≤ a + i → a + i < r0 → A[i]? = some x → B[mu - 1 - i]? = some y → c y x < 0) ∧ RowsAt wr g 32 (X ++ A ++ B ++ Z) ∧ But g w wr)) (fun v20 v21 _ => (intOf v21 - intOf v20).toNat)
    case atStart =>
      refine ⟨st0, r0, by first | rfl | exact congrArg _ q1.out.symm, by first | rfl | exact congrArg _ q2.out.symm, Lib.hid ⟨Int.le_refl _, HE.out.2.2.2.2.2.2.2.2.2.1, Int.le_refl _, fun i x y h1 h2 => absurd h2 (by omega), fun i x y h1 h2 => absurd h2 (by omega), HR.out, But.refl _ _⟩⟩
    case round =>
      obtain ⟨z, r, rfl, rfl, hI⟩ := hrel
      by_cases hlt : z < r
      · have d1 : decide (z < r) = true := decide_eq_true hlt
        obtain ⟨i1, i2, i3, i4, i5, i6, i7⟩ := hI.out
        obtain ⟨k1, k2, k3, k4, k5, k6, k7, k8, k9, k10, k11, k12, k13, k14, k15⟩ := HE.out
        obtain ⟨u1, u2, u3, u4, u5, u6, u7, u8, u9⟩ := HH.out
        obtain ⟨zk, hzk⟩ : ∃ zk : Int, zk = (z + r) / 2 := ⟨_, rfl⟩
        have eh : wrap64 (IntKind.u64.wrap (wrap64 (z + r)) / 2) = zk := by rw [half_ _ (by omega) (by omega), hzk]
        obtain ⟨zq, hzq⟩ : ∃ zq : Int, zq = zp - zk := ⟨_, rfl⟩
        have eqq : wrap64 (zp - zk) = zq := by unfold wrap64; omega
        obtain ⟨ki, hki⟩ : ∃ ki : Nat, zk = a + ki := ⟨(zk - a).toNat, by omega⟩
        have hkA : ki < A.length := by omega
        have hkm : ki < mu := by omega
        have hkB : mu - 1 - ki < B.length := by omega
        obtain ⟨x, hx⟩ : ∃ x, A[ki]? = some x := ⟨_, List.getElem?_eq_getElem hkA⟩
        obtain ⟨y, hy⟩ : ∃ y, B[mu - 1 - ki]? = some y := ⟨_, List.getElem?_eq_getElem hkB⟩
        have J0 : (X ++ A ++ B ++ Z)[zk.toNat]? = some x := by
          rw [List.append_assoc, List.append_assoc, List.getElem?_append_right (by omega), List.getElem?_append_left (by omega), show zk.toNat - X.length = ki by omega, hx]
        have J1 : (X ++ A ++ B ++ Z)[zq.toNat]? = some y := by
          rw [List.append_assoc, List.getElem?_append_right (by rw [List.length_append]; omega), List.getElem?_append_left (by rw [List.length_append]; omega), List.length_append, show zq.toNat - (X.length + A.length) = mu - 1 - ki by omega, hy]
        have dx : D x := u8 x (List.mem_of_getElem? hx)
        have dy : D y := u9 y (List.mem_of_getElem? hy)
        obtain ⟨cv, hcv⟩ : ∃ cv, cv = c y x := ⟨_, rfl⟩
        have HQ := u1.calls y x dy dx
        rw [← hcv] at HQ
        replace HQ := Lib.hid HQ
        have d2 : (0 ≤ zk) = True := eq_true (by omega)
        have d3 : (zk < (len : Int)) = True := eq_true (by omega)
        have d4 : (0 ≤ zq) = True := eq_true (by omega)
        have d5 : (zq < (len : Int)) = True := eq_true (by omega)
        have eq1 : wrap64 (zk + 1) = zk + 1 := by unfold wrap64; omega
        have hm1 : zk + 1 ≤ r ∧ z ≤ zk := by omega
        have hR2 := i6.below (below_drew (Below.refl _ _))
        have hBt := i7.trans (But.of_below (below_drew (Below.refl _ _)))
        have HZ := Lib.hid (And.intro hki (And.intro hx (And.intro hy (And.intro hcv (And.intro hkm (And.intro hm1 (And.intro eq1 hlt)))))))
        replace J0 := Lib.hid J0
        replace J1 := Lib.hid J1
        clear i1 i2 i3 i4 i5 i6 i7 k1 k2 k3 k4 k5 k6 k7 k8 k9 k10 k11 k12 k13 k14 k15 u1 u2 u3 u4 u5 u6 u7 u8 u9 hzk hzq hki hkA hkm hkB hx hy dx dy hcv eq1 hm1 hlt
        go_upto_region 35 with (fail)
        refine start_ (n := 14) (S := fun w' => RowsAt w' g 32 (X ++ A ++ B ++ Z)) (ds := []) (bs 14 0) (by kernel_rfl) rfl (by kernel_rfl) hR2 (fun hHeld => ?_)
        refine with_tabW rg57_35_tab rg57_35_bits (fun HT_ HW_ => ?_)
        refine pu 0 (some 158) (bs 14 1) HT_ rfl rfl (by kernel_rfl) (fun _ _ _ _ h => h) ⟨_, .inl ⟨by rfl, fun _ => by go_simp; with_reducible rfl⟩, _, by simp only [Act.put, sA, sB, sC, i64_w, i32_w]; rfl, ?_⟩
        refine pu 1 (some 159) (bs 14 3) HT_ rfl rfl (by kernel_rfl) (fun _ _ _ _ h => h) ⟨_, .inl ⟨by rfl, fun _ => by go_simp; with_reducible rfl⟩, _, by simp only [Act.put, sA, sB, sC, i64_w, i32_w]; rfl, ?_⟩
        refine pu 2 (some 160) (bs 14 7) HT_ rfl rfl (by kernel_rfl) (fun _ _ _ _ h => h) ⟨_, .inl ⟨by rfl, fun _ => by go_simp; with_reducible rfl⟩, _, by simp only [Act.put, sA, sB, sC, i64_w, i32_w]; rfl, ?_⟩
        refine pu 3 (some 161) (bs 14 15) HT_ rfl rfl (by kernel_rfl) (fun _ _ _ _ h => h) ⟨_, .inl ⟨by rfl, fun _ => by go_simp; with_reducible rfl⟩, _, by simp only [Act.put, sA, sB, sC, i64_w, i32_w]; rfl, ?_⟩
        refine pu 4 (some 162) (bs 14 31) HT_ rfl rfl (by kernel_rfl) (fun _ _ _ _ h => h) ⟨_, .inl ⟨by rfl, fun _ => by go_simp; with_reducible rfl⟩, _, by simp only [Act.put, sA, sB, sC, i64_w, i32_w]; rfl, ?_⟩
        refine pu 5 (some 163) (bs 14 63) HT_ rfl rfl (by kernel_rfl) (fun _ _ _ _ h => h) ⟨_, .inl ⟨by rfl, fun _ => by go_simp; with_reducible rfl⟩, _, by simp only [Act.put, sA, sB, sC, i64_w, i32_w]; rfl, ?_⟩
        refine pu 7 (some 165) (bs 14 191) HT_ rfl rfl (by kernel_rfl) (fun _ _ _ _ h => h) ⟨_, .inl ⟨by rfl, fun _ => by go_simp; with_reducible rfl⟩, _, by simp only [Act.put, sA, sB, sC, i64_w, i32_w]; rfl, ?_⟩
        refine pu 8 (some 166) (bs 14 447) HT_ rfl rfl (by kernel_rfl) (fun _ _ _ _ h => h) ⟨_, .inl ⟨by rfl, fun _ => by go_simp; with_reducible rfl⟩, _, by simp only [Act.put, sA, sB, sC, i64_w, i32_w]; rfl, ?_⟩
        refine pu 9 (some 167) (bs 14 959) HT_ rfl rfl (by kernel_rfl) (fun _ _ _ _ h => h) ⟨_, .inl ⟨by rfl, fun _ => by go_simp; with_reducible rfl⟩, _, by simp only [Act.put, sA, sB, sC, i64_w, i32_w]; rfl, ?_⟩
        refine tk 6 (some 164) (bs 14 1023) HT_ HW_ rfl rfl (by kernel_rfl) (fun _ _ _ _ h => h) hHeld ⟨_, .inl ⟨by rfl, by rintro w' s0; refine load_mid (x := .tmp 163) (j := zq.toNat) ?_ ?_ rfl s0 J1.out Tryd.underlying39 rfl (by kernel_rfl) <;> rfl⟩, _, by simp only [Act.put, sA, sB, sC, i64_w, i32_w]; rfl, ?_⟩
        refine tk 10 (some 168) (bs 14 2047) HT_ HW_ rfl rfl (by kernel_rfl) (fun _ _ _ _ h => h) hHeld ⟨_, .inl ⟨by rfl, by rintro w' s0; refine load_mid (x := .tmp 167) (j := zk.toNat) ?_ ?_ rfl s0 J0.out Tryd.underlying39 rfl (by kernel_rfl) <;> rfl⟩, _, by simp only [Act.put, sA, sB, sC, i64_w, i32_w]; rfl, ?_⟩
        refine on1 11 (some 169) (bs 14 4095) HT_ rfl rfl (by kernel_rfl) (by decide) (fun K hK => ?_)
        refine goesv_ (f := f) (x := .tmp 158) HF.out.1 HF.out.2.1 HF.out.2.2 #[.agg y, .agg x] (by rfl) rfl rfl rfl (by (try simp only [List.map_toArray, List.map_cons, List.map_nil]); first | done | rfl) ?_
        refine (HQ.out _).mono ?_
        rintro e w1 ⟨rfl, hb1⟩
        replace hR2 := hR2.below hb1
        replace hBt := hBt.trans (But.of_below hb1)
        clear hb1
        refine ⟨_, rfl, ?_⟩
        refine hK.out _ _ hR2 (fun hHeld => ?_)
        clear hK K
        refine nm ⟨_, show Act.put _ (some 169) _ = _ by simp only [Act.put, sA, sB, sC, i64_w, i32_w]; rfl, ?_⟩
        refine pu 12 (some 170) (bs 14 8191) HT_ rfl rfl (by kernel_rfl) (fun _ _ _ _ h => h) ⟨_, .inl ⟨by rfl, fun _ => by go_simp; with_reducible rfl⟩, _, by simp only [Act.put, sA, sB, sC, i64_w, i32_w]; rfl, ?_⟩
        refine pu 13 (some 171) (bs 14 16383) HT_ rfl rfl (by kernel_rfl) (fun _ _ _ _ h => h) ⟨_, .inl ⟨by rfl, fun _ => by go_simp; with_reducible rfl⟩, _, by simp only [Act.put, sA, sB, sC, i64_w, i32_w]; rfl, ?_⟩
        refine done_ (done_of HT_.out (by kernel_rfl)) ?_
        generalize hnb : (!decide (cv < 0)) = nb
        cases nb
        · have hneg : cv < 0 := by
            by_cases h9 : cv < 0
            · exact h9
            · rw [decide_eq_false h9] at hnb; cases hnb
          clear hnb
          go_wp2
          go_roundw
          case rel =>
            obtain ⟨i1, i2, i3, i4, i5, i6, i7⟩ := hI.out
            obtain ⟨j1, j2, j3, j4, j5, j6, j7, j8⟩ := HZ.out
            obtain ⟨u1, u2, u3, u4, u5, u6, u7, u8, u9⟩ := HH.out
            refine ⟨z, zk, rfl, by first | rfl | rw [eh], Lib.hid ⟨i1, by omega, by omega, i4, fun i x' y' h1 h2 h3 h4 => ?_, hR2, hBt⟩⟩
            by_cases h5 : r ≤ a + i
            · exact i5 i x' y' h5 h2 h3 h4
            · have k10 := HE.out.2.2.2.2.2.2.2.2
              have hik := HE.out.2.2.2.2.2
              exact Srt.test_up hc A B u6 u7 mu ki i (by omega) (by omega) j2 j3 h3 h4 (by rw [← j4]; exact hneg)
          case measure => have := HZ.out.2.2.2.2.2; simp [intOf]; omega
        · have hneg : ¬ cv < 0 := fun h9 => by rw [decide_eq_true h9] at hnb; cases hnb
          clear hnb
          go_wp2
          go_roundw
          case rel =>
            obtain ⟨i1, i2, i3, i4, i5, i6, i7⟩ := hI.out
            obtain ⟨j1, j2, j3, j4, j5, j6, j7, j8⟩ := HZ.out
            obtain ⟨u1, u2, u3, u4, u5, u6, u7, u8, u9⟩ := HH.out
            refine ⟨zk + 1, r, by first | rfl | rw [j7], rfl, Lib.hid ⟨by omega, by omega, i3, fun i x' y' h1 h2 h3 h4 => ?_, i5, hR2, hBt⟩⟩
            by_cases h5 : c y' x' < 0
            · have := Srt.test_up hc A B u6 u7 mu i ki (by omega) j5 h3 h4 j2 j3 h5
              rw [← j4] at this
              omega
            · omega
          case measure => have := HZ.out.2.2.2.2.2; simp [intOf]; omega
      · have hzr : z = r := by have := hI.out.2.1; omega
        have d1 : decide (z < r) = false := decide_eq_false hlt
        clear hlt
        obtain ⟨i1, i2, i3, i4, i5, i6, i7⟩ := hI.out
        obtain ⟨k1, k2, k3, k4, k5, k6, k7, k8, k9, k10, k11, k12, k13, k14, k15⟩ := HE.out
        obtain ⟨u1, u2, u3, u4, u5, u6, u7, u8, u9⟩ := HH.out
        obtain ⟨ze, hze⟩ : ∃ ze : Int, ze = zn - z := ⟨_, rfl⟩
        have eze : wrap64 (zn - z) = ze := by unfold wrap64; omega
        obtain ⟨s, hs⟩ : ∃ s : Nat, z = a + s := ⟨(z - a).toNat, by omega⟩
        obtain ⟨t, ht⟩ : ∃ t : Nat, mu = s + t := ⟨mu - s, by omega⟩
        have hsA : s ≤ A.length := by omega
        have htB : t ≤ B.length := by omega
        have hcut := Srt.merge_cut hc A B u6 u7 s t hsA htB (fun x y h1 h2 h3 => by
            have h4 := (List.getElem?_eq_some_iff.1 h3).1
            have := i4 (s - 1) x y (by omega) (by omega) h2 (by rw [show mu - 1 - (s - 1) = t by omega]; exact h3)
            omega) (fun x y h1 h2 h3 => by
            have h4 := (List.getElem?_eq_some_iff.1 h2).1
            exact i5 s x y (by omega) (by omega) h2 (by rw [show mu - 1 - s = t - 1 by omega]; exact h3))
        have b1 : decide (z < m) = decide (s < A.length) := by by_cases h : s < A.length <;> simp [h] <;> omega
        have b2 : decide (m < ze) = decide (0 < t) := by by_cases h : 0 < t <;> simp [h] <;> omega
        have b3 : decide (a < z) = decide (0 < s) := by by_cases h : 0 < s <;> simp [h] <;> omega
        have b4 : decide (z < zm) = decide (0 < t) := by by_cases h : 0 < t <;> simp [h] <;> omega
        have b5 : decide (zm < ze) = decide (s < A.length) := by by_cases h : s < A.length <;> simp [h] <;> omega
        have b6 : decide (ze < b) = decide (t < B.length) := by by_cases h : t < B.length <;> simp [h] <;> omega
        obtain ⟨R1, R2, R3, hR3, ⟨p1, p2⟩, ⟨p3, p4⟩, ⟨p5, p6⟩⟩ := sym_parts f D c g cap N u2 X A B Z u3 u4 u5 u6 u7 u8 u9 s t hsA htB (by omega) len (by rw [List.length_append, List.length_append, List.length_append]; omega) hcap hn a m b z ze zm (by omega) (by omega) (by omega) hs (by omega) (by omega)
        rw [← hcut] at hR3
        have HP := Lib.hid (And.intro p1 (And.intro p2 (And.intro p3 (And.intro p4 (And.intro p5 p6)))))
        have hR2 := Lib.hid (And.intro i6 i7)
        clear p1 p2 p3 p4 p5 p6 i1 i2 i3 i4 i5 i6 i7 k1 k2 k3 k4 k5 k6 k7 k8 k9 k10 k11 k12 k13 k14 k15 u1 u2 u3 u4 u5 u6 u7 u8 u9 hze hs ht hsA htB hcut hzr
        generalize hp : decide (s < A.length) = p at b1 b5
        generalize hq : decide (0 < t) = q at b2 b4
        generalize hu : decide (0 < s) = u at b3
        generalize hv : decide (t < B.length) = v at b6
        cases p <;> cases q <;> cases u <;> cases v
        case true.true.true.true =>
          go_wp2_with (first
            | (go_at_call 70; (with_reducible refine (HP.out.1 (of_decide_eq_true hp) (of_decide_eq_true hq) _ hR2.out.1).mono ?_); rintro e w7 ⟨⟨v7, rfl⟩, hR7, hB7⟩)
            | (go_at_call 57; (with_reducible refine (HP.out.2.2.1 (of_decide_eq_true hu) (of_decide_eq_true hq) _ hR7).mono ?_); rintro e w8 ⟨⟨v8, rfl⟩, hR8, hB8⟩)
            | (go_at_call 57; (with_reducible refine (HP.out.2.2.2.2.1 (of_decide_eq_true hp) (of_decide_eq_true hv) _ hR8).mono ?_); rintro e w9 ⟨⟨v9, rfl⟩, hR9, hB9⟩))
          exact ⟨rfl, .tuple #[], by simp [results, Tryd.results57], ⟨_, rfl⟩, by rw [← hR3]; exact hR9, (((hR2.out.2.trans hB7).trans hB8).trans hB9)⟩
        case true.true.true.false =>
          have q3 := Lib.hid (HP.out.2.2.2.2.2 (fun h => of_decide_eq_false hv h.2))
          go_wp2_with (first
            | (go_at_call 70; (with_reducible refine (HP.out.1 (of_decide_eq_true hp) (of_decide_eq_true hq) _ hR2.out.1).mono ?_); rintro e w7 ⟨⟨v7, rfl⟩, hR7, hB7⟩)
            | (go_at_call 57; (with_reducible refine (HP.out.2.2.1 (of_decide_eq_true hu) (of_decide_eq_true hq) _ hR7).mono ?_); rintro e w8 ⟨⟨v8, rfl⟩, hR8, hB8⟩))
          exact ⟨rfl, .tuple #[], by simp [results, Tryd.results57], ⟨_, rfl⟩, by rw [← hR3]; exact (q3.out ▸ hR8), ((hR2.out.2.trans hB7).trans hB8)⟩
        case true.true.false.true =>
          have q2 := Lib.hid (HP.out.2.2.2.1 (fun h => of_decide_eq_false hu h.1))
          go_wp2_with (first
            | (go_at_call 70; (with_reducible refine (HP.out.1 (of_decide_eq_true hp) (of_decide_eq_true hq) _ hR2.out.1).mono ?_); rintro e w7 ⟨⟨v7, rfl⟩, hR7, hB7⟩)
            | (go_at_call 57; (with_reducible refine (HP.out.2.2.2.2.1 (of_decide_eq_true hp) (of_decide_eq_true hv) _ (q2.out ▸ hR7)).mono ?_); rintro e w9 ⟨⟨v9, rfl⟩, hR9, hB9⟩))
          exact ⟨rfl, .tuple #[], by simp [results, Tryd.results57], ⟨_, rfl⟩, by rw [← hR3]; exact hR9, ((hR2.out.2.trans hB7).trans hB9)⟩
        case true.true.false.false =>
          have q2 := Lib.hid (HP.out.2.2.2.1 (fun h => of_decide_eq_false hu h.1))
          have q3 := Lib.hid (HP.out.2.2.2.2.2 (fun h => of_decide_eq_false hv h.2))
          go_wp2_with (first
            | (go_at_call 70; (with_reducible refine (HP.out.1 (of_decide_eq_true hp) (of_decide_eq_true hq) _ hR2.out.1).mono ?_); rintro e w7 ⟨⟨v7, rfl⟩, hR7, hB7⟩))
          exact ⟨rfl, .tuple #[], by simp [results, Tryd.results57], ⟨_, rfl⟩, by rw [← hR3]; exact (q3.out ▸ (q2.out ▸ hR7)), (hR2.out.2.trans hB7)⟩
        case true.false.true.true =>
          have q1 := Lib.hid (HP.out.2.1 (fun h => of_decide_eq_false hq h.2))
          have q2 := Lib.hid (HP.out.2.2.2.1 (fun h => of_decide_eq_false hq h.2))
          go_wp2_with (first
            | (go_at_call 57; (with_reducible refine (HP.out.2.2.2.2.1 (of_decide_eq_true hp) (of_decide_eq_true hv) _ (q2.out ▸ (q1.out ▸ hR2.out.1))).mono ?_); rintro e w9 ⟨⟨v9, rfl⟩, hR9, hB9⟩))
          exact ⟨rfl, .tuple #[], by simp [results, Tryd.results57], ⟨_, rfl⟩, by rw [← hR3]; exact hR9, (hR2.out.2.trans hB9)⟩
        case true.false.true.false =>
          have q1 := Lib.hid (HP.out.2.1 (fun h => of_decide_eq_false hq h.2))
          have q2 := Lib.hid (HP.out.2.2.2.1 (fun h => of_decide_eq_false hq h.2))
          have q3 := Lib.hid (HP.out.2.2.2.2.2 (fun h => of_decide_eq_false hv h.2))
          go_wp2
          exact ⟨rfl, .tuple #[], by simp [results, Tryd.results57], ⟨_, rfl⟩, by rw [← hR3]; exact (q3.out ▸ (q2.out ▸ (q1.out ▸ hR2.out.1))), hR2.out.2⟩
        case true.false.false.true =>
          have q1 := Lib.hid (HP.out.2.1 (fun h => of_decide_eq_false hq h.2))
          have q2 := Lib.hid (HP.out.2.2.2.1 (fun h => of_decide_eq_false hu h.1))
          go_wp2_with (first
            | (go_at_call 57; (with_reducible refine (HP.out.2.2.2.2.1 (of_decide_eq_true hp) (of_decide_eq_true hv) _ (q2.out ▸ (q1.out ▸ hR2.out.1))).mono ?_); rintro e w9 ⟨⟨v9, rfl⟩, hR9, hB9⟩))
          exact ⟨rfl, .tuple #[], by simp [results, Tryd.results57], ⟨_, rfl⟩, by rw [← hR3]; exact hR9, (hR2.out.2.trans hB9)⟩
        case true.false.false.false =>
          have q1 := Lib.hid (HP.out.2.1 (fun h => of_decide_eq_false hq h.2))
          have q2 := Lib.hid (HP.out.2.2.2.1 (fun h => of_decide_eq_false hu h.1))
          have q3 := Lib.hid (HP.out.2.2.2.2.2 (fun h => of_decide_eq_false hv h.2))
          go_wp2
          exact ⟨rfl, .tuple #[], by simp [results, Tryd.results57], ⟨_, rfl⟩, by rw [← hR3]; exact (q3.out ▸ (q2.out ▸ (q1.out ▸ hR2.out.1))), hR2.out.2⟩
        case false.true.true.true =>
          have q1 := Lib.hid (HP.out.2.1 (fun h => of_decide_eq_false hp h.1))
          have q3 := Lib.hid (HP.out.2.2.2.2.2 (fun h => of_decide_eq_false hp h.1))
          go_wp2_with (first
            | (go_at_call 57; (with_reducible refine (HP.out.2.2.1 (of_decide_eq_true hu) (of_decide_eq_true hq) _ (q1.out ▸ hR2.out.1)).mono ?_); rintro e w8 ⟨⟨v8, rfl⟩, hR8, hB8⟩))
          exact ⟨rfl, .tuple #[], by simp [results, Tryd.results57], ⟨_, rfl⟩, by rw [← hR3]; exact (q3.out ▸ hR8), (hR2.out.2.trans hB8)⟩
        case false.true.true.false =>
          have q1 := Lib.hid (HP.out.2.1 (fun h => of_decide_eq_false hp h.1))
          have q3 := Lib.hid (HP.out.2.2.2.2.2 (fun h => of_decide_eq_false hp h.1))
          go_wp2_with (first
            | (go_at_call 57; (with_reducible refine (HP.out.2.2.1 (of_decide_eq_true hu) (of_decide_eq_true hq) _ (q1.out ▸ hR2.out.1)).mono ?_); rintro e w8 ⟨⟨v8, rfl⟩, hR8, hB8⟩))
          exact ⟨rfl, .tuple #[], by simp [results, Tryd.results57], ⟨_, rfl⟩, by rw [← hR3]; exact (q3.out ▸ hR8), (hR2.out.2.trans hB8)⟩
        case false.true.false.true =>
          have q1 := Lib.hid (HP.out.2.1 (fun h => of_decide_eq_false hp h.1))
          have q2 := Lib.hid (HP.out.2.2.2.1 (fun h => of_decide_eq_false hu h.1))
          have q3 := Lib.hid (HP.out.2.2.2.2.2 (fun h => of_decide_eq_false hp h.1))
          go_wp2
          exact ⟨rfl, .tuple #[], by simp [results, Tryd.results57], ⟨_, rfl⟩, by rw [← hR3]; exact (q3.out ▸ (q2.out ▸ (q1.out ▸ hR2.out.1))), hR2.out.2⟩
        case false.true.false.false =>
          have q1 := Lib.hid (HP.out.2.1 (fun h => of_decide_eq_false hp h.1))
          have q2 := Lib.hid (HP.out.2.2.2.1 (fun h => of_decide_eq_false hu h.1))
          have q3 := Lib.hid (HP.out.2.2.2.2.2 (fun h => of_decide_eq_false hp h.1))
          go_wp2
          exact ⟨rfl, .tuple #[], by simp [results, Tryd.results57], ⟨_, rfl⟩, by rw [← hR3]; exact (q3.out ▸ (q2.out ▸ (q1.out ▸ hR2.out.1))), hR2.out.2⟩
        case false.false.true.true =>
          have q1 := Lib.hid (HP.out.2.1 (fun h => of_decide_eq_false hp h.1))
          have q2 := Lib.hid (HP.out.2.2.2.1 (fun h => of_decide_eq_false hq h.2))
          have q3 := Lib.hid (HP.out.2.2.2.2.2 (fun h => of_decide_eq_false hp h.1))
          go_wp2
          exact ⟨rfl, .tuple #[], by simp [results, Tryd.results57], ⟨_, rfl⟩, by rw [← hR3]; exact (q3.out ▸ (q2.out ▸ (q1.out ▸ hR2.out.1))), hR2.out.2⟩
        case false.false.true.false =>
          have q1 := Lib.hid (HP.out.2.1 (fun h => of_decide_eq_false hp h.1))
          have q2 := Lib.hid (HP.out.2.2.2.1 (fun h => of_decide_eq_false hq h.2))
          have q3 := Lib.hid (HP.out.2.2.2.2.2 (fun h => of_decide_eq_false hp h.1))
          go_wp2
          exact ⟨rfl, .tuple #[], by simp [results, Tryd.results57], ⟨_, rfl⟩, by rw [← hR3]; exact (q3.out ▸ (q2.out ▸ (q1.out ▸ hR2.out.1))), hR2.out.2⟩
        case false.false.false.true =>
          have q1 := Lib.hid (HP.out.2.1 (fun h => of_decide_eq_false hp h.1))
          have q2 := Lib.hid (HP.out.2.2.2.1 (fun h => of_decide_eq_false hu h.1))
          have q3 := Lib.hid (HP.out.2.2.2.2.2 (fun h => of_decide_eq_false hp h.1))
          go_wp2
          exact ⟨rfl, .tuple #[], by simp [results, Tryd.results57], ⟨_, rfl⟩, by rw [← hR3]; exact (q3.out ▸ (q2.out ▸ (q1.out ▸ hR2.out.1))), hR2.out.2⟩
        case false.false.false.false =>
          have q1 := Lib.hid (HP.out.2.1 (fun h => of_decide_eq_false hp h.1))
          have q2 := Lib.hid (HP.out.2.2.2.1 (fun h => of_decide_eq_false hu h.1))
          have q3 := Lib.hid (HP.out.2.2.2.2.2 (fun h => of_decide_eq_false hp h.1))
          go_wp2
          exact ⟨rfl, .tuple #[], by simp [results, Tryd.results57], ⟨_, rfl⟩, by rw [← hR3]; exact (q3.out ▸ (q2.out ▸ (q1.out ▸ hR2.out.1))), hR2.out.2⟩
theorem sym_calls (f : FuncId) (D : Array Value → Prop) (c : Array Value → Array Value → Int) (hcmp : CmpAt f D c) (hc : Wc.IsCmp c) (g cap N : Nat) : SymOk f D c g cap N := by
  induction N with
  | zero => intro X A B Z h1 h2; omega
  | succ N ih =>
    intro X A B Z h1 h2 h3 hA hB hDA hDB len hlen hcap hn a m b ha hm hb w hR
    rcases Nat.lt_or_ge A.length 2 with hl | hl
    · obtain ⟨x, rfl⟩ : ∃ x, A = [x] := List.length_eq_one_iff.1 (by omega)
      exact sym_one f D c hcmp hc X B Z x h3 hB (hDA x (by simp)) hDB g cap len hlen hcap hn a m b ha (by simpa using hm) (by simpa using hb) w hR
    · rcases Nat.lt_or_ge B.length 2 with hk | hk
      · obtain ⟨y, rfl⟩ : ∃ y, B = [y] := List.length_eq_one_iff.1 (by omega)
        exact sym_last f D c hcmp hc X A Z y hl hA (hDB y (by simp)) hDA g cap len hlen hcap hn a m b ha hm (by simpa using hb) w hR
      · exact sym_main f D c hcmp hc g cap N ih X A B Z h1 hl hk hA hB hDA hDB len hlen hcap hn a m b ha hm hb w hR
end Go.Proofs.YtiaggfjfgoiafaaDoor

/- Stable sorting by blocks, plainly: what each block holds on the way. -/
namespace Go.Proofs.YtiaggfjfgoiafaaDoor.Srt
open Go.Proofs.YtiaggfjfgoiafaaDoor.Wc
variable {α : Type} {c : α → α → Int}
def seg (L : List α) (a n : Nat) : List α := (L.drop a).take n
theorem seg_length (L : List α) (a n : Nat) : (seg L a n).length = min n (L.length - a) := by simp [seg]
theorem seg_cut (L : List α) (a n m : Nat) : seg L a (n + m) = seg L a n ++ seg L (a + n) m := by
  unfold seg
  rw [List.take_add, List.drop_drop]
theorem seg_split (L : List α) (a n : Nat) : L.take a ++ seg L a n ++ L.drop (a + n) = L := by
  unfold seg
  rw [List.append_assoc, ← List.drop_drop, List.take_append_drop, List.take_append_drop]
theorem seg_nil (L : List α) (a n : Nat) (h : L.length ≤ a) : seg L a n = [] := by
  unfold seg
  rw [List.drop_eq_nil_of_le h, List.take_nil]
theorem seg_all (L : List α) (a n : Nat) (h : L.length ≤ a + n) : seg L a n = L.drop a := by
  unfold seg
  rw [List.take_of_length_le (by rw [List.length_drop]; omega)]
section
variable (R Y : List α) (a w : Nat) (h : a + w ≤ R.length) (hY : Y.length = w)
include h hY
theorem rep_len : (R.take a ++ Y ++ R.drop (a + w)).length = R.length := by simp; omega
theorem rep_left (b n : Nat) (hb : b + n ≤ a) : seg (R.take a ++ Y ++ R.drop (a + w)) b n = seg R b n := by
  unfold seg
  rw [List.append_assoc, List.drop_append_of_le_length (by rw [List.length_take]; omega), List.take_append_of_le_length (by rw [List.length_drop, List.length_take]; omega), List.drop_take, List.take_take, show min n (a - b) = n by omega]
theorem rep_drop : (R.take a ++ Y ++ R.drop (a + w)).drop (a + w) = R.drop (a + w) := by
  rw [List.drop_append, List.drop_of_length_le (by rw [List.length_append, List.length_take]; omega), List.nil_append, List.length_append, List.length_take, show a + w - (min a R.length + Y.length) = 0 by omega, List.drop_zero]
theorem rep_right (b n : Nat) (hb : a + w ≤ b) : seg (R.take a ++ Y ++ R.drop (a + w)) b n = seg R b n := by
  unfold seg
  rw [show b = (a + w) + (b - (a + w)) by omega, ← List.drop_drop, rep_drop R Y a w h hY, List.drop_drop]
theorem rep_mid : seg (R.take a ++ Y ++ R.drop (a + w)) a w = Y := by
  unfold seg
  have e : (R.take a).length = a := by rw [List.length_take]; omega
  rw [List.append_assoc, List.drop_append_of_le_length (by omega), List.drop_of_length_le (by omega), List.nil_append, List.take_append_of_le_length (by omega), List.take_of_length_le (by omega)]
end
theorem mul_lt_ {k j m : Nat} (h : k < j) : k * m + m ≤ j * m := by
  have := Nat.mul_le_mul_right m (show k + 1 ≤ j by omega)
  rw [Nat.add_mul, Nat.one_mul] at this
  exact this
structure Begun (c : α → α → Int) (n a : Nat) (L R : List α) : Prop where
  len : R.length = L.length
  fst : ∀ k, k * n + n ≤ a → seg R (k * n) n = isort c (seg L (k * n) n)
  snd : R.drop a = L.drop a
structure Blocks (c : α → α → Int) (n : Nat) (L R : List α) : Prop where
  len : R.length = L.length
  all : ∀ k, seg R (k * n) n = isort c (seg L (k * n) n)
structure Part (c : α → α → Int) (m n a : Nat) (L R : List α) : Prop where
  len : R.length = L.length
  fst : ∀ k, k * m + m ≤ a → seg R (k * m) m = isort c (seg L (k * m) m)
  snd : ∀ k, a ≤ k * n → seg R (k * n) n = isort c (seg L (k * n) n)
theorem Begun.start (n : Nat) (hn : 0 < n) (L : List α) : Begun c n 0 L L := ⟨rfl, fun k hk => by omega, rfl⟩
theorem Begun.next {n a : Nat} {L R : List α} (h : Begun c n a L R) (j : Nat) (ha : a = j * n) (hb : a + n ≤ L.length) (hn : 0 < n) :
    Begun c n (a + n) L (R.take a ++ isort c ((R.drop a).take (a + n - a)) ++ R.drop (a + n)) := by
  have hl := h.len
  rw [show a + n - a = n by omega]
  have li : (isort c ((R.drop a).take n)).length = n := by rw [isort_length, List.length_take, List.length_drop]; omega
  refine ⟨by rw [rep_len R _ a n (by omega) li, hl], fun k hk => ?_, ?_⟩
  · rcases Nat.lt_trichotomy k j with g | g | g
    · have := mul_lt_ (m := n) g
      rw [rep_left R _ a n (by omega) li _ _ (by omega), h.fst k (by omega)]
    · subst g
      rw [← ha, rep_mid R _ a n (by omega) li, h.snd]
      rfl
    · have := mul_lt_ (m := n) g
      omega
  · rw [rep_drop R _ a n (by omega) li, ← List.drop_drop, ← List.drop_drop, h.snd]
theorem Begun.last {n a : Nat} {L R : List α} (h : Begun c n a L R) (j : Nat) (ha : a = j * n) (hb : L.length < a + n) (hal : a ≤ L.length) (hn : 0 < n) :
    Blocks c n L (R.take a ++ isort c ((R.drop a).take (L.length - a)) ++ R.drop L.length) := by
  have hl := h.len
  obtain ⟨w, hw⟩ : ∃ w, w = L.length - a := ⟨_, rfl⟩
  rw [← hw, show L.length = a + w by omega]
  have li : (isort c ((R.drop a).take w)).length = w := by rw [isort_length, List.length_take, List.length_drop]; omega
  have hlen := rep_len R _ a w (by omega) li
  refine ⟨by rw [hlen, hl], fun k => ?_⟩
  rcases Nat.lt_trichotomy k j with g | g | g
  · have := mul_lt_ (m := n) g
    rw [rep_left R _ a w (by omega) li _ _ (by omega), h.fst k (by omega)]
  · subst g
    rw [← ha, seg_all _ a n (by omega), ← seg_all _ a w (by omega), rep_mid R _ a w (by omega) li, h.snd, seg_all L a n (by omega), List.take_of_length_le (by rw [List.length_drop]; omega)]
  · have := mul_lt_ (m := n) g
    rw [seg_nil _ _ _ (by omega), seg_nil _ _ _ (by omega)]
    rfl
theorem Blocks.part {n : Nat} {L R : List α} (h : Blocks c n L R) (hn : 0 < n) : Part c (2 * n) n 0 L R := ⟨h.len, fun k hk => by omega, fun k _ => h.all k⟩
theorem Blocks.end_ {n : Nat} {L R : List α} (h : Blocks c n L R) (hn : L.length ≤ n) : R = isort c L := by
  have := h.all 0
  have hl := h.len
  rw [Nat.zero_mul, seg_all _ _ _ (by omega), seg_all _ _ _ (by omega)] at this
  exact this
theorem Part.two {n a : Nat} {L R : List α} (h : Part c (2 * n) n a L R) (hc : IsCmp c) (j : Nat) (ha : a = j * (2 * n)) : merge c (seg R a n) (seg R (a + n) n) = isort c (seg L a (2 * n)) := by
  have e1 : a = (2 * j) * n := by rw [ha, Nat.mul_left_comm, ← Nat.mul_assoc]
  have e2 : a + n = (2 * j + 1) * n := by rw [Nat.add_mul, Nat.one_mul, ← e1]
  have h1 := h.snd (2 * j) (by omega)
  have h2 := h.snd (2 * j + 1) (by omega)
  rw [← e1] at h1
  rw [← e2] at h2
  rw [h1, h2, ← isort_app hc, show 2 * n = n + n by omega, seg_cut]
theorem Part.next {n a : Nat} {L R : List α} (h : Part c (2 * n) n a L R) (hc : IsCmp c) (j : Nat) (ha : a = j * (2 * n)) (hb : a + 2 * n ≤ L.length) (hn : 0 < n) :
    Part c (2 * n) n (a + 2 * n) L (R.take a ++ merge c (seg R a n) (seg R (a + n) n) ++ R.drop (a + 2 * n)) := by
  have hl := h.len
  have li : (merge c (seg R a n) (seg R (a + n) n)).length = 2 * n := by rw [merge_length _ _ _ (Nat.le_refl _), seg_length, seg_length]; omega
  refine ⟨by rw [rep_len R _ a (2 * n) (by omega) li, hl], fun k hk => ?_, fun k hk => ?_⟩
  · rcases Nat.lt_trichotomy k j with g | g | g
    · have := mul_lt_ (m := 2 * n) g
      rw [rep_left R _ a (2 * n) (by omega) li _ _ (by omega), h.fst k (by omega)]
    · subst g
      rw [← ha, rep_mid R _ a (2 * n) (by omega) li, h.two hc k ha]
    · have := mul_lt_ (m := 2 * n) g
      omega
  · rw [rep_right R _ a (2 * n) (by omega) li _ _ (by omega), h.snd k (by omega)]
theorem Part.most {n a : Nat} {L R : List α} (h : Part c (2 * n) n a L R) (hc : IsCmp c) (j : Nat) (ha : a = j * (2 * n)) (hb : L.length < a + 2 * n) (hm : a + n < L.length) (hn : 0 < n) :
    Blocks c (2 * n) L (R.take a ++ merge c (seg R a n) (R.drop (a + n)) ++ []) := by
  have hl := h.len
  obtain ⟨w, hw⟩ : ∃ w, w = L.length - a := ⟨_, rfl⟩
  have e0 : ([] : List α) = R.drop (a + w) := by rw [List.drop_eq_nil_of_le (by omega)]
  rw [e0]
  have li : (merge c (seg R a n) (R.drop (a + n))).length = w := by rw [merge_length _ _ _ (Nat.le_refl _), seg_length, List.length_drop]; omega
  have hlen := rep_len R _ a w (by omega) li
  refine ⟨by rw [hlen, hl], fun k => ?_⟩
  rcases Nat.lt_trichotomy k j with g | g | g
  · have := mul_lt_ (m := 2 * n) g
    rw [rep_left R _ a w (by omega) li _ _ (by omega), h.fst k (by omega)]
  · subst g
    rw [← ha, seg_all _ a (2 * n) (by omega), ← seg_all _ a w (by omega), rep_mid R _ a w (by omega) li, ← seg_all R (a + n) n (by omega), h.two hc k ha]
  · have := mul_lt_ (m := 2 * n) g
    rw [seg_nil _ _ _ (by omega), seg_nil _ _ _ (by omega)]
    rfl
theorem Part.none_ {n a : Nat} {L R : List α} (h : Part c (2 * n) n a L R) (hc : IsCmp c) (j : Nat) (ha : a = j * (2 * n)) (hb : L.length ≤ a + n) (hn : 0 < n) : Blocks c (2 * n) L R := by
  have hl := h.len
  refine ⟨hl, fun k => ?_⟩
  rcases Nat.lt_trichotomy k j with g | g | g
  · have := mul_lt_ (m := 2 * n) g
    rw [h.fst k (by omega)]
  · subst g
    have e1 : a = (2 * k) * n := by rw [ha, Nat.mul_left_comm, ← Nat.mul_assoc]
    have h1 := h.snd (2 * k) (by omega)
    rw [← e1] at h1
    rw [← ha, seg_all _ a (2 * n) (by omega), seg_all _ a (2 * n) (by omega), ← seg_all R a n (by omega), h1, seg_all L a n (by omega)]
  · have := mul_lt_ (m := 2 * n) g
    rw [seg_nil _ _ _ (by omega), seg_nil _ _ _ (by omega)]
    rfl
theorem Blocks.sorted {n : Nat} {L R : List α} (h : Blocks c n L R) (hc : IsCmp c) (k : Nat) : Sorted c (seg R (k * n) n) := by rw [h.all]; exact isort_sorted hc _
end Go.Proofs.YtiaggfjfgoiafaaDoor.Srt

/- Stable sorting, plainly: sorting pictures; what is equal among itself keeps its order; the document's way (put in from behind). -/
namespace Go.Proofs.YtiaggfjfgoiafaaDoor.Srt
open Go.Proofs.YtiaggfjfgoiafaaDoor.Wc
variable {α β : Type}
theorem ins_map (c : α → α → Int) (f : β → α) (x : β) (l : List β) : (ins (fun a b => c (f a) (f b)) x l).map f = ins c (f x) (l.map f) := by
  induction l with
  | nil => rfl
  | cons y l ih =>
    simp only [ins, List.map_cons]
    split
    · rfl
    · rw [List.map_cons, ih]
theorem isort_map (c : α → α → Int) (f : β → α) (l : List β) : (isort (fun a b => c (f a) (f b)) l).map f = isort c (l.map f) := by
  have key : ∀ (l acc : List β), (l.foldl (fun acc x => ins (fun a b => c (f a) (f b)) x acc) acc).map f = (l.map f).foldl (fun acc x => ins c x acc) (acc.map f) := by
    intro l
    induction l with
    | nil => intro acc; rfl
    | cons x l ih => intro acc; rw [List.foldl_cons, ih, ins_map, List.map_cons, List.foldl_cons]
  exact key l []
theorem ins_congr {c c' : α → α → Int} (x : α) (l : List α) (h : ∀ y ∈ l, (c x y < 0 ↔ c' x y < 0)) : ins c x l = ins c' x l := by
  induction l with
  | nil => rfl
  | cons y l ih =>
    simp only [ins]
    have h1 := h y List.mem_cons_self
    by_cases g : c x y < 0
    · rw [if_pos g, if_pos (h1.1 g)]
    · rw [if_neg g, if_neg (fun k => g (h1.2 k)), ih (fun z hz => h z (List.mem_cons_of_mem _ hz))]
theorem isort_congr {c c' : α → α → Int} (l : List α) (h : ∀ x ∈ l, ∀ y ∈ l, (c x y < 0 ↔ c' x y < 0)) : isort c l = isort c' l := by
  have key : ∀ (l acc : List α), (∀ x ∈ l, ∀ y, y ∈ l ∨ y ∈ acc → (c x y < 0 ↔ c' x y < 0)) → l.foldl (fun acc x => ins c x acc) acc = l.foldl (fun acc x => ins c' x acc) acc := by
    intro l
    induction l with
    | nil => intro acc _; rfl
    | cons x l ih =>
      intro acc hh
      have e : ins c x acc = ins c' x acc := ins_congr x acc (fun y hy => hh x List.mem_cons_self y (.inr hy))
      rw [List.foldl_cons, List.foldl_cons, e]
      refine ih _ (fun z hz y hy => hh z (List.mem_cons_of_mem _ hz) y ?_)
      rcases hy with hy | hy
      · exact .inl (List.mem_cons_of_mem _ hy)
      · rcases (mem_ins x y acc).1 hy with rfl | hy
        · exact .inl List.mem_cons_self
        · exact .inr hy
  exact key l [] (fun x hx y hy => h x hx y (hy.resolve_right List.not_mem_nil))
theorem ins_perm (c : α → α → Int) (x : α) (l : List α) : (ins c x l).Perm (x :: l) := by
  induction l with
  | nil => exact List.Perm.refl _
  | cons y l ih =>
    simp only [ins]
    split
    · exact List.Perm.refl _
    · exact (List.Perm.cons y ih).trans (List.Perm.swap x y l)
theorem isort_perm (c : α → α → Int) (l : List α) : (isort c l).Perm l := by
  have key : ∀ (l acc : List α), (l.foldl (fun acc x => ins c x acc) acc).Perm (acc ++ l) := by
    intro l
    induction l with
    | nil => intro acc; rw [List.append_nil]; exact List.Perm.refl _
    | cons x l ih =>
      intro acc
      rw [List.foldl_cons]
      refine (ih _).trans ?_
      refine ((ins_perm c x acc).append_right l).trans ?_
      exact List.perm_middle.symm
  exact key l []
theorem mem_merge (c : α → α → Int) (x : α) : ∀ (n : Nat) (A B : List α), A.length + B.length ≤ n → (x ∈ merge c A B ↔ x ∈ A ∨ x ∈ B) := by
  intro n
  induction n with
  | zero =>
    intro A B hn
    obtain rfl : A = [] := List.length_eq_zero_iff.1 (by omega)
    rw [merge_nil_left]
    simp
  | succ n ih =>
    intro A B hn
    cases A with
    | nil => rw [merge_nil_left]; simp
    | cons a A =>
      cases B with
      | nil => rw [merge_nil_right]; simp
      | cons b B =>
        rw [merge_cons]
        split
        · rw [List.mem_cons, ih _ _ (by simp at hn ⊢; omega)]
          simp only [List.mem_cons]
          exact ⟨fun g => by rcases g with g | (g | g) | g <;> simp [g], fun g => by rcases g with (g | g) | (g | g) <;> simp [g]⟩
        · rw [List.mem_cons, ih _ _ (by simp at hn ⊢; omega)]
          simp only [List.mem_cons]
          exact ⟨fun g => by rcases g with g | g | (g | g) <;> simp [g], fun g => by rcases g with (g | g) | (g | g) <;> simp [g]⟩
def back (lt : α → α → Bool) (x : α) (acc : List α) (n : Nat) : Nat :=
  match n with
  | 0 => 0
  | n + 1 => match acc[n]? with
    | some y => if lt x y then back lt x acc n else n + 1
    | none => 0
end Go.Proofs.YtiaggfjfgoiafaaDoor.Srt

/- slices' stable sort over a block of objects: blocks of twenty, put in order by insertion, then merged. -/
namespace Go.Proofs.YtiaggfjfgoiafaaDoor
open Go.RowKit Go.Proofs.YtiaggfjfgoiafaaDoorW.PrintWords Go.Proofs.YtiaggfjfgoiafaaDoorW.PrintLast
def StI (D : Array Value → Prop) (g : Nat) (w wr : World) (R : List (Array Value)) : Prop := RowsAt wr g 32 R ∧ But g w wr ∧ ∀ x ∈ R, D x
theorem ins_seg (f : FuncId) (D : Array Value → Prop) (c : Array Value → Array Value → Int) (hcmp : CmpAt f D c) (hc : Wc.IsCmp c) (g cap len : Nat) (hcap : len ≤ cap) (hn : len ≤ 1099511627776) (R : List (Array Value)) (hl : R.length = len) (w W : World) (hS : StI D g w W R) (a b : Nat) (hab : a ≤ b) (hb : b ≤ len) (za zb : Int) (ha : za = a) (hz : zb = b) :
    Calls Tryd.prog 56 #[.slice (some ⟨g, 0, none⟩) len cap, .int .i64 za, .int .i64 zb, .func (.func f) #[] #[]] W fun e w' =>
      (∃ v, e = .returned v) ∧ StI D g w w' (R.take a ++ Srt.isort c ((R.drop a).take (b - a)) ++ R.drop b) := by
  subst hl; subst ha; subst hz
  refine (insSort_calls f D c hcmp hc R hS.2.2 g cap a b hab hb hcap hn W hS.1).mono ?_
  rintro e w' ⟨hv, hR, hB⟩
  refine ⟨hv, hR, hS.2.1.trans hB, fun x hx => hS.2.2 x ?_⟩
  rcases List.mem_append.1 hx with hx | hx
  · rcases List.mem_append.1 hx with hx | hx
    · exact List.mem_of_mem_take hx
    · exact List.mem_of_mem_drop (List.mem_of_mem_take ((Srt.mem_isort x _).1 hx))
  · exact List.mem_of_mem_drop hx
theorem merge_seg (f : FuncId) (D : Array Value → Prop) (c : Array Value → Array Value → Int) (hcmp : CmpAt f D c) (hc : Wc.IsCmp c) (g cap len : Nat) (hcap : len ≤ cap) (hn : len ≤ 1099511627776) (R : List (Array Value)) (hl : R.length = len) (w W : World) (hS : StI D g w W R) (a k q : Nat) (hk : 0 < k) (hq : 0 < q) (hle : a + k + q ≤ len)
    (sA : Srt.Sorted c (Srt.seg R a k)) (sB : Srt.Sorted c (Srt.seg R (a + k) q)) (za zc zb : Int) (ha : za = a) (hz : zc = a + k) (hb : zb = a + k + q) :
    Calls Tryd.prog 57 #[.slice (some ⟨g, 0, none⟩) len cap, .int .i64 za, .int .i64 zc, .int .i64 zb, .func (.func f) #[] #[]] W fun e w' =>
      (∃ v, e = .returned v) ∧ StI D g w w' (R.take a ++ Srt.merge c (Srt.seg R a k) (Srt.seg R (a + k) q) ++ R.drop (a + k + q)) := by
  have lA : (Srt.seg R a k).length = k := by rw [Srt.seg_length]; omega
  have lB : (Srt.seg R (a + k) q).length = q := by rw [Srt.seg_length]; omega
  have lX : (R.take a).length = a := by rw [List.length_take]; omega
  have e : R.take a ++ Srt.seg R a k ++ Srt.seg R (a + k) q ++ R.drop (a + k + q) = R := by
    rw [List.append_assoc (R.take a), ← Srt.seg_cut, Nat.add_assoc, Srt.seg_split]
  have mA : ∀ y ∈ Srt.seg R a k, y ∈ R := fun y hy => List.mem_of_mem_drop (List.mem_of_mem_take hy)
  have mB : ∀ y ∈ Srt.seg R (a + k) q, y ∈ R := fun y hy => List.mem_of_mem_drop (List.mem_of_mem_take hy)
  have hW := hS.1
  rw [← e] at hW
  refine (sym_calls f D c hcmp hc g cap (k + q) (R.take a) (Srt.seg R a k) (Srt.seg R (a + k) q) (R.drop (a + k + q)) (by omega) (by omega) (by omega) sA sB (fun y hy => hS.2.2 y (mA y hy)) (fun y hy => hS.2.2 y (mB y hy)) len (by rw [e, hl]) hcap hn za zc zb (by omega) (by omega) (by omega) W hW).mono ?_
  rintro e' w' ⟨hv, hR, hB⟩
  refine ⟨hv, hR, hS.2.1.trans hB, fun x hx => hS.2.2 x ?_⟩
  rcases List.mem_append.1 hx with hx | hx
  · rcases List.mem_append.1 hx with hx | hx
    · exact List.mem_of_mem_take hx
    · rcases (Srt.mem_merge c x _ _ _ (Nat.le_refl _)).1 hx with hx | hx
      · exact mA x hx
      · exact mB x hx
  · exact List.mem_of_mem_drop hx
set_option maxHeartbeats 8000000 in
set_option maxRecDepth 100000 in
theorem stable_calls (f : FuncId) (D : Array Value → Prop) (c : Array Value → Array Value → Int) (hcmp : CmpAt f D c) (hc : Wc.IsCmp c) (g cap len : Nat) (hcap : len ≤ cap) (hn : len ≤ 1099511627776) (L : List (Array Value)) (hl : L.length = len) (w W0 : World) (hS : StI D g w W0 L) (n : Int) (hnn : n = len) :
    Calls Tryd.prog 42 #[.slice (some ⟨g, 0, none⟩) len cap, .int .i64 n, .func (.func f) #[] #[]] W0 fun e w' =>
      (∃ v, e = .returned v) ∧ StI D g w w' (Srt.isort c L) := by
  have QI := Lib.hid (fun (R : List (Array Value)) (h : R.length = len) (W : World) => ins_seg f D c hcmp hc g cap len hcap hn R h w W)
  have QM := Lib.hid (fun (R : List (Array Value)) (h : R.length = len) (W : World) => merge_seg f D c hcmp hc g cap len hcap hn R h w W)
  have HS := Lib.hid hS
  have HN := Lib.hid (And.intro hl (And.intro hn (And.intro hnn hc)))
  clear hcmp hS hl hn hnn hc hcap
  go_enter Tryd.func42, Tryd.ntmps42
  go_wp2
  go_loopw [7, 8] (fun v7 v8 wr => ∃ (za zb : Int), v7 = .int .i64 za ∧ v8 = .int .i64 zb ∧ Hid (∃ (R : List (Array Value)) (a j : Nat), za = a ∧ zb = a + 20 ∧ a = j * 20 ∧ a ≤ len ∧ Srt.Begun c 20 a L R ∧ StI D g w wr R)) (fun v7 _ _ => (n - intOf v7).toNat)
  case atStart => exact ⟨_, _, rfl, rfl, Lib.hid ⟨L, 0, 0, rfl, rfl, rfl, Nat.zero_le _, Srt.Begun.start 20 (by omega) L, HS.out⟩⟩
  case round =>
    obtain ⟨za, zb, rfl, rfl, hI⟩ := hrel
    obtain ⟨R, a, j, h1, h2, h3, h4, h5, h6⟩ := hI.out
    obtain ⟨n1, n2, n3, n4⟩ := HN.out
    have hll := h5.len
    by_cases hlt : zb ≤ n
    · have d1 : decide (zb ≤ n) = true := decide_eq_true hlt
      obtain ⟨zb2, hzb2⟩ : ∃ z : Int, z = zb + 20 := ⟨_, rfl⟩
      have e1 : wrap64 (zb + 20) = zb2 := by unfold wrap64; omega
      have HQ := Lib.hid (QI.out R (by omega) wr h6 a (a + 20) (by omega) (by omega) za zb h1 (by omega))
      have HB := Lib.hid (h5.next j h3 (by omega) (by omega))
      have HA := Lib.hid (And.intro h1 (And.intro h2 (And.intro h3 (And.intro h4 (And.intro hzb2 (And.intro hlt (And.intro n1 (And.intro n2 n3))))))))
      clear hI h1 h2 h3 h4 h5 h6 n1 n2 n3 n4 hll hzb2 hlt
      go_wp2_with (go_at_call 56; (with_reducible refine HQ.out.mono ?_); rintro e w7 ⟨⟨v7, rfl⟩, hR7⟩)
      obtain ⟨h1, h2, h3, h4, h5, h6, n1, n2, n3⟩ := HA.out
      go_roundw
      case rel => exact ⟨zb, zb2, rfl, by first | rfl | rw [e1], Lib.hid ⟨_, a + 20, j + 1, by omega, by omega, by omega, by omega, HB.out, hR7⟩⟩
      case measure => simp [intOf]; omega
    · have d1 : decide (zb ≤ n) = false := decide_eq_false hlt
      have HQ := Lib.hid (QI.out R (by omega) wr h6 a len (by omega) (by omega) za n h1 (by omega))
      have HB : Hid (Srt.Blocks c 20 L (R.take a ++ Srt.isort c ((R.drop a).take (len - a)) ++ R.drop len)) := by
        have h7 := h5.last j h3 (by omega) (by omega) (by omega)
        rw [n1] at h7
        exact Lib.hid h7
      clear hI h1 h2 h3 h4 h5 h6 n1 n2 n3 n4 hll hlt
      go_wp2_with (go_at_call 56; (with_reducible refine HQ.out.mono ?_); rintro e w7 ⟨⟨v7, rfl⟩, hR7⟩)
      have HR7 : Hid (∃ R, Srt.Blocks c 20 L R ∧ StI D g w w7 R) := Lib.hid ⟨_, HB.out, hR7⟩
      clear HQ HB hR7
      clear d1
      go_loopw [6] (fun v6 wr => ∃ zk : Int, v6 = .int .i64 zk ∧ Hid (∃ (R : List (Array Value)) (k : Nat), zk = k ∧ 20 ≤ k ∧ k ≤ 2199023255552 ∧ Srt.Blocks c k L R ∧ StI D g w wr R)) (fun v6 _ => (n - intOf v6).toNat)
      case atStart =>
        obtain ⟨R, h1, h2⟩ := HR7.out
        exact ⟨_, rfl, Lib.hid ⟨R, 20, rfl, by omega, by omega, h1, h2⟩⟩
      case round =>
        clear HR7
        obtain ⟨zk, rfl, hI⟩ := hrel
        by_cases hlt : zk < n
        · have d1 : decide (zk < n) = true := decide_eq_true hlt
          obtain ⟨R0, k, h1, h2, h3, h4, h5⟩ := hI.out
          obtain ⟨zm, hzm⟩ : ∃ zm : Int, zm = 2 * zk := ⟨_, rfl⟩
          have e1 : wrap64 (2 * zk) = zm := by unfold wrap64; omega
          have e1' : wrap64 (zk * 2) = zm := by unfold wrap64; omega
          have HA := Lib.hid (And.intro h1 (And.intro h2 (And.intro h3 (And.intro hzm hlt))))
          have HP := Lib.hid (And.intro (h4.part (by omega)) h5)
          clear hI h1 h2 h3 h4 h5 hlt hzm
          obtain ⟨wo, hwo⟩ : ∃ wo : World, wo = wr := ⟨_, rfl⟩
          subst hwo
          go_wp2
          rw [e1]
          go_loopw [7, 8] (fun v7 v8 wq => ∃ (za zb : Int), v7 = .int .i64 za ∧ v8 = .int .i64 zb ∧ Hid (∃ (R : List (Array Value)) (a j : Nat), za = a ∧ zb = a + 2 * k ∧ a = j * (2 * k) ∧ a ≤ len ∧ Srt.Part c (2 * k) k a L R ∧ StI D g w wq R)) (fun v7 _ _ => (n - intOf v7).toNat)
          case atStart => exact ⟨0, zm, rfl, by first | rfl | rw [e1], Lib.hid ⟨R0, 0, 0, rfl, by have := HA.out; omega, by omega, Nat.zero_le _, HP.out.1, HP.out.2⟩⟩
          case round =>
            clear HP
            obtain ⟨za, zb, rfl, rfl, hI⟩ := hrel
            obtain ⟨R, a, j, h1, h2, h3, h4, h5, h6⟩ := hI.out
            obtain ⟨n1, n2, n3, n4⟩ := HN.out
            obtain ⟨k1, k2, k3, k4, k5⟩ := HA.out
            have hll := h5.len
            obtain ⟨zc, hzc⟩ : ∃ z : Int, z = za + zk := ⟨_, rfl⟩
            have e2 : wrap64 (za + zk) = zc := by unfold wrap64; omega
            have ea : a = (2 * j) * k := by rw [h3, Nat.mul_left_comm, ← Nat.mul_assoc]
            have eb : a + k = (2 * j + 1) * k := by rw [Nat.add_mul, Nat.one_mul, ← ea]
            have sA : Srt.Sorted c (Srt.seg R a k) := by
              rw [ea, h5.snd (2 * j) (by omega)]
              exact Srt.isort_sorted n4 _
            have sB : Srt.Sorted c (Srt.seg R (a + k) k) := by
              rw [eb, h5.snd (2 * j + 1) (by omega)]
              exact Srt.isort_sorted n4 _
            by_cases hlt : zb ≤ n
            · have d2 : decide (zb ≤ n) = true := decide_eq_true hlt
              obtain ⟨zb2, hzb2⟩ : ∃ z : Int, z = zb + zm := ⟨_, rfl⟩
              have e3 : wrap64 (zb + zm) = zb2 := by unfold wrap64; omega
              have HQ := Lib.hid (QM.out R (by omega) wr h6 a k k (by omega) (by omega) (by omega) sA sB za zc zb (by omega) (by omega) (by omega))
              have HB := Lib.hid (h5.next n4 j h3 (by omega) (by omega))
              rw [show a + 2 * k = a + k + k by omega] at HB
              have HC := Lib.hid (And.intro h1 (And.intro h2 (And.intro h3 (And.intro h4 (And.intro hzb2 (And.intro hlt (And.intro n1 (And.intro n2 n3))))))))
              clear hI h1 h2 h3 h4 h5 h6 n1 n2 n3 n4 hll hzb2 hlt k1 k2 k3 k4 k5 hzc ea eb sA sB
              go_wp2_with (go_at_call 57; (with_reducible refine HQ.out.mono ?_); rintro e w7 ⟨⟨v7, rfl⟩, hR7⟩)
              obtain ⟨h1, h2, h3, h4, h5, h6, n1, n2, n3⟩ := HC.out
              have k1 := HA.out
              go_roundw
              case rel => exact ⟨zb, zb2, rfl, by first | rfl | rw [e3], Lib.hid ⟨_, a + k + k, j + 1, by omega, by omega, by rw [Nat.add_mul]; omega, by omega, HB.out, hR7⟩⟩
              case measure => simp [intOf]; omega
            · have d2 : decide (zb ≤ n) = false := decide_eq_false hlt
              by_cases hlt2 : zc < n
              · have d3 : decide (zc < n) = true := decide_eq_true hlt2
                have sB2 : Srt.seg R (a + k) (len - (a + k)) = R.drop (a + k) := Srt.seg_all _ _ _ (by omega)
                have sB3 : Srt.seg R (a + k) k = R.drop (a + k) := Srt.seg_all _ _ _ (by omega)
                have HQ := Lib.hid (QM.out R (by omega) wr h6 a k (len - (a + k)) (by omega) (by omega) (by omega) sA (by rw [sB2, ← sB3]; exact sB) za zc n (by omega) (by omega) (by omega))
                have HB : Hid (Srt.Blocks c (2 * k) L (R.take a ++ Srt.merge c (Srt.seg R a k) (Srt.seg R (a + k) (len - (a + k))) ++ R.drop (a + k + (len - (a + k))))) := by
                  have h7 := h5.most n4 j h3 (by omega) (by omega) (by omega)
                  rw [sB2, show R.drop (a + k + (len - (a + k))) = [] from List.drop_eq_nil_of_le (by omega)]
                  exact Lib.hid h7
                clear hI h1 h2 h3 h4 h5 h6 n1 n2 n3 n4 hll hlt hlt2 k1 k2 k3 k4 k5 hzc ea eb sA sB sB2 sB3
                go_wp2_with (go_at_call 57; (with_reducible refine HQ.out.mono ?_); rintro e w7 ⟨⟨v7, rfl⟩, hR7⟩)
                have k1 := HA.out
                have n1 := HN.out
                go_roundw
                case rel => exact ⟨zm, by first | rfl | rw [e1'], Lib.hid ⟨_, 2 * k, by omega, by omega, by omega, HB.out, hR7⟩⟩
                case measure => simp [intOf]; omega
              · have d3 : decide (zc < n) = false := decide_eq_false hlt2
                have HB := Lib.hid (And.intro (h5.none_ n4 j h3 (by omega) (by omega)) h6)
                clear hI h1 h2 h3 h4 h5 h6 n1 n2 n3 n4 hll hlt hlt2 k1 k2 k3 k4 k5 hzc ea eb sA sB
                go_wp2
                have k1 := HA.out
                have n1 := HN.out
                go_roundw
                case rel => exact ⟨zm, by first | rfl | rw [e1'], Lib.hid ⟨_, 2 * k, by omega, by omega, by omega, HB.out.1, HB.out.2⟩⟩
                case measure => simp [intOf]; omega
        · have d1 : decide (zk < n) = false := decide_eq_false hlt
          go_wp2
          obtain ⟨R, k, h1, h2, h3, h4, h5⟩ := hI.out
          obtain ⟨n1, n2, n3, n4⟩ := HN.out
          have h6 := h4.end_ (by omega)
          rw [h6] at h5
          exact ⟨rfl, .tuple #[], by simp [results, Tryd.results42], ⟨_, rfl⟩, h5⟩
end Go.Proofs.YtiaggfjfgoiafaaDoor

/- The library's stable sort, over rows of the call's own: what they are is sorted, all else stays. -/
namespace Go.Proofs.YtiaggfjfgoiafaaDoor
open Go.RowKit Go.Proofs.YtiaggfjfgoiafaaDoorW.PrintWords Go.Proofs.YtiaggfjfgoiafaaDoorW.PrintLast
abbrev flat (L : List (Array Value)) : List Value := L.flatMap Array.toList
theorem flat_length (L : List (Array Value)) (h : ∀ x ∈ L, x.size = 32) : (flat L).length = L.length * 32 := by
  induction L with
  | nil => rfl
  | cons x L ih =>
    rw [flat, List.flatMap_cons, List.length_append, Array.length_toList, h x List.mem_cons_self, ih (fun y hy => h y (List.mem_cons_of_mem _ hy)), List.length_cons]
    omega
theorem flat_drop (L : List (Array Value)) (h : ∀ x ∈ L, x.size = 32) (j : Nat) : (flat L).drop (j * 32) = flat (L.drop j) := by
  induction j generalizing L with
  | zero => simp
  | succ j ih =>
    cases L with
    | nil => simp [flat]
    | cons x L =>
      have hx : x.toList.length = 32 := by rw [Array.length_toList, h x List.mem_cons_self]
      rw [flat, List.flatMap_cons, show (j + 1) * 32 = x.toList.length + j * 32 by omega, ← List.drop_drop, List.drop_left, List.drop_succ_cons]
      exact ih L (fun y hy => h y (List.mem_cons_of_mem _ hy))
theorem flat_at (L : List (Array Value)) (h : ∀ x ∈ L, x.size = 32) (j : Nat) (x : Array Value) (hj : L[j]? = some x) : ((flat L).drop (j * 32)).take 32 = x.toList := by
  obtain ⟨hlt, rfl⟩ := List.getElem?_eq_some_iff.1 hj
  have hx : (L[j]).toList.length = 32 := by rw [Array.length_toList, h _ (List.getElem_mem hlt)]
  rw [flat_drop L h, List.drop_eq_getElem_cons hlt, flat, List.flatMap_cons, ← hx, List.take_left]
theorem flat_get (L : List (Array Value)) (h : ∀ x ∈ L, x.size = 32) (j : Nat) (x : Array Value) (hj : L[j]? = some x) (i : Nat) (hi : i < 32) : (flat L)[j * 32 + i]? = x[i]? := by
  have h1 := flat_at L h j x hj
  have h2 : ((flat L).drop (j * 32)).take 32 = x.toList := h1
  have h3 : (((flat L).drop (j * 32)).take 32)[i]? = x.toList[i]? := by rw [h2]
  rw [List.getElem?_take, if_pos hi, List.getElem?_drop] at h3
  rw [h3]
  simp
theorem own_rows {w : World} {base e n g cap : Nat} {L : List (Array Value)} (ho : w.ownsRow base e 32 (.slice (some ⟨g, 0, none⟩) n cap) n (flat L)) (hn : L.length = n) (h1 : ∀ x ∈ L, x.size = 32 ∧ x.all (·.oneCell') = true) : RowsAt w g 32 L where
  one := h1
  row := fun j x hj i v hi => by
    have hlt := (List.getElem?_eq_some_iff.1 hj).1
    have hs := (h1 x (List.mem_of_getElem? hj)).1
    have hi2 : i < 32 := by
      have := (List.getElem?_eq_some_iff.1 hi).1
      rw [Array.length_toList, hs] at this
      exact this
    rw [ho.cellAt (j * 32 + i) (by omega), flat_get L (fun y hy => (h1 y hy).1) j x hj i hi2]
    simpa using hi
  there := fun j hj i hi => by
    refine ⟨?_, ho.frozenAt _⟩
    rw [ho.cellAt (j * 32 + i) (by omega), List.getElem?_eq_getElem (by rw [flat_length L (fun y hy => (h1 y hy).1)]; omega)]
    rfl
theorem rows_own {w w' : World} {base e n g cap : Nat} {inner : List Value} {L : List (Array Value)} (ho : w.ownsRow base e 32 (.slice (some ⟨g, 0, none⟩) n cap) n inner) (hB : But g w w') (hR : RowsAt w' g 32 L) (hn : L.length = n) : w'.ownsRow base e 32 (.slice (some ⟨g, 0, none⟩) n cap) n (flat L) := by
  have hs := fun x hx => (hR.one x hx).1
  refine ⟨by rw [flat_length L hs, hn], ?_⟩
  rcases ho.2 with ⟨h0, _⟩ | ⟨g', cap', cur, he, hb, hh, hnc, hcm, hcs, _⟩
  · cases h0
  · injection he with e1 _ e3
    injection e1 with e1
    injection e1 with e1
    subst e1; subst e3
    obtain ⟨cur', h', hs'⟩ := hB.shape cur e (0, 0) hh
    refine .inr ⟨g, cap, cur', rfl, hb, h', hnc, hcm, hs'.trans hcs, ?_⟩
    have hle : n * 32 ≤ cap * 32 := Nat.mul_le_mul_right _ hnc
    refine List.ext_getElem? (fun i => ?_)
    rcases Nat.lt_or_ge i (n * 32) with hi | hi
    · rw [List.getElem?_take, if_pos hi]
      have hj : i / 32 < L.length := by omega
      have hx : L[i / 32]? = some L[i / 32] := List.getElem?_eq_getElem hj
      have h3 := flat_get L hs (i / 32) _ hx (i % 32) (Nat.mod_lt _ (by omega))
      rw [show i / 32 * 32 + i % 32 = i by omega] at h3
      have hxs := hs _ (List.getElem_mem hj)
      have h4 : (L[i / 32])[i % 32]? = some (L[i / 32])[i % 32] := Array.getElem?_eq_getElem (by rw [hxs]; exact Nat.mod_lt _ (by omega))
      have h5 := hR.row (i / 32) _ hx (i % 32) _ (by rw [Array.getElem?_toList]; exact h4)
      rw [show i / 32 * 32 + i % 32 = i by omega, cell_of_row _ _ i _ _ _ h'] at h5
      rw [h3, h4, Array.getElem?_toList]
      exact h5
    · rw [List.getElem?_eq_none (by rw [List.length_take]; omega), List.getElem?_eq_none (by rw [flat_length L hs]; omega)]
theorem ins_zero (f : FuncId) (A : Option Addr) (c : Nat) (w : World) : Calls Tryd.prog 56 #[.slice A 0 c, .int .i64 0, .int .i64 0, .func (.func f) #[] #[]] w fun e w' => (∃ v, e = .returned v) ∧ w' = w := by
  go_enter Tryd.func56, Tryd.ntmps56
  go_wp2
  go_loop [8] (fun v => v = .int .i64 1) (fun _ => 0)
  case atStart => rfl
  case round =>
    subst hrel
    go_wp2
    exact ⟨rfl, .tuple #[], by simp [results, Tryd.results56], ⟨_, rfl⟩, rfl⟩
theorem stable_zero (f : FuncId) (A : Option Addr) (c : Nat) (w : World) : Calls Tryd.prog 42 #[.slice A 0 c, .int .i64 0, .func (.func f) #[] #[]] w fun e w' => (∃ v, e = .returned v) ∧ w' = w := by
  go_enter Tryd.func42, Tryd.ntmps42
  go_wp2
  go_loop [7, 8] (fun v7 v8 => v7 = .int .i64 0 ∧ v8 = .int .i64 20) (fun _ _ => 0)
  case atStart => exact ⟨rfl, rfl⟩
  case round =>
    obtain ⟨rfl, rfl⟩ := hrel
    go_wp2_with (go_at_call 56; (with_reducible refine (ins_zero f A c _).mono ?_); rintro e w7 ⟨⟨v7, rfl⟩, rfl⟩)
    go_loop [6] (fun v6 => v6 = .int .i64 20) (fun _ => 0)
    case atStart => rfl
    case round =>
      subst hrel
      go_wp2
      exact ⟨rfl, .tuple #[], by simp [results, Tryd.results42], ⟨_, rfl⟩, rfl⟩
theorem sort_zero (f : FuncId) (A : Option Addr) (c : Nat) (w : World) : Calls Tryd.prog 29 #[.slice A 0 c, .func (.func f) #[] #[]] w fun e w' => (∃ v, e = .returned v) ∧ w' = w := by
  go_enter Tryd.func29, Tryd.ntmps29
  go_wp2_with (go_at_call 42; (with_reducible refine (stable_zero f A c _).mono ?_); rintro e w7 ⟨⟨v7, rfl⟩, rfl⟩)
  exact ⟨rfl, .tuple #[], by simp [results, Tryd.results29], ⟨_, rfl⟩, rfl⟩
theorem sort_rows (f : FuncId) (D : Array Value → Prop) (c : Array Value → Array Value → Int) (hcmp : CmpAt f D c) (hc : Wc.IsCmp c) (g cap len : Nat) (hcap : len ≤ cap) (hn : len ≤ 1099511627776) (L : List (Array Value)) (hl : L.length = len) (w : World) (hR : RowsAt w g 32 L) (hD : ∀ x ∈ L, D x) :
    Calls Tryd.prog 29 #[.slice (some ⟨g, 0, none⟩) len cap, .func (.func f) #[] #[]] w fun e w' => (∃ v, e = .returned v) ∧ RowsAt w' g 32 (Srt.isort c L) ∧ But g w w' := by
  have HQ := Lib.hid (fun W (h : StI D g w W L) => stable_calls f D c hcmp hc g cap len hcap hn L hl w W h len rfl)
  have HS : Hid (StI D g w w L) := Lib.hid ⟨hR, But.refl _ _, hD⟩
  have hlen : (len : Int) ≤ 9223372036854775807 := by omega
  clear hcmp hc hcap hn hl hR hD
  go_enter Tryd.func29, Tryd.ntmps29
  go_wp2_with (go_at_call 42; (with_reducible refine (HQ.out _ HS.out).mono ?_); rintro e w7 ⟨⟨v7, rfl⟩, hR7⟩)
  exact ⟨rfl, .tuple #[], by simp [results, Tryd.results29], ⟨_, rfl⟩, hR7.1, hR7.2.1⟩
end Go.Proofs.YtiaggfjfgoiafaaDoor

/- The library's stable sort, over what is made: the things are sorted, all else stays. -/
namespace Go.Proofs.YtiaggfjfgoiafaaDoor
open Go.RowKit Go.Proofs.YtiaggfjfgoiafaaDoorW.PrintWords Go.Proofs.YtiaggfjfgoiafaaDoorW.PrintLast
theorem unflat (n : Nat) (inner : List Value) (h : inner.length = n * 32) : ∃ L : List (Array Value), L.length = n ∧ flat L = inner ∧ ∀ x ∈ L, x.size = 32 := by
  induction n generalizing inner with
  | zero => exact ⟨[], rfl, by rw [List.length_eq_zero_iff.1 (show inner.length = 0 by omega)]; rfl, fun _ hx => absurd hx List.not_mem_nil⟩
  | succ n ih =>
    obtain ⟨L, h1, h2, h3⟩ := ih (inner.drop 32) (by rw [List.length_drop]; omega)
    refine ⟨(inner.take 32).toArray :: L, by rw [List.length_cons, h1], ?_, fun x hx => ?_⟩
    · rw [flat, List.flatMap_cons, show L.flatMap Array.toList = inner.drop 32 from h2]
      exact List.take_append_drop 32 inner
    · rcases List.mem_cons.1 hx with rfl | hx
      · simp
        omega
      · exact h3 x hx
section
variable {α : Type}
theorem sort_pairs (c : α → α → Int) (cf : Array Value → Array Value → Int) (R : α → List Value → Prop) (xs : List α) (L : List (Array Value)) (hl : L.length = xs.length) (hR : ∀ (j : Nat) (x : α) (y : Array Value), xs[j]? = some x → L[j]? = some y → R x y.toList)
    (hcc : ∀ (x y : α) (a b : Array Value), x ∈ xs → y ∈ xs → R x a.toList → R y b.toList → (cf a b < 0 ↔ c x y < 0)) : ∀ (j : Nat) (x : α) (y : Array Value), (Srt.isort c xs)[j]? = some x → (Srt.isort cf L)[j]? = some y → R x y.toList := by
  obtain ⟨zs, hzs⟩ : ∃ zs : List (α × Array Value), zs = xs.zip L := ⟨_, rfl⟩
  have h1 : zs.map Prod.fst = xs := by rw [hzs, List.map_fst_zip (by omega)]
  have h2 : zs.map Prod.snd = L := by rw [hzs, List.map_snd_zip (by omega)]
  have hz : ∀ p ∈ zs, p.1 ∈ xs ∧ R p.1 p.2.toList := by
    intro p hp
    obtain ⟨j, hj⟩ := List.getElem?_of_mem hp
    have e1 : xs[j]? = some p.1 := by rw [← h1, List.getElem?_map, hj]; rfl
    have e2 : L[j]? = some p.2 := by rw [← h2, List.getElem?_map, hj]; rfl
    exact ⟨List.mem_of_getElem? e1, hR j _ _ e1 e2⟩
  have k1 : (Srt.isort (fun p q : α × Array Value => c p.1 q.1) zs).map Prod.fst = Srt.isort c xs := by rw [Srt.isort_map c Prod.fst, h1]
  have k2 : (Srt.isort (fun p q : α × Array Value => c p.1 q.1) zs).map Prod.snd = Srt.isort cf L := by
    rw [Srt.isort_congr (c' := fun p q : α × Array Value => cf p.2 q.2) zs (fun p hp q hq => (hcc _ _ _ _ (hz p hp).1 (hz q hq).1 (hz p hp).2 (hz q hq).2).symm), Srt.isort_map cf Prod.snd, h2]
  intro j x y hx hy
  rw [← k1, List.getElem?_map, Option.map_eq_some_iff] at hx
  rw [← k2, List.getElem?_map, Option.map_eq_some_iff] at hy
  obtain ⟨p, hp, rfl⟩ := hx
  obtain ⟨q, hq, rfl⟩ := hy
  rw [hp] at hq
  obtain rfl := Option.some.inj hq
  exact (hz p ((Srt.mem_isort p zs).1 (List.mem_of_getElem? hp))).2
theorem sort_R (d : Kd α) (hd : d.sz = 32) (f : FuncId) (D : Array Value → Prop) (cf : Array Value → Array Value → Int) (hcmp : CmpAt f D cf) (hcf : Wc.IsCmp cf) (c : α → α → Int) {e base : Nat} {ok : Nat → Prop} {w : World} {v : Value} {xs : List α} (h : d.R e w base ok v xs)
    (hD : ∀ x cs, x ∈ xs → d.K w x cs → D cs.toArray) (hcc : ∀ x y cs ds, x ∈ xs → y ∈ xs → d.K w x cs → d.K w y ds → (cf cs.toArray ds.toArray < 0 ↔ c x y < 0)) (hn : xs.length ≤ 1099511627776) :
    Calls Tryd.prog 29 #[v, .func (.func f) #[] #[]] w fun e' w' =>
      (∃ r, e' = .returned r) ∧ d.R e w' base ok v (Srt.isort c xs) ∧ Below base w w' ∧ w.heap.size ≤ w'.heap.size ∧ ∀ k, some k ≠ v.ownBlock → k < w.heap.size → w'.heap[k]? = w.heap[k]? := by
  obtain ⟨h0, inner, ho, hr⟩ := h
  rw [hd] at ho hr
  rcases ho.2 with ⟨rfl, hl0⟩ | ⟨g, cap, cur, rfl, hb, hh, hnc, hcm, hcs, ht⟩
  · obtain rfl : xs = [] := List.eq_nil_of_length_eq_zero hl0
    refine (sort_zero f none 0 w).mono ?_
    rintro e' w' ⟨hv, rfl⟩
    exact ⟨hv, Kd.R_nil _ _ _ _ _, Below.refl _ _, Nat.le_refl _, fun _ _ _ => rfl⟩
  · obtain ⟨L, hL, rfl, hs⟩ := unflat xs.length inner ho.1
    have hM : ∀ (j : Nat) (x : α) (y : Array Value), xs[j]? = some x → L[j]? = some y → d.M w base (fun k => ok k ∧ some k ≠ (Value.slice (some ⟨g, 0, none⟩) xs.length cap).ownBlock) x y.toList := by
      intro j x y hx hy
      have := hr.2 j x hx
      rw [flat_at L hs j y hy] at this
      exact this
    have hx : ∀ y ∈ L, ∃ x ∈ xs, d.M w base (fun k => ok k ∧ some k ≠ (Value.slice (some ⟨g, 0, none⟩) xs.length cap).ownBlock) x y.toList := by
      intro y hy
      obtain ⟨j, hj⟩ := List.getElem?_of_mem hy
      have hjl := (List.getElem?_eq_some_iff.1 hj).1
      have e1 : xs[j]? = some xs[j] := List.getElem?_eq_getElem (by omega)
      exact ⟨_, List.getElem_mem (by omega), hM j _ _ e1 hj⟩
    have h1 : ∀ y ∈ L, y.size = 32 ∧ y.all (·.oneCell') = true := by
      intro y hy
      obtain ⟨x, _, hm⟩ := hx y hy
      exact ⟨hs y hy, all_oneCell_toArray (d.K_one (d.K_of_M hm))⟩
    have hRA := own_rows ho hL h1
    refine (sort_rows f D cf hcmp hcf g cap xs.length hnc hn L hL w hRA (fun y hy => ?_)).mono ?_
    · obtain ⟨x, hxx, hm⟩ := hx y hy
      have := hD x _ hxx (d.K_of_M hm)
      simpa using this
    · rintro e' w' ⟨hv, hR', hB⟩
      have hb' : ∀ k, some k ≠ (Value.slice (some ⟨g, 0, none⟩) xs.length cap).ownBlock → k < w.heap.size → w'.heap[k]? = w.heap[k]? := fun k hk hlt => hB.block k hlt (fun e => hk (by rw [e]; rfl))
      have ho' := rows_own ho hB hR' (by rw [Srt.isort_length, hL])
      have hlt : g < w.heap.size := blkLt hh
      refine ⟨hv, ⟨h0, flat (Srt.isort cf L), ?_, ?_⟩, But.below (Below.refl _ _) hB hb (by omega), hB.size, hb'⟩
      · rw [Srt.isort_length, hd]
        exact ho'
      · rw [hd]
        refine ⟨by rw [flat_length _ (fun y hy => (hR'.one y hy).1), Srt.isort_length, Srt.isort_length, hL], fun j x hj => ?_⟩
        have hjl := (List.getElem?_eq_some_iff.1 hj).1
        rw [Srt.isort_length] at hjl
        obtain ⟨y, hy⟩ : ∃ y, (Srt.isort cf L)[j]? = some y := ⟨_, List.getElem?_eq_getElem (by rw [Srt.isort_length]; omega)⟩
        rw [flat_at _ (fun y hy => (hR'.one y hy).1) j _ hy]
        have := sort_pairs c cf (d.M w base (fun k => ok k ∧ some k ≠ (Value.slice (some ⟨g, 0, none⟩) xs.length cap).ownBlock)) xs L hL hM (fun x y a b hx hy ha hb => hcc x y _ _ hx hy (d.K_of_M ha) (d.K_of_M hb)) j x _ hj hy
        exact Kd.M_step this (fun k hk hlt => hb' k hk.2 hlt)
theorem S_of_tags {d : Kd α} {e base : Nat} {ok : Nat → Prop} {w : World} {v : Value} {f : Nat → Nat} {L : List (α × Nat)} (h : (Kd.tag f d).R e w base ok v L) (hn : (L.map Prod.snd).Nodup) : Kd.S d e w base ok v (L.map Prod.fst) := by
  obtain ⟨h0, inner, ho, hr⟩ := h
  refine ⟨fun k => (L.map Prod.snd).idxOf (f k), h0, inner, by rw [List.length_zipIdx, List.length_map]; exact ho, ?_, fun j p hj => ?_⟩
  · rw [List.length_zipIdx, List.length_map]
    exact hr.1
  · rw [List.getElem?_zipIdx, Nat.zero_add, Option.map_eq_some_iff] at hj
    obtain ⟨x, hx, rfl⟩ := hj
    rw [List.getElem?_map, Option.map_eq_some_iff] at hx
    obtain ⟨q, hq, rfl⟩ := hx
    have := hr.2 j q hq
    refine d.M_mono (fun k hk => ⟨hk.1, ?_⟩) this
    have e2 : (L.map Prod.snd)[j]? = some q.2 := by rw [List.getElem?_map, hq]; rfl
    obtain ⟨hjl, he⟩ := List.getElem?_eq_some_iff.1 e2
    show (L.map Prod.snd).idxOf (f k) = j
    rw [hk.2, ← he]
    exact hn.idxOf_getElem j hjl
theorem zip_snd_nodup (xs : List α) : (xs.zipIdx.map Prod.snd).Nodup := by
  have : xs.zipIdx.map Prod.snd = List.range' 0 xs.length := by simp [List.zipIdx_eq_zip_range', List.map_snd_zip]
  rw [this]
  exact List.nodup_range'
theorem sort_S (d : Kd α) (hd : d.sz = 32) (f : FuncId) (D : Array Value → Prop) (cf : Array Value → Array Value → Int) (hcmp : CmpAt f D cf) (hcf : Wc.IsCmp cf) (c : α → α → Int) {e base : Nat} {ok : Nat → Prop} {w : World} {v : Value} {xs : List α} (h : Kd.S d e w base ok v xs)
    (hD : ∀ x cs, x ∈ xs → d.K w x cs → D cs.toArray) (hcc : ∀ x y cs ds, x ∈ xs → y ∈ xs → d.K w x cs → d.K w y ds → (cf cs.toArray ds.toArray < 0 ↔ c x y < 0)) (hn : xs.length ≤ 1099511627776) :
    Calls Tryd.prog 29 #[v, .func (.func f) #[] #[]] w fun e' w' =>
      (∃ r, e' = .returned r) ∧ Kd.S d e w' base ok v (Srt.isort c xs) ∧ Below base w w' ∧ w.heap.size ≤ w'.heap.size ∧ ∀ k, some k ≠ v.ownBlock → k < w.heap.size → w'.heap[k]? = w.heap[k]? := by
  obtain ⟨t, hR⟩ := h
  have hmem : ∀ p : α × Nat, p ∈ xs.zipIdx → p.1 ∈ xs := fun p hp => by
    obtain ⟨j, hj⟩ := List.getElem?_of_mem hp
    rw [List.getElem?_zipIdx, Nat.zero_add, Option.map_eq_some_iff] at hj
    obtain ⟨x, hx, rfl⟩ := hj
    exact List.mem_of_getElem? hx
  refine (sort_R (Kd.tag t d) hd f D cf hcmp hcf (fun p q => c p.1 q.1) hR (fun p cs hp hK => hD p.1 cs (hmem p hp) hK) (fun p q cs ds hp hq hK hK' => hcc p.1 q.1 cs ds (hmem p hp) (hmem q hq) hK hK') (by rw [List.length_zipIdx]; exact hn)).mono ?_
  rintro e' w' ⟨hv, hR', hr⟩
  have hp := Srt.isort_perm (fun p q : α × Nat => c p.1 q.1) xs.zipIdx
  have h2 := S_of_tags hR' ((hp.map Prod.snd).nodup_iff.2 (zip_snd_nodup xs))
  rw [Srt.isort_map c Prod.fst] at h2
  have e3 : xs.zipIdx.map Prod.fst = xs := by simp
  rw [e3] at h2
  exact ⟨hv, h2, hr⟩
end
end Go.Proofs.YtiaggfjfgoiafaaDoor

/- rank.Victims: the objects that aren't ending, each a copy, in their order; the first ones of them. -/
namespace Go.Proofs.YtiaggfjfgoiafaaDoor
open Go.RowKit Go.Proofs.YtiaggfjfgoiafaaDoorW.PrintWords Go.Proofs.YtiaggfjfgoiafaaDoorW.PrintLast
attribute [local go_sem] Go.Proofs.YtiaggfjfgoiafaaDoorW.PrintMore.max2_int Go.Proofs.YtiaggfjfgoiafaaDoorW.PrintMore.min2_int Go.Proofs.YtiaggfjfgoiafaaDoorW.PrintMore.max_two Go.Proofs.YtiaggfjfgoiafaaDoorW.PrintMore.min_two
theorem infoO : (Tryd.prog.info? 39).map (fun i => (i.zero, i.size, i.bytes)) = some (some (.agg (Ob.zero.cells (.slice none 0 0) (.slice none 0 0))), 32, 312) := by kernel_rfl
theorem infoO1 : (Tryd.prog.info? 39).map (·.size) = some 32 := by kernel_rfl
def live (l : List Ob) : List Ob := l.filter fun o => !o.ending
def sortV (l : List Ob) : List Ob := Srt.isort (fun a b => cV a.pk b.pk) l
def headN (n : Int) (len : Nat) : Nat := min n.toNat len
def victF (l : List Ob) (n : Int) : List Ob := (sortV (live l)).take (headN n (live l).length)
def ObFits (o : Ob) : Prop := o.name.size ≤ 140737488351232 ∧ o.labels.length ≤ 4398046510976 ∧ o.select.length ≤ 4398046510976
theorem kO_is {w : World} {o : Ob} {cs : List Value} (h : kO.K w o cs) (hf : ObFits o) : IsObj cs.toArray := by
  obtain ⟨v4, v27, rfl, _⟩ := h
  exact ⟨o, v4, v27, by simp, hf.1⟩
theorem kO_pk {w : World} {o : Ob} {cs : List Value} (h : kO.K w o cs) : pkOf cs.toArray = o.pk := by
  obtain ⟨v4, v27, rfl, _⟩ := h
  simp only [Array.toArray_toList]
  rfl
theorem live_snoc (l : List Ob) (k : Nat) (o : Ob) (h : l[k]? = some o) : live (l.take (k + 1)) = live (l.take k) ++ if o.ending then [] else [o] := by
  obtain ⟨hk, rfl⟩ := List.getElem?_eq_some_iff.1 h
  unfold live
  rw [List.take_succ_eq_append_getElem hk, List.filter_append]
  congr 1
  cases he : (l[k]).ending <;> simp [he]
theorem cells_set (o : Ob) (v4 v27 u4 u27 : Value) : ((o.cells v4 v27).setIfInBounds 4 u4).setIfInBounds 27 u27 = o.cells u4 u27 := rfl
theorem lab_cells {e base : Nat} {ok : Nat → Prop} {w : World} {v : Value} {l : List Lab} (h : kL.R e w base ok v l) : v.cells = #[v] := by
  obtain ⟨A, c, rfl⟩ := Kd.R_slice h
  rfl
def rg34_6_T : Bool × List (List Nat × List Nat) := (true, [([], []), ([0], [0]), ([1], [1]), ([], []), ([3], [3]), ([4, 2], [4]), ([0, 1, 2, 3, 4], []), ([6, 2, 5, 0, 1, 2, 3, 4], [2, 6]), ([0, 1, 2, 3, 4, 5, 6, 7], []), ([8, 5, 7, 0, 1, 2, 3, 4, 5, 6, 7], [5, 8])])
def rg34_6_B : List Nat := [0, 1, 3, 0, 8, 31, 31, 127, 255, 511]
theorem rg34_6_tab : rtab .any (opsOf Tryd.f34 6) = rg34_6_T := by kernel_rfl
theorem rg34_6_bits : waitsOk rg34_6_T.2 rg34_6_B = true := by kernel_rfl
set_option maxHeartbeats 16000000 in
set_option maxRecDepth 100000 in
theorem victims_calls (A : Option Addr) (c : Nat) (l : List Ob) (n : Int) (w : World) (hr : kO.C w A l.length l) (hl : l.length ≤ 1000000) (hf : ∀ o ∈ l, ObFits o) :
    Calls Tryd.prog 34 #[.slice A l.length c, .int .i64 n] w fun e w' => ∃ A' c', e = .returned (.slice A' (victF l n).length (victF l n).length) ∧ Kd.S kO 39 w' w.heap.size (fun _ => True) (.slice A' (victF l n).length c') (victF l n) ∧ Below w.heap.size w w' := by
  have HR := Lib.hid hr
  have HL := Lib.hid hl
  have HF := Lib.hid hf
  have hln : (l.length : Int) ≤ 1000000 := by omega
  clear hr hl hf
  go_enter Tryd.func34, Tryd.ntmps34
  go_wp2
  go_loopw [5, 10] (fun v5 v10 wr => ∃ k : Nat, v10 = .int .i64 k ∧ k ≤ l.length ∧ Hid (Kd.S kO 39 wr w.heap.size (fun _ => True) v5 (live (l.take k)) ∧ Below w.heap.size w wr)) (fun _ v10 _ => l.length - (intOf v10).toNat)
  case atStart => exact ⟨0, rfl, Nat.zero_le _, Lib.hid ⟨Kd.S_nil _ _ _ _ _, Below.refl _ _⟩⟩
  case round =>
    obtain ⟨k, rfl, hk, hI⟩ := hrel
    by_cases hlt : k < l.length
    · obtain ⟨o, ho⟩ : ∃ o, l[k]? = some o := ⟨_, List.getElem?_eq_getElem hlt⟩
      obtain ⟨ad, v4, v27, rfl, h4, h27, hcell0⟩ := obj_at (Kd.C_below HR.out hI.out.2) k o ho
      have hcell : ∀ (j : Nat) (u : Value), (o.cells v4 v27)[j]? = some u → wr.cell? ((ad.add (k * 32)).add j) = some u := fun j u hu => by rw [add_add]; exact hcell0 j u hu
      obtain ⟨A4, c4, rfl, hl4, hr4⟩ := h4
      obtain ⟨A27, c27, rfl, hl27, hr27⟩ := h27
      have hf := HF.out o (List.mem_of_getElem? ho)
      have Q4 := Lib.hid (fun W (hW : Below wr.heap.size wr W) => clone_calls A4 c4 o.labels W (Kd.C_below hr4 hW) (Nat.le_trans hf.2.1 (by decide)))
      have Q27 := Lib.hid (fun W (hW : Below wr.heap.size wr W) => clone_calls A27 c27 o.select W (Kd.C_below hr27 hW) (Nat.le_trans hf.2.2 (by decide)))
      have h1c := o.cells_one (v4 := .slice A4 o.labels.length c4) (v27 := .slice A27 o.select.length c27) rfl rfl
      have HO := Lib.hid (And.intro hcell h1c)
      have hsn := live_snoc l k o ho
      obtain ⟨b, hb⟩ : ∃ b, b = o.ending := ⟨_, rfl⟩
      have HE := Lib.hid (And.intro hb hsn)
      clear ho hl4 hr4 hl27 hr27 hf hcell hcell0 h1c hsn hb
      cases b
      · go_wp2_with (first
          | ((with_reducible refine wpList_load_any rfl 39 (.tmp 12) rfl (ad.add (k * 32)) ?c1 (o.cells (.slice A4 o.labels.length c4) (.slice A27 o.select.length c27)) _ ?c2 Tryd.underlying39 ?c3 ?c4 ?_); (case c1 => rfl); (case c2 => exact HO.out.1); (case c3 => rfl); (case c4 => exact infoO1))
          | ((with_reducible refine wpList_store_blk rfl 39 (.tmp 7) (.tmp 13) rfl wr.heap.size 39 ?c0 (o.cells (.slice A4 o.labels.length c4) (.slice A27 o.select.length c27)) ?c1 ?c2 ?c3 ?c4 ?c5 ?c6 ?_); (case c1 => rfl); (case c2 => rfl); (case c3 => exact heap_alloc_new _ _); (case c4 => exact infoO1); (case c5 => rfl); (case c6 => exact HO.out.2); intro w1 G1 hk1 hb1 hz1; have C16 : w1.cell? ⟨wr.heap.size, 16, none⟩ = some (.bool false) := ((cell_of_row _ _ 16 _ _ _ G1).trans rfl).trans (by rw [HE.out.1]; rfl)))
        have HBW : Below wr.heap.size wr w1.drew := (hb1 _ _ (below_alloc (Below.refl _ _) _) (Nat.le_refl _)).drew
        obtain ⟨g, hg⟩ : ∃ g, g = wr.heap.size := ⟨_, rfl⟩
        rw [← hg] at G1 C16 ⊢
        have G : w1.drew.heap[g]? = some (.cells (o.cells (.slice A4 o.labels.length c4) (.slice A27 o.select.length c27)) 39 (0, 0)) := G1
        have C4 : w1.drew.cell? ⟨g, 4, none⟩ = some (.slice A4 o.labels.length c4) := (cell_of_row _ _ 4 _ _ _ G).trans rfl
        have C27 : w1.drew.cell? ⟨g, 27, none⟩ = some (.slice A27 o.select.length c27) := (cell_of_row _ _ 27 _ _ _ G).trans rfl
        have HG := Lib.hid hg
        clear hk1 hb1 hz1 G1 C16 hg
        refine start_ (n := 10) (S := fun w' => w'.heap[g]? = some (.cells (o.cells (.slice A4 o.labels.length c4) (.slice A27 o.select.length c27)) 39 (0, 0)) ∧ w'.cell? ⟨g, 4, none⟩ = some (.slice A4 o.labels.length c4) ∧ w'.cell? ⟨g, 27, none⟩ = some (.slice A27 o.select.length c27)) (ds := [7, 9]) (bs 10 0) (by kernel_rfl) rfl (by kernel_rfl) ⟨G, C4, C27⟩ (fun hHeld => ?_)
        refine with_tabW rg34_6_tab rg34_6_bits (fun HT_ HW_ => ?_)
        refine pu 0 (some 17) (bs 10 1) HT_ rfl rfl (by kernel_rfl) (fun _ _ _ _ h => h) ⟨_, .inl ⟨by rfl, fun _ => by go_simp; with_reducible rfl⟩, _, by simp only [Act.put, sA, sB, sC, i64_w, i32_w]; rfl, ?_⟩
        refine pu 3 (some 20) (bs 10 9) HT_ rfl rfl (by kernel_rfl) (fun _ _ _ _ h => h) ⟨_, .inl ⟨by rfl, fun _ => by go_simp; with_reducible rfl⟩, _, by simp only [Act.put, sA, sB, sC, i64_w, i32_w]; rfl, ?_⟩
        refine tk 1 (some 18) (bs 10 11) HT_ HW_ rfl rfl (by kernel_rfl) (fun _ _ _ _ h => h) hHeld ⟨_, .inl ⟨by rfl, by rintro w' ⟨s0, s1, s2⟩; go_simp; with_reducible rfl⟩, _, by simp only [Act.put, sA, sB, sC, i64_w, i32_w]; rfl, ?_⟩
        refine tk 4 (some 21) (bs 10 27) HT_ HW_ rfl rfl (by kernel_rfl) (fun _ _ _ _ h => h) hHeld ⟨_, .inl ⟨by rfl, by rintro w' ⟨s0, s1, s2⟩; go_simp; with_reducible rfl⟩, _, by simp only [Act.put, sA, sB, sC, i64_w, i32_w]; rfl, ?_⟩
        refine on1 2 (some 19) (bs 10 31) HT_ rfl rfl (by kernel_rfl) (by decide) (fun K hK => ?_)
        refine goes_ Tryd.func32 (by kernel_rfl) rfl #[.slice A4 o.labels.length c4] (by rfl) rfl rfl (by (try simp only [List.map_toArray, List.map_cons, List.map_nil]); first | done | rfl) ?_
        with_reducible refine (Q4.out _ HBW).mono ?_
        rintro e w2 ⟨v19, rfl, H19, hb⟩
        have K19 : ∀ k, v19.ownBlock = some k → g < k := fun k hk => Nat.lt_of_lt_of_le (blkLt G) (Kd.R_base H19 k hk)
        replace G := blkB hb G
        replace C4 := cell_below hb C4
        replace C27 := cell_below hb C27
        have B19 := HBW.size
        replace HBW := belT HBW hb
        clear hb
        refine ⟨_, rfl, ?_⟩
        refine hK.out _ _ ⟨G, C4, C27⟩ (fun hHeld => ?_)
        clear hK K
        refine nm ⟨_, show Act.put _ (some 19) _ = _ by simp only [Act.put, sA, sB, sC, i64_w, i32_w]; rfl, ?_⟩
        refine pu 6 (some 23) (bs 10 95) HT_ rfl rfl (by kernel_rfl) (fun _ _ _ _ h => h) ⟨_, .inl ⟨by rfl, fun _ => by go_simp; with_reducible rfl⟩, _, by simp only [Act.put, sA, sB, sC, i64_w, i32_w]; rfl, ?_⟩
        refine on1 5 (some 22) (bs 10 127) HT_ rfl rfl (by kernel_rfl) (by decide) (fun K hK => ?_)
        refine goes_ Tryd.func32 (by kernel_rfl) rfl #[.slice A27 o.select.length c27] (by rfl) rfl rfl (by (try simp only [List.map_toArray, List.map_cons, List.map_nil]); first | done | rfl) ?_
        with_reducible refine (Q27.out _ HBW).mono ?_
        rintro e w3 ⟨v22, rfl, H22, hb⟩
        have K22 : ∀ k, v22.ownBlock = some k → g < k := fun k hk => Nat.lt_of_lt_of_le (blkLt G) (Kd.R_base H22 k hk)
        have L19 := Kd.R_lt H19
        have L22 := Kd.R_base H22
        have B22 := HBW.size
        replace H19 := Kd.R_below H19 hb
        replace G := blkB hb G
        replace C4 := cell_below hb C4
        replace C27 := cell_below hb C27
        replace HBW := belT HBW hb
        clear hb
        refine ⟨_, rfl, ?_⟩
        refine hK.out _ _ ⟨G, C4, C27⟩ (fun hHeld => ?_)
        clear hK K
        refine nm ⟨_, show Act.put _ (some 22) _ = _ by simp only [Act.put, sA, sB, sC, i64_w, i32_w]; rfl, ?_⟩
        refine la1 7 (none) (bs 10 255) HT_ rfl rfl (by kernel_rfl) (by decide) (fun K hK => ?_)
        refine store1_ (g := g) (i := 4) (x := .tmp 23) (y := .tmp 19) (u := v19) (by rfl) rfl rfl rfl rfl (lab_cells H19) G (by rw [Ob.cells_size]; omega) (by kernel_rfl) (Kd.R_val H19).2 ?_
        intro w4 G4 hk4 hb4
        refine hK.out _ _ ?_
        clear hK K
        refine pu 8 (some 24) (bs 10 511) HT_ rfl rfl (by kernel_rfl) (fun _ _ _ _ h => h) ⟨_, .inl ⟨by rfl, fun _ => by go_simp; with_reducible rfl⟩, _, by simp only [Act.put, sA, sB, sC, i64_w, i32_w]; rfl, ?_⟩
        refine la1 9 (none) (bs 10 1023) HT_ rfl rfl (by kernel_rfl) (by decide) (fun K hK => ?_)
        refine store1_ (g := g) (i := 27) (x := .tmp 24) (y := .tmp 22) (u := v22) (by rfl) rfl rfl rfl rfl (lab_cells H22) G4 (by simp [Ob.cells_size]) (by kernel_rfl) (Kd.R_val H22).2 ?_
        intro w5 G5 hk5 hb5
        refine hK.out _ _ ?_
        clear hK K
        refine done_ (done_of HT_.out (by kernel_rfl)) ?_
        rw [cells_set] at G5
        have hgw := HG.out
        have hw := hI.out.2.size
        have hgle : wr.heap.size ≤ g := by omega
        have HB5 : Below wr.heap.size wr w5 := hb5 _ _ (hb4 _ _ HBW hgle) hgle
        have hst : ∀ k, k ≠ g → w5.heap[k]? = w3.heap[k]? := fun k hk => (hk5 k hk).trans (hk4 k hk)
        have N19 : ∀ k, v19.ownBlock = some k → v22.ownBlock ≠ some k := fun k hk hk' => by
          have := L19 k hk
          have := L22 k hk'
          omega
        have R19 : kL.R 56 w5 w.heap.size (fun k => some k = v19.ownBlock) v19 o.labels := Kd.R_lower (Kd.R_step (Kd.R_tight rfl H19) (fun k hk _ => hst k (by have := K19 k hk.symm; omega))) (Nat.le_trans hw B19)
        have R22 : kL.R 56 w5 w.heap.size (fun k => some k = v22.ownBlock) v22 o.select := Kd.R_lower (Kd.R_step (Kd.R_tight rfl H22) (fun k hk _ => hst k (by have := K22 k hk.symm; omega))) (Nat.le_trans hw B22)
        have hM : kO.M w5 w.heap.size (fun k => some k = v19.ownBlock ∨ some k = v22.ownBlock) o (o.cells v19 v22).toList :=
          ⟨v19, v22, rfl, Kd.R_mono R19 (fun k hk => ⟨.inl hk, fun e => N19 k hk.symm e.symm⟩), Kd.R_mono R22 (fun k hk => ⟨.inr hk, fun e => N19 k e.symm hk.symm⟩)⟩
        have hS5 : Kd.S kO 39 w5 w.heap.size (fun k => True ∧ ¬ (some k = v19.ownBlock ∨ some k = v22.ownBlock)) u5 (live (l.take k)) :=
          Kd.S_mono (Kd.S_below (Kd.S_bound hI.out.1) HB5) (fun k hk => ⟨trivial, fun h => by
            have := hk.2.2.1
            rcases h with h | h
            · have := K19 k h.symm; omega
            · have := K22 k h.symm; omega⟩)
        have hop : ∀ k, (some k = v19.ownBlock ∨ some k = v22.ownBlock) → True ∧ some k ≠ u5.ownBlock := fun k h => ⟨trivial, fun e => by
          have := Kd.S_lt hI.out.1 k e.symm
          rcases h with h | h
          · have := K19 k h.symm; omega
          · have := K22 k h.symm; omega⟩
        have hlen : ((live (l.take k)).length + 1) * 312 ≤ 140737488355328 := by
          have h1 : (live (l.take k)).length ≤ (l.take k).length := List.length_filter_le _ _
          rw [List.length_take] at h1
          have := HL.out
          omega
        have HA := Lib.hid (And.intro hM (And.intro hS5 (And.intro hop (And.intro hlen (belT hI.out.2 HB5)))))
        have HG5 := Lib.hid G5
        have hw5 : w.heap.size ≤ w5.heap.size := Nat.le_trans hw HB5.size
        have HW5 := Lib.hid hw5
        obtain ⟨e1, e2⟩ := HE.out
        rw [← e1, if_neg (by simp)] at e2
        have HE2 := Lib.hid e2
        clear e1 e2 hw5 hM hS5 hop hlen R19 R22 N19 hst HB5 hgle hgw hw G C4 C27 HBW K19 K22 L19 L22 B19 B22 H19 H22 G4 hk4 hb4 G5 hk5 hb5 HE HO Q4 Q27
        go_wp2_with (first
          | ((with_reducible refine wpList_load_blk rfl 39 (.tmp 7) rfl g 39 ?c1 (o.cells v19 v22) _ ?c2 Tryd.underlying39 ?c3 ?c4 ?_); (case c1 => rfl); (case c2 => exact HG5.out); (case c3 => rfl); (case c4 => exact infoO1))
          | ((with_reducible refine wpList_build1 rfl 22 39 (.tmp 26) rfl (o.cells v19 v22) ?d1 ?d2 32 312 Tryd.underlying22 ?d3 ?d4 (by omega) (by omega) ?d5 ?_); (case d1 => rfl); (case d3 => exact infoO); (case d4 => rfl); (case d5 => rfl))
          | (at_builtin; refine Kd.S_append kO (w0 := w) (W := w5) w.heap.size rfl (.tmp 25) (.tmp 27) 22 39 (.agg (Ob.zero.cells (.slice none 0 0) (.slice none 0 0))) 312 rfl Tryd.underlying22 infoO rfl (by decide) (by omega) u5 (live (l.take k)) o (o.cells v19 v22).toList (fun _ => True) (fun k => some k = v19.ownBlock ∨ some k = v22.ownBlock) rfl rfl HA.out.1 HA.out.2.2.1 (fun _ _ => trivial) HA.out.2.1 HA.out.2.2.2.2 HW5.out HA.out.2.2.2.1 ?_; intro v1 w6 hS6 hB6 hg6 hat6))
        go_roundw
        case rel => exact ⟨k + 1, by go_num, by omega, Lib.hid ⟨by rw [HE2.out]; exact hS6, hB6⟩⟩
        case measure => simp [intOf]; omega
      · go_wp2_with (first
          | ((with_reducible refine wpList_load_any rfl 39 (.tmp 12) rfl (ad.add (k * 32)) ?c1 (o.cells (.slice A4 o.labels.length c4) (.slice A27 o.select.length c27)) _ ?c2 Tryd.underlying39 ?c3 ?c4 ?_); (case c1 => rfl); (case c2 => exact HO.out.1); (case c3 => rfl); (case c4 => exact infoO1))
          | ((with_reducible refine wpList_store_blk rfl 39 (.tmp 7) (.tmp 13) rfl wr.heap.size 39 ?c0 (o.cells (.slice A4 o.labels.length c4) (.slice A27 o.select.length c27)) ?c1 ?c2 ?c3 ?c4 ?c5 ?c6 ?_); (case c1 => rfl); (case c2 => rfl); (case c3 => exact heap_alloc_new _ _); (case c4 => exact infoO1); (case c5 => rfl); (case c6 => exact HO.out.2); intro w1 G1 hk1 hb1 hz1; have C16 : w1.cell? ⟨wr.heap.size, 16, none⟩ = some (.bool true) := ((cell_of_row _ _ 16 _ _ _ G1).trans rfl).trans (by rw [HE.out.1]; rfl)))
        have HBW : Below wr.heap.size wr w1 := hb1 _ _ (below_alloc (Below.refl _ _) _) (Nat.le_refl _)
        obtain ⟨e1, e2⟩ := HE.out
        rw [← e1] at e2
        go_roundw
        case rel => exact ⟨k + 1, by go_num, by omega, Lib.hid ⟨by rw [e2, if_pos rfl, List.append_nil]; exact Kd.S_below hI.out.1 HBW, belT hI.out.2 HBW⟩⟩
        case measure => simp [intOf]; omega
    · obtain rfl : k = l.length := by omega
      have d0 : decide (l.length < l.length) = false := by simp
      obtain ⟨A5, c5, rfl⟩ := Kd.S_slice hI.out.1
      have hle := (Kd.S_reads' hI.out.1).2.1
      have hS := hI.out.1
      have hB := hI.out.2
      rw [List.take_length] at hS hle
      have hll : (live l).length ≤ l.length := List.length_filter_le _ _
      have hl1 := HL.out
      have hvl : (victF l n).length = headN n (live l).length := by
        unfold victF headN
        rw [List.length_take, sortV, Srt.isort_length]
        omega
      have QS := Lib.hid (sort_S kO rfl 46 IsObj cVa vict1_at cVa_cmp (fun a b => cV a.pk b.pk) hS (fun x cs hx hK => kO_is hK (HF.out x (List.mem_filter.1 hx).1)) (fun x y cs ds hx hy hK hK' => by unfold cVa; rw [kO_pk hK, kO_pk hK']) (by omega))
      have QC := Lib.hid (fun (m : Nat) (hm : m ≤ (live l).length) W => clip_calls A5 m c5 (by omega) (by omega) W)
      rw [List.take_length] at hI ⊢
      have HB := Lib.hid hB
      have HV := Lib.hid hvl
      have HLL := Lib.hid hll
      have hlc : ((live l).length : Int) ≤ 1000000 := by omega
      have hlc2 : ((live l).length : Int) ≤ c5 := by omega
      have fin : ∀ (m : Nat) (w7 : World), Hid (m = headN n (live l).length) → Hid (Kd.S kO 39 w7 w.heap.size (fun _ => True) (.slice A5 (live l).length c5) (Srt.isort (fun a b => cV a.pk b.pk) (live l))) → Hid (Below w.heap.size w w7) →
          ∃ A' c', Ending.returned (.slice A5 m m) = .returned (.slice A' (victF l n).length (victF l n).length) ∧ Kd.S kO 39 w7 w.heap.size (fun _ => True) (.slice A' (victF l n).length c') (victF l n) ∧ Below w.heap.size w w7 := by
        intro m w7 hm hs hb
        refine ⟨A5, c5, by rw [HV.out, hm.out], ?_, hb.out⟩
        rw [HV.out]
        have := Kd.S_take (m := headN n (live l).length) hs.out (by rw [Srt.isort_length]; unfold headN; omega)
        exact this
      have FIN := Lib.hid fin
      clear fin hS hB hle hvl hl1 hll hk hlt hI
      by_cases hn0 : n < 0
      · have d1 : decide (n < 0) = true := decide_eq_true hn0
        have d2 : decide (((live l).length : Int) < 0) = false := decide_eq_false (by omega)
        have hm : Hid (0 = headN n (live l).length) := Lib.hid (by unfold headN; omega)
        go_wp2_with (first
          | (go_at_call 29; (with_reducible refine QS.out.mono ?_); rintro e w7 ⟨⟨r7, rfl⟩, hS7, hB7, hz7, hk7⟩; (replace hS7 := Lib.hid hS7); (replace hB7 := Lib.hid hB7); clear hz7 hk7)
          | (go_at_call 49; (with_reducible refine (QC.out 0 (Nat.zero_le _) _).mono ?_); rintro e w8 ⟨rfl, rfl⟩))
        go_ret
        exact FIN.out 0 _ hm hS7 (Lib.hid (HB.out.trans hB7.out))
      · have d1 : decide (n < 0) = false := decide_eq_false hn0
        have h0n : 0 ≤ n := by omega
        by_cases hn1 : ((live l).length : Int) < n
        · have d2 : decide (((live l).length : Int) < n) = true := decide_eq_true hn1
          have hm : Hid ((live l).length = headN n (live l).length) := Lib.hid (by unfold headN; omega)
          go_wp2_with (first
            | (go_at_call 29; (with_reducible refine QS.out.mono ?_); rintro e w7 ⟨⟨r7, rfl⟩, hS7, hB7, hz7, hk7⟩; (replace hS7 := Lib.hid hS7); (replace hB7 := Lib.hid hB7); clear hz7 hk7)
            | (go_at_call 49; (with_reducible refine (QC.out (live l).length (Nat.le_refl _) _).mono ?_); rintro e w8 ⟨rfl, rfl⟩))
          go_ret
          exact FIN.out _ _ hm hS7 (Lib.hid (HB.out.trans hB7.out))
        · have d2 : decide (((live l).length : Int) < n) = false := decide_eq_false hn1
          obtain ⟨m, rfl⟩ : ∃ m : Nat, n = m := ⟨n.toNat, by omega⟩
          have hm : Hid (m = headN m (live l).length) := Lib.hid (by unfold headN; omega)
          have hml : Hid (m ≤ (live l).length) := Lib.hid (by omega)
          have hmc : (m : Int) ≤ c5 := by omega
          go_wp2_with (first
            | (go_at_call 29; (with_reducible refine QS.out.mono ?_); rintro e w7 ⟨⟨r7, rfl⟩, hS7, hB7, hz7, hk7⟩; (replace hS7 := Lib.hid hS7); (replace hB7 := Lib.hid hB7); clear hz7 hk7)
            | (go_at_call 49; (with_reducible refine (QC.out m hml.out _).mono ?_); rintro e w8 ⟨rfl, rfl⟩))
          go_ret
          exact FIN.out _ _ hm hS7 (Lib.hid (HB.out.trans hB7.out))
end Go.Proofs.YtiaggfjfgoiafaaDoor

/- Objects that are lent: their lists in memory of their own, marks behind them. -/
namespace Go.Proofs.YtiaggfjfgoiafaaDoor
open Go.RowKit Go.Proofs.YtiaggfjfgoiafaaDoorW.PrintWords Go.Proofs.YtiaggfjfgoiafaaDoorW.PrintLast
def kLent : Kd Ob where
  sz := 32
  E := [56]
  K := fun w o cs => ∃ v4 v27, cs = (o.cells v4 v27).toList ∧ LentK w o.labels v4 ∧ LentK w o.select v27
  M := fun w base ok o cs => ∃ v4 v27, cs = (o.cells v4 v27).toList ∧ LentR w base (fun k => ok k ∧ some k ≠ v27.ownBlock) o.labels v4 ∧ LentR w base (fun k => ok k ∧ some k ≠ v4.ownBlock) o.select v27
  K_len := by
    rintro w x cs ⟨v4, v27, rfl, _⟩
    rfl
  K_one := by
    rintro w x cs ⟨v4, v27, rfl, h4, h27⟩ u hu
    exact (Array.all_eq_true_iff_forall_mem.1 (x.cells_one h4.lab.one h27.lab.one)) u (by simpa using hu)
  K_below := by
    rintro w w1 x cs hb ⟨v4, v27, rfl, h4, h27⟩
    exact ⟨v4, v27, rfl, h4.below hb, h27.below hb⟩
  K_of_M := by
    rintro w base ok x cs ⟨v4, v27, rfl, h4, h27⟩
    exact ⟨v4, v27, rfl, h4.lent, h27.lent⟩
  M_mono := by
    rintro w base ok ok' x cs hok ⟨v4, v27, rfl, h4, h27⟩
    exact ⟨v4, v27, rfl, h4.mono (fun k hk => ⟨hok k hk.1, hk.2⟩), h27.mono (fun k hk => ⟨hok k hk.1, hk.2⟩)⟩
  M_bound := by
    rintro w base ok x cs ⟨v4, v27, rfl, h4, h27⟩
    exact ⟨v4, v27, rfl, h4.bound.mono (fun k hk => ⟨⟨hk.1.1, hk.2⟩, hk.1.2⟩), h27.bound.mono (fun k hk => ⟨⟨hk.1.1, hk.2⟩, hk.1.2⟩)⟩
  M_move := by
    rintro w w1 base ok x cs hm ⟨v4, v27, rfl, h4, h27⟩
    exact ⟨v4, v27, rfl, h4.move (fun k hk => hm k hk.1), h27.move (fun k hk => hm k hk.1)⟩
  M_lower := by
    rintro w base base' ok x cs hb ⟨v4, v27, rfl, h4, h27⟩
    exact ⟨v4, v27, rfl, h4.lower hb, h27.lower hb⟩
theorem cells_set4 (o : Ob) (v4 v27 u4 : Value) : (o.cells v4 v27).setIfInBounds 4 u4 = o.cells u4 v27 := rfl
theorem cells_set27 (o : Ob) (v4 v27 u27 : Value) : (o.cells v4 v27).setIfInBounds 27 u27 = o.cells v4 u27 := rfl
end Go.Proofs.YtiaggfjfgoiafaaDoor

/- An object of a list that is read: its cells. -/
namespace Go.Proofs.YtiaggfjfgoiafaaDoor
open Go.RowKit Go.Proofs.YtiaggfjfgoiafaaDoorW.PrintWords Go.Proofs.YtiaggfjfgoiafaaDoorW.PrintLast
instance obDec : DecidableEq Ob := fun o p => decidable_of_iff (sameB o p = true) (sameB_iff o p)
theorem sameB_dec (o p : Ob) : sameB o p = decide (o = p) := by
  rw [Bool.eq_iff_iff, sameB_iff, decide_eq_true_eq]
structure ObjAt (w : World) (ad : Addr) (k : Nat) (o : Ob) (v4 v27 : Value) : Prop where
  l4 : LabK w o.labels v4
  l27 : LabK w o.select v27
  cells : ∀ (j : Nat) (u : Value), (o.cells v4 v27)[j]? = some u → w.cell? ((ad.add (k * 32)).add j) = some u
theorem ObjAt.below {w w1 : World} {ad : Addr} {k : Nat} {o : Ob} {v4 v27 : Value} (h : ObjAt w ad k o v4 v27) (hb : Below w.heap.size w w1) : ObjAt w1 ad k o v4 v27 :=
  ⟨h.l4.below hb, h.l27.below hb, fun j u hu => cell_below hb (h.cells j u hu)⟩
theorem objAt {w : World} {A : Option Addr} {n : Nat} {l : List Ob} (h : kO.C w A n l) (k : Nat) (o : Ob) (hk : l[k]? = some o) : ∃ ad v4 v27, A = some ad ∧ ObjAt w ad k o v4 v27 := by
  obtain ⟨ad, v4, v27, e, h4, h27, hc⟩ := obj_at h k o hk
  exact ⟨ad, v4, v27, e, h4, h27, fun j u hu => by rw [add_add]; exact hc j u hu⟩
theorem ObjAt.field {w : World} {ad : Addr} {k : Nat} {o : Ob} {v4 v27 : Value} (h : ObjAt w ad k o v4 v27) (j : Nat) (hj : 0 < j) {u : Value} (hu : (o.cells v4 v27)[j]? = some u) : w.cell? ⟨(ad.add (k * 32)).block, (ad.add (k * 32)).off + j, none⟩ = some u := by
  have := h.cells j u hu
  rwa [add_add, add_field _ _ _ hj] at this
end Go.Proofs.YtiaggfjfgoiafaaDoor

/- LentObjects: each object lent, in a list of its own. -/
namespace Go.Proofs.YtiaggfjfgoiafaaDoor
open Go.RowKit Go.Proofs.YtiaggfjfgoiafaaDoorW.PrintWords Go.Proofs.YtiaggfjfgoiafaaDoorW.PrintLast
end Go.Proofs.YtiaggfjfgoiafaaDoor

/- CopyLabels, CopyObject, CopyObjects: the same, in memory of their own. -/
namespace Go.Proofs.YtiaggfjfgoiafaaDoor
open Go.RowKit Go.Proofs.YtiaggfjfgoiafaaDoorW.PrintWords Go.Proofs.YtiaggfjfgoiafaaDoorW.PrintLast
theorem copy0 (l : List Lab) (hl : l.length ≤ 4398046510976) : ∀ (d i k : Nat), l.length - i ≤ d → d < k → i ≤ l.length → QLb.flotillaref0_CopyLabels.l0 k l (l.take i) (i : Int) = some l := by
  intro d
  induction d with
  | zero =>
    intro i k h1 h2 h3
    obtain ⟨k, rfl⟩ : ∃ m, k = m + 1 := ⟨k - 1, by omega⟩
    simp only [QLb.flotillaref0_CopyLabels.l0]
    rw [if_neg (by omega), List.take_of_length_le (by omega)]
  | succ d ih =>
    intro i k h1 h2 h3
    obtain ⟨k, rfl⟩ : ∃ m, k = m + 1 := ⟨k - 1, by omega⟩
    by_cases hi : i < l.length
    · simp only [QLb.flotillaref0_CopyLabels.l0]
      rw [if_pos (by omega), if_pos (by omega), if_pos (by rw [List.length_take]; omega), show wrap64 ((i : Int) + 1) = ((i + 1 : Nat) : Int) by unfold wrap64; omega]
      have e1 : QLb.rd_T56 l (i : Int) = l[i] := by simp [QLb.rd_T56, List.getD_eq_getElem?_getD, hi]
      have e2 : l.take i ++ [(⟨(QLb.rd_T56 l (i : Int)).f0, (QLb.rd_T56 l (i : Int)).f1⟩ : Lab)] = l.take (i + 1) := by
        rw [e1, List.take_succ_eq_append_getElem hi]
      rw [e2]
      exact ih (i + 1) k (by omega) (by omega) (by omega)
    · simp only [QLb.flotillaref0_CopyLabels.l0]
      rw [if_neg (by omega), List.take_of_length_le (by omega)]
theorem copyLabels_calls {w : World} {l : List Lab} {v : Value} (h : LabK w l v) (hl : l.length ≤ 4398046510976) :
    Calls Tryd.prog 55 #[v] w fun e w' => ∃ v', e = .returned v' ∧ kL.R 56 w' w.heap.size (fun _ => True) v' l ∧ Below w.heap.size w w' := by
  obtain ⟨A, c, rfl, hc, hr⟩ := h
  have hf : QLb.flotillaref0_CopyLabels.f (l.length + 1) l = some l := by
    have := copy0 l hl l.length 0 (l.length + 1) (by omega) (by omega) (by omega)
    simpa [QLb.flotillaref0_CopyLabels.f] using this
  exact QLb.flotillaref0_CopyLabels.calls _ A c l l w hr hc hf
set_option maxRecDepth 100000 in
set_option maxHeartbeats 2000000 in
theorem copyObject_calls (o : Ob) (v4 v27 : Value) (w : World) (h4 : LabK w o.labels v4) (h27 : LabK w o.select v27) (hf : ObFits o) :
    Calls Tryd.prog 41 #[.agg (o.cells v4 v27)] w fun e w' => ∃ u4 u27, e = .returned (.agg (o.cells u4 u27)) ∧ kO.M w' w.heap.size (fun _ => True) o (o.cells u4 u27).toList ∧ Below w.heap.size w w' := by
  obtain ⟨cs, hcs⟩ : ∃ cs, cs = o.cells v4 v27 := ⟨_, rfl⟩
  have Q4 := Lib.hid (fun (W : World) (hW : Below w.heap.size w W) => copyLabels_calls (h4.below hW) hf.2.1)
  have Q27 := Lib.hid (fun (W : World) (hW : Below w.heap.size w W) => copyLabels_calls (h27.below hW) hf.2.2)
  have h1c := o.cells_one (v4 := v4) (v27 := v27) h4.one h27.one
  rw [← hcs] at h1c ⊢
  have hs : cs.size = 32 := by rw [hcs]; rfl
  have hi1 : Hid ((Tryd.prog.info? 39).map (·.size) = some cs.size) := Lib.hid (by rw [hs]; kernel_rfl)
  have Hcs := Lib.hid (And.intro hcs (And.intro h1c hs))
  have c4 : Hid (cs[4]? = some v4) := Lib.hid (by rw [hcs]; rfl)
  have c27 : Hid (cs[27]? = some v27) := Lib.hid (by rw [hcs]; rfl)
  clear hcs h1c hs h4 h27 hf
  have HM := Lib.hid (Eq.refl 0)
  go_enter Tryd.func41, Tryd.ntmps41
  obtain ⟨zz, hzz⟩ : ∃ zz, zz = Ob.zero.cells (.slice none 0 0) (.slice none 0 0) := ⟨_, rfl⟩
  have Hzz : Hid (zz.size = 32) := Lib.hid (by rw [hzz]; rfl)
  replace hzz := Lib.hid hzz
  go_wp2_with (first
    | ((with_reducible refine gate_ (.load 39 (.tmp 1)) rfl ?_); clear HM; (have HB : Below w.heap.size w ((w.alloc (Obj.cells cs 39)).alloc (Obj.cells zz 39)) := Go.Joins.below_alloc2 w _ _); (have BA : ((w.alloc (Obj.cells cs 39)).alloc (Obj.cells zz 39)).heap[w.heap.size]? = some (.cells cs 39 (0, 0)) := (heap_alloc_old _ _ (by simp)).trans (heap_alloc_new w _)); (have BC : ((w.alloc (Obj.cells cs 39)).alloc (Obj.cells zz 39)).heap[w.heap.size + 1]? = some (.cells zz 39 (0, 0)) := heap_alloc2_new w _ _); (have hW0 : ((w.alloc (Obj.cells cs 39)).alloc (Obj.cells zz 39)) = ((w.alloc (Obj.cells cs 39)).alloc (Obj.cells (Ob.zero.cells (.slice none 0 0) (.slice none 0 0)) 39)) := by rw [hzz.out]); generalize hW1 : ((w.alloc (Obj.cells cs 39)).alloc (Obj.cells zz 39)) = W0 at HB BA BC hW0; (refine Eq.mp (congrArg (fun x => wpList _ _ _ _ _ x) hW0) ?_); clear hW0 hW1; obtain ⟨ga, hga⟩ : ∃ x, x = w.heap.size := ⟨_, rfl⟩; obtain ⟨gc, hgc⟩ : ∃ x, x = w.heap.size + 1 := ⟨_, rfl⟩; rw [← hgc] at BC ⊢; rw [← hga] at BA ⊢; (have La : w.heap.size ≤ ga := by omega); (have Lc : w.heap.size ≤ gc := by omega); (have Nac : ga ≠ gc := by omega); clear hga hgc)
    | ((with_reducible refine wpList_load_blk rfl 39 (.tmp 1) rfl ga 39 ?l1 cs _ ?l2 Tryd.underlying39 ?l3 ?l4 ?_); (case l1 => rfl); (case l2 => exact BA); (case l3 => rfl); (case l4 => exact hi1.out))
    | ((with_reducible refine wpList_store_blk rfl 39 (.tmp 3) (.tmp 4) rfl W0.heap.size 39 ?c0 cs ?c1 ?c2 ?c3 ?c4 ?c5 ?c6 ?_); (case c1 => rfl); (case c2 => rfl); (case c3 => exact heap_alloc_new _ _); (case c4 => exact hi1.out); (case c5 => exact Eq.trans (b := 32) rfl Hcs.out.2.2.symm); (case c6 => exact Hcs.out.2.1); intro w1 BX hk hb hz; have Nax : ga ≠ W0.heap.size := (by have := blkLt BA; omega); have Ncx : gc ≠ W0.heap.size := (by have := blkLt BC; omega); replace BA := (hk _ Nax).trans ((heap_alloc_old _ _ (blkLt BA)).trans BA); replace BC := (hk _ Ncx).trans ((heap_alloc_old _ _ (blkLt BC)).trans BC); have Lx := HB.size; replace HB := hb _ _ (HB.alloc HB.size _) HB.size; clear hk hb hz; obtain ⟨gx, hgx⟩ : ∃ g, g = W0.heap.size := ⟨_, rfl⟩; rw [← hgx] at BX Nax Ncx Lx ⊢; clear hgx)
    | ((with_reducible refine gate_ (.load 34 _) rfl ?_); first | refine wpList_load1_w 34 _ rfl ⟨ga, 4, none⟩ rfl rfl v4 _ ((cell_of_row _ _ 4 _ _ _ BA).trans c4.out) Tryd.underlying34 rfl ?_ | refine wpList_load1_w 34 _ rfl ⟨ga, 27, none⟩ rfl rfl v27 _ ((cell_of_row _ _ 27 _ _ _ BA).trans c27.out) Tryd.underlying34 rfl ?_)
    | (go_at_call 55; (with_reducible refine (Q4.out _ HB).mono ?_); rintro e w2 ⟨u4, rfl, H4, hb⟩; have X4 : ∀ k, u4.ownBlock = some k → gx < k ∧ gc < k := (fun k hk => by have := Kd.R_base H4 k hk; have := blkLt BX; have := blkLt BC; omega); have Y4 : ∀ k, u4.ownBlock = some k → k < w2.heap.size := Kd.R_lt H4; have H4t := Kd.R_tight rfl (Kd.R_lower H4 HB.size); have V4 := Kd.R_val H4; have U4 := lab_cells H4; clear H4; replace BA := blkB hb BA; replace BC := blkB hb BC; replace BX := blkB hb BX; replace HB := belT HB hb; clear hb Q4)
    | (go_at_call 55; (with_reducible refine (Q27.out _ HB).mono ?_); rintro e w3 ⟨u27, rfl, H27, hb⟩; have X27 : ∀ k, u27.ownBlock = some k → gx < k ∧ gc < k := (fun k hk => by have := Kd.R_base H27 k hk; have := blkLt BX; have := blkLt BC; omega); have N4 : ∀ k, u4.ownBlock = some k → u27.ownBlock ≠ some k := (fun k hk hk' => by have := Kd.R_base H27 k hk'; have := Y4 k hk; omega); have H27t := Kd.R_tight rfl (Kd.R_lower H27 HB.size); have V27 := Kd.R_val H27; have U27 := lab_cells H27; clear H27; replace H4t := Kd.R_move H4t (fun k hk => hb.block k (Y4 k hk.symm)); replace BA := blkB hb BA; replace BC := blkB hb BC; replace BX := blkB hb BX; replace HB := belT HB hb; clear hb Q27)
    | ((with_reducible refine wpList_store1 rfl 34 (.tmp 8) (.tmp 7) rfl gx 4 39 cs u4 ?s1 ?s2 ?s3 ?s4 ?s5 ?s6 ?s7 ?_); (case s1 => rfl); (case s2 => rfl); (case s3 => exact U4); (case s4 => exact BX); (case s5 => (rw [Hcs.out.2.2]; omega)); (case s6 => kernel_rfl); (case s7 => exact V4.2); intro w4 BX' hk hb hz; rw [Hcs.out.1, cells_set4] at BX'; replace BX := BX'; replace BA := (hk _ Nax).trans BA; replace BC := (hk _ Ncx).trans BC; replace H4t := Kd.R_move H4t (fun k hk' => hk k (by have := X4 k hk'.symm; omega)); replace HB := hb _ _ HB Lx; replace Y4 : ∀ k, u4.ownBlock = some k → k < w4.heap.size := (fun k hk' => by have := Y4 k hk'; omega); clear hk hb hz BX')
    | ((with_reducible refine wpList_store1 rfl 34 (.tmp 12) (.tmp 11) rfl gx 27 39 (o.cells u4 v27) u27 ?s1 ?s2 ?s3 ?s4 ?s5 ?s6 ?s7 ?_); (case s1 => rfl); (case s2 => rfl); (case s3 => exact U27); (case s4 => exact BX); (case s5 => (rw [Ob.cells_size]; omega)); (case s6 => kernel_rfl); (case s7 => exact V27.2); intro w5 BX' hk hb hz; rw [cells_set27] at BX'; replace BX := BX'; replace BA := (hk _ Nax).trans BA; replace BC := (hk _ Ncx).trans BC; replace H4t := Kd.R_move H4t (fun k hk' => hk k (by have := X4 k hk'.symm; omega)); replace H27t := Kd.R_move H27t (fun k hk' => hk k (by have := X27 k hk'.symm; omega)); replace HB := hb _ _ HB Lx; clear hk hb hz BX')
    | ((with_reducible refine wpList_load_blk rfl 39 (.tmp 3) rfl gx 39 ?l1 (o.cells u4 u27) _ ?l2 Tryd.underlying39 ?l3 ?l4 ?_); (case l1 => rfl); (case l2 => exact BX); (case l3 => rfl); (case l4 => exact infoO1))
    | ((with_reducible refine wpList_store_blk rfl 39 (.tmp 2) (.tmp 13) rfl gc 39 zz (o.cells u4 u27) ?c1 ?c2 ?c3 ?c4 ?c5 ?c6 ?_); (case c1 => rfl); (case c2 => rfl); (case c3 => exact BC); (case c4 => exact infoO1); (case c5 => exact Hzz.out); (case c6 => exact o.cells_one V4.2 V27.2); intro w6 BC' hk hb hz; replace H4t := Kd.R_move H4t (fun k hk' => hk k (by have := X4 k hk'.symm; omega)); replace H27t := Kd.R_move H27t (fun k hk' => hk k (by have := X27 k hk'.symm; omega)); replace HB := hb _ _ HB Lc; clear hk hb hz))
  refine bodyPost_ret (v := .agg (o.cells u4 u27)) (results_cell_row (p := 2) (ty := 39) rfl _ _ gc 39 (o.cells u4 u27) (0, 0) _ (by rfl) BC' Tryd.underlying39 rfl infoO1) rfl ?_
  exact ⟨u4, u27, rfl, ⟨u4, u27, rfl, Kd.R_mono H4t (fun k hk => ⟨trivial, fun e => N4 k hk.symm e.symm⟩), Kd.R_mono H27t (fun k hk => ⟨trivial, fun e => N4 k e.symm hk.symm⟩)⟩, HB⟩
theorem copy_step {w wr w1 w2 : World} {v : Value} {xs : List Ob} {o : Ob} {cs : List Value} (hR : Kd.R kO 39 wr w.heap.size (fun _ => True) v xs) (hB : Below w.heap.size w wr) (hb1 : Below wr.heap.size wr w1)
    (HM : kO.M w1 wr.heap.size (fun _ => True) o cs) {x : Obj}
    (hk : ∀ k, k ≠ w1.heap.size → w2.heap[k]? = (w1.alloc x).heap[k]?) (hb2 : Below wr.heap.size wr w2) :
    (kO.M w2 w.heap.size (fun k => wr.heap.size ≤ k) o cs ∧ Kd.R kO 39 w2 w.heap.size (fun _ => True) v xs ∧ ∀ k, wr.heap.size ≤ k → True ∧ some k ≠ v.ownBlock) ∧ Below w.heap.size w w2 := by
  have same : ∀ k, k < w1.heap.size → w2.heap[k]? = w1.heap[k]? := fun k hlt => (hk k (by omega)).trans (heap_alloc_old _ _ hlt)
  refine ⟨⟨?_, Kd.R_below hR hb2, fun k hle => ⟨trivial, fun e => by have := Kd.R_lt hR k e.symm; omega⟩⟩, belT hB hb2⟩
  exact kO.M_mono (fun k hk => hk.2.1) (kO.M_lower hB.size (kO.M_move (fun k hk => same k hk.2.2.1) (kO.M_bound HM)))
set_option maxHeartbeats 2000000 in
set_option maxRecDepth 100000 in
theorem copyObjects_big (A : Option Addr) (c n : Nat) (l : List Ob) (w : World) (hr : kO.C w A l.length l) (hln : l.length = n) (hl : n ≤ 451081693433) (hf : ∀ o ∈ l, ObFits o) :
    Calls Tryd.prog 27 #[.slice A n c] w fun e w' => ∃ v, e = .returned v ∧ kO.R 39 w' w.heap.size (fun _ => True) v l ∧ Below w.heap.size w w' := by
  have HR := Lib.hid hr
  have HL := Lib.hid hln
  have HF := Lib.hid hf
  clear hr hln hf
  go_enter Tryd.func27, Tryd.ntmps27
  go_wp2
  go_loopw [3, 4] (fun v3 v4 wr => ∃ k : Nat, v4 = .int .i64 k ∧ k ≤ n ∧ Hid (Kd.R kO 39 wr w.heap.size (fun _ => True) v3 (l.take k) ∧ Below w.heap.size w wr)) (fun _ v4 _ => n - (intOf v4).toNat)
  case atStart => exact ⟨0, rfl, Nat.zero_le _, Lib.hid ⟨Kd.R_nil _ _ _ _ _, Below.refl _ _⟩⟩
  case round =>
    obtain ⟨k, rfl, hk, hI⟩ := hrel
    by_cases hlt : k < n
    · obtain ⟨o, ho⟩ : ∃ o, l[k]? = some o := ⟨_, List.getElem?_eq_getElem (by have := HL.out; omega)⟩
      obtain ⟨ad, v4, v27, rfl, hO⟩ := objAt (Kd.C_below HR.out hI.out.2) k o ho
      have hlk : (k : Int) < (n : Int) := by omega
      obtain ⟨cs, hcs⟩ : ∃ cs, cs = o.cells v4 v27 := ⟨_, rfl⟩
      have hi1 : Hid ((Tryd.prog.info? 39).map (·.size) = some cs.size) := Lib.hid (by rw [hcs, Ob.cells_size]; kernel_rfl)
      have B1 := hO.cells
      have QL := Lib.hid (copyObject_calls o v4 v27 wr hO.l4 hO.l27 (HF.out o (List.mem_of_getElem? ho)))
      rw [← hcs] at B1 QL
      replace B1 := Lib.hid B1
      have hsn : l.take (k + 1) = l.take k ++ [o] := by rw [List.take_add_one, ho]; rfl
      have HT := Lib.hid hsn
      have hkl : (l.take k).length ≤ 451081693432 := Nat.le_trans (List.length_take_le _ _) (by omega)
      have hlen : ((l.take k).length + 1) * 312 ≤ 140737488355328 := by omega
      clear ho hO hcs hsn hkl
      go_wp2_with (first
        | ((with_reducible refine wpList_load_any rfl 39 (.tmp 14) rfl (ad.add (k * 32)) ?l1 cs _ ?l2 Tryd.underlying39 ?l3 ?l4 ?_); (case l1 => rfl); (case l2 => exact B1.out); (case l3 => rfl); (case l4 => exact hi1.out))
        | (go_at_call 41; (with_reducible refine QL.out.mono ?_); rintro e w1 ⟨u4, u27, rfl, HM, hb1⟩; have hc1 : (o.cells u4 u27).all (·.oneCell') = true := (Array.all_eq_true_iff_forall_mem.2 fun u hu => kO.K_one (kO.K_of_M HM) u (by simpa using hu)); replace HM := Lib.hid HM; clear QL)
        | ((with_reducible refine wpList_store_blk rfl 39 (.tmp 5) (.tmp 16) rfl w1.heap.size 39 ?c0 (o.cells u4 u27) ?c1 ?c2 ?c3 ?c4 ?c5 ?c6 ?_); (case c1 => rfl); (case c2 => rfl); (case c3 => exact heap_alloc_new _ _); (case c4 => exact infoO1); (case c5 => rfl); (case c6 => exact hc1); intro w2 G hk hb hz; obtain ⟨hA, hB2⟩ := copy_step hI.out.1 hI.out.2 hb1 HM.out hk (hb _ _ (Below.alloc (hb1.mono (Nat.le_refl _)) hb1.size _) hb1.size); have HA := Lib.hid hA; have HG := Lib.hid G; have HB2 := Lib.hid hB2; have hw2 : Hid (w.heap.size ≤ w2.heap.size) := Lib.hid hB2.size; obtain ⟨gx, hgx⟩ : ∃ g, g = w1.heap.size := ⟨_, rfl⟩; rw [← hgx] at HG ⊢; clear G hk hb hz hA hB2 hgx HM hb1 hc1)
        | ((with_reducible refine wpList_load_blk rfl 39 (.tmp 5) rfl gx 39 ?m1 (o.cells u4 u27) _ ?m2 Tryd.underlying39 ?m3 ?m4 ?_); (case m1 => rfl); (case m2 => exact HG.out); (case m3 => rfl); (case m4 => exact infoO1))
        | ((with_reducible refine wpList_build1 rfl 22 39 (.tmp 18) rfl (o.cells u4 u27) ?d1 ?d2 32 312 Tryd.underlying22 ?d3 ?d4 (by omega) (by omega) ?d5 ?_); (case d1 => rfl); (case d3 => exact infoO); (case d4 => rfl); (case d5 => rfl))
        | (at_builtin; refine Kd.R_append kO (w0 := w) (W := w2) w.heap.size rfl (.tmp 17) (.tmp 19) 22 39 (.agg (Ob.zero.cells (.slice none 0 0) (.slice none 0 0))) 312 rfl Tryd.underlying22 infoO rfl (by decide) (by omega) u3 (l.take k) o (o.cells u4 u27).toList (fun _ => True) (fun k => wr.heap.size ≤ k) rfl rfl HA.out.1 HA.out.2.2 (fun _ _ => trivial) HA.out.2.1 HB2.out hw2.out hlen ?_; intro v1 w6 hR6 hB6 hg6 hat6))
      go_roundw
      case rel => exact ⟨k + 1, by go_num, by omega, Lib.hid ⟨by rw [HT.out]; exact hR6, hB6⟩⟩
      case measure => simp [intOf]; omega
    · obtain rfl : n = k := by omega
      have hI1 := hI.out.1
      rw [List.take_of_length_le (Nat.le_of_eq HL.out)] at hI1
      replace hI1 := Lib.hid hI1
      go_wp2
      go_ret
      exact ⟨_, rfl, hI1.out, hI.out.2⟩
end Go.Proofs.YtiaggfjfgoiafaaDoor

/- One struct laid into a new block, in a region that draws its order; a slice of objects cut off below. -/
namespace Go.Proofs.YtiaggfjfgoiafaaDoor
open Go.RowKit Go.Proofs.YtiaggfjfgoiafaaDoorW.PrintWords Go.Proofs.YtiaggfjfgoiafaaDoorW.PrintLast
section
variable {P : Program}
theorem build1_ {ops : Array Oper} {op : Oper} {N : Option Tmp} {a : Act} {w : World} {K : Act → World → Prop} {Q : Exit → Act → World → Prop} (hw : Region.wanted op (yielded ops a.tmps) = true) (hN : op.dst = N) (t e : TypeId) (x : Operand) (ho : op.op = .buildSlice t 1 #[(0, x)]) (cs : Array Value) (hx : a.eval x = .agg cs)
    (z : Value) (n bytes : Nat) (hu : P.underlying t = some (.slice e)) (hinfo : (P.info? e).map (fun i => (i.zero, i.size, i.bytes)) = some (some z, n, bytes)) (hs : cs.size = n) (h0 : 0 < n) (hn : n ≤ 1000) (hz : z.cells.size = n)
    (h : K (a.put N (.slice (some ⟨w.heap.size, 0, none⟩) 1 1)) (w.alloc (.cells cs e))) : if Region.wanted op (yielded ops a.tmps) = true then Oper.wp P op a w K Q else K (a.put N undef) w := by
  rw [if_pos hw]
  subst hN
  obtain ⟨i0, hi, hzz⟩ := Option.map_eq_some_iff.1 hinfo
  simp only [Prod.mk.injEq] at hzz
  obtain ⟨hz0, hz1, hz2⟩ := hzz
  refine wp_buildSlice t e 1 #[(0, x)] ho cs i0 z hu hi hz0 (by rw [hz1]; omega) (by rw [hz1]; omega) ?_ h
  have hf := Great.fill_whole (s := n) h0 [Value.agg cs] ((Array.range (1 * i0.size)).map (z.cells[· % z.cells.size]!)) (fun v hv => by rw [List.mem_singleton.1 hv]; exact hs) (by simp [hz1])
  rw [hz1] at hf ⊢
  simpa [hx, Value.cells] using hf
end
end Go.Proofs.YtiaggfjfgoiafaaDoor

/- Objects with the lists that they hold; their order by names. -/
namespace Go.Proofs.YtiaggfjfgoiafaaDoor
open Go.RowKit Go.Proofs.YtiaggfjfgoiafaaDoorW.PrintWords Go.Proofs.YtiaggfjfgoiafaaDoorW.PrintLast
abbrev Ot := Ob × Value × Value
def Ot.cs (t : Ot) : Array Value := t.1.cells t.2.1 t.2.2
def kT : Kd Ot where
  sz := 32
  E := []
  K := fun _ t cs => cs = (Ot.cs t).toList ∧ (Ot.cs t).all (·.oneCell') = true
  M := fun _ _ _ t cs => cs = (Ot.cs t).toList ∧ (Ot.cs t).all (·.oneCell') = true
  K_len := by
    rintro w t cs ⟨rfl, _⟩
    rfl
  K_one := by
    rintro w t cs ⟨rfl, h⟩ u hu
    exact (Array.all_eq_true_iff_forall_mem.1 h) u (by simpa using hu)
  K_below := fun _ h => h
  K_of_M := fun h => h
  M_mono := fun _ h => h
  M_bound := fun h => h
  M_move := fun _ h => h
  M_lower := fun _ h => h
def LabT (w : World) (ts : List Ot) : Prop := ∀ t ∈ ts, LabK w t.1.labels t.2.1 ∧ LabK w t.1.select t.2.2
theorem LabT.below {w w1 : World} {ts : List Ot} (h : LabT w ts) (hb : Below w.heap.size w w1) : LabT w1 ts := fun t ht => ⟨(h t ht).1.below hb, (h t ht).2.below hb⟩
theorem list_ofT {β : Type} (P : Nat → β → Prop) : ∀ n : Nat, (∀ i, i < n → ∃ t, P i t) → ∃ T : List β, T.length = n ∧ ∀ i t, T[i]? = some t → P i t
  | 0, _ => ⟨[], rfl, fun i t h => by simp at h⟩
  | n + 1, h => by
    obtain ⟨T, hl, hT⟩ := list_ofT P n (fun i hi => h i (by omega))
    obtain ⟨t, ht⟩ := h n (Nat.lt_succ_self n)
    refine ⟨T ++ [t], by simp [hl], fun i u hu => ?_⟩
    rcases Nat.lt_or_ge i T.length with h1 | h1
    · rw [List.getElem?_append_left h1] at hu
      exact hT i u hu
    · rw [List.getElem?_append_right h1] at hu
      have e : i - T.length = 0 := by
        have := (List.getElem?_eq_some_iff.1 hu).1
        simp at this
        omega
      rw [e] at hu
      obtain rfl : t = u := by simpa using hu
      obtain rfl : i = n := by omega
      exact ht
theorem kO_of_T {w : World} {A : Option Addr} {n : Nat} {ts : List Ot} (h : kT.C w A n ts) (g : LabT w ts) : kO.C w A n (ts.map (·.1)) := by
  obtain ⟨h1, h2, h3⟩ := h
  refine ⟨by rw [List.length_map]; exact h1, h2, fun hp => ?_⟩
  obtain ⟨ad, e, hc⟩ := h3 hp
  refine ⟨ad, e, fun j o hj => ?_⟩
  rw [List.getElem?_map] at hj
  obtain ⟨t, ht, rfl⟩ := Option.map_eq_some_iff.1 hj
  obtain ⟨cs, hl, ⟨rfl, h1c⟩, hcell⟩ := hc j t ht
  have hg := g t (List.mem_of_getElem? ht)
  exact ⟨_, hl, ⟨t.2.1, t.2.2, rfl, hg.1, hg.2⟩, hcell⟩
theorem T_of_kO {w : World} {A : Option Addr} {n : Nat} {l : List Ob} (h : kO.C w A n l) : ∃ ts : List Ot, ts.map (·.1) = l ∧ kT.C w A n ts ∧ LabT w ts := by
  have hl := h.1
  obtain ⟨ts, hts, hP⟩ := list_ofT (fun i (t : Ot) => l[i]? = some t.1 ∧ LabK w t.1.labels t.2.1 ∧ LabK w t.1.select t.2.2 ∧ ∀ ad, A = some ad → ∀ (j : Nat) (u : Value), (Ot.cs t)[j]? = some u → w.cell? (ad.add (i * 32 + j)) = some u) l.length (fun i hi => by
    obtain ⟨o, ho⟩ : ∃ o, l[i]? = some o := ⟨_, List.getElem?_eq_getElem hi⟩
    obtain ⟨ad, v4, v27, e, h4, h27, hc⟩ := obj_at h i o ho
    exact ⟨(o, v4, v27), ho, h4, h27, fun ad' e' j u hu => by
      rw [e] at e'
      obtain rfl := Option.some.inj e'
      exact hc j u hu⟩)
  have hmap : ts.map (·.1) = l := by
    apply List.ext_getElem?
    intro i
    rw [List.getElem?_map]
    rcases Nat.lt_or_ge i ts.length with h1 | h1
    · obtain ⟨t, ht⟩ : ∃ t, ts[i]? = some t := ⟨_, List.getElem?_eq_getElem h1⟩
      rw [ht, (hP i t ht).1]
      rfl
    · rw [List.getElem?_eq_none h1, List.getElem?_eq_none (by omega)]
      rfl
  refine ⟨ts, hmap, ⟨by rw [hts]; exact hl, h.2.1, fun hp => ?_⟩, fun t ht => ?_⟩
  · obtain ⟨ad, e, _⟩ := h.2.2 hp
    refine ⟨ad, e, fun j t hj => ⟨(Ot.cs t).toList, rfl, ⟨rfl, t.1.cells_one (hP j t hj).2.1.one (hP j t hj).2.2.1.one⟩, fun i u hu => (hP j t hj).2.2.2 ad e i u (by simpa using hu)⟩⟩
  · obtain ⟨i, hi⟩ := List.mem_iff_getElem?.1 ht
    exact ⟨(hP i t hi).2.1, (hP i t hi).2.2.1⟩
def cNa (x y : Array Value) : Int := Wc.cmpW (strAt x 1) (strAt y 1)
theorem cNa_cmp : Wc.IsCmp cNa := Wc.cmpW_cmp.on (fun x => strAt x 1)
def cN (o p : Ob) : Int := Wc.cmpW o.name p.name
theorem tAt {w : World} {A : Option Addr} {n : Nat} {ts : List Ot} (h : kT.C w A n ts) (k : Nat) (t : Ot) (hk : ts[k]? = some t) :
    ∃ ad, A = some ad ∧ (Ot.cs t).all (·.oneCell') = true ∧ ∀ (j : Nat) (u : Value), (Ot.cs t)[j]? = some u → w.cell? ((ad.add (k * 32)).add j) = some u := by
  have hp : 0 < n := by
    have := (List.getElem?_eq_some_iff.1 hk).1
    have := h.1
    omega
  obtain ⟨ad, e, hc⟩ := h.2.2 hp
  obtain ⟨cs, hl, ⟨rfl, h1⟩, hcell⟩ := hc k t hk
  exact ⟨ad, e, h1, fun j u hu => by rw [add_add]; exact hcell j u (by simpa using hu)⟩
theorem bytes_of_list {a b : ByteArray} (h : a.toList = b.toList) : a = b := by
  rw [Go.Lib.toList_data, Go.Lib.toList_data] at h
  cases a
  cases b
  congr 1
  exact Array.toList_inj.1 h
theorem Ot.cs_size (t : Ot) : (Ot.cs t).size = 32 := rfl
theorem loc_step {w wr w2 : World} {v : Value} {xs : List Ot} (hR : kT.R 39 wr w.heap.size (fun _ => True) v xs) (hB : Below w.heap.size w wr) (hb2 : Below wr.heap.size wr w2) :
    kT.R 39 w2 w.heap.size (fun _ => True) v xs ∧ Below w.heap.size w w2 := ⟨Kd.R_below hR hb2, belT hB hb2⟩
def onF (s : ByteArray) (ts : List Ot) : List Ot := ts.filter (fun t => decide (t.1.node = s))
theorem kT_move {w w1 : World} {A : Option Addr} {n : Nat} {ts : List Ot} (h : kT.C w A n ts) (hs : ∀ ad, A = some ad → w1.heap[ad.block]? = w.heap[ad.block]?) : kT.C w1 A n ts :=
  ⟨h.1, h.2.1, fun hp => by
    obtain ⟨ad, e, hc⟩ := h.2.2 hp
    exact ⟨ad, e, fun j t hj => by
      obtain ⟨cs, hl, hK, hcell⟩ := hc j t hj
      exact ⟨cs, hl, hK, fun i u hu => (by unfold World.cell?; rw [add_block, hs ad e] : w1.cell? (ad.add (j * 32 + i)) = w.cell? (ad.add (j * 32 + i))).trans (hcell i u hu)⟩⟩⟩
theorem kT_is {w : World} {t : Ot} {cs : List Value} (h : kT.K w t cs) (hf : ObFits t.1) : IsObj cs.toArray := by
  obtain ⟨rfl, _⟩ := h
  exact ⟨t.1, t.2.1, t.2.2, by simp [Ot.cs], hf.1⟩
theorem kT_cmp {w : World} {x y : Ot} {cs ds : List Value} (h : kT.K w x cs) (h' : kT.K w y ds) : cNa cs.toArray ds.toArray < 0 ↔ cN x.1 y.1 < 0 := by
  obtain ⟨rfl, _⟩ := h
  obtain ⟨rfl, _⟩ := h'
  simp only [Array.toArray_toList]
  exact Iff.rfl
def cT (a b : Ot) : Int := cN a.1 b.1
theorem cT_map (ts : List Ot) : (Srt.isort cT ts).map (·.1) = Srt.isort cN (ts.map (·.1)) := Srt.isort_map cN (·.1) ts
theorem infoF1 : (Tryd.prog.info? 24).map (·.size) = some 4 := by kernel_rfl
def vOn (ps : List Ob) (s : ByteArray) : List Ob := ps.filter (fun o => decide (o.node = s))
theorem onF_map (s : ByteArray) (ts : List Ot) : (onF s ts).map (·.1) = vOn (ts.map (·.1)) s := by
  unfold onF vOn
  rw [List.filter_map]
  rfl
theorem vOn_len (ps : List Ob) (s : ByteArray) : (vOn ps s).length ≤ ps.length := List.length_filter_le _ _
end Go.Proofs.YtiaggfjfgoiafaaDoor

/- drain: nodes by names; the pods on a node. Lists whose objects' own lists lie elsewhere (kT: the cells alone). -/
namespace Go.Proofs.YtiaggfjfgoiafaaDoor
open Go.RowKit Go.Proofs.YtiaggfjfgoiafaaDoorW.PrintWords Go.Proofs.YtiaggfjfgoiafaaDoorW.PrintLast
theorem name1_calls (o p : Ob) (v4 v27 u4 u27 : Value) (m1 : o.name.size ≤ 140737488351232) (m2 : p.name.size ≤ 140737488351232) (w : World) :
    Calls Tryd.prog 30 #[.agg (o.cells v4 v27), .agg (p.cells u4 u27)] w fun e w' => e = .returned (.int .i64 (cN o p)) ∧ Below w.heap.size w w' := by
  obtain ⟨n1, hn1⟩ : ∃ k, k = o.name := ⟨_, rfl⟩
  obtain ⟨n2, hn2⟩ : ∃ k, k = p.name := ⟨_, rfl⟩
  obtain ⟨cw, hcw⟩ : ∃ c, c = Wc.cmpW n1 n2 := ⟨_, rfl⟩
  have hres : cN o p = cw := by rw [hcw, hn1, hn2]; rfl
  rw [hres]
  have QW := Lib.hid (fun W => Wc.words_calls n1 n2 cw W (by rw [hn1, hn2] at hcw ⊢; unfold Wc.cmpO; rw [if_pos ⟨m1, m2⟩, hcw]))
  obtain ⟨cs, hcs⟩ : ∃ cs, cs = o.cells v4 v27 := ⟨_, rfl⟩
  obtain ⟨ds, hds⟩ : ∃ cs, cs = p.cells u4 u27 := ⟨_, rfl⟩
  have e1 : cs[1]? = some (.string n1) := by rw [hcs, hn1]; rfl
  have f1 : ds[1]? = some (.string n2) := by rw [hds, hn2]; rfl
  have B1 : ((w.alloc (Obj.cells cs 39)).alloc (Obj.cells ds 39)).heap[w.heap.size]? = some (.cells cs 39 (0, 0)) := (heap_alloc_old _ _ (by simp)).trans (heap_alloc_new w _)
  have B2 : ((w.alloc (Obj.cells cs 39)).alloc (Obj.cells ds 39)).heap[w.heap.size + 1]? = some (.cells ds 39 (0, 0)) := heap_alloc2_new w _ _
  have C2 : ((w.alloc (Obj.cells cs 39)).alloc (Obj.cells ds 39)).cell? ⟨w.heap.size, 1, none⟩ = some (.string n1) := (cell_of_row _ _ 1 _ _ _ B1).trans e1
  have C4 : ((w.alloc (Obj.cells cs 39)).alloc (Obj.cells ds 39)).cell? ⟨w.heap.size + 1, 1, none⟩ = some (.string n2) := (cell_of_row _ _ 1 _ _ _ B2).trans f1
  have HB := Lib.hid (Go.Joins.below_alloc2 w (Obj.cells cs 39) (Obj.cells ds 39))
  rw [← hcs, ← hds]
  clear hn1 hn2 hcw hres hcs hds e1 f1 m1 m2 B1 B2
  go_enter Tryd.func30, Tryd.ntmps30
  go_wp2_with (first
    | (go_at_call 31; (with_reducible refine (QW.out _).mono ?_); rintro e w7 ⟨rfl, hb7⟩))
  go_ret
  exact ⟨rfl, belT HB.out hb7⟩
theorem name1_at : CmpAt 30 IsObj cNa where
  fn := ⟨_, Tryd.func30, by kernel_rfl, by kernel_rfl⟩
  calls := by
    rintro x y ⟨o, v4, v27, rfl, m1⟩ ⟨p, u4, u27, rfl, m2⟩ W
    exact name1_calls o p v4 v27 u4 u27 m1 m2 W
theorem kT_rows {w w1 : World} {A : Option Addr} {n : Nat} {ts : List Ot} (h : kT.C w A n ts) (hb : Below w.heap.size w w1) : ReadsRow (fun t cs => cs = (Ot.cs t).toList ∧ (Ot.cs t).all (·.oneCell') = true) 32 w1 A n ts := ReadsRow.imp_ h hb (fun _ _ h => h)
set_option maxHeartbeats 1600000 in
theorem cloneT_calls (A : Option Addr) (c n : Nat) (ts : List Ot) (w : World) (hr : kT.C w A n ts) (hn : n ≤ 1000000) :
    Calls Tryd.prog 28 #[.slice A n c] w fun e w' => ∃ v, e = .returned v ∧ kT.R 39 w' w.heap.size (fun _ => True) v ts ∧ Below w.heap.size w w' := by
  have HR := Lib.hid hr
  have HL := Lib.hid hn
  clear hr hn
  cases A with
  | none =>
    have q1 := fun (W : World) => Lib.run_eql_slice_nil (P := Tryd.prog) W 22 39 none n c 0 0 Tryd.underlying22
    go_enter Tryd.func28, Tryd.ntmps28
    go_wp2
    go_ret
    have h0 : ts = [] := by
      rcases Nat.eq_zero_or_pos n with h | h
      · exact List.length_eq_zero_iff.1 (HR.out.1.trans h)
      · obtain ⟨ad, e, _⟩ := HR.out.2.2 h
        cases e
    exact ⟨_, rfl, by rw [h0]; exact Kd.R_nil _ _ _ _ _, Below.refl _ _⟩
  | some ad =>
    have q1 := fun (W : World) => Lib.run_eql_slice_nil (P := Tryd.prog) W 22 39 (some ad) n c 0 0 Tryd.underlying22
    go_enter Tryd.func28, Tryd.ntmps28
    go_wp2_with (at_builtin; refine Kd.R_append_rows kT (w0 := w) (Rr := fun t cs => cs = (Ot.cs t).toList ∧ (Ot.cs t).all (·.oneCell') = true) w.heap.size rfl (.tmp 5) (.tmp 6) 22 39 (.agg (Ob.zero.cells (.slice none 0 0) (.slice none 0 0))) 312 rfl Tryd.underlying22 infoO rfl (by decide) (by omega) (.slice (some ⟨w.heap.size, 0, none⟩) 0 0) [] ts (some ad) n c (fun _ => True) (fun _ => False) rfl rfl ?c1 ?c2 ?c3 (fun _ hk => hk.elim) (fun _ _ => trivial) ?c4 ?c5 ?c6 ?_; (case c1 => exact ⟨fun _ _ => trivial, [], World.ownsRow_lit w #[] 0 (Nat.le_refl _) (Nat.zero_le _) rfl, Reps.none _ _⟩); (case c2 => exact kT_rows HR.out (below_alloc (Below.refl _ _) _)); (case c3 => (intro x cs h; exact h)); (case c4 => exact below_alloc (Below.refl _ _) _); (case c5 => simp); (case c6 => (have := HL.out; simp only [List.length_nil]; omega)); intro v1 w1 hR1 hB1 hg1 hat1)
    go_ret
    exact ⟨_, rfl, by simpa using hR1, hB1⟩
end Go.Proofs.YtiaggfjfgoiafaaDoor

/- drain.on: the pods that run on a node, in new memory; their own lists are shared. -/
namespace Go.Proofs.YtiaggfjfgoiafaaDoor
open Go.RowKit Go.Proofs.YtiaggfjfgoiafaaDoorW.PrintWords Go.Proofs.YtiaggfjfgoiafaaDoorW.PrintLast
set_option maxHeartbeats 2000000 in
set_option maxRecDepth 100000 in
theorem on_calls (v0 v2 v3 : Value) (A : Option Addr) (c n : Nat) (s : ByteArray) (ts : List Ot) (w : World) (h0 : v0.oneCell' = true) (h2 : v2.oneCell' = true) (h3 : v3.oneCell' = true) (hr : kT.C w A n ts) (hl : n ≤ 1000000) :
    Calls Tryd.prog 33 #[.agg #[v0, .slice A n c, v2, v3], .string s] w fun e w' => ∃ v, e = .returned v ∧ kT.R 39 w' w.heap.size (fun _ => True) v (onF s ts) ∧ Below w.heap.size w w' := by
  have HR := Lib.hid hr
  have HL : Hid (ts.length = n) := Lib.hid hr.1
  have q0 : (w.alloc (Obj.cells #[v0, .slice A n c, v2, v3] 24)).cell? ⟨w.heap.size, 1, none⟩ = some (.slice A n c) := cell_of_row _ _ 1 _ _ _ (heap_alloc_new w _)
  have HB0 := Lib.hid (below_alloc (Below.refl w.heap.size w) (Obj.cells #[v0, .slice A n c, v2, v3] 24))
  clear hr
  go_enter Tryd.func33, Tryd.ntmps33
  go_wp2
  go_loopw [5, 11] (fun v5 v11 wr => ∃ k : Nat, v11 = .int .i64 k ∧ k ≤ n ∧ Hid (Kd.R kT 39 wr w.heap.size (fun _ => True) v5 (onF s (ts.take k)) ∧ Below w.heap.size w wr)) (fun _ v11 _ => n - (intOf v11).toNat)
  case atStart => exact ⟨0, rfl, Nat.zero_le _, Lib.hid ⟨Kd.R_nil _ _ _ _ _, HB0.out⟩⟩
  case round =>
    obtain ⟨k, rfl, hk, hI⟩ := hrel
    by_cases hlt : k < n
    · obtain ⟨t, ht⟩ : ∃ o, ts[k]? = some o := ⟨_, List.getElem?_eq_getElem (by have := HL.out; omega)⟩
      obtain ⟨ad, rfl, hc1, hO⟩ := tAt (Kd.C_below HR.out hI.out.2) k t ht
      have hlk : (k : Int) < (n : Int) := by omega
      obtain ⟨nd, hnd⟩ : ∃ x, x = t.1.node := ⟨_, rfl⟩
      have hsn : onF s (ts.take (k + 1)) = onF s (ts.take k) ++ (if nd = s then [t] else []) := by
        unfold onF
        rw [List.take_add_one, ht, List.filter_append, hnd]
        by_cases e : t.1.node = s <;> simp [e]
      have hlen : ((onF s (ts.take k)).length + 1) * 312 ≤ 140737488355328 := by
        have h1 : (onF s (ts.take k)).length ≤ (ts.take k).length := List.length_filter_le _ _
        rw [List.length_take] at h1
        omega
      obtain ⟨cs, hcs⟩ : ∃ cs, cs = Ot.cs t := ⟨_, rfl⟩
      have hM : Hid (∀ W : World, kT.M W w.heap.size (fun _ => False) t cs.toList) := Lib.hid (fun W => ⟨by rw [hcs], hc1⟩)
      rw [← hcs] at hc1 hO
      have HO := Lib.hid hO
      have e12 : cs[13]? = some (.string nd) := by rw [hcs, hnd]; rfl
      have hi1 : (Tryd.prog.info? 39).map (·.size) = some cs.size := by rw [hcs, Ot.cs_size]; kernel_rfl
      have hi2 : 32 = cs.size := by rw [hcs, Ot.cs_size]
      have HC := Lib.hid (And.intro hc1 (And.intro e12 (And.intro hi1 hi2)))
      have HLn := Lib.hid hlen
      clear hnd ht hO hcs hc1 e12 hi1 hi2 hlen
      by_cases hs : nd = s
      · have d1 : decide (nd = s) = true := decide_eq_true hs
        have d2 : (nd.toList == s.toList) = true := by rw [hs]; exact beq_self_eq_true _
        rw [if_pos hs] at hsn
        have HS := Lib.hid hsn
        clear hsn
        go_wp2_with (first
          | ((with_reducible refine wpList_load_any rfl 39 (.tmp 13) rfl (ad.add (k * 32)) ?l1 cs _ ?l2 Tryd.underlying39 ?l3 ?l4 ?_); (case l1 => rfl); (case l2 => exact HO.out); (case l3 => rfl); (case l4 => exact HC.out.2.2.1))
          | ((with_reducible refine wpList_store_blk rfl 39 (.tmp 7) (.tmp 14) rfl wr.heap.size 39 ?c0 cs ?c1 ?c2 ?c3 ?c4 ?c5 ?c6 ?_); (case c1 => rfl); (case c2 => rfl); (case c3 => exact heap_alloc_new _ _); (case c4 => exact HC.out.2.2.1); (case c5 => exact Eq.trans (b := 32) rfl HC.out.2.2.2); (case c6 => exact HC.out.1); intro w2 G hk2 hb hz; have HG := Lib.hid (And.intro (loc_step hI.out.1 hI.out.2 (hb _ _ (Below.alloc (Below.refl _ _) (Nat.le_refl _) _) (Nat.le_refl _))) G); obtain ⟨gx, hgx⟩ : ∃ g, g = wr.heap.size := ⟨_, rfl⟩; rw [← hgx] at HG ⊢; clear G hk2 hb hz hgx; have C12 : w2.cell? ⟨gx, 13, none⟩ = some (.string nd) := (cell_of_row _ _ 13 _ _ _ HG.out.2).trans HC.out.2.1)
          | ((with_reducible refine wpList_load_blk rfl 39 (.tmp 7) rfl gx 39 ?m1 cs _ ?m2 Tryd.underlying39 ?m3 ?m4 ?_); (case m1 => rfl); (case m2 => exact HG.out.2); (case m3 => rfl); (case m4 => exact HC.out.2.2.1))
          | ((with_reducible refine wpList_build1 rfl 22 39 (.tmp 20) rfl cs ?d1 (.agg (Ob.zero.cells (.slice none 0 0) (.slice none 0 0))) 32 312 Tryd.underlying22 ?d3 ?d4 (by omega) (by omega) ?d5 ?_); (case d1 => rfl); (case d3 => exact infoO); (case d4 => exact HC.out.2.2.2.symm); (case d5 => rfl))
          | (at_builtin; refine Kd.R_append kT (w0 := w) (W := w2) w.heap.size rfl (.tmp 19) (.tmp 21) 22 39 (.agg (Ob.zero.cells (.slice none 0 0) (.slice none 0 0))) 312 rfl Tryd.underlying22 infoO rfl (by decide) (by omega) u5 (onF s (ts.take k)) t cs.toList (fun _ => True) (fun _ => False) rfl rfl (hM.out w2) (fun _ h => h.elim) (fun _ _ => trivial) HG.out.1.1 HG.out.1.2 HG.out.1.2.size HLn.out ?_; intro v1 w6 hR6 hB6 hg6 hat6))
        go_roundw
        case rel => exact ⟨k + 1, by go_num, by omega, Lib.hid ⟨by rw [HS.out]; exact hR6, hB6⟩⟩
        case measure => simp [intOf]; omega
      · have d1 : decide (nd = s) = false := decide_eq_false hs
        have d2 : (nd.toList == s.toList) = false := beq_eq_false_iff_ne.mpr (fun e => hs (bytes_of_list e))
        rw [if_neg hs, List.append_nil] at hsn
        have HS := Lib.hid hsn
        clear hsn
        go_wp2_with (first
          | ((with_reducible refine wpList_load_any rfl 39 (.tmp 13) rfl (ad.add (k * 32)) ?l1 cs _ ?l2 Tryd.underlying39 ?l3 ?l4 ?_); (case l1 => rfl); (case l2 => exact HO.out); (case l3 => rfl); (case l4 => exact HC.out.2.2.1))
          | ((with_reducible refine wpList_store_blk rfl 39 (.tmp 7) (.tmp 14) rfl wr.heap.size 39 ?c0 cs ?c1 ?c2 ?c3 ?c4 ?c5 ?c6 ?_); (case c1 => rfl); (case c2 => rfl); (case c3 => exact heap_alloc_new _ _); (case c4 => exact HC.out.2.2.1); (case c5 => exact Eq.trans (b := 32) rfl HC.out.2.2.2); (case c6 => exact HC.out.1); intro w2 G hk2 hb hz; have HG := Lib.hid (And.intro (loc_step hI.out.1 hI.out.2 (hb _ _ (Below.alloc (Below.refl _ _) (Nat.le_refl _) _) (Nat.le_refl _))) G); obtain ⟨gx, hgx⟩ : ∃ g, g = wr.heap.size := ⟨_, rfl⟩; rw [← hgx] at HG ⊢; clear G hk2 hb hz hgx; have C12 : w2.cell? ⟨gx, 13, none⟩ = some (.string nd) := (cell_of_row _ _ 13 _ _ _ HG.out.2).trans HC.out.2.1))
        go_roundw
        case rel => exact ⟨k + 1, by go_num, by omega, Lib.hid ⟨by rw [HS.out]; exact HG.out.1.1, HG.out.1.2⟩⟩
        case measure => simp [intOf]; omega
    · obtain rfl : n = k := by omega
      have hI1 := hI.out.1
      rw [List.take_of_length_le (Nat.le_of_eq HL.out)] at hI1
      replace hI1 := Lib.hid hI1
      go_wp2
      go_ret
      exact ⟨_, rfl, hI1.out, hI.out.2⟩
end Go.Proofs.YtiaggfjfgoiafaaDoor

/- Requests: their cells, lists of them. -/
namespace Go.Proofs.YtiaggfjfgoiafaaDoor
open Go.RowKit Go.Proofs.YtiaggfjfgoiafaaDoorW.PrintWords Go.Proofs.YtiaggfjfgoiafaaDoorW.PrintLast
@[ext] structure Rq where
  verb : Int
  ob : Ob
  kind : Int
  name : ByteArray
  version : Int
  node : ByteArray
  phase : Int
  ready : Bool
  now : Int
  «by» : ByteArray
  term : Int
def Rq.cells (r : Rq) (v4 v27 : Value) : Array Value := #[.int .i64 r.verb, .int .i64 r.ob.kind, .string r.ob.name, .int .i64 r.ob.version, .int .i64 r.ob.born, v4, .int .i64 r.ob.roomC, .int .i64 r.ob.roomM, .bool r.ob.cordoned, .bool r.ob.draining, .bool r.ob.lost, .int .i64 r.ob.beat, .string r.ob.deploy, .string r.ob.sset, .string r.ob.node, .int .i64 r.ob.phase, .bool r.ob.ready, .bool r.ob.ending, .int .i64 r.ob.needC, .int .i64 r.ob.needM, .string r.ob.image, .int .i64 r.ob.rise, .int .i64 r.ob.fall, .int .i64 r.ob.count, .int .i64 r.ob.surge, .int .i64 r.ob.slack, .bool r.ob.paused, .int .u64 r.ob.hash, v27, .int .i64 r.ob.least, .string r.ob.holder, .int .i64 r.ob.term, .int .i64 r.ob.till, .int .i64 r.kind, .string r.name, .int .i64 r.version, .string r.node, .int .i64 r.phase, .bool r.ready, .int .i64 r.now, .string r.by, .int .i64 r.term]
theorem Rq.cells_size (r : Rq) (v4 v27 : Value) : (r.cells v4 v27).size = 42 := rfl
theorem Rq.cells_one (o : Rq) {v4 v27 : Value} (h4 : v4.oneCell' = true) (h27 : v27.oneCell' = true) : (o.cells v4 v27).all (·.oneCell') = true := by
  unfold Rq.cells
  simp [Value.oneCell'] at h4 h27 ⊢
  exact ⟨h4, h27⟩
def Rq.zero : Rq := ⟨0, Ob.zero, 0, ⟨#[]⟩, 0, ⟨#[]⟩, 0, false, 0, ⟨#[]⟩, 0⟩
def kRq : Kd Rq where
  sz := 42
  E := [56]
  K := fun w o cs => ∃ v4 v27, cs = (o.cells v4 v27).toList ∧ LabK w o.ob.labels v4 ∧ LabK w o.ob.select v27
  M := fun w base ok o cs => ∃ v4 v27, cs = (o.cells v4 v27).toList ∧ kL.R 56 w base (fun k => ok k ∧ some k ≠ v27.ownBlock) v4 o.ob.labels ∧ kL.R 56 w base (fun k => ok k ∧ some k ≠ v4.ownBlock) v27 o.ob.select
  K_len := by
    rintro w x cs ⟨v4, v27, rfl, _⟩
    rfl
  K_one := by
    rintro w x cs ⟨v4, v27, rfl, h4, h27⟩ u hu
    exact (Array.all_eq_true_iff_forall_mem.1 (x.cells_one h4.one h27.one)) u (by simpa using hu)
  K_below := by
    rintro w w1 x cs hb ⟨v4, v27, rfl, h4, h27⟩
    exact ⟨v4, v27, rfl, h4.below hb, h27.below hb⟩
  K_of_M := by
    rintro w base ok x cs ⟨v4, v27, rfl, h4, h27⟩
    exact ⟨v4, v27, rfl, LabK.of_R h4, LabK.of_R h27⟩
  M_mono := by
    rintro w base ok ok' x cs hok ⟨v4, v27, rfl, h4, h27⟩
    exact ⟨v4, v27, rfl, Kd.R_mono h4 (fun k hk => ⟨hok k hk.1, hk.2⟩), Kd.R_mono h27 (fun k hk => ⟨hok k hk.1, hk.2⟩)⟩
  M_bound := by
    rintro w base ok x cs ⟨v4, v27, rfl, h4, h27⟩
    exact ⟨v4, v27, rfl, Kd.R_mono (Kd.R_bound h4) (fun k hk => ⟨⟨hk.1.1, hk.2⟩, hk.1.2⟩), Kd.R_mono (Kd.R_bound h27) (fun k hk => ⟨⟨hk.1.1, hk.2⟩, hk.1.2⟩)⟩
  M_move := by
    rintro w w1 base ok x cs hm ⟨v4, v27, rfl, h4, h27⟩
    exact ⟨v4, v27, rfl, Kd.R_move h4 (fun k hk => hm k hk.1), Kd.R_move h27 (fun k hk => hm k hk.1)⟩
  M_lower := by
    rintro w base base' ok x cs hb ⟨v4, v27, rfl, h4, h27⟩
    exact ⟨v4, v27, rfl, Kd.R_lower h4 hb, Kd.R_lower h27 hb⟩
theorem infoRq : (Tryd.prog.info? 42).map (fun i => (i.zero, i.size, i.bytes)) = some (some (.agg (Rq.zero.cells (.slice none 0 0) (.slice none 0 0))), 42, 416) := by kernel_rfl
theorem rq_at {w : World} {A : Option Addr} {n : Nat} {l : List Rq} (h : kRq.C w A n l) (i : Nat) (o : Rq) (hi : l[i]? = some o) :
    ∃ ad v4 v27, A = some ad ∧ LabK w o.ob.labels v4 ∧ LabK w o.ob.select v27 ∧ ∀ (j : Nat) (u : Value), (o.cells v4 v27)[j]? = some u → w.cell? ((ad.add (i * 42)).add j) = some u := by
  have hl := (List.getElem?_eq_some_iff.1 hi).1
  obtain ⟨ad, e, hc⟩ := h.2.2 (by have := h.1; omega)
  obtain ⟨c, hs, ⟨v4, v27, rfl, h4, h27⟩, hcell⟩ := hc i o hi
  exact ⟨ad, v4, v27, e, h4, h27, fun j u hu => by rw [add_add]; exact hcell j u (by simpa using hu)⟩
def upd (o : Ob) : Rq := { Rq.zero with verb := 1, ob := { o with cordoned := true }, version := o.version }
def evict (o : Ob) : Rq := { Rq.zero with verb := 6, name := o.name }
end Go.Proofs.YtiaggfjfgoiafaaDoor

/- A step within a loop that appends requests while it reads a list of the call's own. -/
namespace Go.Proofs.YtiaggfjfgoiafaaDoor
open Go.RowKit Go.Proofs.YtiaggfjfgoiafaaDoorW.PrintWords Go.Proofs.YtiaggfjfgoiafaaDoorW.PrintLast
theorem evict_M (o : Ob) (w : World) (base : Nat) : kRq.M w base (fun _ => False) (evict o) ((evict o).cells (.slice none 0 0) (.slice none 0 0)).toList := ⟨_, _, rfl, Kd.R_nil _ _ _ _ _, Kd.R_nil _ _ _ _ _⟩
structure Inn (w7 wq : World) (A6 : Option Addr) (m : Nat) (tv : List Ot) (v : Value) (xs : List Rq) : Prop where
  rq : Kd.S kRq 42 wq w7.heap.size (fun _ => True) v xs
  bl : Below w7.heap.size w7 wq
  vs : kT.C wq A6 m tv
  ap : ∀ ad, A6 = some ad → some ad.block ≠ v.ownBlock ∧ ad.block < wq.heap.size
theorem Inn.below {w7 wq w8 : World} {A6 : Option Addr} {m : Nat} {tv : List Ot} {v : Value} {xs : List Rq} (h : Inn w7 wq A6 m tv v xs) (hb : Below wq.heap.size wq w8) : Inn w7 w8 A6 m tv v xs :=
  ⟨Kd.S_below h.rq hb, belT h.bl hb, Kd.C_below h.vs hb, fun ad e => ⟨(h.ap ad e).1, Nat.lt_of_lt_of_le (h.ap ad e).2 hb.size⟩⟩
theorem Inn.app {w7 wq w8 : World} {A6 : Option Addr} {m : Nat} {tv : List Ot} {v v1 : Value} {xs ys : List Rq} (h : Inn w7 wq A6 m tv v xs) (hR : Kd.S kRq 42 w8 w7.heap.size (fun _ => True) v1 ys) (hB : Below w7.heap.size w7 w8) (hg : wq.grownBy w8 v.ownBlock) (hat : v1.ownBlock = v.ownBlock ∨ ∃ b, v1.ownBlock = some b ∧ wq.heap.size ≤ b) (hsz : wq.heap.size ≤ w8.heap.size) : Inn w7 w8 A6 m tv v1 ys :=
  ⟨hR, hB, kT_move h.vs (fun ad e => hg.block _ (h.ap ad e).2 (h.ap ad e).1), fun ad e => ⟨fun he => by
    rcases hat with h1 | ⟨b, h1, h2⟩
    · exact (h.ap ad e).1 (he.trans h1)
    · rw [h1] at he
      have := (h.ap ad e).2
      have : ad.block = b := Option.some.inj he
      omega, Nat.lt_of_lt_of_le (h.ap ad e).2 hsz⟩⟩
theorem inn_start {w7 w2 w3 w4 : World} {A6 : Option Addr} {m : Nat} {tv : List Ot} {v : Value} {xs : List Rq} (hR : Kd.S kRq 42 w2 w7.heap.size (fun _ => True) v xs) (hB : Below w7.heap.size w7 w2) (h3 : Below w2.heap.size w2 w3) (h4 : Below w3.heap.size w3 w4)
    (hC : kT.C w4 A6 m tv) (ha : ∀ ad, A6 = some ad → w3.heap.size ≤ ad.block ∧ ad.block < w4.heap.size) : Inn w7 w4 A6 m tv v xs :=
  ⟨Kd.S_below hR (belT h3 h4), belT hB (belT h3 h4), hC, fun ad e => ⟨fun he => by
    have h1 := Kd.S_lt hR _ he.symm
    have h2 := h3.size
    have := (ha ad e).1
    omega, (ha ad e).2⟩⟩
end Go.Proofs.YtiaggfjfgoiafaaDoor

/- What a drain asks for: the plain law; steps without code. -/
namespace Go.Proofs.YtiaggfjfgoiafaaDoor
open Go.RowKit Go.Proofs.YtiaggfjfgoiafaaDoorW.PrintWords Go.Proofs.YtiaggfjfgoiafaaDoorW.PrintLast
def victOn (ps : List Ob) (s : ByteArray) : List Ob := victF (vOn ps s) ((vOn ps s).length : Nat)
def askN (ps : List Ob) (o : Ob) : List Rq := if o.draining then (if o.cordoned then [] else [upd o]) ++ (victOn ps o.name).map evict else []
def planF (ns ps : List Ob) : List Rq := (Srt.isort cN ns).flatMap (askN ps)
theorem victOn_len (ps : List Ob) (s : ByteArray) : (victOn ps s).length ≤ ps.length := by
  unfold victOn victF
  rw [List.length_take]
  have h1 : (live (vOn ps s)).length ≤ (vOn ps s).length := List.length_filter_le _ _
  have h2 := vOn_len ps s
  have h3 : (sortV (live (vOn ps s))).length = (live (vOn ps s)).length := Srt.isort_length _
  omega
theorem askN_len (ps : List Ob) (o : Ob) : (askN ps o).length ≤ 1 + ps.length := by
  unfold askN
  have := victOn_len ps o.name
  split
  · split <;> simp <;> omega
  · simp
theorem ask_len (ps : List Ob) (l : List Ob) : (l.flatMap (askN ps)).length ≤ l.length * (1 + ps.length) := by
  induction l with
  | nil => simp
  | cons o l ih =>
    have := askN_len ps o
    rw [List.flatMap_cons, List.length_append, List.length_cons, Nat.succ_mul]
    omega
theorem ask_snoc (ps : List Ob) {l : List Ob} {k : Nat} {o : Ob} (h : l[k]? = some o) : (l.take (k + 1)).flatMap (askN ps) = (l.take k).flatMap (askN ps) ++ askN ps o := by
  rw [List.take_add_one, h, List.flatMap_append]
  simp
theorem vict_read {w : World} {base : Nat} {A : Option Addr} {m c : Nat} {l : List Ob} (h : Kd.S kO 39 w base (fun _ => True) (.slice A m c) l) :
    ∃ tv : List Ot, tv.map (·.1) = l ∧ kT.C w A m tv ∧ ∀ ad, A = some ad → base ≤ ad.block ∧ ad.block < w.heap.size := by
  obtain ⟨h1, _, h3⟩ := Kd.S_reads' h
  obtain ⟨tv, e, hC, _⟩ := T_of_kO h3
  refine ⟨tv, e, by rw [h1]; exact hC, fun ad e => ?_⟩
  subst e
  exact ⟨Kd.S_base h _ rfl, Kd.S_lt h _ rfl⟩
structure Mid (w w7 : World) (fc : Array Value) (An Ap A1 : Option Addr) (np : Nat) (ss qs : List Ot) : Prop where
  fl : w7.heap[w.heap.size]? = some (.cells fc 24 (0, 0))
  ns : kT.C w7 A1 ss.length ss
  nl : LabT w7 ss
  ps : kT.C w7 Ap np qs
  pl : LabT w7 qs
  bl : Below w.heap.size w w7
theorem Mid.below {w w7 w8 : World} {fc : Array Value} {An Ap A1 : Option Addr} {np : Nat} {ss qs : List Ot} (h : Mid w w7 fc An Ap A1 np ss qs) (hb : Below w7.heap.size w7 w8) : Mid w w8 fc An Ap A1 np ss qs :=
  ⟨blkB hb h.fl, Kd.C_below h.ns hb, h.nl.below hb, Kd.C_below h.ps hb, h.pl.below hb, belT h.bl hb⟩
theorem mid_of {w w1 w7 : World} {fc : Array Value} {An Ap A1 : Option Addr} {np n c1 : Nat} {ts ss qs : List Ot} (hf : (w.alloc (Obj.cells fc 24)).heap[w.heap.size]? = some (.cells fc 24 (0, 0)))
    (hb0 : Below w.heap.size w (w.alloc (Obj.cells fc 24))) (hb1 : Below (w.alloc (Obj.cells fc 24)).heap.size (w.alloc (Obj.cells fc 24)) w1)
    (hb7 : Below (w.alloc (Obj.cells fc 24)).heap.size w1 w7) (hR : kT.R 39 w7 (w.alloc (Obj.cells fc 24)).heap.size (fun _ => True) (.slice A1 n c1) ss)
    (hl : LabT w ts) (hm : ∀ t, t ∈ ss → t ∈ ts) (hp : kT.C w Ap np qs) (hq : LabT w qs) : Mid w w7 fc An Ap A1 np ss qs := by
  have hb : Below (w.alloc (Obj.cells fc 24)).heap.size (w.alloc (Obj.cells fc 24)) w7 := hb1.trans hb7
  have hw : Below w.heap.size w w7 := belT hb0 hb
  obtain ⟨h1, _, h3⟩ := Kd.R_reads' hR
  exact ⟨blkB hb hf, h3, fun t ht => (hl.below hw) t (hm t ht), Kd.C_below hp hw, hq.below hw, hw⟩
def cord (o : Ob) : Ob := { o with cordoned := true }
theorem cells_cord (o : Ob) (v4 v27 : Value) : (o.cells v4 v27).setIfInBounds 7 (.bool true) = (cord o).cells v4 v27 := rfl
theorem vict_at {w : World} {base n c5 : Nat} {A5 : Option Addr} {nm : ByteArray} {ps : List Ob} {qs : List Ot} (hq : qs.map (·.1) = ps) (hR : kT.R 39 w base (fun _ => True) (.slice A5 n c5) (onF nm qs)) (hl : LabT w qs) (hf : ∀ o ∈ ps, ObFits o) (hn : qs.length ≤ 10000) :
    Calls Tryd.prog 34 #[.slice A5 n c5, .int .i64 n] w fun e w' => ∃ (A' : Option Addr) (m : Nat) (tv : List Ot), e = .returned (.slice A' m m) ∧ Hid (tv.map (·.1) = victOn ps nm ∧ kT.C w' A' m tv ∧ (∀ ad, A' = some ad → w.heap.size ≤ ad.block ∧ ad.block < w'.heap.size) ∧ Below w.heap.size w w') := by
  have hm := onF_map nm qs
  rw [hq] at hm
  obtain ⟨h1, _, h3⟩ := Kd.R_reads' hR
  have hC := kO_of_T h3 (fun t ht => hl t (List.mem_filter.1 ht).1)
  rw [hm] at hC
  have hlen : (vOn ps nm).length = n := by rw [← hm, List.length_map, h1]
  have hle : (vOn ps nm).length ≤ 10000 := by
    have := vOn_len ps nm
    rw [← hq, List.length_map] at this
    rw [← hq]
    omega
  have hv := victims_calls A5 c5 (vOn ps nm) ((vOn ps nm).length : Nat) w (by rw [hlen, h1]; exact hC) (by omega) (fun o ho => hf o (List.mem_filter.1 ho).1)
  rw [hlen] at hv
  refine hv.mono ?_
  rintro e w' ⟨A', c', rfl, hS, hb⟩
  obtain ⟨tv, e1, e2, e3⟩ := vict_read hS
  refine ⟨A', _, tv, rfl, Lib.hid ⟨?_, e2, e3, hb⟩⟩
  rw [e1]
  unfold victOn
  rw [hlen]
theorem vict_len {tv qs : List Ot} {ps : List Ob} {nm : ByteArray} (h : tv.map (·.1) = victOn ps nm) (hq : qs.map (·.1) = ps) (hn : qs.length ≤ 10000) : tv.length ≤ 10000 := by
  have h1 := congrArg List.length h
  rw [List.length_map] at h1
  have h2 := victOn_len ps nm
  have h3 : ps.length = qs.length := by rw [← hq, List.length_map]
  omega
end Go.Proofs.YtiaggfjfgoiafaaDoor

/- The victims in their order, plainly. -/
namespace Go.Proofs.YtiaggfjfgoiafaaDoor
open Go.RowKit Go.Proofs.YtiaggfjfgoiafaaDoorW.PrintWords Go.Proofs.YtiaggfjfgoiafaaDoorW.PrintLast
def cO (a b : Ob) : Int := cV a.pk b.pk
theorem sortV_length (l : List Ob) : (sortV l).length = l.length := Srt.isort_length l
theorem mem_live (l : List Ob) (o : Ob) : o ∈ live l ↔ o ∈ l ∧ o.ending = false := by simp [live]
theorem live_length (l : List Ob) : (live l).length ≤ l.length := List.length_filter_le _ _
theorem victF_all (l : List Ob) : victF l (l.length : Int) = sortV (live l) := by
  unfold victF headN
  rw [List.take_of_length_le]
  rw [sortV_length]
  have := live_length l
  omega
end Go.Proofs.YtiaggfjfgoiafaaDoor

/- What a drain comes to, plainly: each node and each pod is asked once; where that is done nothing more is asked for. -/
namespace Go.Proofs.YtiaggfjfgoiafaaDoor
open Go.RowKit Go.Proofs.YtiaggfjfgoiafaaDoorW.PrintWords Go.Proofs.YtiaggfjfgoiafaaDoorW.PrintLast
theorem ins_perm {α : Type} (c : α → α → Int) (x : α) : ∀ l : List α, (Srt.ins c x l).Perm (x :: l)
  | [] => List.Perm.refl _
  | y :: l => by
    unfold Srt.ins
    split
    · exact List.Perm.refl _
    · exact ((ins_perm c x l).cons y).trans (List.Perm.swap x y l)
theorem isort_perm {α : Type} (c : α → α → Int) (l : List α) : (Srt.isort c l).Perm l := by
  have : ∀ (l acc : List α), (l.foldl (fun acc x => Srt.ins c x acc) acc).Perm (acc ++ l) := by
    intro l
    induction l with
    | nil => intro acc; simp
    | cons x l ih =>
      intro acc
      rw [List.foldl_cons]
      refine (ih _).trans ?_
      refine ((ins_perm c x acc).append_right l).trans ?_
      exact (List.perm_middle (l₁ := acc) (l₂ := l) (a := x)).symm
  exact this l []
def Names (l : List Ob) : Prop := l.Pairwise fun o p => o.name ≠ p.name
theorem Names.perm {l m : List Ob} (h : Names l) (p : l.Perm m) : Names m := p.pairwise h (fun {_ _} e => Ne.symm e)
theorem Names.inj {l : List Ob} (h : Names l) {o p : Ob} (ho : o ∈ l) (hp : p ∈ l) (e : o.name = p.name) : o = p := by
  obtain ⟨i, hi, rfl⟩ := List.mem_iff_getElem.1 ho
  obtain ⟨j, hj, rfl⟩ := List.mem_iff_getElem.1 hp
  have h0 := List.pairwise_iff_getElem.1 h
  rcases Nat.lt_trichotomy i j with h1 | h1 | h1
  · exact absurd e (h0 i j hi hj h1)
  · subst h1; rfl
  · exact absurd e.symm (h0 j i hj hi h1)
theorem victOn_all (ps : List Ob) (s : ByteArray) : (victOn ps s).Perm (live (vOn ps s)) := by
  have e : victOn ps s = sortV (live (vOn ps s)) := victF_all (vOn ps s)
  rw [e]
  exact isort_perm _ _
theorem mem_vOn {ps : List Ob} {s : ByteArray} {p : Ob} : p ∈ vOn ps s ↔ p ∈ ps ∧ p.node = s := by simp [vOn]
theorem mem_victOn {ps : List Ob} {s : ByteArray} {p : Ob} : p ∈ victOn ps s ↔ p ∈ ps ∧ p.node = s ∧ p.ending = false := by
  rw [(victOn_all ps s).mem_iff, mem_live, mem_vOn, and_assoc]
theorem mem_plan {ns ps : List Ob} {r : Rq} : r ∈ planF ns ps ↔ ∃ o ∈ ns, o.draining = true ∧ ((o.cordoned = false ∧ r = upd o) ∨ ∃ p ∈ ps, p.node = o.name ∧ p.ending = false ∧ r = evict p) := by
  unfold planF
  rw [List.mem_flatMap]
  constructor
  · rintro ⟨o, ho, hr⟩
    rw [Srt.mem_isort] at ho
    unfold askN at hr
    cases hd : o.draining
    · rw [hd] at hr; cases hr
    · rw [hd, if_pos rfl] at hr
      refine ⟨o, ho, hd, ?_⟩
      rcases List.mem_append.1 hr with hr | hr
      · cases hc : o.cordoned
        · rw [hc] at hr; exact .inl ⟨rfl, by simpa using hr⟩
        · rw [hc] at hr; cases hr
      · obtain ⟨p, hp, rfl⟩ := List.mem_map.1 hr
        obtain ⟨h1, h2, h3⟩ := mem_victOn.1 hp
        exact .inr ⟨p, h1, h2, h3, rfl⟩
  · rintro ⟨o, ho, hd, h⟩
    refine ⟨o, (Srt.mem_isort o ns).2 ho, ?_⟩
    unfold askN
    rw [hd, if_pos rfl]
    rcases h with ⟨hc, rfl⟩ | ⟨p, hp, hn, he, rfl⟩
    · rw [hc]; exact List.mem_append_left _ (by simp)
    · exact List.mem_append_right _ (List.mem_map_of_mem (mem_victOn.2 ⟨hp, hn, he⟩))
def Rq.same (r q : Rq) : Prop := r.verb = q.verb ∧ r.ob.name = q.ob.name ∧ r.name = q.name
theorem ask_apart {ps : List Ob} (hp : Names ps) (o : Ob) : (askN ps o).Pairwise fun r q => ¬ r.same q := by
  unfold askN
  split
  · refine List.pairwise_append.2 ⟨by split <;> simp, ?_, fun r hr q hq h => ?_⟩
    · refine List.pairwise_map.2 ?_
      have h1 : Names (live (vOn ps o.name)) := List.Pairwise.filter _ (List.Pairwise.filter _ hp)
      exact (h1.perm (victOn_all ps o.name).symm).imp fun {a b} hab h => hab h.2.2
    · split at hr
      · cases hr
      · rw [List.mem_singleton.1 hr] at h
        obtain ⟨p, _, rfl⟩ := List.mem_map.1 hq
        exact absurd (show (_ : Int) = _ from h.1) (by simp [upd, evict, Rq.zero])
  · exact List.Pairwise.nil
theorem plan_apart {ns ps : List Ob} (hn : Names ns) (hp : Names ps) : (planF ns ps).Pairwise fun r q => ¬ r.same q := by
  unfold planF
  refine List.pairwise_flatMap.2 ⟨fun o _ => ask_apart hp o, ?_⟩
  have h1 : Names (Srt.isort cN ns) := hn.perm (isort_perm cN ns).symm
  refine List.Pairwise.imp_of_mem ?_ h1
  intro a b ha hb hab r hr q hq h
  have key : ∀ (o : Ob) (r : Rq), r ∈ askN ps o → (r = upd o) ∨ ∃ p ∈ ps, p.node = o.name ∧ r = evict p := fun o r hr => by
    unfold askN at hr
    split at hr
    · rcases List.mem_append.1 hr with hr | hr
      · split at hr
        · cases hr
        · exact .inl (List.mem_singleton.1 hr)
      · obtain ⟨p, hp', rfl⟩ := List.mem_map.1 hr
        obtain ⟨h1, h2, _⟩ := mem_victOn.1 hp'
        exact .inr ⟨p, h1, h2, rfl⟩
    · cases hr
  rcases key a r hr with rfl | ⟨p, hp1, hp2, rfl⟩ <;> rcases key b q hq with rfl | ⟨p', hq1, hq2, rfl⟩
  · exact hab h.2.1
  · exact absurd (show (_ : Int) = _ from h.1) (by simp [upd, evict, Rq.zero])
  · exact absurd (show (_ : Int) = _ from h.1) (by simp [upd, evict, Rq.zero])
  · have := hp.inj hp1 hq1 h.2.2
    subst this
    exact hab (hp2.symm.trans hq2)
def ndS (P : List Rq) (o : Ob) : Ob := if P.any (fun r => r.verb == 1 && decide (r.ob.name = o.name)) then cord o else o
def endO (p : Ob) : Ob := { p with ending := true }
def pdS (P : List Rq) (p : Ob) : Ob := if P.any (fun r => r.verb == 6 && decide (r.name = p.name)) then endO p else p
theorem ndS_name (P : List Rq) (o : Ob) : (ndS P o).name = o.name := by unfold ndS; split <;> rfl
theorem pdS_name (P : List Rq) (o : Ob) : (pdS P o).name = o.name := by unfold pdS; split <;> rfl
theorem pdS_node (P : List Rq) (o : Ob) : (pdS P o).node = o.node := by unfold pdS; split <;> rfl
theorem ndS_drain (P : List Rq) (o : Ob) : (ndS P o).draining = o.draining := by unfold ndS; split <;> rfl
theorem ndS_nil (ns : List Ob) : ns.map (ndS []) = ns := by rw [show ndS [] = id from funext fun o => rfl]; exact List.map_id ns
theorem pdS_nil (ns : List Ob) : ns.map (pdS []) = ns := by rw [show pdS [] = id from funext fun o => rfl]; exact List.map_id ns
def findN : List Ob → ByteArray → Nat → Int
  | [], _, _ => -1
  | o :: l, s, k => if o.name = s then (k : Int) else findN l s (k + 1)
def findI (l : List Ob) (s : ByteArray) : Int := findN l s 0
theorem findN_hit {l : List Ob} {s : ByteArray} : ∀ {k i : Nat} {o : Ob}, l[i]? = some o → o.name = s → (∀ j p, j < i → l[j]? = some p → p.name ≠ s) → findN l s k = ((k + i : Nat) : Int) := by
  induction l with
  | nil => intro k i o h; simp at h
  | cons a l ih =>
    intro k i o h hn hj
    unfold findN
    cases i with
    | zero =>
      obtain rfl : a = o := by simpa using h
      rw [if_pos hn]; rfl
    | succ i =>
      rw [if_neg (hj 0 a (by omega) rfl), ih (k := k + 1) (by simpa using h) hn (fun j p hlt hp => hj (j + 1) p (by omega) (by simpa using hp))]
      omega
theorem findI_at {l : List Ob} (h : Names l) {i : Nat} {o : Ob} (hi : l[i]? = some o) : findI l o.name = (i : Int) := by
  have h0 := List.pairwise_iff_getElem.1 h
  obtain ⟨hl, he⟩ := List.getElem?_eq_some_iff.1 hi
  have := findN_hit (k := 0) hi rfl (fun j p hj hp => by
    obtain ⟨hl', he'⟩ := List.getElem?_eq_some_iff.1 hp
    rw [← he', ← he]
    exact h0 j i hl' hl hj)
  rw [findI, this]
  omega
theorem names_of_find {l : List Ob} (h : ∀ (i : Nat) (o : Ob), l[i]? = some o → findI l o.name = (i : Int)) : Names l := by
  refine List.pairwise_iff_getElem.2 (fun i j hi hj hij e => ?_)
  have h1 := h i _ (List.getElem?_eq_getElem hi)
  have h2 := h j _ (List.getElem?_eq_getElem hj)
  rw [e] at h1
  omega
theorem findI_map {l : List Ob} {f : Ob → Ob} (hf : ∀ o, (f o).name = o.name) (s : ByteArray) : findI (l.map f) s = findI l s := by
  have : ∀ (l : List Ob) (k : Nat), findN (l.map f) s k = findN l s k := by
    intro l
    induction l with
    | nil => intro k; rfl
    | cons a l ih => intro k; simp only [List.map_cons, findN, hf, ih]
  exact this l 0
theorem kinds {ns ps : List Ob} {i : Nat} {q : Rq} (hq : q ∈ (planF ns ps).take i) : (∃ o ∈ ns, q = upd o) ∨ ∃ p ∈ ps, q = evict p := by
  obtain ⟨o, ho, _, h⟩ := mem_plan.1 (List.mem_of_mem_take hq)
  rcases h with ⟨_, rfl⟩ | ⟨p, hp, _, _, rfl⟩
  · exact .inl ⟨o, ho, rfl⟩
  · exact .inr ⟨p, hp, rfl⟩
section
variable {ns ps : List Ob} (hn : Names ns) (hp : Names ps) {i : Nat} {r : Rq} (hr : (planF ns ps)[i]? = some r)
include hn hp hr
theorem before {q : Rq} (hq : q ∈ (planF ns ps).take i) : ¬ q.same r := by
  obtain ⟨j, hj⟩ := List.mem_iff_getElem?.1 hq
  rw [List.getElem?_take] at hj
  split at hj
  · rename_i hlt
    obtain ⟨h1, e1⟩ := List.getElem?_eq_some_iff.1 hj
    obtain ⟨h2, e2⟩ := List.getElem?_eq_some_iff.1 hr
    rw [← e1, ← e2]
    exact List.pairwise_iff_getElem.1 (plan_apart hn hp) j i h1 h2 hlt
  · cases hj
theorem upd_free {o : Ob} (e : r = upd o) : ((planF ns ps).take i).any (fun q => q.verb == 1 && decide (q.ob.name = o.name)) = false := by
  rw [List.any_eq_false]
  intro q hq h
  simp only [Bool.and_eq_true, beq_iff_eq, decide_eq_true_eq] at h
  rcases kinds hq with ⟨o', _, rfl⟩ | ⟨p, _, rfl⟩
  · exact before hn hp hr hq (by rw [e]; exact ⟨rfl, h.2, rfl⟩)
  · exact absurd h.1 (by simp [evict, Rq.zero])
theorem evict_free {p : Ob} (e : r = evict p) : ((planF ns ps).take i).any (fun q => q.verb == 6 && decide (q.name = p.name)) = false := by
  rw [List.any_eq_false]
  intro q hq h
  simp only [Bool.and_eq_true, beq_iff_eq, decide_eq_true_eq] at h
  rcases kinds hq with ⟨o', _, rfl⟩ | ⟨p', _, rfl⟩
  · exact absurd h.1 (by simp [upd, Rq.zero])
  · exact before hn hp hr hq (by rw [e]; exact ⟨rfl, rfl, h.2⟩)
end
theorem any_snoc (P : List Rq) (r : Rq) (f : Rq → Bool) : (P ++ [r]).any f = (P.any f || f r) := by simp
theorem map_set_of {f g : Ob → Ob} {l : List Ob} {k : Nat} {o : Ob} (hk : l[k]? = some o) (h : ∀ j p, l[j]? = some p → j ≠ k → g p = f p) : l.map g = (l.map f).set k (g o) := by
  apply List.ext_getElem?
  intro j
  rw [List.getElem?_set, List.getElem?_map]
  by_cases e : k = j
  · subst e
    have := (List.getElem?_eq_some_iff.1 hk).1
    rw [if_pos rfl, if_pos (by simpa using this), hk]
    rfl
  · rw [if_neg e, List.getElem?_map]
    cases hj : l[j]? with
    | none => rfl
    | some p => simp only [Option.map_some]; rw [h j p hj (Ne.symm e)]
section
variable {ns ps : List Ob} (hn : Names ns) (hp : Names ps) {i : Nat}
include hn hp
theorem step_upd {o : Ob} (hr : (planF ns ps)[i]? = some (upd o)) {k : Nat} (hk : ns[k]? = some o) :
    (ns.map (ndS ((planF ns ps).take i)))[k]? = some o ∧ ns.map (ndS ((planF ns ps).take (i + 1))) = (ns.map (ndS ((planF ns ps).take i))).set k (cord o) ∧ ps.map (pdS ((planF ns ps).take (i + 1))) = ps.map (pdS ((planF ns ps).take i)) := by
  have e : (planF ns ps).take (i + 1) = (planF ns ps).take i ++ [upd o] := by rw [List.take_add_one, hr]; rfl
  have hf := upd_free hn hp hr (o := o) rfl
  refine ⟨?_, ?_, ?_⟩
  · rw [List.getElem?_map, hk, Option.map_some]
    unfold ndS
    rw [hf]; rfl
  · have h1 : ndS ((planF ns ps).take (i + 1)) o = cord o := by
      unfold ndS
      rw [e, any_snoc, if_pos (by simp [upd, Rq.zero])]
    rw [← h1]
    refine map_set_of hk (fun j p hj hne => ?_)
    unfold ndS
    rw [e, any_snoc]
    have hx : decide ((upd o).ob.name = p.name) = false := decide_eq_false (fun eq => hne (by
      obtain ⟨a1, b1⟩ := List.getElem?_eq_some_iff.1 hj
      obtain ⟨a2, b2⟩ := List.getElem?_eq_some_iff.1 hk
      have h0 := List.pairwise_iff_getElem.1 hn
      rcases Nat.lt_trichotomy j k with h | h | h
      · exact absurd (by rw [b1, b2]; exact eq.symm) (h0 j k a1 a2 h)
      · exact h
      · exact absurd (by rw [b1, b2]; exact eq) (h0 k j a2 a1 h)))
    rw [hx, Bool.and_false, Bool.or_false]
  · refine List.map_congr_left (fun p _ => ?_)
    unfold pdS
    rw [e, any_snoc]
    have hx : ((upd o).verb == 6) = false := by simp [upd, Rq.zero]
    rw [hx, Bool.false_and, Bool.or_false]
theorem step_evict {p : Ob} (hr : (planF ns ps)[i]? = some (evict p)) {k : Nat} (hk : ps[k]? = some p) :
    (ps.map (pdS ((planF ns ps).take i)))[k]? = some p ∧ ps.map (pdS ((planF ns ps).take (i + 1))) = (ps.map (pdS ((planF ns ps).take i))).set k (endO p) ∧ ns.map (ndS ((planF ns ps).take (i + 1))) = ns.map (ndS ((planF ns ps).take i)) := by
  have e : (planF ns ps).take (i + 1) = (planF ns ps).take i ++ [evict p] := by rw [List.take_add_one, hr]; rfl
  have hf := evict_free hn hp hr (p := p) rfl
  refine ⟨?_, ?_, ?_⟩
  · rw [List.getElem?_map, hk, Option.map_some]
    unfold pdS
    rw [hf]; rfl
  · have h1 : pdS ((planF ns ps).take (i + 1)) p = endO p := by
      unfold pdS
      rw [e, any_snoc, if_pos (by simp [evict, Rq.zero])]
    rw [← h1]
    refine map_set_of hk (fun j q hj hne => ?_)
    unfold pdS
    rw [e, any_snoc]
    have hx : decide ((evict p).name = q.name) = false := decide_eq_false (fun eq => hne (by
      obtain ⟨a1, b1⟩ := List.getElem?_eq_some_iff.1 hj
      obtain ⟨a2, b2⟩ := List.getElem?_eq_some_iff.1 hk
      have h0 := List.pairwise_iff_getElem.1 hp
      rcases Nat.lt_trichotomy j k with h | h | h
      · exact absurd (by rw [b1, b2]; exact eq.symm) (h0 j k a1 a2 h)
      · exact h
      · exact absurd (by rw [b1, b2]; exact eq) (h0 k j a2 a1 h)))
    rw [hx, Bool.and_false, Bool.or_false]
  · refine List.map_congr_left (fun o _ => ?_)
    unfold ndS
    rw [e, any_snoc]
    have hx : ((evict p).verb == 1) = false := by simp [evict, Rq.zero]
    rw [hx, Bool.false_and, Bool.or_false]
end
theorem end_node {ns ps : List Ob} {o : Ob} (ho : o ∈ ns) (hd : o.draining = true) : (ndS (planF ns ps) o).cordoned = true := by
  unfold ndS
  cases hc : o.cordoned
  · have : (planF ns ps).any (fun q => q.verb == 1 && decide (q.ob.name = o.name)) = true := List.any_eq_true.2 ⟨upd o, mem_plan.2 ⟨o, ho, hd, .inl ⟨hc, rfl⟩⟩, by simp [upd, Rq.zero]⟩
    rw [this]; rfl
  · split
    · rfl
    · exact hc
theorem end_pod {ns ps : List Ob} {o p : Ob} (ho : o ∈ ns) (hd : o.draining = true) (hp : p ∈ ps) (hn : p.node = o.name) : (pdS (planF ns ps) p).ending = true := by
  unfold pdS
  cases he : p.ending
  · have : (planF ns ps).any (fun q => q.verb == 6 && decide (q.name = p.name)) = true := List.any_eq_true.2 ⟨evict p, mem_plan.2 ⟨o, ho, hd, .inr ⟨p, hp, hn, he, rfl⟩⟩, by simp [evict, Rq.zero]⟩
    rw [this]; rfl
  · split
    · rfl
    · exact he
theorem end_plan (ns ps : List Ob) : planF (ns.map (ndS (planF ns ps))) (ps.map (pdS (planF ns ps))) = [] := by
  rw [List.eq_nil_iff_forall_not_mem]
  intro r hr
  obtain ⟨o', ho', hd, h⟩ := mem_plan.1 hr
  obtain ⟨o, ho, rfl⟩ := List.mem_map.1 ho'
  rw [ndS_drain] at hd
  rcases h with ⟨hc, _⟩ | ⟨p', hp', hn, he, _⟩
  · rw [end_node ho hd] at hc; cases hc
  · obtain ⟨p, hp, rfl⟩ := List.mem_map.1 hp'
    rw [pdS_node, ndS_name] at hn
    rw [end_pod ho hd hp hn] at he
    cases he
theorem end_left {ns ps : List Ob} {o : Ob} (ho : o ∈ ns) (hd : o.draining = true) : vOn ((ps.map (pdS (planF ns ps))).filter (fun p => !p.ending)) (ndS (planF ns ps) o).name = [] := by
  rw [List.eq_nil_iff_forall_not_mem]
  intro q hq
  obtain ⟨hq1, hq2⟩ := mem_vOn.1 hq
  obtain ⟨hq3, hq4⟩ := List.mem_filter.1 hq1
  obtain ⟨p, hp, rfl⟩ := List.mem_map.1 hq3
  rw [pdS_node, ndS_name] at hq2
  rw [end_pod ho hd hp hq2] at hq4
  cases hq4
theorem evict_drains {ns ps : List Ob} (hn : Names ns) {p : Ob} (hp : Names ps) (hpp : p ∈ ps) (hr : evict p ∈ planF ns ps) : ∃ (k : Nat) (o : Ob), ns[k]? = some o ∧ findI ns p.node = (k : Int) ∧ o.draining = true ∧ p.ending = false := by
  obtain ⟨o, ho, hd, h⟩ := mem_plan.1 hr
  rcases h with ⟨_, e⟩ | ⟨p', hp', hn', he, e⟩
  · have := congrArg Rq.verb e
    exact absurd this (by simp [upd, evict, Rq.zero])
  · have e2 : p.name = p'.name := congrArg Rq.name e
    have := hp.inj hpp hp' e2
    subst this
    obtain ⟨k, hk⟩ := List.mem_iff_getElem?.1 ho
    exact ⟨k, o, hk, by rw [hn']; exact findI_at hn hk, hd, he⟩
end Go.Proofs.YtiaggfjfgoiafaaDoor

/- An object that is an argument, opened: the parts that rank.Less looks at. -/
namespace Go.Proofs.YtiaggfjfgoiafaaDoor
open Go.ChangeShapes Go.WideShapes Go.RowKit
theorem okWide_agg {P : Program} {W : World} {r : Reach} {b0 : Nat} {t : TypeId} {fs : Array Field} {v : Value} (ht : P.underlying t = some (.struct fs)) (h : Value.okWide P W r b0 t v) : ∃ cs, v = .agg cs ∧ cs.size = P.cellsOf t := by
  unfold Value.okWide at h
  rw [ht] at h
  obtain ⟨cs, h1, h2, _⟩ := h
  exact ⟨cs, h1, h2⟩
end Go.Proofs.YtiaggfjfgoiafaaDoor

/- Objects, and lists of objects, that are arguments: opened. -/
namespace Go.Proofs.YtiaggfjfgoiafaaDoor
set_option maxRecDepth 100000
open Go.ChangeShapes Go.WideShapes Go.RowKit Go.Proofs.YtiaggfjfgoiafaaDoorW.PrintWords
theorem weights_mem_all {H : Type} {P : Program} {e : TypeId} : ∀ {ds : List (DataW H)} {j : Nat} {d : DataW H}, ds[j]? = some d → ∀ n ∈ d.weights P e, n ∈ DataW.weightsAll P e ds
  | [], _, _, h, _, _ => by simp at h
  | d0 :: ds, 0, d, h, n, hn => by
    obtain rfl : d0 = d := by simpa using h
    simp only [DataW.weightsAll, List.mem_append]
    exact .inl hn
  | d0 :: ds, j + 1, d, h, n, hn => by
    simp only [DataW.weightsAll, List.mem_append]
    exact .inr (weights_mem_all (by simpa using h) n hn)
section
variable {H : Type} {enc : TypeId × Value → H} {W : World} {base : Nat} {spare : Nat → Bool} {held : Bool}
set_option maxRecDepth 100000 in
theorem open_labels {fuel : Nat} {cs : List Value} {x : DataW H × List MemPlace} (hw : ∀ n ∈ x.1.weights Tryd.prog 34, n ≤ reachBytes) (h : DataW.trod enc Tryd.prog W base spare held fuel 34 cs = some x) :
    ∃ v l, cs = [v] ∧ LabK W l v ∧ l.length ≤ 4398046510976 := by
  rcases Deep.open_slice_pairs Tryd.underlying34 Tryd.underlying56 (by kernel_rfl) rfl rfl (by kernel_rfl) (by kernel_rfl) h with ⟨hcs, hx⟩ | ⟨a, len, cap, m, n, V0, V1, D0, D1, P0, P1, hcs, hb, hl, hm, hmm, hx, hc⟩
  · subst hcs
    exact ⟨_, [], rfl, ⟨none, 0, rfl, Nat.le_refl _, Kd.C_nil _ _⟩, by simp⟩
  · subst hcs
    subst hx
    have hlm : len ≤ m := by rw [hmm]; split <;> omega
    have z : (len + (m - len)) * Tryd.prog.bytesOf 56 ≤ reachBytes := hw _ (by
      unfold DataW.weights
      rw [Tryd.underlying34]
      simp)
    rw [show Tryd.prog.bytesOf 56 = 32 by kernel_rfl] at z
    have each : ∀ i, i < len → ∃ p : Lab, W.cell? (a.add (i * 2)) = some (.string p.f0) ∧ W.cell? (a.add (i * 2 + 1)) = some (.string p.f1) := by
      intro i hi
      obtain ⟨h1, h2, h3, h4⟩ := hc i (by omega)
      obtain ⟨a0, e0, _, _⟩ := DataW.trod_string Tryd.underlying9 h3
      obtain ⟨a1, e1, _, _⟩ := DataW.trod_string Tryd.underlying9 h4
      simp at e0 e1
      exact ⟨⟨a0, a1⟩, by rw [h1, e0], by rw [h2, e1]⟩
    haveI : Inhabited Lab := ⟨⟨ByteArray.empty, ByteArray.empty⟩⟩
    obtain ⟨f, hf'⟩ := Deep.choose_lt each
    have hlen : ((List.range len).map f).length = len := by simp
    unfold reachBytes at z
    refine ⟨_, (List.range len).map f, rfl, ⟨some a, cap, by rw [hlen], by rw [hlen]; exact hl, ?_⟩, by rw [hlen]; omega⟩
    rw [hlen]
    refine ⟨hlen, by omega, fun _ => ⟨a, rfl, fun j p hj => ?_⟩⟩
    have hjl : j < len := by have := (List.getElem?_eq_some_iff.1 hj).1; rw [hlen] at this; exact this
    have hp : f j = p := by simpa [List.getElem?_range hjl] using hj
    subst hp
    refine ⟨[.string (f j).f0, .string (f j).f1], rfl, QLb.k56_mk W (f j), fun i u hu => ?_⟩
    match i with
    | 0 => obtain rfl : Value.string (f j).f0 = u := by simpa using hu
           exact (hf' j hjl).1
    | 1 => obtain rfl : Value.string (f j).f1 = u := by simpa using hu
           exact (hf' j hjl).2
    | i + 2 => simp at hu
def Ob.ints (o : Ob) : List Int := [o.kind, o.version, o.born, o.roomC, o.roomM, o.beat, o.phase, o.needC, o.needM, o.rise, o.fall, o.count, o.surge, o.slack, o.least, o.term, o.till]
def ObInts (o : Ob) : Prop := ∀ z ∈ o.ints, -9223372036854775808 ≤ z ∧ z ≤ 9223372036854775807
set_option maxRecDepth 100000 in
set_option maxHeartbeats 1000000 in
theorem open_obj {fuel : Nat} {cs : List Value} {x : DataW H × List MemPlace} (hw : ∀ n ∈ x.1.weights Tryd.prog 39, n ≤ reachBytes) (h : DataW.trod enc Tryd.prog W base spare held fuel 39 cs = some x) :
    ∃ o v4 v27, cs = (o.cells v4 v27).toList ∧ LabK W o.labels v4 ∧ LabK W o.select v27 ∧ ObFits o ∧ ObInts o := by
  have hu := Tryd.underlying39
  obtain ⟨xs, m, _, hx, hlen, hl, hfd⟩ := DataW.trod_struct hu h
  rw [show Tryd.prog.cellsOf 39 = 32 by kernel_rfl] at hlen
  have hwd : ∀ (j : Nat) (t : TypeId) (y : DataW H × List MemPlace), xs[j]? = some y → (Program.underlying Tryd.prog 39).elim none (fun d => match d with | .struct fs => (fs.toList.map (·.type))[j]? | _ => none) = some t → ∀ n ∈ y.1.weights Tryd.prog t, n ≤ reachBytes := fun j t y hy ht n hn => hw n (by
    rw [hx]
    unfold DataW.weights
    rw [hu] at ht ⊢
    exact DataW.weights_mem_each (j := j) (t := t) (d := y.1) ht (by simp [hy]) n hn)
  rw [hu] at hwd
  have c1 : Tryd.prog.cellsOf 9 = 1 := by kernel_rfl
  have c2 : Tryd.prog.cellsOf 3 = 1 := by kernel_rfl
  have c3 : Tryd.prog.cellsOf 4 = 1 := by kernel_rfl
  have c4 : Tryd.prog.cellsOf 37 = 1 := by kernel_rfl
  have c5 : Tryd.prog.cellsOf 34 = 1 := by kernel_rfl
  have c6 : Tryd.prog.cellsOf 36 = 2 := by kernel_rfl
  have ex : ∀ j, j < 30 → ∃ y, xs[j]? = some y := fun j hj => ⟨_, List.getElem?_eq_getElem (by rw [hl]; exact hj)⟩
  have f0 : DataW.trod enc Tryd.prog W base spare held m 3 ((cs.drop 0).take (Tryd.prog.cellsOf 3)) = xs[0]? := hfd 0 _ rfl
  rw [c2] at f0
  obtain ⟨y0, e0⟩ := ex 0 (by omega)
  rw [e0] at f0
  clear e0
  have f1 : DataW.trod enc Tryd.prog W base spare held m 9 ((cs.drop 1).take (Tryd.prog.cellsOf 9)) = xs[1]? := hfd 1 _ rfl
  rw [c1] at f1
  obtain ⟨y1, e1⟩ := ex 1 (by omega)
  rw [e1] at f1
  have w1 := hwd 1 9 y1 e1 rfl
  clear e1
  have f2 : DataW.trod enc Tryd.prog W base spare held m 3 ((cs.drop 2).take (Tryd.prog.cellsOf 3)) = xs[2]? := hfd 2 _ rfl
  rw [c2] at f2
  obtain ⟨y2, e2⟩ := ex 2 (by omega)
  rw [e2] at f2
  clear e2
  have f3 : DataW.trod enc Tryd.prog W base spare held m 3 ((cs.drop 3).take (Tryd.prog.cellsOf 3)) = xs[3]? := hfd 3 _ rfl
  rw [c2] at f3
  obtain ⟨y3, e3⟩ := ex 3 (by omega)
  rw [e3] at f3
  clear e3
  have f4 : DataW.trod enc Tryd.prog W base spare held m 34 ((cs.drop 4).take (Tryd.prog.cellsOf 34)) = xs[4]? := hfd 4 _ rfl
  rw [c5] at f4
  obtain ⟨y4, e4⟩ := ex 4 (by omega)
  rw [e4] at f4
  have w4 := hwd 4 34 y4 e4 rfl
  clear e4
  have f5 : DataW.trod enc Tryd.prog W base spare held m 36 ((cs.drop 5).take (Tryd.prog.cellsOf 36)) = xs[5]? := hfd 5 _ rfl
  rw [c6] at f5
  obtain ⟨y5, e5⟩ := ex 5 (by omega)
  rw [e5] at f5
  clear e5
  have f6 : DataW.trod enc Tryd.prog W base spare held m 4 ((cs.drop 7).take (Tryd.prog.cellsOf 4)) = xs[6]? := hfd 6 _ rfl
  rw [c3] at f6
  obtain ⟨y6, e6⟩ := ex 6 (by omega)
  rw [e6] at f6
  clear e6
  have f7 : DataW.trod enc Tryd.prog W base spare held m 4 ((cs.drop 8).take (Tryd.prog.cellsOf 4)) = xs[7]? := hfd 7 _ rfl
  rw [c3] at f7
  obtain ⟨y7, e7⟩ := ex 7 (by omega)
  rw [e7] at f7
  clear e7
  have f8 : DataW.trod enc Tryd.prog W base spare held m 4 ((cs.drop 9).take (Tryd.prog.cellsOf 4)) = xs[8]? := hfd 8 _ rfl
  rw [c3] at f8
  obtain ⟨y8, e8⟩ := ex 8 (by omega)
  rw [e8] at f8
  clear e8
  have f9 : DataW.trod enc Tryd.prog W base spare held m 3 ((cs.drop 10).take (Tryd.prog.cellsOf 3)) = xs[9]? := hfd 9 _ rfl
  rw [c2] at f9
  obtain ⟨y9, e9⟩ := ex 9 (by omega)
  rw [e9] at f9
  clear e9
  have f10 : DataW.trod enc Tryd.prog W base spare held m 9 ((cs.drop 11).take (Tryd.prog.cellsOf 9)) = xs[10]? := hfd 10 _ rfl
  rw [c1] at f10
  obtain ⟨y10, e10⟩ := ex 10 (by omega)
  rw [e10] at f10
  have w10 := hwd 10 9 y10 e10 rfl
  clear e10
  have f11 : DataW.trod enc Tryd.prog W base spare held m 9 ((cs.drop 12).take (Tryd.prog.cellsOf 9)) = xs[11]? := hfd 11 _ rfl
  rw [c1] at f11
  obtain ⟨y11, e11⟩ := ex 11 (by omega)
  rw [e11] at f11
  have w11 := hwd 11 9 y11 e11 rfl
  clear e11
  have f12 : DataW.trod enc Tryd.prog W base spare held m 9 ((cs.drop 13).take (Tryd.prog.cellsOf 9)) = xs[12]? := hfd 12 _ rfl
  rw [c1] at f12
  obtain ⟨y12, e12⟩ := ex 12 (by omega)
  rw [e12] at f12
  have w12 := hwd 12 9 y12 e12 rfl
  clear e12
  have f13 : DataW.trod enc Tryd.prog W base spare held m 3 ((cs.drop 14).take (Tryd.prog.cellsOf 3)) = xs[13]? := hfd 13 _ rfl
  rw [c2] at f13
  obtain ⟨y13, e13⟩ := ex 13 (by omega)
  rw [e13] at f13
  clear e13
  have f14 : DataW.trod enc Tryd.prog W base spare held m 4 ((cs.drop 15).take (Tryd.prog.cellsOf 4)) = xs[14]? := hfd 14 _ rfl
  rw [c3] at f14
  obtain ⟨y14, e14⟩ := ex 14 (by omega)
  rw [e14] at f14
  clear e14
  have f15 : DataW.trod enc Tryd.prog W base spare held m 4 ((cs.drop 16).take (Tryd.prog.cellsOf 4)) = xs[15]? := hfd 15 _ rfl
  rw [c3] at f15
  obtain ⟨y15, e15⟩ := ex 15 (by omega)
  rw [e15] at f15
  clear e15
  have f16 : DataW.trod enc Tryd.prog W base spare held m 36 ((cs.drop 17).take (Tryd.prog.cellsOf 36)) = xs[16]? := hfd 16 _ rfl
  rw [c6] at f16
  obtain ⟨y16, e16⟩ := ex 16 (by omega)
  rw [e16] at f16
  clear e16
  have f17 : DataW.trod enc Tryd.prog W base spare held m 9 ((cs.drop 19).take (Tryd.prog.cellsOf 9)) = xs[17]? := hfd 17 _ rfl
  rw [c1] at f17
  obtain ⟨y17, e17⟩ := ex 17 (by omega)
  rw [e17] at f17
  have w17 := hwd 17 9 y17 e17 rfl
  clear e17
  have f18 : DataW.trod enc Tryd.prog W base spare held m 3 ((cs.drop 20).take (Tryd.prog.cellsOf 3)) = xs[18]? := hfd 18 _ rfl
  rw [c2] at f18
  obtain ⟨y18, e18⟩ := ex 18 (by omega)
  rw [e18] at f18
  clear e18
  have f19 : DataW.trod enc Tryd.prog W base spare held m 3 ((cs.drop 21).take (Tryd.prog.cellsOf 3)) = xs[19]? := hfd 19 _ rfl
  rw [c2] at f19
  obtain ⟨y19, e19⟩ := ex 19 (by omega)
  rw [e19] at f19
  clear e19
  have f20 : DataW.trod enc Tryd.prog W base spare held m 3 ((cs.drop 22).take (Tryd.prog.cellsOf 3)) = xs[20]? := hfd 20 _ rfl
  rw [c2] at f20
  obtain ⟨y20, e20⟩ := ex 20 (by omega)
  rw [e20] at f20
  clear e20
  have f21 : DataW.trod enc Tryd.prog W base spare held m 3 ((cs.drop 23).take (Tryd.prog.cellsOf 3)) = xs[21]? := hfd 21 _ rfl
  rw [c2] at f21
  obtain ⟨y21, e21⟩ := ex 21 (by omega)
  rw [e21] at f21
  clear e21
  have f22 : DataW.trod enc Tryd.prog W base spare held m 3 ((cs.drop 24).take (Tryd.prog.cellsOf 3)) = xs[22]? := hfd 22 _ rfl
  rw [c2] at f22
  obtain ⟨y22, e22⟩ := ex 22 (by omega)
  rw [e22] at f22
  clear e22
  have f23 : DataW.trod enc Tryd.prog W base spare held m 4 ((cs.drop 25).take (Tryd.prog.cellsOf 4)) = xs[23]? := hfd 23 _ rfl
  rw [c3] at f23
  obtain ⟨y23, e23⟩ := ex 23 (by omega)
  rw [e23] at f23
  clear e23
  have f24 : DataW.trod enc Tryd.prog W base spare held m 37 ((cs.drop 26).take (Tryd.prog.cellsOf 37)) = xs[24]? := hfd 24 _ rfl
  rw [c4] at f24
  obtain ⟨y24, e24⟩ := ex 24 (by omega)
  rw [e24] at f24
  clear e24
  have f25 : DataW.trod enc Tryd.prog W base spare held m 34 ((cs.drop 27).take (Tryd.prog.cellsOf 34)) = xs[25]? := hfd 25 _ rfl
  rw [c5] at f25
  obtain ⟨y25, e25⟩ := ex 25 (by omega)
  rw [e25] at f25
  have w25 := hwd 25 34 y25 e25 rfl
  clear e25
  have f26 : DataW.trod enc Tryd.prog W base spare held m 3 ((cs.drop 28).take (Tryd.prog.cellsOf 3)) = xs[26]? := hfd 26 _ rfl
  rw [c2] at f26
  obtain ⟨y26, e26⟩ := ex 26 (by omega)
  rw [e26] at f26
  clear e26
  have f27 : DataW.trod enc Tryd.prog W base spare held m 9 ((cs.drop 29).take (Tryd.prog.cellsOf 9)) = xs[27]? := hfd 27 _ rfl
  rw [c1] at f27
  obtain ⟨y27, e27⟩ := ex 27 (by omega)
  rw [e27] at f27
  have w27 := hwd 27 9 y27 e27 rfl
  clear e27
  have f28 : DataW.trod enc Tryd.prog W base spare held m 3 ((cs.drop 30).take (Tryd.prog.cellsOf 3)) = xs[28]? := hfd 28 _ rfl
  rw [c2] at f28
  obtain ⟨y28, e28⟩ := ex 28 (by omega)
  rw [e28] at f28
  clear e28
  have f29 : DataW.trod enc Tryd.prog W base spare held m 3 ((cs.drop 31).take (Tryd.prog.cellsOf 3)) = xs[29]? := hfd 29 _ rfl
  rw [c2] at f29
  obtain ⟨y29, e29⟩ := ex 29 (by omega)
  rw [e29] at f29
  clear e29
  clear hwd hw hx hfd ex h
  match cs, hlen with
  | [c0, c1, c2, c3, c4, c5, c6, c7, c8, c9, c10, c11, c12, c13, c14, c15, c16, c17, c18, c19, c20, c21, c22, c23, c24, c25, c26, c27, c28, c29, c30, c31], _ =>
    simp only [List.drop_succ_cons, List.drop_zero, List.take_succ_cons, List.take_zero] at f0
    obtain ⟨g0, h0, _, b0⟩ := DataW.trod_int Tryd.underlying3 f0
    obtain rfl : c0 = _ := by simpa using h0
    simp only [List.drop_succ_cons, List.drop_zero, List.take_succ_cons, List.take_zero] at f1
    obtain ⟨g1, h1, x1, _⟩ := DataW.trod_string Tryd.underlying9 f1
    obtain rfl : c1 = _ := by simpa using h1
    simp only [List.drop_succ_cons, List.drop_zero, List.take_succ_cons, List.take_zero] at f2
    obtain ⟨g2, h2, _, b2⟩ := DataW.trod_int Tryd.underlying3 f2
    obtain rfl : c2 = _ := by simpa using h2
    simp only [List.drop_succ_cons, List.drop_zero, List.take_succ_cons, List.take_zero] at f3
    obtain ⟨g3, h3, _, b3⟩ := DataW.trod_int Tryd.underlying3 f3
    obtain rfl : c3 = _ := by simpa using h3
    simp only [List.drop_succ_cons, List.drop_zero, List.take_succ_cons, List.take_zero] at f4
    obtain ⟨g4, l4, h4, K4, z4⟩ := open_labels w4 f4
    obtain rfl : c4 = _ := by simpa using h4
    simp only [List.drop_succ_cons, List.drop_zero, List.take_succ_cons, List.take_zero] at f5
    obtain ⟨p5, q5, m5, _, _, s5, t5⟩ := trod_struct2 Tryd.underlying36 f5
    simp only [c2, List.drop_succ_cons, List.drop_zero, List.take_succ_cons, List.take_zero] at s5 t5
    obtain ⟨g5, h5, _, b5⟩ := DataW.trod_int Tryd.underlying3 s5
    obtain ⟨g5', h5', _, b5'⟩ := DataW.trod_int Tryd.underlying3 t5
    obtain rfl : c5 = _ := by simpa using h5
    obtain rfl : c6 = _ := by simpa using h5'
    simp only [List.drop_succ_cons, List.drop_zero, List.take_succ_cons, List.take_zero] at f6
    obtain ⟨g6, h6, _⟩ := DataW.trod_bool Tryd.underlying4 f6
    obtain rfl : c7 = _ := by simpa using h6
    simp only [List.drop_succ_cons, List.drop_zero, List.take_succ_cons, List.take_zero] at f7
    obtain ⟨g7, h7, _⟩ := DataW.trod_bool Tryd.underlying4 f7
    obtain rfl : c8 = _ := by simpa using h7
    simp only [List.drop_succ_cons, List.drop_zero, List.take_succ_cons, List.take_zero] at f8
    obtain ⟨g8, h8, _⟩ := DataW.trod_bool Tryd.underlying4 f8
    obtain rfl : c9 = _ := by simpa using h8
    simp only [List.drop_succ_cons, List.drop_zero, List.take_succ_cons, List.take_zero] at f9
    obtain ⟨g9, h9, _, b9⟩ := DataW.trod_int Tryd.underlying3 f9
    obtain rfl : c10 = _ := by simpa using h9
    simp only [List.drop_succ_cons, List.drop_zero, List.take_succ_cons, List.take_zero] at f10
    obtain ⟨g10, h10, x10, _⟩ := DataW.trod_string Tryd.underlying9 f10
    obtain rfl : c11 = _ := by simpa using h10
    simp only [List.drop_succ_cons, List.drop_zero, List.take_succ_cons, List.take_zero] at f11
    obtain ⟨g11, h11, x11, _⟩ := DataW.trod_string Tryd.underlying9 f11
    obtain rfl : c12 = _ := by simpa using h11
    simp only [List.drop_succ_cons, List.drop_zero, List.take_succ_cons, List.take_zero] at f12
    obtain ⟨g12, h12, x12, _⟩ := DataW.trod_string Tryd.underlying9 f12
    obtain rfl : c13 = _ := by simpa using h12
    simp only [List.drop_succ_cons, List.drop_zero, List.take_succ_cons, List.take_zero] at f13
    obtain ⟨g13, h13, _, b13⟩ := DataW.trod_int Tryd.underlying3 f13
    obtain rfl : c14 = _ := by simpa using h13
    simp only [List.drop_succ_cons, List.drop_zero, List.take_succ_cons, List.take_zero] at f14
    obtain ⟨g14, h14, _⟩ := DataW.trod_bool Tryd.underlying4 f14
    obtain rfl : c15 = _ := by simpa using h14
    simp only [List.drop_succ_cons, List.drop_zero, List.take_succ_cons, List.take_zero] at f15
    obtain ⟨g15, h15, _⟩ := DataW.trod_bool Tryd.underlying4 f15
    obtain rfl : c16 = _ := by simpa using h15
    simp only [List.drop_succ_cons, List.drop_zero, List.take_succ_cons, List.take_zero] at f16
    obtain ⟨p16, q16, m16, _, _, s16, t16⟩ := trod_struct2 Tryd.underlying36 f16
    simp only [c2, List.drop_succ_cons, List.drop_zero, List.take_succ_cons, List.take_zero] at s16 t16
    obtain ⟨g16, h16, _, b16⟩ := DataW.trod_int Tryd.underlying3 s16
    obtain ⟨g16', h16', _, b16'⟩ := DataW.trod_int Tryd.underlying3 t16
    obtain rfl : c17 = _ := by simpa using h16
    obtain rfl : c18 = _ := by simpa using h16'
    simp only [List.drop_succ_cons, List.drop_zero, List.take_succ_cons, List.take_zero] at f17
    obtain ⟨g17, h17, x17, _⟩ := DataW.trod_string Tryd.underlying9 f17
    obtain rfl : c19 = _ := by simpa using h17
    simp only [List.drop_succ_cons, List.drop_zero, List.take_succ_cons, List.take_zero] at f18
    obtain ⟨g18, h18, _, b18⟩ := DataW.trod_int Tryd.underlying3 f18
    obtain rfl : c20 = _ := by simpa using h18
    simp only [List.drop_succ_cons, List.drop_zero, List.take_succ_cons, List.take_zero] at f19
    obtain ⟨g19, h19, _, b19⟩ := DataW.trod_int Tryd.underlying3 f19
    obtain rfl : c21 = _ := by simpa using h19
    simp only [List.drop_succ_cons, List.drop_zero, List.take_succ_cons, List.take_zero] at f20
    obtain ⟨g20, h20, _, b20⟩ := DataW.trod_int Tryd.underlying3 f20
    obtain rfl : c22 = _ := by simpa using h20
    simp only [List.drop_succ_cons, List.drop_zero, List.take_succ_cons, List.take_zero] at f21
    obtain ⟨g21, h21, _, b21⟩ := DataW.trod_int Tryd.underlying3 f21
    obtain rfl : c23 = _ := by simpa using h21
    simp only [List.drop_succ_cons, List.drop_zero, List.take_succ_cons, List.take_zero] at f22
    obtain ⟨g22, h22, _, b22⟩ := DataW.trod_int Tryd.underlying3 f22
    obtain rfl : c24 = _ := by simpa using h22
    simp only [List.drop_succ_cons, List.drop_zero, List.take_succ_cons, List.take_zero] at f23
    obtain ⟨g23, h23, _⟩ := DataW.trod_bool Tryd.underlying4 f23
    obtain rfl : c25 = _ := by simpa using h23
    simp only [List.drop_succ_cons, List.drop_zero, List.take_succ_cons, List.take_zero] at f24
    obtain ⟨g24, h24, _, b24⟩ := DataW.trod_int Tryd.underlying37 f24
    obtain rfl : c26 = _ := by simpa using h24
    simp only [List.drop_succ_cons, List.drop_zero, List.take_succ_cons, List.take_zero] at f25
    obtain ⟨g25, l25, h25, K25, z25⟩ := open_labels w25 f25
    obtain rfl : c27 = _ := by simpa using h25
    simp only [List.drop_succ_cons, List.drop_zero, List.take_succ_cons, List.take_zero] at f26
    obtain ⟨g26, h26, _, b26⟩ := DataW.trod_int Tryd.underlying3 f26
    obtain rfl : c28 = _ := by simpa using h26
    simp only [List.drop_succ_cons, List.drop_zero, List.take_succ_cons, List.take_zero] at f27
    obtain ⟨g27, h27, x27, _⟩ := DataW.trod_string Tryd.underlying9 f27
    obtain rfl : c29 = _ := by simpa using h27
    simp only [List.drop_succ_cons, List.drop_zero, List.take_succ_cons, List.take_zero] at f28
    obtain ⟨g28, h28, _, b28⟩ := DataW.trod_int Tryd.underlying3 f28
    obtain rfl : c30 = _ := by simpa using h28
    simp only [List.drop_succ_cons, List.drop_zero, List.take_succ_cons, List.take_zero] at f29
    obtain ⟨g29, h29, _, b29⟩ := DataW.trod_int Tryd.underlying3 f29
    obtain rfl : c31 = _ := by simpa using h29
    refine ⟨⟨g0, g1, g2, g3, l4, g5, g5', g6, g7, g8, g9, g10, g11, g12, g13, g14, g15, g16, g16', g17, g18, g19, g20, g21, g22, g23, g24, l25, g26, g27, g28, g29⟩, c4, c27, rfl, K4, K25, ⟨?_, z4, z25⟩, ?_⟩
    · have hz : g1.data.toList.length ≤ reachBytes := w1 _ (by rw [x1]; simp [DataW.weights])
      rw [Array.length_toList] at hz
      exact hz
    · intro z hz
      simp only [Ob.ints, List.mem_cons, List.not_mem_nil, or_false] at hz
      rcases hz with rfl | rfl | rfl | rfl | rfl | rfl | rfl | rfl | rfl | rfl | rfl | rfl | rfl | rfl | rfl | rfl | rfl
      all_goals (first | exact bounds_i64 b0 | exact bounds_i64 b2 | exact bounds_i64 b3 | exact bounds_i64 b5 | exact bounds_i64 b5' | exact bounds_i64 b9 | exact bounds_i64 b13 | exact bounds_i64 b16 | exact bounds_i64 b16' | exact bounds_i64 b18 | exact bounds_i64 b19 | exact bounds_i64 b20 | exact bounds_i64 b21 | exact bounds_i64 b22 | exact bounds_i64 b26 | exact bounds_i64 b28 | exact bounds_i64 b29)
set_option maxRecDepth 100000 in
theorem open_objs {fuel : Nat} {cs : List Value} {x : DataW H × List MemPlace} (hw : ∀ n ∈ x.1.weights Tryd.prog 22, n ≤ reachBytes) (h : DataW.trod enc Tryd.prog W base spare held fuel 22 cs = some x) :
    ∃ A c l, cs = [.slice A l.length c] ∧ l.length ≤ c ∧ kO.C W A l.length l ∧ (∀ o ∈ l, ObFits o ∧ ObInts o) ∧ l.length * 312 ≤ 140737488351232 := by
  rcases Deep.open_slice Tryd.underlying22 h with ⟨hcs, hx⟩ | ⟨a, len, cap, m, n, D, Pl, hcs, hb, hl, hm, hmm, hx, hc⟩
  · subst hcs
    exact ⟨none, 0, [], rfl, Nat.le_refl _, Kd.C_nil _ _, fun o ho => absurd ho List.not_mem_nil, by simp⟩
  · subst hcs
    subst hx
    have hlm : len ≤ m := by rw [hmm]; split <;> omega
    have z : (len + (m - len)) * Tryd.prog.bytesOf 39 ≤ reachBytes := hw _ (by
      unfold DataW.weights
      rw [Tryd.underlying22]
      simp)
    rw [show Tryd.prog.bytesOf 39 = 312 by kernel_rfl] at z
    unfold reachBytes at z
    have each : ∀ i, i < len → ∃ q : Ob × Value × Value, LabK W q.1.labels q.2.1 ∧ LabK W q.1.select q.2.2 ∧ (∀ j u, (q.1.cells q.2.1 q.2.2)[j]? = some u → W.cell? (a.add (i * 32 + j)) = some u) ∧ ObFits q.1 ∧ ObInts q.1 := by
      intro i hi
      obtain ⟨cs', h1, h2⟩ := hc i (by omega)
      rw [show Tryd.prog.cellsOf 39 = 32 by kernel_rfl] at h1
      obtain ⟨_, hlen, hcell⟩ := World.cells?_some h1
      obtain ⟨o, v4, v27, rfl, k4, k27, hf, hi'⟩ := open_obj (x := (D i, Pl i)) (fun n hn => hw n (by
        unfold DataW.weights
        rw [Tryd.underlying22]
        refine List.mem_cons_of_mem _ (List.mem_append.2 (.inl ?_))
        exact weights_mem_all (j := i) (d := D i) (by simp [hi]) n hn)) h2
      refine ⟨(o, v4, v27), k4, k27, fun j u hu => ?_, hf, hi'⟩
      have hj : j < 32 := by
        have := (Array.getElem?_eq_some_iff.1 hu).1
        rwa [Ob.cells_size] at this
      have := hcell j hj
      rw [add_add] at this
      rw [this]
      simpa using hu
    haveI : Inhabited (Ob × Value × Value) := ⟨(Ob.zero, .slice none 0 0, .slice none 0 0)⟩
    obtain ⟨f, hf'⟩ := Deep.choose_lt each
    have hlen : ((List.range len).map fun i => (f i).1).length = len := by simp
    refine ⟨some a, cap, (List.range len).map fun i => (f i).1, by rw [hlen], by rw [hlen]; exact hl, ?_, ?_, by rw [hlen]; omega⟩
    · rw [hlen]
      refine ⟨hlen, by omega, fun _ => ⟨a, rfl, fun j p hj => ?_⟩⟩
      have hjl : j < len := by have := (List.getElem?_eq_some_iff.1 hj).1; rw [hlen] at this; exact this
      have hp : (f j).1 = p := by simpa [List.getElem?_range hjl] using hj
      subst hp
      obtain ⟨k4, k27, hcell, _, _⟩ := hf' j hjl
      exact ⟨((f j).1.cells (f j).2.1 (f j).2.2).toList, by rw [Array.length_toList, Ob.cells_size]; rfl, ⟨_, _, rfl, k4, k27⟩, fun i u hu => hcell i u (by simpa using hu)⟩
    · intro o ho
      obtain ⟨j, hj, rfl⟩ := List.mem_map.1 ho
      exact ⟨(hf' j (List.mem_range.1 hj)).2.2.2.1, (hf' j (List.mem_range.1 hj)).2.2.2.2⟩
end
end Go.Proofs.YtiaggfjfgoiafaaDoor

/- Fleets: their four lists. -/
namespace Go.Proofs.YtiaggfjfgoiafaaDoor
open Go.RowKit Go.Proofs.YtiaggfjfgoiafaaDoorW.PrintWords Go.Proofs.YtiaggfjfgoiafaaDoorW.PrintLast
theorem R_off {α : Type} {d : Kd α} {e base g : Nat} {w w1 : World} {v : Value} {xs : List α} (h : d.R e w base (fun _ => True) v xs) (hb : g < base) (hk : ∀ k, k ≠ g → w1.heap[k]? = w.heap[k]?) : d.R e w1 base (fun _ => True) v xs :=
  Kd.R_mono (Kd.R_move (Kd.R_bound h) (fun k hk' => hk k (by have := hk'.2.1; omega))) (fun _ _ => trivial)
theorem R_offk {α : Type} {d : Kd α} {e base g : Nat} {ok : Nat → Prop} {w w1 : World} {v : Value} {xs : List α} (h : d.R e w base ok v xs) (hb : g < base) (hk : ∀ k, k ≠ g → w1.heap[k]? = w.heap[k]?) : d.R e w1 base ok v xs :=
  Kd.R_mono (Kd.R_move (Kd.R_bound h) (fun k hk' => hk k (by have := hk'.2.1; omega))) (fun _ h => h.1)
theorem infoF4 : (Tryd.prog.info? 24).map (·.size) = some 4 := by kernel_rfl
structure F4 where
  A0 : Option Addr
  A1 : Option Addr
  A2 : Option Addr
  A3 : Option Addr
  n0 : Nat
  n1 : Nat
  n2 : Nat
  n3 : Nat
  c0 : Nat
  c1 : Nat
  c2 : Nat
  c3 : Nat
  l0 : List Ob
  l1 : List Ob
  l2 : List Ob
  l3 : List Ob
def F4.v (f : F4) : Array Value := #[.slice f.A0 f.n0 f.c0, .slice f.A1 f.n1 f.c1, .slice f.A2 f.n2 f.c2, .slice f.A3 f.n3 f.c3]
structure F4.At (d : Kd Ob) (w : World) (f : F4) : Prop where
  a0 : d.C w f.A0 f.n0 f.l0
  a1 : d.C w f.A1 f.n1 f.l1
  a2 : d.C w f.A2 f.n2 f.l2
  a3 : d.C w f.A3 f.n3 f.l3
theorem F4.At.below {d : Kd Ob} {w w1 : World} {f : F4} (h : F4.At d w f) (hb : Below w.heap.size w w1) : F4.At d w1 f := ⟨Kd.C_below h.a0 hb, Kd.C_below h.a1 hb, Kd.C_below h.a2 hb, Kd.C_below h.a3 hb⟩
structure F4.Ok (f : F4) : Prop where
  n0 : f.n0 ≤ 451081693433
  n1 : f.n1 ≤ 451081693433
  n2 : f.n2 ≤ 451081693433
  n3 : f.n3 ≤ 451081693433
  f0 : ∀ o ∈ f.l0, ObFits o ∧ ObInts o
  f1 : ∀ o ∈ f.l1, ObFits o ∧ ObInts o
  f2 : ∀ o ∈ f.l2, ObFits o ∧ ObInts o
  f3 : ∀ o ∈ f.l3, ObFits o ∧ ObInts o
theorem heap_alloc_at4 (W : World) (o : Obj) (n : Nat) (h : n = W.heap.size) : (W.alloc o).heap[n]? = some o := by subst h; exact heap_alloc_new W o
end Go.Proofs.YtiaggfjfgoiafaaDoor

/- Chapter 27's find and drains. -/
namespace Go.Proofs.YtiaggfjfgoiafaaDoor
open Go.RowKit Go.Proofs.YtiaggfjfgoiafaaDoorW.PrintWords Go.Proofs.YtiaggfjfgoiafaaDoorW.PrintLast
theorem findN_step {l : List Ob} {s : ByteArray} {k : Nat} {o : Ob} (ho : l[k]? = some o) : findN (l.drop k) s k = if o.name = s then (k : Int) else findN (l.drop (k + 1)) s (k + 1) := by
  rw [List.drop_eq_getElem_cons (List.getElem?_eq_some_iff.1 ho).1, (List.getElem?_eq_some_iff.1 ho).2]
  rfl
set_option maxHeartbeats 1000000 in
theorem find_calls (A : Option Addr) (c n : Nat) (l : List Ob) (s : ByteArray) (w : World) (hr : kO.C w A n l) (hn : n ≤ 451081693433) :
    Calls Tryd.prog 13 #[.slice A n c, .string s] w fun e w' => e = .returned (.int .i64 (findI l s)) ∧ Below w.heap.size w w' := by
  have HR := Lib.hid hr
  have HL : Hid (l.length = n) := Lib.hid hr.1
  clear hr
  go_enter Tryd.func13, Tryd.ntmps13
  go_wp2
  go_loop [5] (fun v5 => ∃ k : Nat, k ≤ n ∧ v5 = .int .i64 k ∧ Hid (findI l s = findN (l.drop k) s k)) (fun v5 => n - (intOf v5).toNat)
  case atStart => exact ⟨0, Nat.zero_le _, rfl, Lib.hid rfl⟩
  case round =>
    obtain ⟨k, hk, rfl, hI⟩ := hrel
    by_cases hkn : k < n
    · obtain ⟨o, ho⟩ : ∃ o, l[k]? = some o := ⟨_, List.getElem?_eq_getElem (by have := HL.out; omega)⟩
      obtain ⟨ad, v4, v27, hA, hO⟩ := objAt HR.out k o ho
      subst hA
      obtain ⟨nm, hnm⟩ : ∃ s, s = o.name := ⟨_, rfl⟩
      have d1 := hO.field 1 (by decide) (u := .string nm) (by rw [hnm]; rfl)
      have hlk : (k : Int) < (n : Int) := by omega
      have hst := findN_step (s := s) ho
      rw [← hnm] at hst
      have HS := Lib.hid hst
      clear hO ho hnm hst
      by_cases hs : nm = s
      · have g1 : decide (nm = s) = true := decide_eq_true hs
        have g2 : (nm.toList == s.toList) = true := by rw [hs]; exact beq_self_eq_true _
        have HE : Hid (findI l s = (k : Int)) := Lib.hid (by rw [hI.out, HS.out, if_pos hs])
        go_wp2
        go_ret
        exact ⟨by rw [HE.out]; rfl, Below.refl _ _⟩
      · have g1 : decide (nm = s) = false := decide_eq_false hs
        have g2 : (nm.toList == s.toList) = false := beq_eq_false_iff_ne.mpr (fun e => hs (bytes_of_list e))
        have HE : Hid (findI l s = findN (l.drop (k + 1)) s (k + 1)) := Lib.hid (by rw [hI.out, HS.out, if_neg hs])
        go_wp2
        go_round
        case rel => exact ⟨k + 1, by omega, by go_num, HE⟩
        case measure => simp [intOf]; omega
    · obtain rfl : k = n := by omega
      have HE : Hid (findI l s = -1) := Lib.hid (by rw [hI.out, List.drop_eq_nil_of_le (by have := HL.out; omega)]; rfl)
      go_wp2
      go_ret
      exact ⟨by rw [HE.out]; rfl, Below.refl _ _⟩
theorem drains_calls (v1 v2 v3 : Value) (A : Option Addr) (c n k : Nat) (l : List Ob) (s : ByteArray) (o : Ob) (w : World) (hr : kO.C w A n l) (hn : n ≤ 451081693433) (hk : l[k]? = some o) (hf : findI l s = (k : Int)) (hd : o.draining = true) :
    Calls Tryd.prog 17 #[.agg #[.slice A n c, v1, v2, v3], .string s] w fun e w' => e = .returned (.bool true) ∧ Below w.heap.size w w' := by
  obtain ⟨W0, hW0⟩ : ∃ x, x = w.alloc (Obj.cells #[.slice A n c, v1, v2, v3] 24) := ⟨_, rfl⟩
  have hn0 : W0.heap[w.heap.size]? = some (.cells #[.slice A n c, v1, v2, v3] 24 (0, 0)) := by rw [hW0]; exact heap_alloc_new w _
  have q0 : Hid (W0.cell? ⟨w.heap.size, 0, none⟩ = some (.slice A n c)) := Lib.hid (cell_of_row _ _ 0 _ _ _ hn0)
  have HB0 : Hid (Below w.heap.size w W0) := Lib.hid (by rw [hW0]; exact below_alloc (Below.refl w.heap.size w) _)
  have HR := Lib.hid (Kd.C_below hr HB0.out)
  obtain ⟨ad, v4, v27, hA, hO⟩ := objAt HR.out k o hk
  subst hA
  have Q := Lib.hid (find_calls (some ad) c n l s W0 HR.out hn)
  rw [hf] at Q
  have HD : Hid (W0.cell? ⟨(ad.add (k * 32)).block, (ad.add (k * 32)).off + 8, none⟩ = some (.bool true)) := Lib.hid (hO.field 8 (by decide) (u := .bool true) (by rw [← hd]; rfl))
  have hkn : (k : Int) < (n : Int) := by have := (List.getElem?_eq_some_iff.1 hk).1; have := hr.1; omega
  replace hW0 := Lib.hid hW0
  clear hr hn0 hO hk hf hd
  go_enter Tryd.func17, Tryd.ntmps17
  go_wp2_with (first
    | ((with_reducible refine gate_ (.load 22 (.tmp 6)) rfl ?_); rw [← hW0.out]; clear hW0; (with_reducible refine wpList_load1_w 22 (.tmp 6) rfl ⟨w.heap.size, 0, none⟩ ?la ?lb (.slice (some ad) n c) _ ?lc Tryd.underlying22 rfl ?_); (case la => rfl); (case lb => rfl); (case lc => exact q0.out))
    | (go_at_call 13; (with_reducible refine Q.out.mono ?_); rintro e w1 ⟨rfl, hb⟩; have c0 := cell_below hb q0.out; have c8 := cell_below hb HD.out; have HB := Lib.hid (belT HB0.out hb); clear hb))
  go_ret
  exact ⟨rfl, HB.out⟩
end Go.Proofs.YtiaggfjfgoiafaaDoor

/- CopyFleet walked. -/
namespace Go.Proofs.YtiaggfjfgoiafaaDoor
open Go.RowKit Go.Proofs.YtiaggfjfgoiafaaDoorW.PrintWords Go.Proofs.YtiaggfjfgoiafaaDoorW.PrintLast
set_option maxHeartbeats 4000000 in
set_option maxRecDepth 100000 in
theorem copyFleet_calls (f : F4) (w : World) (h : F4.At kO w f) (hok : F4.Ok f) :
    Calls Tryd.prog 14 #[.agg f.v] w fun e w' => ∃ v0 v1 v2 v3, e = .returned (.agg #[v0, v1, v2, v3]) ∧ (kO.R 39 w' w.heap.size (fun _ => True) v0 f.l0 ∧ kO.R 39 w' w.heap.size (fun _ => True) v1 f.l1 ∧ kO.R 39 w' w.heap.size (fun _ => True) v2 f.l2 ∧ kO.R 39 w' w.heap.size (fun _ => True) v3 f.l3) ∧ (∃ m, kO.R 39 w' w.heap.size (fun k => k < m) v0 f.l0 ∧ kO.R 39 w' m (fun _ => True) v1 f.l1 ∧ w.heap.size ≤ m ∧ m ≤ w'.heap.size) ∧ Below w.heap.size w w' := by
  obtain ⟨A0, A1, A2, A3, n0, n1, n2, n3, c0, c1, c2, c3, l0, l1, l2, l3⟩ := f
  have Q0 : Hid (∀ W : World, Below w.heap.size w W → Calls Tryd.prog 27 #[.slice A0 n0 c0] W fun e w' => ∃ v, e = .returned v ∧ kO.R 39 w' W.heap.size (fun _ => True) v l0 ∧ Below W.heap.size W w') := Lib.hid (fun W hW => copyObjects_big A0 c0 n0 l0 W (by have := Kd.C_below h.a0 hW; rw [show l0.length = n0 from h.a0.1]; exact this) h.a0.1 hok.n0 (fun o ho => (hok.f0 o ho).1))
  have Q1 : Hid (∀ W : World, Below w.heap.size w W → Calls Tryd.prog 27 #[.slice A1 n1 c1] W fun e w' => ∃ v, e = .returned v ∧ kO.R 39 w' W.heap.size (fun _ => True) v l1 ∧ Below W.heap.size W w') := Lib.hid (fun W hW => copyObjects_big A1 c1 n1 l1 W (by have := Kd.C_below h.a1 hW; rw [show l1.length = n1 from h.a1.1]; exact this) h.a1.1 hok.n1 (fun o ho => (hok.f1 o ho).1))
  have Q2 : Hid (∀ W : World, Below w.heap.size w W → Calls Tryd.prog 27 #[.slice A2 n2 c2] W fun e w' => ∃ v, e = .returned v ∧ kO.R 39 w' W.heap.size (fun _ => True) v l2 ∧ Below W.heap.size W w') := Lib.hid (fun W hW => copyObjects_big A2 c2 n2 l2 W (by have := Kd.C_below h.a2 hW; rw [show l2.length = n2 from h.a2.1]; exact this) h.a2.1 hok.n2 (fun o ho => (hok.f2 o ho).1))
  have Q3 : Hid (∀ W : World, Below w.heap.size w W → Calls Tryd.prog 27 #[.slice A3 n3 c3] W fun e w' => ∃ v, e = .returned v ∧ kO.R 39 w' W.heap.size (fun _ => True) v l3 ∧ Below W.heap.size W w') := Lib.hid (fun W hW => copyObjects_big A3 c3 n3 l3 W (by have := Kd.C_below h.a3 hW; rw [show l3.length = n3 from h.a3.1]; exact this) h.a3.1 hok.n3 (fun o ho => (hok.f3 o ho).1))
  clear h hok
  have HM := Lib.hid (Eq.refl 0)
  simp only [F4.v]
  go_enter Tryd.func14, Tryd.ntmps14
  go_wp2_with (first
    | ((with_reducible refine gate_ (.load 22 (.tmp 4)) rfl ?_); clear HM; (have HB : Hid (Below w.heap.size w (((w.alloc (Obj.cells #[.slice A0 n0 c0, .slice A1 n1 c1, .slice A2 n2 c2, .slice A3 n3 c3] 24)).alloc (Obj.cells #[.slice none 0 0, .slice none 0 0, .slice none 0 0, .slice none 0 0] 24)).alloc (Obj.cells #[.slice none 0 0, .slice none 0 0, .slice none 0 0, .slice none 0 0] 24))) := Lib.hid (below_alloc (below_alloc (below_alloc (Below.refl _ _) _) _) _)); (have BA : Hid ((((w.alloc (Obj.cells #[.slice A0 n0 c0, .slice A1 n1 c1, .slice A2 n2 c2, .slice A3 n3 c3] 24)).alloc (Obj.cells #[.slice none 0 0, .slice none 0 0, .slice none 0 0, .slice none 0 0] 24)).alloc (Obj.cells #[.slice none 0 0, .slice none 0 0, .slice none 0 0, .slice none 0 0] 24)).heap[w.heap.size]? = some (.cells #[.slice A0 n0 c0, .slice A1 n1 c1, .slice A2 n2 c2, .slice A3 n3 c3] 24 (0, 0))) := Lib.hid (blkB (below_alloc (below_alloc (Below.refl _ _) _) _) (heap_alloc_new w _))); (have BC : Hid ((((w.alloc (Obj.cells #[.slice A0 n0 c0, .slice A1 n1 c1, .slice A2 n2 c2, .slice A3 n3 c3] 24)).alloc (Obj.cells #[.slice none 0 0, .slice none 0 0, .slice none 0 0, .slice none 0 0] 24)).alloc (Obj.cells #[.slice none 0 0, .slice none 0 0, .slice none 0 0, .slice none 0 0] 24)).heap[w.heap.size + 1]? = some (.cells #[.slice none 0 0, .slice none 0 0, .slice none 0 0, .slice none 0 0] 24 (0, 0))) := Lib.hid (blkB (below_alloc (Below.refl _ _) _) (heap_alloc2_new w _ _))); (have BX : Hid ((((w.alloc (Obj.cells #[.slice A0 n0 c0, .slice A1 n1 c1, .slice A2 n2 c2, .slice A3 n3 c3] 24)).alloc (Obj.cells #[.slice none 0 0, .slice none 0 0, .slice none 0 0, .slice none 0 0] 24)).alloc (Obj.cells #[.slice none 0 0, .slice none 0 0, .slice none 0 0, .slice none 0 0] 24)).heap[w.heap.size + 2]? = some (.cells #[.slice none 0 0, .slice none 0 0, .slice none 0 0, .slice none 0 0] 24 (0, 0))) := Lib.hid (heap_alloc_at4 _ _ _ (by simp))); (generalize (((w.alloc (Obj.cells #[.slice A0 n0 c0, .slice A1 n1 c1, .slice A2 n2 c2, .slice A3 n3 c3] 24)).alloc (Obj.cells #[.slice none 0 0, .slice none 0 0, .slice none 0 0, .slice none 0 0] 24)).alloc (Obj.cells #[.slice none 0 0, .slice none 0 0, .slice none 0 0, .slice none 0 0] 24)) = W0 at HB BA BC BX ⊢); obtain ⟨ga, hga⟩ : ∃ x, x = w.heap.size := ⟨_, rfl⟩; obtain ⟨gc, hgc⟩ : ∃ x, x = w.heap.size + 1 := ⟨_, rfl⟩; obtain ⟨gx, hgx⟩ : ∃ x, x = w.heap.size + 2 := ⟨_, rfl⟩; rw [← hgx] at BX ⊢; rw [← hgc] at BC ⊢; rw [← hga] at BA ⊢; (have HN : Hid (w.heap.size ≤ ga ∧ w.heap.size ≤ gc ∧ w.heap.size ≤ gx ∧ ga ≠ gx ∧ gc ≠ gx ∧ ga ≠ gc ∧ gx < W0.heap.size ∧ gc < W0.heap.size) := Lib.hid ⟨by omega, by omega, by omega, by omega, by omega, by omega, blkLt BX.out, blkLt BC.out⟩); have HW0 := Lib.hid (Nat.le_refl W0.heap.size); clear hga hgc hgx)
    | ((with_reducible refine wpList_load1_w (op := ⟨some 5, _, _, _, _, _⟩) 22 (.tmp 4) rfl ⟨ga, 0, none⟩ ?la0 ?lb0 (.slice A0 n0 c0) _ ?lc0 Tryd.underlying22 rfl ?_); (case la0 => rfl); (case lb0 => rfl); (case lc0 => exact (cell_of_row _ _ 0 _ _ _ BA.out).trans rfl))
    | (go_at_call 27; (with_reducible refine (Q0.out _ HB.out).mono ?_); rintro e w1 ⟨v0, rfl, hR, hb⟩; have HR0 := Lib.hid (Kd.R_lower hR HW0.out); clear hR; replace HW0 := Lib.hid (Nat.le_trans HW0.out hb.size); replace BA := Lib.hid (blkB hb BA.out); replace BC := Lib.hid (blkB hb BC.out); replace BX := Lib.hid (blkB hb BX.out); replace HB := Lib.hid (belT HB.out hb); clear hb)
    | ((with_reducible refine wpList_store1 rfl 22 (.tmp 7) (.tmp 6) rfl gx 0 24 #[.slice none 0 0, .slice none 0 0, .slice none 0 0, .slice none 0 0] (v0) ?sa0 ?sb0 ?sc0 ?sd0 ?se0 ?sf0 ?sg0 ?_); (case sa0 => rfl); (case sb0 => rfl); (case sc0 => exact (by obtain ⟨A, c, e⟩ := Kd.R_slice HR0.out; rw [e]; rfl)); (case sd0 => exact BX.out); (case se0 => exact (show 0 < 4 by decide)); (case sf0 => kernel_rfl); (case sg0 => exact (by obtain ⟨A, c, e⟩ := Kd.R_slice HR0.out; rw [e]; rfl)); intro W1 BX' hk hb hz; replace BX : Hid (W1.heap[gx]? = some (.cells #[v0, .slice none 0 0, .slice none 0 0, .slice none 0 0] 24 (0, 0))) := Lib.hid BX'; replace BA := Lib.hid ((hk _ HN.out.2.2.2.1).trans BA.out); replace BC := Lib.hid ((hk _ HN.out.2.2.2.2.1).trans BC.out); replace HR0 := Lib.hid (R_off HR0.out HN.out.2.2.2.2.2.2.1 hk); replace HB := Lib.hid (hb _ _ HB.out HN.out.2.2.1); replace HW0 : Hid (W0.heap.size ≤ W1.heap.size) := Lib.hid (by have := HW0.out; omega); clear BX' hk hb hz)
    | ((with_reducible refine wpList_load1_w (op := ⟨some 9, _, _, _, _, _⟩) 22 (.tmp 8) rfl ⟨ga, 1, none⟩ ?la1 ?lb1 (.slice A1 n1 c1) _ ?lc1 Tryd.underlying22 rfl ?_); (case la1 => rfl); (case lb1 => rfl); (case lc1 => exact (cell_of_row _ _ 1 _ _ _ BA.out).trans rfl))
    | (go_at_call 27; (with_reducible refine (Q1.out _ HB.out).mono ?_); obtain ⟨mm, hmm⟩ : ∃ x, x = W1.heap.size := ⟨_, rfl⟩; have Hmm := Lib.hid hmm; have HmW := Lib.hid (show W0.heap.size ≤ mm by rw [hmm]; exact HW0.out); have HS0 : Hid (kO.R 39 W1 W0.heap.size (fun k => k < mm) v0 l0) := Lib.hid (by rw [hmm]; exact Kd.R_mono (Kd.R_bound HR0.out) (fun k hk => hk.2.2.1)); clear hmm; rintro e w2 ⟨v1, rfl, hR, hb⟩; have hR0 := hR; have HR1 := Lib.hid (Kd.R_lower hR HW0.out); clear hR; replace HR0 := Lib.hid (Kd.R_below HR0.out hb); have HT1 : Hid (kO.R 39 w2 mm (fun _ => True) v1 l1) := Lib.hid (by rw [Hmm.out]; exact hR0);  replace HS0 := Lib.hid (Kd.R_below HS0.out hb); clear hR0; have HmX := Lib.hid (show mm ≤ w2.heap.size by rw [Hmm.out]; exact hb.size); replace HW0 := Lib.hid (Nat.le_trans HW0.out hb.size); replace BA := Lib.hid (blkB hb BA.out); replace BC := Lib.hid (blkB hb BC.out); replace BX := Lib.hid (blkB hb BX.out); replace HB := Lib.hid (belT HB.out hb); clear hb)
    | ((with_reducible refine wpList_store1 rfl 22 (.tmp 11) (.tmp 10) rfl gx 1 24 #[v0, .slice none 0 0, .slice none 0 0, .slice none 0 0] (v1) ?sa1 ?sb1 ?sc1 ?sd1 ?se1 ?sf1 ?sg1 ?_); (case sa1 => rfl); (case sb1 => rfl); (case sc1 => exact (by obtain ⟨A, c, e⟩ := Kd.R_slice HR1.out; rw [e]; rfl)); (case sd1 => exact BX.out); (case se1 => exact (show 1 < 4 by decide)); (case sf1 => kernel_rfl); (case sg1 => exact (by obtain ⟨A, c, e⟩ := Kd.R_slice HR1.out; rw [e]; rfl)); intro W2 BX' hk hb hz; replace BX : Hid (W2.heap[gx]? = some (.cells #[v0, v1, .slice none 0 0, .slice none 0 0] 24 (0, 0))) := Lib.hid BX'; replace BA := Lib.hid ((hk _ HN.out.2.2.2.1).trans BA.out); replace BC := Lib.hid ((hk _ HN.out.2.2.2.2.1).trans BC.out); replace HR0 := Lib.hid (R_off HR0.out HN.out.2.2.2.2.2.2.1 hk); replace HR1 := Lib.hid (R_off HR1.out HN.out.2.2.2.2.2.2.1 hk); replace HS0 := Lib.hid (R_offk HS0.out HN.out.2.2.2.2.2.2.1 hk); replace HT1 := Lib.hid (R_offk HT1.out (Nat.lt_of_lt_of_le HN.out.2.2.2.2.2.2.1 HmW.out) hk); replace HmX := Lib.hid (show mm ≤ W2.heap.size by have := HmX.out; omega); replace HB := Lib.hid (hb _ _ HB.out HN.out.2.2.1); replace HW0 : Hid (W0.heap.size ≤ W2.heap.size) := Lib.hid (by have := HW0.out; omega); clear BX' hk hb hz)
    | ((with_reducible refine wpList_load1_w (op := ⟨some 13, _, _, _, _, _⟩) 22 (.tmp 12) rfl ⟨ga, 2, none⟩ ?la2 ?lb2 (.slice A2 n2 c2) _ ?lc2 Tryd.underlying22 rfl ?_); (case la2 => rfl); (case lb2 => rfl); (case lc2 => exact (cell_of_row _ _ 2 _ _ _ BA.out).trans rfl))
    | (go_at_call 27; (with_reducible refine (Q2.out _ HB.out).mono ?_); rintro e w3 ⟨v2, rfl, hR, hb⟩; have HR2 := Lib.hid (Kd.R_lower hR HW0.out); clear hR; replace HR0 := Lib.hid (Kd.R_below HR0.out hb); replace HR1 := Lib.hid (Kd.R_below HR1.out hb); replace HS0 := Lib.hid (Kd.R_below HS0.out hb); replace HT1 := Lib.hid (Kd.R_below HT1.out hb); replace HmX := Lib.hid (Nat.le_trans HmX.out hb.size); replace HW0 := Lib.hid (Nat.le_trans HW0.out hb.size); replace BA := Lib.hid (blkB hb BA.out); replace BC := Lib.hid (blkB hb BC.out); replace BX := Lib.hid (blkB hb BX.out); replace HB := Lib.hid (belT HB.out hb); clear hb)
    | ((with_reducible refine wpList_store1 rfl 22 (.tmp 15) (.tmp 14) rfl gx 2 24 #[v0, v1, .slice none 0 0, .slice none 0 0] (v2) ?sa2 ?sb2 ?sc2 ?sd2 ?se2 ?sf2 ?sg2 ?_); (case sa2 => rfl); (case sb2 => rfl); (case sc2 => exact (by obtain ⟨A, c, e⟩ := Kd.R_slice HR2.out; rw [e]; rfl)); (case sd2 => exact BX.out); (case se2 => exact (show 2 < 4 by decide)); (case sf2 => kernel_rfl); (case sg2 => exact (by obtain ⟨A, c, e⟩ := Kd.R_slice HR2.out; rw [e]; rfl)); intro W3 BX' hk hb hz; replace BX : Hid (W3.heap[gx]? = some (.cells #[v0, v1, v2, .slice none 0 0] 24 (0, 0))) := Lib.hid BX'; replace BA := Lib.hid ((hk _ HN.out.2.2.2.1).trans BA.out); replace BC := Lib.hid ((hk _ HN.out.2.2.2.2.1).trans BC.out); replace HR0 := Lib.hid (R_off HR0.out HN.out.2.2.2.2.2.2.1 hk); replace HR1 := Lib.hid (R_off HR1.out HN.out.2.2.2.2.2.2.1 hk); replace HR2 := Lib.hid (R_off HR2.out HN.out.2.2.2.2.2.2.1 hk); replace HS0 := Lib.hid (R_offk HS0.out HN.out.2.2.2.2.2.2.1 hk); replace HT1 := Lib.hid (R_offk HT1.out (Nat.lt_of_lt_of_le HN.out.2.2.2.2.2.2.1 HmW.out) hk); replace HmX := Lib.hid (show mm ≤ W3.heap.size by have := HmX.out; omega); replace HB := Lib.hid (hb _ _ HB.out HN.out.2.2.1); replace HW0 : Hid (W0.heap.size ≤ W3.heap.size) := Lib.hid (by have := HW0.out; omega); clear BX' hk hb hz)
    | ((with_reducible refine wpList_load1_w (op := ⟨some 17, _, _, _, _, _⟩) 22 (.tmp 16) rfl ⟨ga, 3, none⟩ ?la3 ?lb3 (.slice A3 n3 c3) _ ?lc3 Tryd.underlying22 rfl ?_); (case la3 => rfl); (case lb3 => rfl); (case lc3 => exact (cell_of_row _ _ 3 _ _ _ BA.out).trans rfl))
    | (go_at_call 27; (with_reducible refine (Q3.out _ HB.out).mono ?_); rintro e w4 ⟨v3, rfl, hR, hb⟩; have HR3 := Lib.hid (Kd.R_lower hR HW0.out); clear hR; replace HR0 := Lib.hid (Kd.R_below HR0.out hb); replace HR1 := Lib.hid (Kd.R_below HR1.out hb); replace HR2 := Lib.hid (Kd.R_below HR2.out hb); replace HS0 := Lib.hid (Kd.R_below HS0.out hb); replace HT1 := Lib.hid (Kd.R_below HT1.out hb); replace HmX := Lib.hid (Nat.le_trans HmX.out hb.size); replace HW0 := Lib.hid (Nat.le_trans HW0.out hb.size); replace BA := Lib.hid (blkB hb BA.out); replace BC := Lib.hid (blkB hb BC.out); replace BX := Lib.hid (blkB hb BX.out); replace HB := Lib.hid (belT HB.out hb); clear hb)
    | ((with_reducible refine wpList_store1 rfl 22 (.tmp 19) (.tmp 18) rfl gx 3 24 #[v0, v1, v2, .slice none 0 0] (v3) ?sa3 ?sb3 ?sc3 ?sd3 ?se3 ?sf3 ?sg3 ?_); (case sa3 => rfl); (case sb3 => rfl); (case sc3 => exact (by obtain ⟨A, c, e⟩ := Kd.R_slice HR3.out; rw [e]; rfl)); (case sd3 => exact BX.out); (case se3 => exact (show 3 < 4 by decide)); (case sf3 => kernel_rfl); (case sg3 => exact (by obtain ⟨A, c, e⟩ := Kd.R_slice HR3.out; rw [e]; rfl)); intro W4 BX' hk hb hz; replace BX : Hid (W4.heap[gx]? = some (.cells #[v0, v1, v2, v3] 24 (0, 0))) := Lib.hid BX'; replace BA := Lib.hid ((hk _ HN.out.2.2.2.1).trans BA.out); replace BC := Lib.hid ((hk _ HN.out.2.2.2.2.1).trans BC.out); replace HR0 := Lib.hid (R_off HR0.out HN.out.2.2.2.2.2.2.1 hk); replace HR1 := Lib.hid (R_off HR1.out HN.out.2.2.2.2.2.2.1 hk); replace HR2 := Lib.hid (R_off HR2.out HN.out.2.2.2.2.2.2.1 hk); replace HR3 := Lib.hid (R_off HR3.out HN.out.2.2.2.2.2.2.1 hk); replace HS0 := Lib.hid (R_offk HS0.out HN.out.2.2.2.2.2.2.1 hk); replace HT1 := Lib.hid (R_offk HT1.out (Nat.lt_of_lt_of_le HN.out.2.2.2.2.2.2.1 HmW.out) hk); replace HmX := Lib.hid (show mm ≤ W4.heap.size by have := HmX.out; omega); replace HB := Lib.hid (hb _ _ HB.out HN.out.2.2.1); replace HW0 : Hid (W0.heap.size ≤ W4.heap.size) := Lib.hid (by have := HW0.out; omega); clear BX' hk hb hz)
    | ((with_reducible refine wpList_load_blk (op := ⟨some 20, _, _, _, _, _⟩) rfl 24 (.tmp 3) rfl gx 24 ?l1 #[v0, v1, v2, v3] _ ?l2 Tryd.underlying24 ?l3 ?l4 ?_); (case l1 => rfl); (case l2 => exact BX.out); (case l3 => rfl); (case l4 => exact infoF4))
    | ((with_reducible refine wpList_store_blk rfl 24 (.tmp 2) (.tmp 20) rfl gc 24 #[.slice none 0 0, .slice none 0 0, .slice none 0 0, .slice none 0 0] #[v0, v1, v2, v3] ?y1 ?y2 ?y3 ?y4 ?y5 ?y6 ?_); (case y1 => rfl); (case y2 => rfl); (case y3 => exact BC.out); (case y4 => exact infoF4); (case y5 => rfl); (case y6 => exact (by obtain ⟨_, _, e0⟩ := Kd.R_slice HR0.out; obtain ⟨_, _, e1⟩ := Kd.R_slice HR1.out; obtain ⟨_, _, e2⟩ := Kd.R_slice HR2.out; obtain ⟨_, _, e3⟩ := Kd.R_slice HR3.out; rw [e0, e1, e2, e3]; simp [Value.oneCell'])); intro W5 BC' hk hb hz; replace HR0 := Lib.hid (R_off HR0.out HN.out.2.2.2.2.2.2.2 hk); replace HR1 := Lib.hid (R_off HR1.out HN.out.2.2.2.2.2.2.2 hk); replace HR2 := Lib.hid (R_off HR2.out HN.out.2.2.2.2.2.2.2 hk); replace HR3 := Lib.hid (R_off HR3.out HN.out.2.2.2.2.2.2.2 hk); replace HS0 := Lib.hid (R_offk HS0.out HN.out.2.2.2.2.2.2.2 hk); replace HT1 := Lib.hid (R_offk HT1.out (Nat.lt_of_lt_of_le HN.out.2.2.2.2.2.2.2 HmW.out) hk); replace HmX := Lib.hid (show mm ≤ W5.heap.size by have := HmX.out; omega); replace HB := Lib.hid (hb _ _ HB.out HN.out.2.1); clear hk hb hz))
  refine bodyPost_ret (v := .agg #[v0, v1, v2, v3]) (results_cell_row (p := 2) (ty := 24) rfl _ _ gc 24 #[v0, v1, v2, v3] (0, 0) _ (by rfl) BC' Tryd.underlying24 rfl infoF4) rfl ?_
  exact ⟨v0, v1, v2, v3, rfl, ⟨Kd.R_lower HR0.out (Nat.le_trans HN.out.2.2.1 (Nat.le_of_lt HN.out.2.2.2.2.2.2.1)), Kd.R_lower HR1.out (Nat.le_trans HN.out.2.2.1 (Nat.le_of_lt HN.out.2.2.2.2.2.2.1)), Kd.R_lower HR2.out (Nat.le_trans HN.out.2.2.1 (Nat.le_of_lt HN.out.2.2.2.2.2.2.1)), Kd.R_lower HR3.out (Nat.le_trans HN.out.2.2.1 (Nat.le_of_lt HN.out.2.2.2.2.2.2.1))⟩, ⟨mm, Kd.R_lower HS0.out (Nat.le_trans HN.out.2.2.1 (Nat.le_of_lt HN.out.2.2.2.2.2.2.1)), HT1.out, Nat.le_trans (Nat.le_trans HN.out.2.2.1 (Nat.le_of_lt HN.out.2.2.2.2.2.2.1)) HmW.out, HmX.out⟩, HB.out⟩
end Go.Proofs.YtiaggfjfgoiafaaDoor

/- SameRequest, SameRequests: are two requests, two lists of them, the same? -/
namespace Go.Proofs.YtiaggfjfgoiafaaDoor
open Go.RowKit Go.Proofs.YtiaggfjfgoiafaaDoorW.PrintWords Go.Proofs.YtiaggfjfgoiafaaDoorW.PrintLast
theorem rq_ob (r : Rq) (v4 v27 : Value) : ∀ (j : Nat) (u : Value), (r.ob.cells v4 v27)[j]? = some u → (r.cells v4 v27)[1 + j]? = some u := by
  intro j u hu
  have hj : j < 32 := by
    have := (Array.getElem?_eq_some_iff.1 hu).1
    rwa [Ob.cells_size] at this
  have e : r.cells v4 v27 = #[Value.int .i64 r.verb] ++ (r.ob.cells v4 v27 ++ #[.int .i64 r.kind, .string r.name, .int .i64 r.version, .string r.node, .int .i64 r.phase, .bool r.ready, .int .i64 r.now, .string r.«by», .int .i64 r.term]) := by kernel_rfl
  rw [e, Array.getElem?_append_right (by simp), Array.getElem?_append_left (by rw [Ob.cells_size]; simp; omega)]
  simpa using hu
theorem rcells_at0 (r : Rq) (v4 v27 : Value) (h : 0 < (r.cells v4 v27).size) : (r.cells v4 v27)[0]'h = .int .i64 r.verb := rfl
theorem rcells_at33 (r : Rq) (v4 v27 : Value) (h : 33 < (r.cells v4 v27).size) : (r.cells v4 v27)[33]'h = .int .i64 r.kind := rfl
theorem rcells_at34 (r : Rq) (v4 v27 : Value) (h : 34 < (r.cells v4 v27).size) : (r.cells v4 v27)[34]'h = .string r.name := rfl
theorem rcells_at35 (r : Rq) (v4 v27 : Value) (h : 35 < (r.cells v4 v27).size) : (r.cells v4 v27)[35]'h = .int .i64 r.version := rfl
theorem rcells_at36 (r : Rq) (v4 v27 : Value) (h : 36 < (r.cells v4 v27).size) : (r.cells v4 v27)[36]'h = .string r.node := rfl
theorem rcells_at37 (r : Rq) (v4 v27 : Value) (h : 37 < (r.cells v4 v27).size) : (r.cells v4 v27)[37]'h = .int .i64 r.phase := rfl
theorem rcells_at38 (r : Rq) (v4 v27 : Value) (h : 38 < (r.cells v4 v27).size) : (r.cells v4 v27)[38]'h = .bool r.ready := rfl
theorem rcells_at39 (r : Rq) (v4 v27 : Value) (h : 39 < (r.cells v4 v27).size) : (r.cells v4 v27)[39]'h = .int .i64 r.now := rfl
theorem rcells_at40 (r : Rq) (v4 v27 : Value) (h : 40 < (r.cells v4 v27).size) : (r.cells v4 v27)[40]'h = .string r.«by» := rfl
theorem rcells_at41 (r : Rq) (v4 v27 : Value) (h : 41 < (r.cells v4 v27).size) : (r.cells v4 v27)[41]'h = .int .i64 r.term := rfl
attribute [local go_sem] rcells_at0 rcells_at33 rcells_at34 rcells_at35 rcells_at36 rcells_at37 rcells_at38 rcells_at39 rcells_at40 rcells_at41
def sameR (r s : Rq) : Bool := decide (r.verb = s.verb) && (sameB r.ob s.ob && (decide (r.kind = s.kind) && decide (r.name.toList = s.name.toList) && decide (r.version = s.version) && decide (r.node.toList = s.node.toList) && decide (r.phase = s.phase) && decide (r.ready = s.ready) && decide (r.now = s.now) && decide (r.«by».toList = s.«by».toList) && decide (r.term = s.term)))
theorem sameR_iff (r s : Rq) : sameR r s = true ↔ r = s := by
  constructor
  · intro h
    simp only [sameR, tl_inj, Bool.and_eq_true, decide_eq_true_eq, sameB_iff] at h
    obtain ⟨a0, a1, ⟨⟨⟨⟨⟨⟨⟨⟨a2, a3⟩, a4⟩, a5⟩, a6⟩, a7⟩, a8⟩, a9⟩, a10⟩⟩ := h
    cases r
    cases s
    simp only at a0 a1 a2 a3 a4 a5 a6 a7 a8 a9 a10
    subst_vars
    rfl
  · rintro rfl
    simp [sameR, sameB_dec]
instance rqDec : DecidableEq Rq := fun o p => decidable_of_iff (sameR o p = true) (sameR_iff o p)
theorem sameR_dec (o p : Rq) : sameR o p = decide (o = p) := by
  rw [Bool.eq_iff_iff, sameR_iff, decide_eq_true_eq]
theorem rq_cells_at {W : World} {g : Nat} {r : Rq} {v4 v27 : Value} (h : W.heap[g]? = some (.cells (r.cells v4 v27) 42 (0, 0))) : ∀ (j : Nat) (u : Value), (r.ob.cells v4 v27)[j]? = some u → W.cell? ((⟨g, 1, none⟩ : Addr).add j) = some u := fun j u hu => by
  rw [add_at, cell_of_row _ _ _ _ _ _ h]
  exact rq_ob r v4 v27 j u hu
set_option maxRecDepth 100000 in
set_option maxHeartbeats 4000000 in
theorem sameReq_calls (r s : Rq) (v4 v27 u4 u27 : Value) (w : World) (l4 : LabK w r.ob.labels v4) (l27 : LabK w r.ob.select v27) (m4 : LabK w s.ob.labels u4) (m27 : LabK w s.ob.select u27) :
    Calls Tryd.prog 20 #[.agg (r.cells v4 v27), .agg (s.cells u4 u27)] w fun e w' => e = .returned (.bool (sameR r s)) ∧ Below w.heap.size w w' := by
  obtain ⟨cs, hcs⟩ : ∃ cs, cs = r.cells v4 v27 := ⟨_, rfl⟩
  obtain ⟨ds, hds⟩ : ∃ ds, ds = s.cells u4 u27 := ⟨_, rfl⟩
  obtain ⟨oc, hoc⟩ : ∃ cs, cs = r.ob.cells v4 v27 := ⟨_, rfl⟩
  obtain ⟨pc, hpc⟩ : ∃ ds, ds = s.ob.cells u4 u27 := ⟨_, rfl⟩
  obtain ⟨sb, hsb⟩ : ∃ b, b = sameB r.ob s.ob := ⟨_, rfl⟩
  have QS := Lib.hid (fun (W : World) (hW : Below w.heap.size w W) => sameObject_calls r.ob s.ob v4 v27 u4 u27 W (l4.below hW) (l27.below hW) (m4.below hW) (m27.below hW))
  have hi1 : Hid ((Tryd.prog.info? 39).map (·.size) = some oc.size) := Lib.hid (by rw [hoc, Ob.cells_size]; kernel_rfl)
  have hi2 : Hid ((Tryd.prog.info? 39).map (·.size) = some pc.size) := Lib.hid (by rw [hpc, Ob.cells_size]; kernel_rfl)
  have HX1 : Hid (∀ W : World, W.heap[w.heap.size]? = some (.cells cs 42 (0, 0)) → (∀ (j : Nat) (u : Value), oc[j]? = some u → W.cell? ((⟨w.heap.size, 1, none⟩ : Addr).add j) = some u) ∧ ∀ (j : Nat) (u : Value), (r.cells v4 v27)[j]? = some u → W.cell? ⟨w.heap.size, j, none⟩ = some u) :=
    Lib.hid (fun W h => by rw [hcs] at h; rw [hoc]; exact ⟨rq_cells_at h, fun j u hu => (cell_of_row _ _ _ _ _ _ h).trans hu⟩)
  have HX2 : Hid (∀ W : World, W.heap[w.heap.size + 1]? = some (.cells ds 42 (0, 0)) → (∀ (j : Nat) (u : Value), pc[j]? = some u → W.cell? ((⟨w.heap.size + 1, 1, none⟩ : Addr).add j) = some u) ∧ ∀ (j : Nat) (u : Value), (s.cells u4 u27)[j]? = some u → W.cell? ⟨w.heap.size + 1, j, none⟩ = some u) :=
    Lib.hid (fun W h => by rw [hds] at h; rw [hpc]; exact ⟨rq_cells_at h, fun j u hu => (cell_of_row _ _ _ _ _ _ h).trans hu⟩)
  rw [← hcs, ← hds]
  rw [← hoc, ← hpc, ← hsb] at QS
  have es : sameR r s = (decide (r.verb = s.verb) && (sb && (decide (r.kind = s.kind) && decide (r.name.toList = s.name.toList) && decide (r.version = s.version) && decide (r.node.toList = s.node.toList) && decide (r.phase = s.phase) && decide (r.ready = s.ready) && decide (r.now = s.now) && decide (r.«by».toList = s.«by».toList) && decide (r.term = s.term)))) := by rw [hsb]; rfl
  obtain ⟨rb, hrb⟩ : ∃ rb, rb = sameR r s := ⟨_, rfl⟩
  rw [← hrb]
  rw [← hrb] at es
  have HR := Lib.hid es
  have HM := Lib.hid (Eq.refl 0)
  clear hcs hds hoc hpc hsb es l4 l27 m4 m27 hrb
  go_enter Tryd.func20, Tryd.ntmps20
  simp only [List.append_eq, List.cons_append, List.nil_append]
  go_wp2_with (first
    | ((with_reducible refine gate_ (.fieldAddr 42 (.tmp 2) 0) rfl ?_); clear HM; (have HW : Hid (Below w.heap.size w ((w.alloc (Obj.cells cs 42)).alloc (Obj.cells ds 42))) := Lib.hid (Go.Joins.below_alloc2 w _ _)); (have B1 : Hid (((w.alloc (Obj.cells cs 42)).alloc (Obj.cells ds 42)).heap[w.heap.size]? = some (.cells cs 42 (0, 0))) := Lib.hid ((heap_alloc_old _ _ (by simp)).trans (heap_alloc_new w _))); (have B2 : Hid (((w.alloc (Obj.cells cs 42)).alloc (Obj.cells ds 42)).heap[w.heap.size + 1]? = some (.cells ds 42 (0, 0))) := Lib.hid (heap_alloc2_new w _ _)); (generalize ((w.alloc (Obj.cells cs 42)).alloc (Obj.cells ds 42)) = W0 at HW B1 B2 ⊢); obtain ⟨ga, hga⟩ : ∃ x, x = w.heap.size := ⟨_, rfl⟩; obtain ⟨gb, hgb⟩ : ∃ x, x = w.heap.size + 1 := ⟨_, rfl⟩; rw [← hgb] at B2 HX2 ⊢; rw [← hga] at B1 HX1 ⊢; (have HC1 := Lib.hid (HX1.out _ B1.out).2); (have HC2 := Lib.hid (HX2.out _ B2.out).2); clear hga hgb)
    | ((with_reducible refine wpList_load_any_w ?lg 39 _ rfl ⟨ga, 1, none⟩ ?lx oc _ ?lc Tryd.underlying39 ?ld ?li ?_); (case lg => rfl); (case lx => rfl); (case lc => exact (HX1.out _ B1.out).1); (case ld => rfl); (case li => exact hi1.out))
    | ((with_reducible refine wpList_load_any_w ?lg2 39 _ rfl ⟨gb, 1, none⟩ ?lx2 pc _ ?lc2 Tryd.underlying39 ?ld2 ?li2 ?_); (case lg2 => rfl); (case lx2 => rfl); (case lc2 => exact (HX2.out _ B2.out).1); (case ld2 => rfl); (case li2 => exact hi2.out))
    | (go_at_call 16; (with_reducible refine (QS.out _ HW.out).mono ?_); rintro e w1 ⟨rfl, hb⟩; replace HC1 := Lib.hid (fun j u h => cell_below hb (HC1.out j u h)); replace HC2 := Lib.hid (fun j u h => cell_below hb (HC2.out j u h)); replace HW := Lib.hid (belT HW.out hb); clear hb)
    | ((with_reducible refine gate_ (.load 3 _) rfl ?_); first | refine wpList_load1_w 3 _ rfl _ rfl rfl _ _ (HC1.out _ _ rfl) Tryd.underlying3 rfl ?_ | refine wpList_load1_w 3 _ rfl _ rfl rfl _ _ (HC2.out _ _ rfl) Tryd.underlying3 rfl ?_)
    | ((with_reducible refine gate_ (.load 9 _) rfl ?_); first | refine wpList_load1_w 9 _ rfl _ rfl rfl _ _ (HC1.out _ _ rfl) Tryd.underlying9 rfl ?_ | refine wpList_load1_w 9 _ rfl _ rfl rfl _ _ (HC2.out _ _ rfl) Tryd.underlying9 rfl ?_)
    | ((with_reducible refine gate_ (.load 4 _) rfl ?_); first | refine wpList_load1_w 4 _ rfl _ rfl rfl _ _ (HC1.out _ _ rfl) Tryd.underlying4 rfl ?_ | refine wpList_load1_w 4 _ rfl _ rfl rfl _ _ (HC2.out _ _ rfl) Tryd.underlying4 rfl ?_))
  all_goals go_ret
  all_goals (refine ⟨?_, HW.out⟩; clear HC1 HC2 HW; rw [HR.out]; clear HR QS HX1 HX2; first | (simp_all; done) | (simp_all; rw [Bool.eq_iff_iff]; simp))
structure RqAt (w : World) (ad : Addr) (k : Nat) (o : Rq) (v4 v27 : Value) : Prop where
  l4 : LabK w o.ob.labels v4
  l27 : LabK w o.ob.select v27
  cells : ∀ (j : Nat) (u : Value), (o.cells v4 v27)[j]? = some u → w.cell? ((ad.add (k * 42)).add j) = some u
theorem RqAt.below {w w1 : World} {ad : Addr} {k : Nat} {o : Rq} {v4 v27 : Value} (h : RqAt w ad k o v4 v27) (hb : Below w.heap.size w w1) : RqAt w1 ad k o v4 v27 :=
  ⟨h.l4.below hb, h.l27.below hb, fun j u hu => cell_below hb (h.cells j u hu)⟩
theorem rqAt {w : World} {A : Option Addr} {n : Nat} {l : List Rq} (h : kRq.C w A n l) (k : Nat) (o : Rq) (hk : l[k]? = some o) : ∃ ad v4 v27, A = some ad ∧ RqAt w ad k o v4 v27 := by
  obtain ⟨ad, v4, v27, e, h4, h27, hc⟩ := rq_at h k o hk
  exact ⟨ad, v4, v27, e, h4, h27, hc⟩
theorem take_sameR {l m : List Rq} {k : Nat} (h : l.take k = m.take k) {o p : Rq} (ho : l[k]? = some o) (hp : m[k]? = some p) : l.take (k + 1) = m.take (k + 1) ↔ o = p := by
  rw [List.take_add_one, List.take_add_one, h, ho, hp]
  simp
def rg7_6_T : Bool × List (List Nat × List Nat) := (true, [([], []), ([], []), ([0, 1], [0, 1]), ([2], [2]), ([], []), ([], []), ([4, 5], [4, 5]), ([6], [6]), ([3, 7], [3, 7]), ([8], [8])])
def rg7_6_B : List Nat := [0, 0, 3, 7, 0, 0, 48, 112, 255, 511]
theorem rg7_6_tab : rtab .any (opsOf Tryd.f7 6) = rg7_6_T := by kernel_rfl
theorem rg7_6_bits : waitsOk rg7_6_T.2 rg7_6_B = true := by kernel_rfl
set_option maxHeartbeats 1600000 in
set_option maxRecDepth 100000 in
theorem sameReqs_eq (A B : Option Addr) (l m : List Rq) (c d n : Nat) (w : World) (hr : kRq.C w A l.length l) (hs : kRq.C w B m.length m) (hl : l.length = n) (hm : m.length = n) (hn : n ≤ 1000000) :
    Calls Tryd.prog 7 #[.slice A n c, .slice B n d] w fun e w' => e = .returned (.bool (decide (l = m))) ∧ Below w.heap.size w w' := by
  have HR := Lib.hid hr
  have HS := Lib.hid hs
  have HL := Lib.hid (And.intro hl hm)
  clear hr hs hl hm
  go_enter Tryd.func7, Tryd.ntmps7
  go_wp2
  go_loopw [5] (fun v5 wr => ∃ k : Nat, k ≤ n ∧ v5 = .int .i64 k ∧ Hid (l.take k = m.take k ∧ Below w.heap.size w wr)) (fun v5 _ => n - (intOf v5).toNat)
  case atStart => exact ⟨0, Nat.zero_le _, rfl, Lib.hid ⟨by simp, Below.refl _ _⟩⟩
  case round =>
    obtain ⟨k, hk, rfl, hI⟩ := hrel
    by_cases hlt : k < n
    · obtain ⟨o, ho⟩ : ∃ o, l[k]? = some o := ⟨_, List.getElem?_eq_getElem (by have := HL.out; omega)⟩
      obtain ⟨p, hp⟩ : ∃ p, m[k]? = some p := ⟨_, List.getElem?_eq_getElem (by have := HL.out; omega)⟩
      obtain ⟨ad, v4, v27, rfl, hO⟩ := rqAt (Kd.C_below HR.out hI.out.2) k o ho
      obtain ⟨bd, u4, u27, rfl, hP⟩ := rqAt (Kd.C_below HS.out hI.out.2) k p hp
      obtain ⟨cs, hcs⟩ : ∃ cs, cs = o.cells v4 v27 := ⟨_, rfl⟩
      obtain ⟨ds, hds⟩ : ∃ ds, ds = p.cells u4 u27 := ⟨_, rfl⟩
      have hi1 : Hid ((Tryd.prog.info? 42).map (·.size) = some cs.size) := Lib.hid (by rw [hcs, Rq.cells_size]; kernel_rfl)
      have hi2 : Hid ((Tryd.prog.info? 42).map (·.size) = some ds.size) := Lib.hid (by rw [hds, Rq.cells_size]; kernel_rfl)
      have B1 := hO.cells
      have B2 := hP.cells
      rw [← hcs] at B1
      rw [← hds] at B2
      obtain ⟨rb, hrb⟩ : ∃ rb, rb = sameR o p := ⟨_, rfl⟩
      have QS := Lib.hid (fun (W : World) (hW : Below wr.heap.size wr W) => sameReq_calls o p v4 v27 u4 u27 W (hO.l4.below hW) (hO.l27.below hW) (hP.l4.below hW) (hP.l27.below hW))
      rw [← hrb, ← hcs, ← hds] at QS
      have HT := Lib.hid (And.intro ho (And.intro hp hrb))
      replace B1 := Lib.hid (fun (W : World) (hW : Below wr.heap.size wr W) j u hu => cell_below hW (B1 j u hu))
      replace B2 := Lib.hid (fun (W : World) (hW : Below wr.heap.size wr W) j u hu => cell_below hW (B2 j u hu))
      clear ho hp hrb hcs hds hO hP
      have HB : Below wr.heap.size wr wr := Below.refl _ _
      replace HB := below_drew HB
      have hlk : (k : Int) < (n : Int) := by omega
      go_upto_region 6 with (fail)
      refine start_ (n := 10) (S := fun w' => Below wr.heap.size wr w') (ds := []) (bs 10 0) (by kernel_rfl) rfl (by kernel_rfl) HB (fun hHeld => ?_)
      refine with_tabW rg7_6_tab rg7_6_bits (fun HT_ HW_ => ?_)
      refine pu 0 (some 17) (bs 10 1) HT_ rfl rfl (by kernel_rfl) (fun _ _ _ _ h => h) ⟨_, .inl ⟨by rfl, fun _ => by go_simp; with_reducible rfl⟩, _, by simp only [Act.put, sA, sB, sC, i64_w, i32_w]; rfl, ?_⟩
      refine pu 1 (some 18) (bs 10 3) HT_ rfl rfl (by kernel_rfl) (fun _ _ _ _ h => h) ⟨_, .inl ⟨by rfl, fun _ => by go_simp; with_reducible rfl⟩, _, by simp only [Act.put, sA, sB, sC, i64_w, i32_w]; rfl, ?_⟩
      refine pu 2 (some 19) (bs 10 7) HT_ rfl rfl (by kernel_rfl) (fun _ _ _ _ h => h) ⟨_, .inl ⟨by rfl, fun _ => by go_simp; with_reducible rfl⟩, _, by simp only [Act.put, sA, sB, sC, i64_w, i32_w]; rfl, ?_⟩
      refine pu 4 (some 21) (bs 10 23) HT_ rfl rfl (by kernel_rfl) (fun _ _ _ _ h => h) ⟨_, .inl ⟨by rfl, fun _ => by go_simp; with_reducible rfl⟩, _, by simp only [Act.put, sA, sB, sC, i64_w, i32_w]; rfl, ?_⟩
      refine pu 5 (some 22) (bs 10 55) HT_ rfl rfl (by kernel_rfl) (fun _ _ _ _ h => h) ⟨_, .inl ⟨by rfl, fun _ => by go_simp; with_reducible rfl⟩, _, by simp only [Act.put, sA, sB, sC, i64_w, i32_w]; rfl, ?_⟩
      refine pu 6 (some 23) (bs 10 119) HT_ rfl rfl (by kernel_rfl) (fun _ _ _ _ h => h) ⟨_, .inl ⟨by rfl, fun _ => by go_simp; with_reducible rfl⟩, _, by simp only [Act.put, sA, sB, sC, i64_w, i32_w]; rfl, ?_⟩
      refine tk 3 (some 20) (bs 10 127) HT_ HW_ rfl rfl (by kernel_rfl) (fun _ _ _ _ h => h) hHeld ⟨_, .inl ⟨by rfl, by rintro w' s0; refine load_any_ (x := .tmp 19) (p := ad.add (k * 42)) ?_ ?_ (B1.out _ s0) Tryd.underlying42 rfl hi1.out <;> rfl⟩, _, by simp only [Act.put, sA, sB, sC, i64_w, i32_w]; rfl, ?_⟩
      refine tk 7 (some 24) (bs 10 255) HT_ HW_ rfl rfl (by kernel_rfl) (fun _ _ _ _ h => h) hHeld ⟨_, .inl ⟨by rfl, by rintro w' s0; refine load_any_ (x := .tmp 23) (p := bd.add (k * 42)) ?_ ?_ (B2.out _ s0) Tryd.underlying42 rfl hi2.out <;> rfl⟩, _, by simp only [Act.put, sA, sB, sC, i64_w, i32_w]; rfl, ?_⟩
      refine on1 8 (some 25) (bs 10 511) HT_ rfl rfl (by kernel_rfl) (by decide) (fun K hK => ?_)
      refine goes_ Tryd.func20 (by kernel_rfl) rfl #[.agg cs, .agg ds] (by rfl) rfl rfl (by (try simp only [List.map_toArray, List.map_cons, List.map_nil]); first | done | rfl) ?_
      with_reducible refine (QS.out _ HB).mono ?_
      rintro e w1 ⟨rfl, hb⟩
      replace HB := belT HB hb
      clear hb
      refine ⟨_, rfl, ?_⟩
      refine hK.out _ _ HB (fun hHeld => ?_)
      clear hK K
      refine nm ⟨_, show Act.put _ (some 25) _ = _ by simp only [Act.put, sA, sB, sC, i64_w, i32_w]; rfl, ?_⟩
      refine pu 9 (some 26) (bs 10 1023) HT_ rfl rfl (by kernel_rfl) (fun _ _ _ _ h => h) ⟨_, .inl ⟨by rfl, fun _ => by go_simp; with_reducible rfl⟩, _, by simp only [Act.put, sA, sB, sC, i64_w, i32_w]; rfl, ?_⟩
      refine done_ (done_of HT_.out (by kernel_rfl)) ?_
      cases rb
      · go_wp2
        go_ret
        refine ⟨?_, belT hI.out.2 HB⟩
        have e : ¬ l = m := fun e => by
          subst e
          obtain ⟨h1, h2, h3⟩ := HT.out
          rw [h1] at h2
          injection h2 with h2
          subst h2
          rw [sameR_dec] at h3
          simp at h3
        rw [decide_eq_false e]
        rfl
      · go_wp2
        go_roundw
        case rel =>
          obtain ⟨h1, h2, h3⟩ := HT.out
          rw [sameR_dec] at h3
          exact ⟨k + 1, by omega, by go_num, Lib.hid ⟨(take_sameR hI.out.1 h1 h2).2 (of_decide_eq_true h3.symm), belT hI.out.2 HB⟩⟩
        case measure => simp [intOf]; omega
    · obtain rfl : k = n := by omega
      go_wp2
      go_ret
      refine ⟨?_, hI.out.2⟩
      obtain ⟨h1, h2⟩ := HL.out
      have h := hI.out.1
      rw [← h1, List.take_length, h1, ← h2, List.take_length] at h
      rw [decide_eq_true h]
      rfl
theorem sameReqs_calls (A B : Option Addr) (l m : List Rq) (c d : Nat) (w : World) (hr : kRq.C w A l.length l) (hs : kRq.C w B m.length m) (hn : l.length ≤ 1000000) :
    Calls Tryd.prog 7 #[.slice A l.length c, .slice B m.length d] w fun e w' => e = .returned (.bool (decide (l = m))) ∧ Below w.heap.size w w' := by
  by_cases h : l.length = m.length
  · have := sameReqs_eq A B l m c d l.length w hr hs rfl h.symm hn
    rw [← h]
    exact this
  · have hne : ¬ l = m := fun e => h (by rw [e])
    rw [decide_eq_false hne]
    have e1 : ((l.length : Int) != (m.length : Int)) = true := by simp; omega
    clear hr hs hne
    go_enter Tryd.func7, Tryd.ntmps7
    go_wp2
    go_ret
    exact ⟨rfl, Below.refl _ _⟩
end Go.Proofs.YtiaggfjfgoiafaaDoor
