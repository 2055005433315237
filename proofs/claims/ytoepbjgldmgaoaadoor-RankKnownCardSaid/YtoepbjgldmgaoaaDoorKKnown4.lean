/- Lemmas on which the law stands, part 4: SymL, Mrg, SymP, SymM, Stb, Ord, Stable, SortK, SortR, Vict, LentO, Five, Works, SameL, LentS, Kept, ApL, Copy, Bld, Apnd, ApLB. -/
import Derived.Test.YtoepbjgldmgaoaaDoorKKnown3
import Derived.Test.YtoepbjgldmgaoaaDoorWApart
set_option linter.unusedVariables false
set_option linter.unusedSimpArgs false
/- slices' symMerge over a block of objects: one element behind a sorted row. -/
namespace Go.Proofs.YtoepbjgldmgaoaaDoor
open Go.RowKit Go.Proofs.YtoepbjgldmgaoaaDoorW.PrintWords Go.Proofs.YtoepbjgldmgaoaaDoorW.PrintLast
def rg106_17_T : Bool × List (List Nat × List Nat) := (true, [([], []), ([], []), ([], []), ([1, 2], [1, 2]), ([3], [3]), ([], []), ([], []), ([5, 6], [5, 6]), ([7], [7]), ([0, 4, 8], [0, 4, 8]), ([9], [9]), ([10], [10])])
def rg106_17_B : List Nat := [0, 0, 0, 6, 14, 0, 0, 96, 224, 511, 1023, 2047]
theorem rg106_17_tab : rtab .any (opsOf Tryd.f106 17) = rg106_17_T := by kernel_rfl
theorem rg106_17_bits : waitsOk rg106_17_T.2 rg106_17_B = true := by kernel_rfl
def rg106_23_T : Bool × List (List Nat × List Nat) := (true, [([], []), ([], []), ([], []), ([], []), ([3], [3]), ([], []), ([], []), ([6], [6]), ([5, 7], [5, 7]), ([8], [8]), ([], []), ([], []), ([10, 11], [10, 11]), ([12], [12]), ([0, 1, 0, 1, 5, 6, 7, 8, 9, 13], [0, 1]), ([14, 9, 0, 1, 5, 6, 7, 8, 9, 13], [9, 14]), ([2, 4, 0, 1, 2, 3, 4, 5, 6, 7, 8, 9, 10, 11, 12, 13, 14, 15], [2, 4]), ([16, 13, 15, 0, 1, 2, 3, 4, 5, 6, 7, 8, 9, 10, 11, 12, 13, 14, 15], [13, 16])])
def rg106_23_B : List Nat := [0, 0, 0, 0, 8, 0, 0, 64, 224, 480, 0, 0, 3072, 7168, 16355, 32739, 65535, 131071]
theorem rg106_23_tab : rtab .any (opsOf Tryd.f106 23) = rg106_23_T := by kernel_rfl
theorem rg106_23_bits : waitsOk rg106_23_T.2 rg106_23_B = true := by kernel_rfl
theorem merge_last (c : Array Value → Array Value → Int) (x : Array Value) (A1 A2 : List (Array Value)) (h1 : ∀ s ∈ A1, ¬ c x s < 0) (h2 : ∀ s ∈ A2, c x s < 0) : Srt.merge c (A1 ++ A2) [x] = A1 ++ x :: A2 := by
  have e1 := Srt.merge_split (c := c) _ A1 [] A2 [x] (Nat.le_refl _) (fun a' ha b hb => by rw [List.mem_singleton.1 hb]; exact h1 a' ha) (fun _ _ _ h => absurd h List.not_mem_nil)
  have e2 := Srt.merge_split (c := c) _ [] [x] A2 [] (Nat.le_refl _) (fun _ h => absurd h List.not_mem_nil) (fun a' ha b hb => by rw [List.mem_singleton.1 hb]; exact h2 a' ha)
  rw [Srt.merge_nil_right] at e1
  rw [Srt.merge_nil_left, Srt.merge_nil_right] at e2
  simp only [List.nil_append, List.append_nil] at e1 e2
  rw [e1, e2]
  rfl
set_option maxHeartbeats 16000000 in
set_option maxRecDepth 100000 in
theorem sym_last (f : FuncId) (D : Array Value → Prop) (c : Array Value → Array Value → Int) (hcmp : CmpAt f D c) (hc : Wc.IsCmp c) (X B Z : List (Array Value)) (x : Array Value) (hB : 2 ≤ B.length) (hs : Srt.Sorted c B) (hDx : D x) (hDB : ∀ y ∈ B, D y)
    (g cap len : Nat) (hlen : len = (X ++ B ++ [x] ++ Z).length) (hcap : len ≤ cap) (hn : len ≤ 1099511627776) (a m b : Int) (ha : a = X.length) (hm : m = (X.length + B.length : Nat)) (hb : b = (X.length + B.length + 1 : Nat)) (w : World) (hR : RowsAt w g 32 (X ++ B ++ [x] ++ Z)) :
    Calls Tryd.prog 106 #[.slice (some ⟨g, 0, none⟩) len cap, .int .i64 a, .int .i64 m, .int .i64 b, .func (.func f) #[] #[]] w fun e w' =>
      (∃ v, e = .returned v) ∧ RowsAt w' g 32 (X ++ Srt.merge c B [x] ++ Z) ∧ But g w w' := by
  have HC := Lib.hid hcmp
  have HR := Lib.hid hR
  obtain ⟨fn, hf1, hf2, hf3⟩ := hcmp.fn
  have HF := Lib.hid (And.intro hf1 (And.intro hf2 hf3))
  have hle : len = X.length + B.length + 1 + Z.length := by rw [hlen]; simp; omega
  have e1 : (wrap64 (m - a) == 1) = false := beq_eq_false_iff_ne.mpr (by unfold wrap64; omega)
  have e2 : (wrap64 (b - m) == 1) = true := beq_iff_eq.mpr (by unfold wrap64; omega)
  have HA := Lib.hid (And.intro ha (And.intro hm (And.intro hb (And.intro hle (And.intro hs (And.intro hDx (And.intro hDB hB)))))))
  clear hcmp hR hf1 hf2 hf3 ha hm hb hle hs hDx hDB hlen hB
  go_enter Tryd.func106, Tryd.ntmps106
  go_wp2
  go_loopw [14, 15] (fun v10 v11 wr => ∃ (B1 Bm B2 : List (Array Value)) (zi zj : Int), v10 = .int .i64 zi ∧ v11 = .int .i64 zj ∧ Hid (zi = a + B1.length ∧ zj = a + B1.length + Bm.length ∧ B = B1 ++ Bm ++ B2 ∧ (∀ s ∈ B1, 0 ≤ c x s) ∧ (∀ s ∈ B2, c x s < 0) ∧ RowsAt wr g 32 (X ++ B ++ [x] ++ Z) ∧ But g w wr)) (fun v10 v11 _ => (intOf v11 - intOf v10).toNat)
  case atStart => exact ⟨[], B, [], a, m, rfl, rfl, Lib.hid ⟨by simp, by have := HA.out; simp; omega, by simp, fun _ h => absurd h List.not_mem_nil, fun _ h => absurd h List.not_mem_nil, HR.out, But.refl _ _⟩⟩
  case round =>
    obtain ⟨B1, Bm, B2, zi, zj, rfl, rfl, hI⟩ := hrel
    by_cases hlt : zi < zj
    · have d1 : decide (zi < zj) = true := decide_eq_true hlt
      obtain ⟨i1, i2, i3, i4, i5, i6, i7⟩ := hI.out
      obtain ⟨k1, k2, k3, k4, k5, k6, k7, k8⟩ := HA.out
      have hBl := congrArg List.length i3
      rw [List.length_append, List.length_append] at hBl
      obtain ⟨zh, hzh⟩ : ∃ zh : Int, zh = (zi + zj) / 2 := ⟨_, rfl⟩
      have eh : wrap64 (IntKind.u64.wrap (wrap64 (zi + zj)) / 2) = zh := by rw [half_ _ (by omega) (by omega), hzh]
      obtain ⟨P, y, Q, rfl, hP⟩ : ∃ P y Q, Bm = P ++ y :: Q ∧ (P.length : Int) = zh - zi := by
        have hlt2 : (zh - zi).toNat < Bm.length := by omega
        refine ⟨Bm.take (zh - zi).toNat, Bm[(zh - zi).toNat], Bm.drop ((zh - zi).toNat + 1), ?_, by rw [List.length_take]; omega⟩
        rw [← List.drop_eq_getElem_cons hlt2, List.take_append_drop]
      simp only [List.length_append, List.length_cons] at i2 hBl
      have J0 : (X ++ B ++ [x] ++ Z)[zh.toNat]? = some y := by
        rw [i3, show X ++ (B1 ++ (P ++ y :: Q) ++ B2) ++ [x] ++ Z = (X ++ B1 ++ P) ++ y :: (Q ++ B2 ++ [x] ++ Z) by simp]
        rw [show zh.toNat = (X ++ B1 ++ P).length by simp; omega]
        simp
      have J1 : (X ++ B ++ [x] ++ Z)[m.toNat]? = some x := by
        rw [show X ++ B ++ [x] ++ Z = (X ++ B) ++ x :: Z by simp, show m.toNat = (X ++ B).length by simp; omega]
        simp
      have dy : D y := k7 y (by rw [i3]; simp)
      obtain ⟨cv, hcv⟩ : ∃ cv, cv = c x y := ⟨_, rfl⟩
      have HQ := HC.out.calls x y k6 dy
      rw [← hcv] at HQ
      replace HQ := Lib.hid HQ
      have d2 : (0 ≤ zh) = True := eq_true (by omega)
      have d3 : (zh < (len : Int)) = True := eq_true (by omega)
      have d4 : (0 ≤ m) = True := eq_true (by omega)
      have d5 : (m < (len : Int)) = True := eq_true (by omega)
      have eq1 : wrap64 (zh + 1) = zh + 1 := by unfold wrap64; omega
      have hm1 : zh + 1 ≤ zj ∧ zi ≤ zh := by omega
      have hR2 := i6.below (below_drew (Below.refl _ _))
      have hBt := i7.trans (But.of_below (below_drew (Below.refl _ _)))
      have HZ := Lib.hid (And.intro hzh (And.intro hP (And.intro hcv (And.intro i1 (And.intro i2 (And.intro i3 (And.intro i4 (And.intro i5 (And.intro hm1 (And.intro eq1 hlt))))))))))
      replace J0 := Lib.hid J0
      replace J1 := Lib.hid J1
      have K5 := Lib.hid k5
      clear i1 i2 i3 i4 i5 i6 i7 k1 k2 k3 k4 k5 k6 k7 k8 hBl hzh hP dy hcv eq1 hm1 hlt
      go_upto_region 17 with (fail)
      refine start_ (n := 12) (S := fun w' => RowsAt w' g 32 (X ++ B ++ [x] ++ Z)) (ds := []) (bs 12 0) (by kernel_rfl) rfl (by kernel_rfl) hR2 (fun hHeld => ?_)
      refine with_tabW rg106_17_tab rg106_17_bits (fun HT_ HW_ => ?_)
      refine pu 0 (some 92) (bs 12 1) HT_ rfl rfl (by kernel_rfl) (fun _ _ _ _ h => h) ⟨_, .inl ⟨by rfl, fun _ => by go_simp; with_reducible rfl⟩, _, by simp only [Act.put, sA, sB, sC, i64_w, i32_w]; rfl, ?_⟩
      refine pu 1 (some 93) (bs 12 3) HT_ rfl rfl (by kernel_rfl) (fun _ _ _ _ h => h) ⟨_, .inl ⟨by rfl, fun _ => by go_simp; with_reducible rfl⟩, _, by simp only [Act.put, sA, sB, sC, i64_w, i32_w]; rfl, ?_⟩
      refine pu 2 (some 94) (bs 12 7) HT_ rfl rfl (by kernel_rfl) (fun _ _ _ _ h => h) ⟨_, .inl ⟨by rfl, fun _ => by go_simp; with_reducible rfl⟩, _, by simp only [Act.put, sA, sB, sC, i64_w, i32_w]; rfl, ?_⟩
      refine pu 3 (some 95) (bs 12 15) HT_ rfl rfl (by kernel_rfl) (fun _ _ _ _ h => h) ⟨_, .inl ⟨by rfl, fun _ => by go_simp; with_reducible rfl⟩, _, by simp only [Act.put, sA, sB, sC, i64_w, i32_w]; rfl, ?_⟩
      refine pu 5 (some 97) (bs 12 47) HT_ rfl rfl (by kernel_rfl) (fun _ _ _ _ h => h) ⟨_, .inl ⟨by rfl, fun _ => by go_simp; with_reducible rfl⟩, _, by simp only [Act.put, sA, sB, sC, i64_w, i32_w]; rfl, ?_⟩
      refine pu 6 (some 98) (bs 12 111) HT_ rfl rfl (by kernel_rfl) (fun _ _ _ _ h => h) ⟨_, .inl ⟨by rfl, fun _ => by go_simp; with_reducible rfl⟩, _, by simp only [Act.put, sA, sB, sC, i64_w, i32_w]; rfl, ?_⟩
      refine pu 7 (some 99) (bs 12 239) HT_ rfl rfl (by kernel_rfl) (fun _ _ _ _ h => h) ⟨_, .inl ⟨by rfl, fun _ => by go_simp; with_reducible rfl⟩, _, by simp only [Act.put, sA, sB, sC, i64_w, i32_w]; rfl, ?_⟩
      refine tk 4 (some 96) (bs 12 255) HT_ HW_ rfl rfl (by kernel_rfl) (fun _ _ _ _ h => h) hHeld ⟨_, .inl ⟨by rfl, by rintro w' s0; refine load_mid (x := .tmp 95) (j := m.toNat) ?_ ?_ rfl s0 J1.out Tryd.underlying48 rfl (by kernel_rfl) <;> rfl⟩, _, by simp only [Act.put, sA, sB, sC, i64_w, i32_w]; rfl, ?_⟩
      refine tk 8 (some 100) (bs 12 511) HT_ HW_ rfl rfl (by kernel_rfl) (fun _ _ _ _ h => h) hHeld ⟨_, .inl ⟨by rfl, by rintro w' s0; refine load_mid (x := .tmp 99) (j := zh.toNat) ?_ ?_ rfl s0 J0.out Tryd.underlying48 rfl (by kernel_rfl) <;> rfl⟩, _, by simp only [Act.put, sA, sB, sC, i64_w, i32_w]; rfl, ?_⟩
      refine on1 9 (some 101) (bs 12 1023) HT_ rfl rfl (by kernel_rfl) (by decide) (fun K hK => ?_)
      refine goesv_ (f := f) (x := .tmp 92) HF.out.1 HF.out.2.1 HF.out.2.2 #[.agg x, .agg y] (by rfl) rfl rfl rfl (by (try simp only [List.map_toArray, List.map_cons, List.map_nil]); first | done | rfl) ?_
      refine (HQ.out _).mono ?_
      rintro e w1 ⟨rfl, hb1⟩
      replace hR2 := hR2.below hb1
      replace hBt := hBt.trans (But.of_below hb1)
      clear hb1
      refine ⟨_, rfl, ?_⟩
      refine hK.out _ _ hR2 (fun hHeld => ?_)
      clear hK K
      refine nm ⟨_, show Act.put _ (some 101) _ = _ by simp only [Act.put, sA, sB, sC, i64_w, i32_w]; rfl, ?_⟩
      refine pu 10 (some 102) (bs 12 2047) HT_ rfl rfl (by kernel_rfl) (fun _ _ _ _ h => h) ⟨_, .inl ⟨by rfl, fun _ => by go_simp; with_reducible rfl⟩, _, by simp only [Act.put, sA, sB, sC, i64_w, i32_w]; rfl, ?_⟩
      refine pu 11 (some 103) (bs 12 4095) HT_ rfl rfl (by kernel_rfl) (fun _ _ _ _ h => h) ⟨_, .inl ⟨by rfl, fun _ => by go_simp; with_reducible rfl⟩, _, by simp only [Act.put, sA, sB, sC, i64_w, i32_w]; rfl, ?_⟩
      refine done_ (done_of HT_.out (by kernel_rfl)) ?_
      generalize hnb : (!decide (cv < 0)) = nb
      cases nb
      · have hneg : cv < 0 := by
          by_cases h9 : cv < 0
          · exact h9
          · rw [decide_eq_false h9] at hnb; cases hnb
        clear hnb
        go_wp2
        obtain ⟨j1, j2, j3, j4, j5, j6, j7, j8, j9, j10, j11⟩ := HZ.out
        go_roundw
        case rel =>
          refine ⟨B1, P, y :: Q ++ B2, zi, zh, rfl, by first | rfl | rw [eh], Lib.hid ⟨j4, by omega, by rw [j6]; simp, j7, fun s hs => ?_, hR2, hBt⟩⟩
          have hs5 := K5.out
          rw [j6] at hs5
          have hyx : c x y < 0 := by rw [← j3]; exact hneg
          rcases List.mem_append.1 hs with hs | hs
          · rcases List.mem_cons.1 hs with rfl | hs
            · exact hyx
            · have h3 : c y s ≤ 0 := (List.pairwise_cons.1 (List.pairwise_append.1 (List.pairwise_append.1 (List.pairwise_append.1 hs5).1).2.1).2.1).1 s hs
              exact hc.lt_trans hyx h3
          · exact j8 s hs
        case measure => simp [intOf]; omega
      · have hneg : ¬ cv < 0 := fun h9 => by rw [decide_eq_true h9] at hnb; cases hnb
        clear hnb
        go_wp2
        obtain ⟨j1, j2, j3, j4, j5, j6, j7, j8, j9, j10, j11⟩ := HZ.out
        go_roundw
        case rel =>
          refine ⟨B1 ++ P ++ [y], Q, B2, zh + 1, zj, by first | rfl | rw [j10], rfl, Lib.hid ⟨by simp; omega, by simp; omega, by rw [j6]; simp, fun s hs => ?_, j8, hR2, hBt⟩⟩
          have hs5 := K5.out
          rw [j6] at hs5
          have hyx : ¬ c x y < 0 := by rw [← j3]; exact hneg
          rcases List.mem_append.1 hs with hs | hs
          · rcases List.mem_append.1 hs with hs | hs
            · exact j7 s hs
            · have h3 : c s y ≤ 0 := (List.pairwise_append.1 (List.pairwise_append.1 (List.pairwise_append.1 hs5).1).2.1).2.2 s hs y List.mem_cons_self
              by_cases h6 : c x s < 0
              · have := hc.lt_trans h6 h3
                omega
              · omega
          · rw [List.mem_singleton.1 hs]
            omega
        case measure => simp [intOf]; omega
    · have d1 : decide (zi < zj) = false := decide_eq_false hlt
      obtain ⟨i1, i2, i3, i4, i5, i6, i7⟩ := hI.out
      obtain ⟨k1, k2, k3, k4, k5, k6, k7, k8⟩ := HA.out
      obtain rfl : Bm = [] := List.length_eq_zero_iff.1 (by omega)
      rw [List.append_nil] at i3
      have hBl := congrArg List.length i3
      rw [List.length_append] at hBl
      have hR3 := i6
      rw [i3, show X ++ (B1 ++ B2) ++ [x] ++ Z = X ++ B1 ++ B2 ++ x :: ([] ++ Z) by simp] at hR3
      have HZ := Lib.hid (And.intro i1 (And.intro i3 (And.intro i4 (And.intro i5 (And.intro hBl (And.intro hR3 i7))))))
      clear i1 i2 i3 i4 i5 i6 i7 k1 k2 k3 k4 k5 k6 k7 k8 hBl hlt hR3
      go_wp2
      go_loopw [17] (fun v13 wq => ∃ (P Q : List (Array Value)) (z : Int), v13 = .int .i64 z ∧ Hid (z = zi + P.length ∧ B2 = P ++ Q ∧ RowsAt wq g 32 (X ++ B1 ++ P ++ x :: (Q ++ Z)) ∧ But g w wq)) (fun v13 _ => (intOf v13).toNat)
      case atStart => exact ⟨B2, [], m, rfl, Lib.hid ⟨by have := HA.out; have := HZ.out; omega, by simp, HZ.out.2.2.2.2.2.1, HZ.out.2.2.2.2.2.2⟩⟩
      case round =>
        obtain ⟨P, Q, z, rfl, hJ⟩ := hrel
        obtain ⟨j1, j2, j3, j4⟩ := hJ.out
        obtain ⟨l2, l3, l4, l5, l6, l7, l8⟩ := HZ.out
        obtain ⟨k1, k2, k3, k4, k5, k6, k7, k8⟩ := HA.out
        have hPl := congrArg List.length j2
        rw [List.length_append] at hPl
        by_cases hlt : zi < z
        · have d1 : decide (zi < z) = true := decide_eq_true hlt
          obtain ⟨T, q, rfl⟩ : ∃ T q, P = T ++ [q] := by
            rcases List.eq_nil_or_concat P with rfl | ⟨T, y, rfl⟩
            · simp at j1; omega
            · exact ⟨T, y, by simp⟩
          simp only [List.length_append, List.length_cons, List.length_nil] at hPl j1
          obtain ⟨A, hA⟩ : ∃ A, A = X ++ B1 ++ T := ⟨_, rfl⟩
          obtain ⟨R, hRr⟩ : ∃ R, R = Q ++ Z := ⟨_, rfl⟩
          have hAl : A.length = X.length + B1.length + T.length := by rw [hA, List.length_append, List.length_append]
          obtain ⟨z1, hz1⟩ : ∃ z1 : Int, z1 = z - 1 := ⟨_, rfl⟩
          have e3 : wrap64 (z - 1) = z1 := by unfold wrap64; omega
          have d2 : (0 ≤ z) = True := eq_true (by omega)
          have d3 : (z < (len : Int)) = True := eq_true (by omega)
          have d4 : (0 ≤ z1) = True := eq_true (by omega)
          have d5 : (z1 < (len : Int)) = True := eq_true (by omega)
          obtain ⟨J0, J1, J2⟩ := at_mid A R q x
          rw [show A.length + 1 = z.toNat by omega] at J1 J2
          rw [show A.length = z1.toNat by omega] at J0 J2
          have hR2 := j3
          rw [show X ++ B1 ++ (T ++ [q]) ++ x :: (Q ++ Z) = A ++ q :: x :: R by rw [hA, hRr]; simp] at hR2
          have jz : z.toNat < (A ++ q :: x :: R).length := (List.getElem?_eq_some_iff.1 J1).1
          have jz1 : z1.toNat < (A ++ q :: x :: R).length := (List.getElem?_eq_some_iff.1 J0).1
          have ox := hR2.one x (by simp)
          have oq := hR2.one q (by simp)
          replace hR2 := hR2.below (below_drew (Below.refl _ _))
          have hBt := j4.trans (But.of_below (below_drew (Below.refl _ _)))
          have HY := Lib.hid (And.intro j1 (And.intro j2 (And.intro hA (And.intro hRr (And.intro hz1 hlt)))))
          have hpos : 0 ≤ zi := by omega
          replace hpos := Lib.hid hpos
          replace J0 := Lib.hid J0
          replace J1 := Lib.hid J1
          replace J2 := Lib.hid J2
          replace jz := Lib.hid jz
          replace jz1 := Lib.hid jz1
          replace ox := Lib.hid ox
          replace oq := Lib.hid oq
          clear j1 j2 j3 j4 l2 l3 l4 l5 l6 l7 l8 k1 k2 k3 k4 k5 k6 k7 k8 hPl hlt hA hRr hAl hz1
          go_upto_region 23 with (fail)
          refine start_ (n := 18) (S := fun w' => RowsAt w' g 32 (A ++ q :: x :: R)) (ds := [15, 17]) (bs 18 0) (by kernel_rfl) rfl (by kernel_rfl) hR2 (fun hHeld => ?_)
          refine with_tabW rg106_23_tab rg106_23_bits (fun HT_ HW_ => ?_)
          refine pu 0 (some 113) (bs 18 1) HT_ rfl rfl (by kernel_rfl) (fun _ _ _ _ h => h) ⟨_, .inl ⟨by rfl, fun _ => by go_simp; with_reducible rfl⟩, _, by simp only [Act.put, sA, sB, sC, i64_w, i32_w]; rfl, ?_⟩
          refine pu 1 (some 114) (bs 18 3) HT_ rfl rfl (by kernel_rfl) (fun _ _ _ _ h => h) ⟨_, .inl ⟨by rfl, fun _ => by go_simp; with_reducible rfl⟩, _, by simp only [Act.put, sA, sB, sC, i64_w, i32_w]; rfl, ?_⟩
          refine pu 2 (some 115) (bs 18 7) HT_ rfl rfl (by kernel_rfl) (fun _ _ _ _ h => h) ⟨_, .inl ⟨by rfl, fun _ => by go_simp; with_reducible rfl⟩, _, by simp only [Act.put, sA, sB, sC, i64_w, i32_w]; rfl, ?_⟩
          refine pu 3 (some 116) (bs 18 15) HT_ rfl rfl (by kernel_rfl) (fun _ _ _ _ h => h) ⟨_, .inl ⟨by rfl, fun _ => by go_simp; with_reducible rfl⟩, _, by simp only [Act.put, sA, sB, sC, i64_w, i32_w]; rfl, ?_⟩
          refine pu 4 (some 117) (bs 18 31) HT_ rfl rfl (by kernel_rfl) (fun _ _ _ _ h => h) ⟨_, .inl ⟨by rfl, fun _ => by go_simp; with_reducible rfl⟩, _, by simp only [Act.put, sA, sB, sC, i64_w, i32_w]; rfl, ?_⟩
          refine pu 5 (some 118) (bs 18 63) HT_ rfl rfl (by kernel_rfl) (fun _ _ _ _ h => h) ⟨_, .inl ⟨by rfl, fun _ => by go_simp; with_reducible rfl⟩, _, by simp only [Act.put, sA, sB, sC, i64_w, i32_w]; rfl, ?_⟩
          refine pu 6 (some 119) (bs 18 127) HT_ rfl rfl (by kernel_rfl) (fun _ _ _ _ h => h) ⟨_, .inl ⟨by rfl, fun _ => by go_simp; with_reducible rfl⟩, _, by simp only [Act.put, sA, sB, sC, i64_w, i32_w]; rfl, ?_⟩
          refine pu 7 (some 120) (bs 18 255) HT_ rfl rfl (by kernel_rfl) (fun _ _ _ _ h => h) ⟨_, .inl ⟨by rfl, fun _ => by go_simp; with_reducible rfl⟩, _, by simp only [Act.put, sA, sB, sC, i64_w, i32_w]; rfl, ?_⟩
          refine pu 8 (some 121) (bs 18 511) HT_ rfl rfl (by kernel_rfl) (fun _ _ _ _ h => h) ⟨_, .inl ⟨by rfl, fun _ => by go_simp; with_reducible rfl⟩, _, by simp only [Act.put, sA, sB, sC, i64_w, i32_w]; rfl, ?_⟩
          refine pu 10 (some 123) (bs 18 1535) HT_ rfl rfl (by kernel_rfl) (fun _ _ _ _ h => h) ⟨_, .inl ⟨by rfl, fun _ => by go_simp; with_reducible rfl⟩, _, by simp only [Act.put, sA, sB, sC, i64_w, i32_w]; rfl, ?_⟩
          refine pu 11 (some 124) (bs 18 3583) HT_ rfl rfl (by kernel_rfl) (fun _ _ _ _ h => h) ⟨_, .inl ⟨by rfl, fun _ => by go_simp; with_reducible rfl⟩, _, by simp only [Act.put, sA, sB, sC, i64_w, i32_w]; rfl, ?_⟩
          refine pu 12 (some 125) (bs 18 7679) HT_ rfl rfl (by kernel_rfl) (fun _ _ _ _ h => h) ⟨_, .inl ⟨by rfl, fun _ => by go_simp; with_reducible rfl⟩, _, by simp only [Act.put, sA, sB, sC, i64_w, i32_w]; rfl, ?_⟩
          refine tk 9 (some 122) (bs 18 8191) HT_ HW_ rfl rfl (by kernel_rfl) (fun _ _ _ _ h => h) hHeld ⟨_, .inl ⟨by rfl, by rintro w' s0; refine load_mid (x := .tmp 121) (j := z1.toNat) ?_ ?_ rfl s0 J0.out Tryd.underlying48 rfl (by kernel_rfl) <;> rfl⟩, _, by simp only [Act.put, sA, sB, sC, i64_w, i32_w]; rfl, ?_⟩
          refine tk 13 (some 126) (bs 18 16383) HT_ HW_ rfl rfl (by kernel_rfl) (fun _ _ _ _ h => h) hHeld ⟨_, .inl ⟨by rfl, by rintro w' s0; refine load_mid (x := .tmp 125) (j := z.toNat) ?_ ?_ rfl s0 J1.out Tryd.underlying48 rfl (by kernel_rfl) <;> rfl⟩, _, by simp only [Act.put, sA, sB, sC, i64_w, i32_w]; rfl, ?_⟩
          refine pu 14 (some 127) (bs 18 32767) HT_ rfl rfl (by kernel_rfl) (fun _ _ _ _ h => h) ⟨_, .inl ⟨by rfl, fun _ => by go_simp; with_reducible rfl⟩, _, by simp only [Act.put, sA, sB, sC, i64_w, i32_w]; rfl, ?_⟩
          refine la1 15 (none) (bs 18 65535) HT_ rfl rfl (by kernel_rfl) (by decide) (fun K hK => ?_)
          refine stores_mid (j := z.toNat) (x := .tmp 127) (y := .tmp 122) (by rfl) rfl rfl rfl rfl rfl hR2 jz.out oq.out.1 oq.out.2 (by kernel_rfl) ?_
          intro w5 hR5 hB5
          refine hK.out _ _ ?_
          clear hK K
          refine pu 16 (some 128) (bs 18 131071) HT_ rfl rfl (by kernel_rfl) (fun _ _ _ _ h => h) ⟨_, .inl ⟨by rfl, fun _ => by go_simp; with_reducible rfl⟩, _, by simp only [Act.put, sA, sB, sC, i64_w, i32_w]; rfl, ?_⟩
          refine la1 17 (none) (bs 18 262143) HT_ rfl rfl (by kernel_rfl) (by decide) (fun K hK => ?_)
          refine stores_mid (j := z1.toNat) (x := .tmp 128) (y := .tmp 126) (by rfl) rfl rfl rfl rfl rfl hR5 (by rw [List.length_set]; exact jz1.out) ox.out.1 ox.out.2 (by kernel_rfl) ?_
          intro w6 hR6 hB6
          refine hK.out _ _ ?_
          clear hK K
          refine done_ (done_of HT_.out (by kernel_rfl)) ?_
          rw [J2.out] at hR6
          replace hBt := (hBt.trans hB5).trans hB6
          go_wp2
          obtain ⟨m1, m2, m3, m4, m5, m6⟩ := HY.out
          have hp := hpos.out
          go_roundw
          case rel => exact ⟨T, q :: Q, z1, by first | rfl | rw [e3], Lib.hid ⟨by omega, by rw [m2]; simp, by rw [m3, m4] at hR6; simpa using hR6, hBt⟩⟩
          case measure => simp [intOf]; omega
        · have d1 : decide (zi < z) = false := decide_eq_false hlt
          obtain rfl : P = [] := List.length_eq_zero_iff.1 (by omega)
          rw [List.nil_append] at j2
          have hfin : X ++ Srt.merge c B [x] ++ Z = X ++ B1 ++ [] ++ x :: (Q ++ Z) := by
            rw [l3, merge_last c x B1 B2 (fun s hs => by have := l4 s hs; omega) l5, j2]
            simp
          have HY := Lib.hid (And.intro hfin (And.intro j3 j4))
          clear j1 j2 j3 j4 l2 l3 l4 l5 l6 l7 l8 k1 k2 k3 k4 k5 k6 k7 k8 hPl hlt hfin
          go_wp2
          refine ⟨rfl, .tuple #[], by simp [results, Tryd.results106], ⟨_, rfl⟩, ?_, HY.out.2.2⟩
          rw [HY.out.1]
          exact HY.out.2.1
end Go.Proofs.YtoepbjgldmgaoaaDoor

/- A merge, cut where the search of symMerge ends. -/
namespace Go.Proofs.YtoepbjgldmgaoaaDoor.Srt
open Go.Proofs.YtoepbjgldmgaoaaDoor.Wc
variable {α : Type} {c : α → α → Int}
theorem le_lt (h : IsCmp c) {x y z : α} (h1 : c x y ≤ 0) (h2 : c y z < 0) : c x z < 0 := by
  have h3 := h.trans x y z h1 (by omega)
  by_cases h4 : c x z < 0
  · exact h4
  · have a1 := h.anti x z
    have h5 := h.trans z x y (by omega) h1
    have a2 := h.anti y z
    omega
theorem sorted_le (h : IsCmp c) {l : List α} (hs : Sorted c l) {i j : Nat} {x y : α} (hij : i ≤ j) (hx : l[i]? = some x) (hy : l[j]? = some y) : c x y ≤ 0 := by
  obtain ⟨hi, rfl⟩ := List.getElem?_eq_some_iff.1 hx
  obtain ⟨hj, rfl⟩ := List.getElem?_eq_some_iff.1 hy
  rcases Nat.lt_or_eq_of_le hij with g | g
  · exact List.pairwise_iff_getElem.1 hs i j hi hj g
  · subst g
    rw [h.refl]
    exact Int.le_refl _
theorem mem_take_at {l : List α} {n : Nat} {x : α} (h : x ∈ l.take n) : ∃ i, i < n ∧ l[i]? = some x := by
  obtain ⟨i, hi⟩ := List.getElem?_of_mem h
  rw [List.getElem?_take] at hi
  split at hi
  · exact ⟨i, by assumption, hi⟩
  · cases hi
theorem mem_drop_at {l : List α} {n : Nat} {x : α} (h : x ∈ l.drop n) : ∃ i, n ≤ i ∧ l[i]? = some x := by
  obtain ⟨i, hi⟩ := List.getElem?_of_mem h
  rw [List.getElem?_drop] at hi
  exact ⟨n + i, by omega, hi⟩
theorem merge_cut (h : IsCmp c) (A B : List α) (hA : Sorted c A) (hB : Sorted c B) (s t : Nat) (hs : s ≤ A.length) (ht : t ≤ B.length)
    (hl : ∀ x y, 0 < s → A[s - 1]? = some x → B[t]? = some y → ¬ c y x < 0) (hr : ∀ x y, 0 < t → A[s]? = some x → B[t - 1]? = some y → c y x < 0) :
    merge c A B = merge c (A.take s) (B.take t) ++ merge c (A.drop s) (B.drop t) := by
  have := merge_split (c := c) _ (A.take s) (B.take t) (A.drop s) (B.drop t) (Nat.le_refl _) (fun a ha b hb hn => ?_) (fun a ha b hb => ?_)
  · rw [List.take_append_drop, List.take_append_drop] at this
    exact this
  · obtain ⟨i, hi, ea⟩ := mem_take_at ha
    obtain ⟨j, hj, eb⟩ := mem_drop_at hb
    have hjl := (List.getElem?_eq_some_iff.1 eb).1
    have e1 : A[s - 1]? = some A[s - 1] := List.getElem?_eq_getElem (by omega)
    have e2 : B[t]? = some B[t] := List.getElem?_eq_getElem (by omega)
    refine hl _ _ (by omega) e1 e2 ?_
    exact h.lt_trans (le_lt h (sorted_le h hB hj e2 eb) hn) (sorted_le h hA (by omega) ea e1)
  · obtain ⟨i, hi, ea⟩ := mem_drop_at ha
    obtain ⟨j, hj, eb⟩ := mem_take_at hb
    have hil := (List.getElem?_eq_some_iff.1 ea).1
    have hjl := (List.getElem?_eq_some_iff.1 eb).1
    have e1 : A[s]? = some A[s] := List.getElem?_eq_getElem (by omega)
    have e2 : B[t - 1]? = some B[t - 1] := List.getElem?_eq_getElem (by omega)
    have h1 := hr _ _ (by omega) e1 e2
    exact h.lt_trans (le_lt h (sorted_le h hB (by omega) eb e2) h1) (sorted_le h hA hi e1 ea)
theorem sorted_take {l : List α} (hs : Sorted c l) (n : Nat) : Sorted c (l.take n) := List.Pairwise.sublist (List.take_sublist n l) hs
theorem sorted_drop {l : List α} (hs : Sorted c l) (n : Nat) : Sorted c (l.drop n) := List.Pairwise.sublist (List.drop_sublist n l) hs
theorem test_up (h : IsCmp c) (A B : List α) (hA : Sorted c A) (hB : Sorted c B) (mu i j : Nat) (hij : i ≤ j) (hj : j < mu) {x y x' y' : α} (e1 : A[i]? = some x) (e2 : B[mu - 1 - i]? = some y) (e3 : A[j]? = some x') (e4 : B[mu - 1 - j]? = some y') (ht : c y x < 0) : c y' x' < 0 :=
  h.lt_trans (le_lt h (sorted_le h hB (by omega) e4 e2) ht) (sorted_le h hA hij e1 e3)
end Go.Proofs.YtoepbjgldmgaoaaDoor.Srt

/- slices' symMerge over a block of objects: a stable merge of two sorted rows. -/
namespace Go.Proofs.YtoepbjgldmgaoaaDoor
open Go.RowKit Go.Proofs.YtoepbjgldmgaoaaDoorW.PrintWords Go.Proofs.YtoepbjgldmgaoaaDoorW.PrintLast
def SymOk (f : FuncId) (D : Array Value → Prop) (c : Array Value → Array Value → Int) (g cap : Nat) (N : Nat) : Prop :=
  ∀ (X A B Z : List (Array Value)), A.length + B.length ≤ N → 0 < A.length → 0 < B.length → Srt.Sorted c A → Srt.Sorted c B → (∀ y ∈ A, D y) → (∀ y ∈ B, D y) →
    ∀ (len : Nat), len = (X ++ A ++ B ++ Z).length → len ≤ cap → len ≤ 1099511627776 → ∀ (a m b : Int), a = X.length → m = (X.length + A.length : Nat) → b = (X.length + A.length + B.length : Nat) → ∀ w, RowsAt w g 32 (X ++ A ++ B ++ Z) →
      Calls Tryd.prog 106 #[.slice (some ⟨g, 0, none⟩) len cap, .int .i64 a, .int .i64 m, .int .i64 b, .func (.func f) #[] #[]] w fun e w' =>
        (∃ v, e = .returned v) ∧ RowsAt w' g 32 (X ++ Srt.merge c A B ++ Z) ∧ But g w w'
set_option maxHeartbeats 4000000 in
theorem sym_parts (f : FuncId) (D : Array Value → Prop) (c : Array Value → Array Value → Int) (g cap N : Nat) (ih : SymOk f D c g cap N) (X A B Z : List (Array Value)) (hN : A.length + B.length ≤ N + 1) (h0A : 2 ≤ A.length) (h0B : 2 ≤ B.length)
    (hA : Srt.Sorted c A) (hB : Srt.Sorted c B) (hDA : ∀ y ∈ A, D y) (hDB : ∀ y ∈ B, D y) (s t : Nat) (hs : s ≤ A.length) (ht : t ≤ B.length) (hst : s + t = (A.length + B.length) / 2) (len : Nat) (hlen : len = (X ++ A ++ B ++ Z).length) (hcap : len ≤ cap) (hn : len ≤ 1099511627776)
    (a m b z ze zm : Int) (ha : a = X.length) (hm : m = (X.length + A.length : Nat)) (hb : b = (X.length + A.length + B.length : Nat)) (hz : z = a + s) (hze : ze = m + t) (hzm : zm = a + s + t) :
    ∃ R1 R2 R3 : List (Array Value), R3 = X ++ (Srt.merge c (A.take s) (B.take t) ++ Srt.merge c (A.drop s) (B.drop t)) ++ Z ∧
      ((s < A.length → 0 < t → ∀ W, RowsAt W g 32 (X ++ A ++ B ++ Z) → Calls Tryd.prog 115 #[.slice (some ⟨g, 0, none⟩) len cap, .int .i64 z, .int .i64 m, .int .i64 ze, .func (.func f) #[] #[]] W fun e w' => (∃ v, e = .returned v) ∧ RowsAt w' g 32 (R1) ∧ But g W w') ∧ (¬ (s < A.length ∧ 0 < t) → R1 = X ++ A ++ B ++ Z)) ∧
      ((0 < s → 0 < t → ∀ W, RowsAt W g 32 (R1) → Calls Tryd.prog 106 #[.slice (some ⟨g, 0, none⟩) len cap, .int .i64 a, .int .i64 z, .int .i64 zm, .func (.func f) #[] #[]] W fun e w' => (∃ v, e = .returned v) ∧ RowsAt w' g 32 (R2) ∧ But g W w') ∧ (¬ (0 < s ∧ 0 < t) → R2 = R1)) ∧
      ((s < A.length → t < B.length → ∀ W, RowsAt W g 32 (R2) → Calls Tryd.prog 106 #[.slice (some ⟨g, 0, none⟩) len cap, .int .i64 zm, .int .i64 ze, .int .i64 b, .func (.func f) #[] #[]] W fun e w' => (∃ v, e = .returned v) ∧ RowsAt w' g 32 (R3) ∧ But g W w') ∧ (¬ (s < A.length ∧ t < B.length) → R3 = R2)) := by
  have lA : (A.take s).length = s := by rw [List.length_take]; omega
  have lB : (B.take t).length = t := by rw [List.length_take]; omega
  have kA : (A.drop s).length = A.length - s := List.length_drop ..
  have kB : (B.drop t).length = B.length - t := List.length_drop ..
  have hl0 : len = X.length + A.length + B.length + Z.length := by rw [hlen]; simp; omega
  have hmm : ∀ P Q : List (Array Value), (Srt.merge c P Q).length = P.length + Q.length := fun P Q => Srt.merge_length P Q _ (Nat.le_refl _)
  have eA : A.take s ++ A.drop s = A := List.take_append_drop ..
  have eB : B.take t ++ B.drop t = B := List.take_append_drop ..
  refine ⟨X ++ A.take s ++ B.take t ++ (A.drop s ++ B.drop t ++ Z), X ++ Srt.merge c (A.take s) (B.take t) ++ (A.drop s ++ B.drop t ++ Z), _, rfl, ⟨fun h1 h2 W hW => ?_, fun h => ?_⟩, ⟨fun h1 h2 W hW => ?_, fun h => ?_⟩, ⟨fun h1 h2 W hW => ?_, fun h => ?_⟩⟩
  · have e0 : X ++ A ++ B ++ Z = (X ++ A.take s) ++ A.drop s ++ B.take t ++ (B.drop t ++ Z) := by
      conv => lhs; rw [← eA, ← eB]
      simp only [List.append_assoc]
    rw [e0] at hW
    refine (rotate_calls (X ++ A.take s) (A.drop s) (B.take t) (B.drop t ++ Z) (by omega) (by omega) g cap len (by rw [hlen, e0]) hcap hn z m ze (by rw [List.length_append]; omega) (by rw [List.length_append]; omega) (by rw [List.length_append]; omega) _ W hW).mono ?_
    rintro e w' ⟨hv, hR, hb⟩
    exact ⟨hv, by simpa only [List.append_assoc] using hR, hb⟩
  · rcases Nat.eq_zero_or_pos t with h0 | h0
    · subst h0
      simp only [List.take_zero, List.drop_zero, List.append_nil, List.append_assoc]
      rw [← List.append_assoc (A.take s), eA]
    · have h3 : s = A.length := by omega
      subst h3
      simp only [List.take_length, List.drop_length, List.nil_append, List.append_assoc]
      rw [← List.append_assoc (B.take t), eB]
  · exact ih X (A.take s) (B.take t) _ (by omega) (by omega) (by omega) (Srt.sorted_take hA s) (Srt.sorted_take hB t) (fun y hy => hDA y (List.mem_of_mem_take hy)) (fun y hy => hDB y (List.mem_of_mem_take hy)) len (by rw [hl0]; simp; omega) hcap hn a z zm ha (by omega) (by omega) W hW
  · rcases Nat.eq_zero_or_pos s with h0 | h0
    · subst h0; simp [Srt.merge_nil_left]
    · have h3 : t = 0 := by omega
      subst h3; simp [Srt.merge_nil_right]
  · have e0 : X ++ Srt.merge c (A.take s) (B.take t) ++ (A.drop s ++ B.drop t ++ Z) = (X ++ Srt.merge c (A.take s) (B.take t)) ++ A.drop s ++ B.drop t ++ Z := by simp only [List.append_assoc]
    rw [e0] at hW
    refine (ih (X ++ Srt.merge c (A.take s) (B.take t)) (A.drop s) (B.drop t) Z (by omega) (by omega) (by omega) (Srt.sorted_drop hA s) (Srt.sorted_drop hB t) (fun y hy => hDA y (List.mem_of_mem_drop hy)) (fun y hy => hDB y (List.mem_of_mem_drop hy)) len (by rw [hl0]; simp [hmm]; omega) hcap hn zm ze b (by rw [List.length_append, hmm]; omega) (by rw [List.length_append, hmm]; omega) (by rw [List.length_append, hmm]; omega) W hW).mono ?_
    rintro e w' ⟨hv, hR, hb⟩
    exact ⟨hv, by simpa only [List.append_assoc] using hR, hb⟩
  · rcases Nat.lt_or_ge s A.length with h0 | h0
    · have h3 : t = B.length := by omega
      subst h3; simp [Srt.merge_nil_right]
    · have h3 : s = A.length := by omega
      subst h3; simp [Srt.merge_nil_left]
end Go.Proofs.YtoepbjgldmgaoaaDoor

/- slices' symMerge over a block of objects: a stable merge of two sorted rows. -/
namespace Go.Proofs.YtoepbjgldmgaoaaDoor
open Go.RowKit Go.Proofs.YtoepbjgldmgaoaaDoorW.PrintWords Go.Proofs.YtoepbjgldmgaoaaDoorW.PrintLast
def rg106_35_T : Bool × List (List Nat × List Nat) := (true, [([], []), ([], []), ([], []), ([], []), ([2, 3], [2, 3]), ([1, 4], [1, 4]), ([5], [5]), ([], []), ([], []), ([7, 8], [7, 8]), ([9], [9]), ([0, 6, 10], [0, 6, 10]), ([11], [11]), ([12], [12])])
def rg106_35_B : List Nat := [0, 0, 0, 0, 12, 30, 62, 0, 0, 384, 896, 2047, 4095, 8191]
theorem rg106_35_tab : rtab .any (opsOf Tryd.f106 35) = rg106_35_T := by kernel_rfl
theorem rg106_35_bits : waitsOk rg106_35_T.2 rg106_35_B = true := by kernel_rfl
set_option maxHeartbeats 32000000 in
set_option maxRecDepth 100000 in
theorem sym_main (f : FuncId) (D : Array Value → Prop) (c : Array Value → Array Value → Int) (hcmp : CmpAt f D c) (hc : Wc.IsCmp c) (g cap N : Nat) (ih : SymOk f D c g cap N) (X A B Z : List (Array Value)) (hN : A.length + B.length ≤ N + 1) (h0A : 2 ≤ A.length) (h0B : 2 ≤ B.length)
    (hA : Srt.Sorted c A) (hB : Srt.Sorted c B) (hDA : ∀ y ∈ A, D y) (hDB : ∀ y ∈ B, D y) (len : Nat) (hlen : len = (X ++ A ++ B ++ Z).length) (hcap : len ≤ cap) (hn : len ≤ 1099511627776) (a m b : Int) (ha : a = X.length) (hm : m = (X.length + A.length : Nat)) (hb : b = (X.length + A.length + B.length : Nat)) (w : World)
    (hR : RowsAt w g 32 (X ++ A ++ B ++ Z)) :
    Calls Tryd.prog 106 #[.slice (some ⟨g, 0, none⟩) len cap, .int .i64 a, .int .i64 m, .int .i64 b, .func (.func f) #[] #[]] w fun e w' =>
      (∃ v, e = .returned v) ∧ RowsAt w' g 32 (X ++ Srt.merge c A B ++ Z) ∧ But g w w' := by
  obtain ⟨fn, hf1, hf2, hf3⟩ := hcmp.fn
  have hle : len = X.length + A.length + B.length + Z.length := by rw [hlen]; simp; omega
  obtain ⟨mu, hmu⟩ : ∃ mu : Nat, mu = (A.length + B.length) / 2 := ⟨_, rfl⟩
  obtain ⟨zm, hzm⟩ : ∃ zm : Int, zm = a + mu := ⟨_, rfl⟩
  obtain ⟨zn, hzn⟩ : ∃ zn : Int, zn = zm + m := ⟨_, rfl⟩
  obtain ⟨zp, hzp⟩ : ∃ zp : Int, zp = zn - 1 := ⟨_, rfl⟩
  have e1 : (wrap64 (m - a) == 1) = false := beq_eq_false_iff_ne.mpr (by unfold wrap64; omega)
  have e2 : (wrap64 (b - m) == 1) = false := beq_eq_false_iff_ne.mpr (by unfold wrap64; omega)
  have em : wrap64 (IntKind.u64.wrap (wrap64 (a + b)) / 2) = zm := by rw [half_ _ (by omega) (by omega)]; omega
  have en : wrap64 (zm + m) = zn := by unfold wrap64; omega
  have ep : wrap64 (zn - 1) = zp := by unfold wrap64; omega
  -- where the search begins, where it ends at most
  obtain ⟨st0, r0, hcase⟩ : ∃ st0 r0 : Int, (decide (zm < m) = true ∧ zm < m ∧ wrap64 (zn - b) = st0 ∧ st0 = zn - b ∧ r0 = zm) ∨ (decide (zm < m) = false ∧ ¬ zm < m ∧ st0 = a ∧ r0 = m) := by
    by_cases h : zm < m
    · exact ⟨zn - b, zm, .inl ⟨decide_eq_true h, h, by unfold wrap64; omega, rfl, rfl⟩⟩
    · exact ⟨a, m, .inr ⟨decide_eq_false h, h, rfl, rfl⟩⟩
  have hs0 : a ≤ st0 ∧ st0 ≤ r0 ∧ r0 ≤ m ∧ r0 ≤ zm ∧ zm - st0 ≤ B.length ∧ (st0 = a ∨ zm - st0 = B.length) ∧ (r0 = m ∨ r0 = zm) := by omega
  have HH := Lib.hid (And.intro hcmp (And.intro ih (And.intro hN (And.intro h0A (And.intro h0B (And.intro hA (And.intro hB (And.intro hDA hDB))))))))
  have HE := Lib.hid (And.intro ha (And.intro hm (And.intro hb (And.intro hle (And.intro hmu (And.intro hzm (And.intro hzn (And.intro hzp hs0))))))))
  have HR := Lib.hid hR
  have HF := Lib.hid (And.intro hf1 (And.intro hf2 hf3))
  clear hcmp ih hN h0A h0B hA hB hDA hDB ha hm hb hle hmu hzm hzn hzp hs0 hR hf1 hf2 hf3 hlen
  have HS : Hid ((decide (zm < m) = true ∧ zm < m ∧ wrap64 (zn - b) = st0 ∧ st0 = zn - b ∧ r0 = zm) ∨ (decide (zm < m) = false ∧ ¬ zm < m ∧ st0 = a ∧ r0 = m)) := Lib.hid hcase
  rcases hcase with ⟨d1, d0, es, q1, q2⟩ | ⟨d1, d0, q1, q2⟩
  · clear d0
    replace q1 := Lib.hid q1
    replace q2 := Lib.hid q2
    go_enter Tryd.func106, Tryd.ntmps106
    go_wp2
    clear e1 e2 em en ep d1
    go_loopw [20, 21] (fun v20 v21 wr => ∃ (z r : Int), v20 = .int .i64 z ∧ v21 = .int .i64 r ∧ Hid (st0 ≤ z ∧ z ≤ r ∧ r ≤ r0 ∧ (∀ (i : Nat) (x y : Array Value), st0 ≤ a + i → a + i < z → A[i]? = some x → B[mu - 1 - i]? = some y → 0 ≤ c y x) ∧ (∀ (i : Nat) (x y : Array Value), r ≤ a + i → a + i < r0 → A[i]? = some x → B[mu - 1 - i]? = some y → c y x < 0) ∧ RowsAt wr g 32 (X ++ A ++ B ++ Z) ∧ But g w wr)) (fun v20 v21 _ => (intOf v21 - intOf v20).toNat)
    case atStart =>
      refine ⟨st0, r0, by first | rfl | exact congrArg _ q1.out.symm, by first | rfl | exact congrArg _ q2.out.symm, Lib.hid ⟨Int.le_refl _, HE.out.2.2.2.2.2.2.2.2.2.1, Int.le_refl _, fun i x y h1 h2 => absurd h2 (by omega), fun i x y h1 h2 => absurd h2 (by omega), HR.out, But.refl _ _⟩⟩
    case round =>
      obtain ⟨z, r, rfl, rfl, hI⟩ := hrel
      by_cases hlt : z < r
      · have d1 : decide (z < r) = true := decide_eq_true hlt
        obtain ⟨i1, i2, i3, i4, i5, i6, i7⟩ := hI.out
        obtain ⟨k1, k2, k3, k4, k5, k6, k7, k8, k9, k10, k11, k12, k13, k14, k15⟩ := HE.out
        obtain ⟨u1, u2, u3, u4, u5, u6, u7, u8, u9⟩ := HH.out
        obtain ⟨zk, hzk⟩ : ∃ zk : Int, zk = (z + r) / 2 := ⟨_, rfl⟩
        have eh : wrap64 (IntKind.u64.wrap (wrap64 (z + r)) / 2) = zk := by rw [half_ _ (by omega) (by omega), hzk]
        obtain ⟨zq, hzq⟩ : ∃ zq : Int, zq = zp - zk := ⟨_, rfl⟩
        have eqq : wrap64 (zp - zk) = zq := by unfold wrap64; omega
        obtain ⟨ki, hki⟩ : ∃ ki : Nat, zk = a + ki := ⟨(zk - a).toNat, by omega⟩
        have hkA : ki < A.length := by omega
        have hkm : ki < mu := by omega
        have hkB : mu - 1 - ki < B.length := by omega
        obtain ⟨x, hx⟩ : ∃ x, A[ki]? = some x := ⟨_, List.getElem?_eq_getElem hkA⟩
        obtain ⟨y, hy⟩ : ∃ y, B[mu - 1 - ki]? = some y := ⟨_, List.getElem?_eq_getElem hkB⟩
        have J0 : (X ++ A ++ B ++ Z)[zk.toNat]? = some x := by
          rw [List.append_assoc, List.append_assoc, List.getElem?_append_right (by omega), List.getElem?_append_left (by omega), show zk.toNat - X.length = ki by omega, hx]
        have J1 : (X ++ A ++ B ++ Z)[zq.toNat]? = some y := by
          rw [List.append_assoc, List.getElem?_append_right (by rw [List.length_append]; omega), List.getElem?_append_left (by rw [List.length_append]; omega), List.length_append, show zq.toNat - (X.length + A.length) = mu - 1 - ki by omega, hy]
        have dx : D x := u8 x (List.mem_of_getElem? hx)
        have dy : D y := u9 y (List.mem_of_getElem? hy)
        obtain ⟨cv, hcv⟩ : ∃ cv, cv = c y x := ⟨_, rfl⟩
        have HQ := u1.calls y x dy dx
        rw [← hcv] at HQ
        replace HQ := Lib.hid HQ
        have d2 : (0 ≤ zk) = True := eq_true (by omega)
        have d3 : (zk < (len : Int)) = True := eq_true (by omega)
        have d4 : (0 ≤ zq) = True := eq_true (by omega)
        have d5 : (zq < (len : Int)) = True := eq_true (by omega)
        have eq1 : wrap64 (zk + 1) = zk + 1 := by unfold wrap64; omega
        have hm1 : zk + 1 ≤ r ∧ z ≤ zk := by omega
        have hR2 := i6.below (below_drew (Below.refl _ _))
        have hBt := i7.trans (But.of_below (below_drew (Below.refl _ _)))
        have HZ := Lib.hid (And.intro hki (And.intro hx (And.intro hy (And.intro hcv (And.intro hkm (And.intro hm1 (And.intro eq1 hlt)))))))
        replace J0 := Lib.hid J0
        replace J1 := Lib.hid J1
        clear i1 i2 i3 i4 i5 i6 i7 k1 k2 k3 k4 k5 k6 k7 k8 k9 k10 k11 k12 k13 k14 k15 u1 u2 u3 u4 u5 u6 u7 u8 u9 hzk hzq hki hkA hkm hkB hx hy dx dy hcv eq1 hm1 hlt
        go_upto_region 35 with (fail)
        refine start_ (n := 14) (S := fun w' => RowsAt w' g 32 (X ++ A ++ B ++ Z)) (ds := []) (bs 14 0) (by kernel_rfl) rfl (by kernel_rfl) hR2 (fun hHeld => ?_)
        refine with_tabW rg106_35_tab rg106_35_bits (fun HT_ HW_ => ?_)
        refine pu 0 (some 158) (bs 14 1) HT_ rfl rfl (by kernel_rfl) (fun _ _ _ _ h => h) ⟨_, .inl ⟨by rfl, fun _ => by go_simp; with_reducible rfl⟩, _, by simp only [Act.put, sA, sB, sC, i64_w, i32_w]; rfl, ?_⟩
        refine pu 1 (some 159) (bs 14 3) HT_ rfl rfl (by kernel_rfl) (fun _ _ _ _ h => h) ⟨_, .inl ⟨by rfl, fun _ => by go_simp; with_reducible rfl⟩, _, by simp only [Act.put, sA, sB, sC, i64_w, i32_w]; rfl, ?_⟩
        refine pu 2 (some 160) (bs 14 7) HT_ rfl rfl (by kernel_rfl) (fun _ _ _ _ h => h) ⟨_, .inl ⟨by rfl, fun _ => by go_simp; with_reducible rfl⟩, _, by simp only [Act.put, sA, sB, sC, i64_w, i32_w]; rfl, ?_⟩
        refine pu 3 (some 161) (bs 14 15) HT_ rfl rfl (by kernel_rfl) (fun _ _ _ _ h => h) ⟨_, .inl ⟨by rfl, fun _ => by go_simp; with_reducible rfl⟩, _, by simp only [Act.put, sA, sB, sC, i64_w, i32_w]; rfl, ?_⟩
        refine pu 4 (some 162) (bs 14 31) HT_ rfl rfl (by kernel_rfl) (fun _ _ _ _ h => h) ⟨_, .inl ⟨by rfl, fun _ => by go_simp; with_reducible rfl⟩, _, by simp only [Act.put, sA, sB, sC, i64_w, i32_w]; rfl, ?_⟩
        refine pu 5 (some 163) (bs 14 63) HT_ rfl rfl (by kernel_rfl) (fun _ _ _ _ h => h) ⟨_, .inl ⟨by rfl, fun _ => by go_simp; with_reducible rfl⟩, _, by simp only [Act.put, sA, sB, sC, i64_w, i32_w]; rfl, ?_⟩
        refine pu 7 (some 165) (bs 14 191) HT_ rfl rfl (by kernel_rfl) (fun _ _ _ _ h => h) ⟨_, .inl ⟨by rfl, fun _ => by go_simp; with_reducible rfl⟩, _, by simp only [Act.put, sA, sB, sC, i64_w, i32_w]; rfl, ?_⟩
        refine pu 8 (some 166) (bs 14 447) HT_ rfl rfl (by kernel_rfl) (fun _ _ _ _ h => h) ⟨_, .inl ⟨by rfl, fun _ => by go_simp; with_reducible rfl⟩, _, by simp only [Act.put, sA, sB, sC, i64_w, i32_w]; rfl, ?_⟩
        refine pu 9 (some 167) (bs 14 959) HT_ rfl rfl (by kernel_rfl) (fun _ _ _ _ h => h) ⟨_, .inl ⟨by rfl, fun _ => by go_simp; with_reducible rfl⟩, _, by simp only [Act.put, sA, sB, sC, i64_w, i32_w]; rfl, ?_⟩
        refine tk 6 (some 164) (bs 14 1023) HT_ HW_ rfl rfl (by kernel_rfl) (fun _ _ _ _ h => h) hHeld ⟨_, .inl ⟨by rfl, by rintro w' s0; refine load_mid (x := .tmp 163) (j := zq.toNat) ?_ ?_ rfl s0 J1.out Tryd.underlying48 rfl (by kernel_rfl) <;> rfl⟩, _, by simp only [Act.put, sA, sB, sC, i64_w, i32_w]; rfl, ?_⟩
        refine tk 10 (some 168) (bs 14 2047) HT_ HW_ rfl rfl (by kernel_rfl) (fun _ _ _ _ h => h) hHeld ⟨_, .inl ⟨by rfl, by rintro w' s0; refine load_mid (x := .tmp 167) (j := zk.toNat) ?_ ?_ rfl s0 J0.out Tryd.underlying48 rfl (by kernel_rfl) <;> rfl⟩, _, by simp only [Act.put, sA, sB, sC, i64_w, i32_w]; rfl, ?_⟩
        refine on1 11 (some 169) (bs 14 4095) HT_ rfl rfl (by kernel_rfl) (by decide) (fun K hK => ?_)
        refine goesv_ (f := f) (x := .tmp 158) HF.out.1 HF.out.2.1 HF.out.2.2 #[.agg y, .agg x] (by rfl) rfl rfl rfl (by (try simp only [List.map_toArray, List.map_cons, List.map_nil]); first | done | rfl) ?_
        refine (HQ.out _).mono ?_
        rintro e w1 ⟨rfl, hb1⟩
        replace hR2 := hR2.below hb1
        replace hBt := hBt.trans (But.of_below hb1)
        clear hb1
        refine ⟨_, rfl, ?_⟩
        refine hK.out _ _ hR2 (fun hHeld => ?_)
        clear hK K
        refine nm ⟨_, show Act.put _ (some 169) _ = _ by simp only [Act.put, sA, sB, sC, i64_w, i32_w]; rfl, ?_⟩
        refine pu 12 (some 170) (bs 14 8191) HT_ rfl rfl (by kernel_rfl) (fun _ _ _ _ h => h) ⟨_, .inl ⟨by rfl, fun _ => by go_simp; with_reducible rfl⟩, _, by simp only [Act.put, sA, sB, sC, i64_w, i32_w]; rfl, ?_⟩
        refine pu 13 (some 171) (bs 14 16383) HT_ rfl rfl (by kernel_rfl) (fun _ _ _ _ h => h) ⟨_, .inl ⟨by rfl, fun _ => by go_simp; with_reducible rfl⟩, _, by simp only [Act.put, sA, sB, sC, i64_w, i32_w]; rfl, ?_⟩
        refine done_ (done_of HT_.out (by kernel_rfl)) ?_
        generalize hnb : (!decide (cv < 0)) = nb
        cases nb
        · have hneg : cv < 0 := by
            by_cases h9 : cv < 0
            · exact h9
            · rw [decide_eq_false h9] at hnb; cases hnb
          clear hnb
          go_wp2
          go_roundw
          case rel =>
            obtain ⟨i1, i2, i3, i4, i5, i6, i7⟩ := hI.out
            obtain ⟨j1, j2, j3, j4, j5, j6, j7, j8⟩ := HZ.out
            obtain ⟨u1, u2, u3, u4, u5, u6, u7, u8, u9⟩ := HH.out
            refine ⟨z, zk, rfl, by first | rfl | rw [eh], Lib.hid ⟨i1, by omega, by omega, i4, fun i x' y' h1 h2 h3 h4 => ?_, hR2, hBt⟩⟩
            by_cases h5 : r ≤ a + i
            · exact i5 i x' y' h5 h2 h3 h4
            · have k10 := HE.out.2.2.2.2.2.2.2.2
              have hik := HE.out.2.2.2.2.2
              exact Srt.test_up hc A B u6 u7 mu ki i (by omega) (by omega) j2 j3 h3 h4 (by rw [← j4]; exact hneg)
          case measure => have := HZ.out.2.2.2.2.2; simp [intOf]; omega
        · have hneg : ¬ cv < 0 := fun h9 => by rw [decide_eq_true h9] at hnb; cases hnb
          clear hnb
          go_wp2
          go_roundw
          case rel =>
            obtain ⟨i1, i2, i3, i4, i5, i6, i7⟩ := hI.out
            obtain ⟨j1, j2, j3, j4, j5, j6, j7, j8⟩ := HZ.out
            obtain ⟨u1, u2, u3, u4, u5, u6, u7, u8, u9⟩ := HH.out
            refine ⟨zk + 1, r, by first | rfl | rw [j7], rfl, Lib.hid ⟨by omega, by omega, i3, fun i x' y' h1 h2 h3 h4 => ?_, i5, hR2, hBt⟩⟩
            by_cases h5 : c y' x' < 0
            · have := Srt.test_up hc A B u6 u7 mu i ki (by omega) j5 h3 h4 j2 j3 h5
              rw [← j4] at this
              omega
            · omega
          case measure => have := HZ.out.2.2.2.2.2; simp [intOf]; omega
      · have hzr : z = r := by have := hI.out.2.1; omega
        have d1 : decide (z < r) = false := decide_eq_false hlt
        clear hlt
        obtain ⟨i1, i2, i3, i4, i5, i6, i7⟩ := hI.out
        obtain ⟨k1, k2, k3, k4, k5, k6, k7, k8, k9, k10, k11, k12, k13, k14, k15⟩ := HE.out
        obtain ⟨u1, u2, u3, u4, u5, u6, u7, u8, u9⟩ := HH.out
        obtain ⟨ze, hze⟩ : ∃ ze : Int, ze = zn - z := ⟨_, rfl⟩
        have eze : wrap64 (zn - z) = ze := by unfold wrap64; omega
        obtain ⟨s, hs⟩ : ∃ s : Nat, z = a + s := ⟨(z - a).toNat, by omega⟩
        obtain ⟨t, ht⟩ : ∃ t : Nat, mu = s + t := ⟨mu - s, by omega⟩
        have hsA : s ≤ A.length := by omega
        have htB : t ≤ B.length := by omega
        have hcut := Srt.merge_cut hc A B u6 u7 s t hsA htB (fun x y h1 h2 h3 => by
            have h4 := (List.getElem?_eq_some_iff.1 h3).1
            have := i4 (s - 1) x y (by omega) (by omega) h2 (by rw [show mu - 1 - (s - 1) = t by omega]; exact h3)
            omega) (fun x y h1 h2 h3 => by
            have h4 := (List.getElem?_eq_some_iff.1 h2).1
            exact i5 s x y (by omega) (by omega) h2 (by rw [show mu - 1 - s = t - 1 by omega]; exact h3))
        have b1 : decide (z < m) = decide (s < A.length) := by by_cases h : s < A.length <;> simp [h] <;> omega
        have b2 : decide (m < ze) = decide (0 < t) := by by_cases h : 0 < t <;> simp [h] <;> omega
        have b3 : decide (a < z) = decide (0 < s) := by by_cases h : 0 < s <;> simp [h] <;> omega
        have b4 : decide (z < zm) = decide (0 < t) := by by_cases h : 0 < t <;> simp [h] <;> omega
        have b5 : decide (zm < ze) = decide (s < A.length) := by by_cases h : s < A.length <;> simp [h] <;> omega
        have b6 : decide (ze < b) = decide (t < B.length) := by by_cases h : t < B.length <;> simp [h] <;> omega
        obtain ⟨R1, R2, R3, hR3, ⟨p1, p2⟩, ⟨p3, p4⟩, ⟨p5, p6⟩⟩ := sym_parts f D c g cap N u2 X A B Z u3 u4 u5 u6 u7 u8 u9 s t hsA htB (by omega) len (by rw [List.length_append, List.length_append, List.length_append]; omega) hcap hn a m b z ze zm (by omega) (by omega) (by omega) hs (by omega) (by omega)
        rw [← hcut] at hR3
        have HP := Lib.hid (And.intro p1 (And.intro p2 (And.intro p3 (And.intro p4 (And.intro p5 p6)))))
        have hR2 := Lib.hid (And.intro i6 i7)
        clear p1 p2 p3 p4 p5 p6 i1 i2 i3 i4 i5 i6 i7 k1 k2 k3 k4 k5 k6 k7 k8 k9 k10 k11 k12 k13 k14 k15 u1 u2 u3 u4 u5 u6 u7 u8 u9 hze hs ht hsA htB hcut hzr
        generalize hp : decide (s < A.length) = p at b1 b5
        generalize hq : decide (0 < t) = q at b2 b4
        generalize hu : decide (0 < s) = u at b3
        generalize hv : decide (t < B.length) = v at b6
        cases p <;> cases q <;> cases u <;> cases v
        case true.true.true.true =>
          go_wp2_with (first
            | (go_at_call 115; (with_reducible refine (HP.out.1 (of_decide_eq_true hp) (of_decide_eq_true hq) _ hR2.out.1).mono ?_); rintro e w7 ⟨⟨v7, rfl⟩, hR7, hB7⟩)
            | (go_at_call 106; (with_reducible refine (HP.out.2.2.1 (of_decide_eq_true hu) (of_decide_eq_true hq) _ hR7).mono ?_); rintro e w8 ⟨⟨v8, rfl⟩, hR8, hB8⟩)
            | (go_at_call 106; (with_reducible refine (HP.out.2.2.2.2.1 (of_decide_eq_true hp) (of_decide_eq_true hv) _ hR8).mono ?_); rintro e w9 ⟨⟨v9, rfl⟩, hR9, hB9⟩))
          exact ⟨rfl, .tuple #[], by simp [results, Tryd.results106], ⟨_, rfl⟩, by rw [← hR3]; exact hR9, (((hR2.out.2.trans hB7).trans hB8).trans hB9)⟩
        case true.true.true.false =>
          have q3 := Lib.hid (HP.out.2.2.2.2.2 (fun h => of_decide_eq_false hv h.2))
          go_wp2_with (first
            | (go_at_call 115; (with_reducible refine (HP.out.1 (of_decide_eq_true hp) (of_decide_eq_true hq) _ hR2.out.1).mono ?_); rintro e w7 ⟨⟨v7, rfl⟩, hR7, hB7⟩)
            | (go_at_call 106; (with_reducible refine (HP.out.2.2.1 (of_decide_eq_true hu) (of_decide_eq_true hq) _ hR7).mono ?_); rintro e w8 ⟨⟨v8, rfl⟩, hR8, hB8⟩))
          exact ⟨rfl, .tuple #[], by simp [results, Tryd.results106], ⟨_, rfl⟩, by rw [← hR3]; exact (q3.out ▸ hR8), ((hR2.out.2.trans hB7).trans hB8)⟩
        case true.true.false.true =>
          have q2 := Lib.hid (HP.out.2.2.2.1 (fun h => of_decide_eq_false hu h.1))
          go_wp2_with (first
            | (go_at_call 115; (with_reducible refine (HP.out.1 (of_decide_eq_true hp) (of_decide_eq_true hq) _ hR2.out.1).mono ?_); rintro e w7 ⟨⟨v7, rfl⟩, hR7, hB7⟩)
            | (go_at_call 106; (with_reducible refine (HP.out.2.2.2.2.1 (of_decide_eq_true hp) (of_decide_eq_true hv) _ (q2.out ▸ hR7)).mono ?_); rintro e w9 ⟨⟨v9, rfl⟩, hR9, hB9⟩))
          exact ⟨rfl, .tuple #[], by simp [results, Tryd.results106], ⟨_, rfl⟩, by rw [← hR3]; exact hR9, ((hR2.out.2.trans hB7).trans hB9)⟩
        case true.true.false.false =>
          have q2 := Lib.hid (HP.out.2.2.2.1 (fun h => of_decide_eq_false hu h.1))
          have q3 := Lib.hid (HP.out.2.2.2.2.2 (fun h => of_decide_eq_false hv h.2))
          go_wp2_with (first
            | (go_at_call 115; (with_reducible refine (HP.out.1 (of_decide_eq_true hp) (of_decide_eq_true hq) _ hR2.out.1).mono ?_); rintro e w7 ⟨⟨v7, rfl⟩, hR7, hB7⟩))
          exact ⟨rfl, .tuple #[], by simp [results, Tryd.results106], ⟨_, rfl⟩, by rw [← hR3]; exact (q3.out ▸ (q2.out ▸ hR7)), (hR2.out.2.trans hB7)⟩
        case true.false.true.true =>
          have q1 := Lib.hid (HP.out.2.1 (fun h => of_decide_eq_false hq h.2))
          have q2 := Lib.hid (HP.out.2.2.2.1 (fun h => of_decide_eq_false hq h.2))
          go_wp2_with (first
            | (go_at_call 106; (with_reducible refine (HP.out.2.2.2.2.1 (of_decide_eq_true hp) (of_decide_eq_true hv) _ (q2.out ▸ (q1.out ▸ hR2.out.1))).mono ?_); rintro e w9 ⟨⟨v9, rfl⟩, hR9, hB9⟩))
          exact ⟨rfl, .tuple #[], by simp [results, Tryd.results106], ⟨_, rfl⟩, by rw [← hR3]; exact hR9, (hR2.out.2.trans hB9)⟩
        case true.false.true.false =>
          have q1 := Lib.hid (HP.out.2.1 (fun h => of_decide_eq_false hq h.2))
          have q2 := Lib.hid (HP.out.2.2.2.1 (fun h => of_decide_eq_false hq h.2))
          have q3 := Lib.hid (HP.out.2.2.2.2.2 (fun h => of_decide_eq_false hv h.2))
          go_wp2
          exact ⟨rfl, .tuple #[], by simp [results, Tryd.results106], ⟨_, rfl⟩, by rw [← hR3]; exact (q3.out ▸ (q2.out ▸ (q1.out ▸ hR2.out.1))), hR2.out.2⟩
        case true.false.false.true =>
          have q1 := Lib.hid (HP.out.2.1 (fun h => of_decide_eq_false hq h.2))
          have q2 := Lib.hid (HP.out.2.2.2.1 (fun h => of_decide_eq_false hu h.1))
          go_wp2_with (first
            | (go_at_call 106; (with_reducible refine (HP.out.2.2.2.2.1 (of_decide_eq_true hp) (of_decide_eq_true hv) _ (q2.out ▸ (q1.out ▸ hR2.out.1))).mono ?_); rintro e w9 ⟨⟨v9, rfl⟩, hR9, hB9⟩))
          exact ⟨rfl, .tuple #[], by simp [results, Tryd.results106], ⟨_, rfl⟩, by rw [← hR3]; exact hR9, (hR2.out.2.trans hB9)⟩
        case true.false.false.false =>
          have q1 := Lib.hid (HP.out.2.1 (fun h => of_decide_eq_false hq h.2))
          have q2 := Lib.hid (HP.out.2.2.2.1 (fun h => of_decide_eq_false hu h.1))
          have q3 := Lib.hid (HP.out.2.2.2.2.2 (fun h => of_decide_eq_false hv h.2))
          go_wp2
          exact ⟨rfl, .tuple #[], by simp [results, Tryd.results106], ⟨_, rfl⟩, by rw [← hR3]; exact (q3.out ▸ (q2.out ▸ (q1.out ▸ hR2.out.1))), hR2.out.2⟩
        case false.true.true.true =>
          have q1 := Lib.hid (HP.out.2.1 (fun h => of_decide_eq_false hp h.1))
          have q3 := Lib.hid (HP.out.2.2.2.2.2 (fun h => of_decide_eq_false hp h.1))
          go_wp2_with (first
            | (go_at_call 106; (with_reducible refine (HP.out.2.2.1 (of_decide_eq_true hu) (of_decide_eq_true hq) _ (q1.out ▸ hR2.out.1)).mono ?_); rintro e w8 ⟨⟨v8, rfl⟩, hR8, hB8⟩))
          exact ⟨rfl, .tuple #[], by simp [results, Tryd.results106], ⟨_, rfl⟩, by rw [← hR3]; exact (q3.out ▸ hR8), (hR2.out.2.trans hB8)⟩
        case false.true.true.false =>
          have q1 := Lib.hid (HP.out.2.1 (fun h => of_decide_eq_false hp h.1))
          have q3 := Lib.hid (HP.out.2.2.2.2.2 (fun h => of_decide_eq_false hp h.1))
          go_wp2_with (first
            | (go_at_call 106; (with_reducible refine (HP.out.2.2.1 (of_decide_eq_true hu) (of_decide_eq_true hq) _ (q1.out ▸ hR2.out.1)).mono ?_); rintro e w8 ⟨⟨v8, rfl⟩, hR8, hB8⟩))
          exact ⟨rfl, .tuple #[], by simp [results, Tryd.results106], ⟨_, rfl⟩, by rw [← hR3]; exact (q3.out ▸ hR8), (hR2.out.2.trans hB8)⟩
        case false.true.false.true =>
          have q1 := Lib.hid (HP.out.2.1 (fun h => of_decide_eq_false hp h.1))
          have q2 := Lib.hid (HP.out.2.2.2.1 (fun h => of_decide_eq_false hu h.1))
          have q3 := Lib.hid (HP.out.2.2.2.2.2 (fun h => of_decide_eq_false hp h.1))
          go_wp2
          exact ⟨rfl, .tuple #[], by simp [results, Tryd.results106], ⟨_, rfl⟩, by rw [← hR3]; exact (q3.out ▸ (q2.out ▸ (q1.out ▸ hR2.out.1))), hR2.out.2⟩
        case false.true.false.false =>
          have q1 := Lib.hid (HP.out.2.1 (fun h => of_decide_eq_false hp h.1))
          have q2 := Lib.hid (HP.out.2.2.2.1 (fun h => of_decide_eq_false hu h.1))
          have q3 := Lib.hid (HP.out.2.2.2.2.2 (fun h => of_decide_eq_false hp h.1))
          go_wp2
          exact ⟨rfl, .tuple #[], by simp [results, Tryd.results106], ⟨_, rfl⟩, by rw [← hR3]; exact (q3.out ▸ (q2.out ▸ (q1.out ▸ hR2.out.1))), hR2.out.2⟩
        case false.false.true.true =>
          have q1 := Lib.hid (HP.out.2.1 (fun h => of_decide_eq_false hp h.1))
          have q2 := Lib.hid (HP.out.2.2.2.1 (fun h => of_decide_eq_false hq h.2))
          have q3 := Lib.hid (HP.out.2.2.2.2.2 (fun h => of_decide_eq_false hp h.1))
          go_wp2
          exact ⟨rfl, .tuple #[], by simp [results, Tryd.results106], ⟨_, rfl⟩, by rw [← hR3]; exact (q3.out ▸ (q2.out ▸ (q1.out ▸ hR2.out.1))), hR2.out.2⟩
        case false.false.true.false =>
          have q1 := Lib.hid (HP.out.2.1 (fun h => of_decide_eq_false hp h.1))
          have q2 := Lib.hid (HP.out.2.2.2.1 (fun h => of_decide_eq_false hq h.2))
          have q3 := Lib.hid (HP.out.2.2.2.2.2 (fun h => of_decide_eq_false hp h.1))
          go_wp2
          exact ⟨rfl, .tuple #[], by simp [results, Tryd.results106], ⟨_, rfl⟩, by rw [← hR3]; exact (q3.out ▸ (q2.out ▸ (q1.out ▸ hR2.out.1))), hR2.out.2⟩
        case false.false.false.true =>
          have q1 := Lib.hid (HP.out.2.1 (fun h => of_decide_eq_false hp h.1))
          have q2 := Lib.hid (HP.out.2.2.2.1 (fun h => of_decide_eq_false hu h.1))
          have q3 := Lib.hid (HP.out.2.2.2.2.2 (fun h => of_decide_eq_false hp h.1))
          go_wp2
          exact ⟨rfl, .tuple #[], by simp [results, Tryd.results106], ⟨_, rfl⟩, by rw [← hR3]; exact (q3.out ▸ (q2.out ▸ (q1.out ▸ hR2.out.1))), hR2.out.2⟩
        case false.false.false.false =>
          have q1 := Lib.hid (HP.out.2.1 (fun h => of_decide_eq_false hp h.1))
          have q2 := Lib.hid (HP.out.2.2.2.1 (fun h => of_decide_eq_false hu h.1))
          have q3 := Lib.hid (HP.out.2.2.2.2.2 (fun h => of_decide_eq_false hp h.1))
          go_wp2
          exact ⟨rfl, .tuple #[], by simp [results, Tryd.results106], ⟨_, rfl⟩, by rw [← hR3]; exact (q3.out ▸ (q2.out ▸ (q1.out ▸ hR2.out.1))), hR2.out.2⟩
  · clear d0
    replace q1 := Lib.hid q1
    replace q2 := Lib.hid q2
    go_enter Tryd.func106, Tryd.ntmps106
    go_wp2
    clear e1 e2 em en ep d1
    go_loopw [20, 21] (fun v20 v21 wr => ∃ (z r : Int), v20 = .int .i64 z ∧ v21 = .int .i64 r ∧ Hid (st0 ≤ z ∧ z ≤ r ∧ r ≤ r0 ∧ (∀ (i : Nat) (x y : Array Value), st0 ≤ a + i → a + i < z → A[i]? = some x → B[mu - 1 - i]? = some y → 0 ≤ c y x) ∧ (∀ (i : Nat) (x y : Array Value), r ≤ a + i → a + i < r0 → A[i]? = some x → B[mu - 1 - i]? = some y → c y x < 0) ∧ RowsAt wr g 32 (X ++ A ++ B ++ Z) ∧ But g w wr)) (fun v20 v21 _ => (intOf v21 - intOf v20).toNat)
    case atStart =>
      refine ⟨st0, r0, by first | rfl | exact congrArg _ q1.out.symm, by first | rfl | exact congrArg _ q2.out.symm, Lib.hid ⟨Int.le_refl _, HE.out.2.2.2.2.2.2.2.2.2.1, Int.le_refl _, fun i x y h1 h2 => absurd h2 (by omega), fun i x y h1 h2 => absurd h2 (by omega), HR.out, But.refl _ _⟩⟩
    case round =>
      obtain ⟨z, r, rfl, rfl, hI⟩ := hrel
      by_cases hlt : z < r
      · have d1 : decide (z < r) = true := decide_eq_true hlt
        obtain ⟨i1, i2, i3, i4, i5, i6, i7⟩ := hI.out
        obtain ⟨k1, k2, k3, k4, k5, k6, k7, k8, k9, k10, k11, k12, k13, k14, k15⟩ := HE.out
        obtain ⟨u1, u2, u3, u4, u5, u6, u7, u8, u9⟩ := HH.out
        obtain ⟨zk, hzk⟩ : ∃ zk : Int, zk = (z + r) / 2 := ⟨_, rfl⟩
        have eh : wrap64 (IntKind.u64.wrap (wrap64 (z + r)) / 2) = zk := by rw [half_ _ (by omega) (by omega), hzk]
        obtain ⟨zq, hzq⟩ : ∃ zq : Int, zq = zp - zk := ⟨_, rfl⟩
        have eqq : wrap64 (zp - zk) = zq := by unfold wrap64; omega
        obtain ⟨ki, hki⟩ : ∃ ki : Nat, zk = a + ki := ⟨(zk - a).toNat, by omega⟩
        have hkA : ki < A.length := by omega
        have hkm : ki < mu := by omega
        have hkB : mu - 1 - ki < B.length := by omega
        obtain ⟨x, hx⟩ : ∃ x, A[ki]? = some x := ⟨_, List.getElem?_eq_getElem hkA⟩
        obtain ⟨y, hy⟩ : ∃ y, B[mu - 1 - ki]? = some y := ⟨_, List.getElem?_eq_getElem hkB⟩
        have J0 : (X ++ A ++ B ++ Z)[zk.toNat]? = some x := by
          rw [List.append_assoc, List.append_assoc, List.getElem?_append_right (by omega), List.getElem?_append_left (by omega), show zk.toNat - X.length = ki by omega, hx]
        have J1 : (X ++ A ++ B ++ Z)[zq.toNat]? = some y := by
          rw [List.append_assoc, List.getElem?_append_right (by rw [List.length_append]; omega), List.getElem?_append_left (by rw [List.length_append]; omega), List.length_append, show zq.toNat - (X.length + A.length) = mu - 1 - ki by omega, hy]
        have dx : D x := u8 x (List.mem_of_getElem? hx)
        have dy : D y := u9 y (List.mem_of_getElem? hy)
        obtain ⟨cv, hcv⟩ : ∃ cv, cv = c y x := ⟨_, rfl⟩
        have HQ := u1.calls y x dy dx
        rw [← hcv] at HQ
        replace HQ := Lib.hid HQ
        have d2 : (0 ≤ zk) = True := eq_true (by omega)
        have d3 : (zk < (len : Int)) = True := eq_true (by omega)
        have d4 : (0 ≤ zq) = True := eq_true (by omega)
        have d5 : (zq < (len : Int)) = True := eq_true (by omega)
        have eq1 : wrap64 (zk + 1) = zk + 1 := by unfold wrap64; omega
        have hm1 : zk + 1 ≤ r ∧ z ≤ zk := by omega
        have hR2 := i6.below (below_drew (Below.refl _ _))
        have hBt := i7.trans (But.of_below (below_drew (Below.refl _ _)))
        have HZ := Lib.hid (And.intro hki (And.intro hx (And.intro hy (And.intro hcv (And.intro hkm (And.intro hm1 (And.intro eq1 hlt)))))))
        replace J0 := Lib.hid J0
        replace J1 := Lib.hid J1
        clear i1 i2 i3 i4 i5 i6 i7 k1 k2 k3 k4 k5 k6 k7 k8 k9 k10 k11 k12 k13 k14 k15 u1 u2 u3 u4 u5 u6 u7 u8 u9 hzk hzq hki hkA hkm hkB hx hy dx dy hcv eq1 hm1 hlt
        go_upto_region 35 with (fail)
        refine start_ (n := 14) (S := fun w' => RowsAt w' g 32 (X ++ A ++ B ++ Z)) (ds := []) (bs 14 0) (by kernel_rfl) rfl (by kernel_rfl) hR2 (fun hHeld => ?_)
        refine with_tabW rg106_35_tab rg106_35_bits (fun HT_ HW_ => ?_)
        refine pu 0 (some 158) (bs 14 1) HT_ rfl rfl (by kernel_rfl) (fun _ _ _ _ h => h) ⟨_, .inl ⟨by rfl, fun _ => by go_simp; with_reducible rfl⟩, _, by simp only [Act.put, sA, sB, sC, i64_w, i32_w]; rfl, ?_⟩
        refine pu 1 (some 159) (bs 14 3) HT_ rfl rfl (by kernel_rfl) (fun _ _ _ _ h => h) ⟨_, .inl ⟨by rfl, fun _ => by go_simp; with_reducible rfl⟩, _, by simp only [Act.put, sA, sB, sC, i64_w, i32_w]; rfl, ?_⟩
        refine pu 2 (some 160) (bs 14 7) HT_ rfl rfl (by kernel_rfl) (fun _ _ _ _ h => h) ⟨_, .inl ⟨by rfl, fun _ => by go_simp; with_reducible rfl⟩, _, by simp only [Act.put, sA, sB, sC, i64_w, i32_w]; rfl, ?_⟩
        refine pu 3 (some 161) (bs 14 15) HT_ rfl rfl (by kernel_rfl) (fun _ _ _ _ h => h) ⟨_, .inl ⟨by rfl, fun _ => by go_simp; with_reducible rfl⟩, _, by simp only [Act.put, sA, sB, sC, i64_w, i32_w]; rfl, ?_⟩
        refine pu 4 (some 162) (bs 14 31) HT_ rfl rfl (by kernel_rfl) (fun _ _ _ _ h => h) ⟨_, .inl ⟨by rfl, fun _ => by go_simp; with_reducible rfl⟩, _, by simp only [Act.put, sA, sB, sC, i64_w, i32_w]; rfl, ?_⟩
        refine pu 5 (some 163) (bs 14 63) HT_ rfl rfl (by kernel_rfl) (fun _ _ _ _ h => h) ⟨_, .inl ⟨by rfl, fun _ => by go_simp; with_reducible rfl⟩, _, by simp only [Act.put, sA, sB, sC, i64_w, i32_w]; rfl, ?_⟩
        refine pu 7 (some 165) (bs 14 191) HT_ rfl rfl (by kernel_rfl) (fun _ _ _ _ h => h) ⟨_, .inl ⟨by rfl, fun _ => by go_simp; with_reducible rfl⟩, _, by simp only [Act.put, sA, sB, sC, i64_w, i32_w]; rfl, ?_⟩
        refine pu 8 (some 166) (bs 14 447) HT_ rfl rfl (by kernel_rfl) (fun _ _ _ _ h => h) ⟨_, .inl ⟨by rfl, fun _ => by go_simp; with_reducible rfl⟩, _, by simp only [Act.put, sA, sB, sC, i64_w, i32_w]; rfl, ?_⟩
        refine pu 9 (some 167) (bs 14 959) HT_ rfl rfl (by kernel_rfl) (fun _ _ _ _ h => h) ⟨_, .inl ⟨by rfl, fun _ => by go_simp; with_reducible rfl⟩, _, by simp only [Act.put, sA, sB, sC, i64_w, i32_w]; rfl, ?_⟩
        refine tk 6 (some 164) (bs 14 1023) HT_ HW_ rfl rfl (by kernel_rfl) (fun _ _ _ _ h => h) hHeld ⟨_, .inl ⟨by rfl, by rintro w' s0; refine load_mid (x := .tmp 163) (j := zq.toNat) ?_ ?_ rfl s0 J1.out Tryd.underlying48 rfl (by kernel_rfl) <;> rfl⟩, _, by simp only [Act.put, sA, sB, sC, i64_w, i32_w]; rfl, ?_⟩
        refine tk 10 (some 168) (bs 14 2047) HT_ HW_ rfl rfl (by kernel_rfl) (fun _ _ _ _ h => h) hHeld ⟨_, .inl ⟨by rfl, by rintro w' s0; refine load_mid (x := .tmp 167) (j := zk.toNat) ?_ ?_ rfl s0 J0.out Tryd.underlying48 rfl (by kernel_rfl) <;> rfl⟩, _, by simp only [Act.put, sA, sB, sC, i64_w, i32_w]; rfl, ?_⟩
        refine on1 11 (some 169) (bs 14 4095) HT_ rfl rfl (by kernel_rfl) (by decide) (fun K hK => ?_)
        refine goesv_ (f := f) (x := .tmp 158) HF.out.1 HF.out.2.1 HF.out.2.2 #[.agg y, .agg x] (by rfl) rfl rfl rfl (by (try simp only [List.map_toArray, List.map_cons, List.map_nil]); first | done | rfl) ?_
        refine (HQ.out _).mono ?_
        rintro e w1 ⟨rfl, hb1⟩
        replace hR2 := hR2.below hb1
        replace hBt := hBt.trans (But.of_below hb1)
        clear hb1
        refine ⟨_, rfl, ?_⟩
        refine hK.out _ _ hR2 (fun hHeld => ?_)
        clear hK K
        refine nm ⟨_, show Act.put _ (some 169) _ = _ by simp only [Act.put, sA, sB, sC, i64_w, i32_w]; rfl, ?_⟩
        refine pu 12 (some 170) (bs 14 8191) HT_ rfl rfl (by kernel_rfl) (fun _ _ _ _ h => h) ⟨_, .inl ⟨by rfl, fun _ => by go_simp; with_reducible rfl⟩, _, by simp only [Act.put, sA, sB, sC, i64_w, i32_w]; rfl, ?_⟩
        refine pu 13 (some 171) (bs 14 16383) HT_ rfl rfl (by kernel_rfl) (fun _ _ _ _ h => h) ⟨_, .inl ⟨by rfl, fun _ => by go_simp; with_reducible rfl⟩, _, by simp only [Act.put, sA, sB, sC, i64_w, i32_w]; rfl, ?_⟩
        refine done_ (done_of HT_.out (by kernel_rfl)) ?_
        generalize hnb : (!decide (cv < 0)) = nb
        cases nb
        · have hneg : cv < 0 := by
            by_cases h9 : cv < 0
            · exact h9
            · rw [decide_eq_false h9] at hnb; cases hnb
          clear hnb
          go_wp2
          go_roundw
          case rel =>
            obtain ⟨i1, i2, i3, i4, i5, i6, i7⟩ := hI.out
            obtain ⟨j1, j2, j3, j4, j5, j6, j7, j8⟩ := HZ.out
            obtain ⟨u1, u2, u3, u4, u5, u6, u7, u8, u9⟩ := HH.out
            refine ⟨z, zk, rfl, by first | rfl | rw [eh], Lib.hid ⟨i1, by omega, by omega, i4, fun i x' y' h1 h2 h3 h4 => ?_, hR2, hBt⟩⟩
            by_cases h5 : r ≤ a + i
            · exact i5 i x' y' h5 h2 h3 h4
            · have k10 := HE.out.2.2.2.2.2.2.2.2
              have hik := HE.out.2.2.2.2.2
              exact Srt.test_up hc A B u6 u7 mu ki i (by omega) (by omega) j2 j3 h3 h4 (by rw [← j4]; exact hneg)
          case measure => have := HZ.out.2.2.2.2.2; simp [intOf]; omega
        · have hneg : ¬ cv < 0 := fun h9 => by rw [decide_eq_true h9] at hnb; cases hnb
          clear hnb
          go_wp2
          go_roundw
          case rel =>
            obtain ⟨i1, i2, i3, i4, i5, i6, i7⟩ := hI.out
            obtain ⟨j1, j2, j3, j4, j5, j6, j7, j8⟩ := HZ.out
            obtain ⟨u1, u2, u3, u4, u5, u6, u7, u8, u9⟩ := HH.out
            refine ⟨zk + 1, r, by first | rfl | rw [j7], rfl, Lib.hid ⟨by omega, by omega, i3, fun i x' y' h1 h2 h3 h4 => ?_, i5, hR2, hBt⟩⟩
            by_cases h5 : c y' x' < 0
            · have := Srt.test_up hc A B u6 u7 mu i ki (by omega) j5 h3 h4 j2 j3 h5
              rw [← j4] at this
              omega
            · omega
          case measure => have := HZ.out.2.2.2.2.2; simp [intOf]; omega
      · have hzr : z = r := by have := hI.out.2.1; omega
        have d1 : decide (z < r) = false := decide_eq_false hlt
        clear hlt
        obtain ⟨i1, i2, i3, i4, i5, i6, i7⟩ := hI.out
        obtain ⟨k1, k2, k3, k4, k5, k6, k7, k8, k9, k10, k11, k12, k13, k14, k15⟩ := HE.out
        obtain ⟨u1, u2, u3, u4, u5, u6, u7, u8, u9⟩ := HH.out
        obtain ⟨ze, hze⟩ : ∃ ze : Int, ze = zn - z := ⟨_, rfl⟩
        have eze : wrap64 (zn - z) = ze := by unfold wrap64; omega
        obtain ⟨s, hs⟩ : ∃ s : Nat, z = a + s := ⟨(z - a).toNat, by omega⟩
        obtain ⟨t, ht⟩ : ∃ t : Nat, mu = s + t := ⟨mu - s, by omega⟩
        have hsA : s ≤ A.length := by omega
        have htB : t ≤ B.length := by omega
        have hcut := Srt.merge_cut hc A B u6 u7 s t hsA htB (fun x y h1 h2 h3 => by
            have h4 := (List.getElem?_eq_some_iff.1 h3).1
            have := i4 (s - 1) x y (by omega) (by omega) h2 (by rw [show mu - 1 - (s - 1) = t by omega]; exact h3)
            omega) (fun x y h1 h2 h3 => by
            have h4 := (List.getElem?_eq_some_iff.1 h2).1
            exact i5 s x y (by omega) (by omega) h2 (by rw [show mu - 1 - s = t - 1 by omega]; exact h3))
        have b1 : decide (z < m) = decide (s < A.length) := by by_cases h : s < A.length <;> simp [h] <;> omega
        have b2 : decide (m < ze) = decide (0 < t) := by by_cases h : 0 < t <;> simp [h] <;> omega
        have b3 : decide (a < z) = decide (0 < s) := by by_cases h : 0 < s <;> simp [h] <;> omega
        have b4 : decide (z < zm) = decide (0 < t) := by by_cases h : 0 < t <;> simp [h] <;> omega
        have b5 : decide (zm < ze) = decide (s < A.length) := by by_cases h : s < A.length <;> simp [h] <;> omega
        have b6 : decide (ze < b) = decide (t < B.length) := by by_cases h : t < B.length <;> simp [h] <;> omega
        obtain ⟨R1, R2, R3, hR3, ⟨p1, p2⟩, ⟨p3, p4⟩, ⟨p5, p6⟩⟩ := sym_parts f D c g cap N u2 X A B Z u3 u4 u5 u6 u7 u8 u9 s t hsA htB (by omega) len (by rw [List.length_append, List.length_append, List.length_append]; omega) hcap hn a m b z ze zm (by omega) (by omega) (by omega) hs (by omega) (by omega)
        rw [← hcut] at hR3
        have HP := Lib.hid (And.intro p1 (And.intro p2 (And.intro p3 (And.intro p4 (And.intro p5 p6)))))
        have hR2 := Lib.hid (And.intro i6 i7)
        clear p1 p2 p3 p4 p5 p6 i1 i2 i3 i4 i5 i6 i7 k1 k2 k3 k4 k5 k6 k7 k8 k9 k10 k11 k12 k13 k14 k15 u1 u2 u3 u4 u5 u6 u7 u8 u9 hze hs ht hsA htB hcut hzr
        generalize hp : decide (s < A.length) = p at b1 b5
        generalize hq : decide (0 < t) = q at b2 b4
        generalize hu : decide (0 < s) = u at b3
        generalize hv : decide (t < B.length) = v at b6
        cases p <;> cases q <;> cases u <;> cases v
        case true.true.true.true =>
          go_wp2_with (first
            | (go_at_call 115; (with_reducible refine (HP.out.1 (of_decide_eq_true hp) (of_decide_eq_true hq) _ hR2.out.1).mono ?_); rintro e w7 ⟨⟨v7, rfl⟩, hR7, hB7⟩)
            | (go_at_call 106; (with_reducible refine (HP.out.2.2.1 (of_decide_eq_true hu) (of_decide_eq_true hq) _ hR7).mono ?_); rintro e w8 ⟨⟨v8, rfl⟩, hR8, hB8⟩)
            | (go_at_call 106; (with_reducible refine (HP.out.2.2.2.2.1 (of_decide_eq_true hp) (of_decide_eq_true hv) _ hR8).mono ?_); rintro e w9 ⟨⟨v9, rfl⟩, hR9, hB9⟩))
          exact ⟨rfl, .tuple #[], by simp [results, Tryd.results106], ⟨_, rfl⟩, by rw [← hR3]; exact hR9, (((hR2.out.2.trans hB7).trans hB8).trans hB9)⟩
        case true.true.true.false =>
          have q3 := Lib.hid (HP.out.2.2.2.2.2 (fun h => of_decide_eq_false hv h.2))
          go_wp2_with (first
            | (go_at_call 115; (with_reducible refine (HP.out.1 (of_decide_eq_true hp) (of_decide_eq_true hq) _ hR2.out.1).mono ?_); rintro e w7 ⟨⟨v7, rfl⟩, hR7, hB7⟩)
            | (go_at_call 106; (with_reducible refine (HP.out.2.2.1 (of_decide_eq_true hu) (of_decide_eq_true hq) _ hR7).mono ?_); rintro e w8 ⟨⟨v8, rfl⟩, hR8, hB8⟩))
          exact ⟨rfl, .tuple #[], by simp [results, Tryd.results106], ⟨_, rfl⟩, by rw [← hR3]; exact (q3.out ▸ hR8), ((hR2.out.2.trans hB7).trans hB8)⟩
        case true.true.false.true =>
          have q2 := Lib.hid (HP.out.2.2.2.1 (fun h => of_decide_eq_false hu h.1))
          go_wp2_with (first
            | (go_at_call 115; (with_reducible refine (HP.out.1 (of_decide_eq_true hp) (of_decide_eq_true hq) _ hR2.out.1).mono ?_); rintro e w7 ⟨⟨v7, rfl⟩, hR7, hB7⟩)
            | (go_at_call 106; (with_reducible refine (HP.out.2.2.2.2.1 (of_decide_eq_true hp) (of_decide_eq_true hv) _ (q2.out ▸ hR7)).mono ?_); rintro e w9 ⟨⟨v9, rfl⟩, hR9, hB9⟩))
          exact ⟨rfl, .tuple #[], by simp [results, Tryd.results106], ⟨_, rfl⟩, by rw [← hR3]; exact hR9, ((hR2.out.2.trans hB7).trans hB9)⟩
        case true.true.false.false =>
          have q2 := Lib.hid (HP.out.2.2.2.1 (fun h => of_decide_eq_false hu h.1))
          have q3 := Lib.hid (HP.out.2.2.2.2.2 (fun h => of_decide_eq_false hv h.2))
          go_wp2_with (first
            | (go_at_call 115; (with_reducible refine (HP.out.1 (of_decide_eq_true hp) (of_decide_eq_true hq) _ hR2.out.1).mono ?_); rintro e w7 ⟨⟨v7, rfl⟩, hR7, hB7⟩))
          exact ⟨rfl, .tuple #[], by simp [results, Tryd.results106], ⟨_, rfl⟩, by rw [← hR3]; exact (q3.out ▸ (q2.out ▸ hR7)), (hR2.out.2.trans hB7)⟩
        case true.false.true.true =>
          have q1 := Lib.hid (HP.out.2.1 (fun h => of_decide_eq_false hq h.2))
          have q2 := Lib.hid (HP.out.2.2.2.1 (fun h => of_decide_eq_false hq h.2))
          go_wp2_with (first
            | (go_at_call 106; (with_reducible refine (HP.out.2.2.2.2.1 (of_decide_eq_true hp) (of_decide_eq_true hv) _ (q2.out ▸ (q1.out ▸ hR2.out.1))).mono ?_); rintro e w9 ⟨⟨v9, rfl⟩, hR9, hB9⟩))
          exact ⟨rfl, .tuple #[], by simp [results, Tryd.results106], ⟨_, rfl⟩, by rw [← hR3]; exact hR9, (hR2.out.2.trans hB9)⟩
        case true.false.true.false =>
          have q1 := Lib.hid (HP.out.2.1 (fun h => of_decide_eq_false hq h.2))
          have q2 := Lib.hid (HP.out.2.2.2.1 (fun h => of_decide_eq_false hq h.2))
          have q3 := Lib.hid (HP.out.2.2.2.2.2 (fun h => of_decide_eq_false hv h.2))
          go_wp2
          exact ⟨rfl, .tuple #[], by simp [results, Tryd.results106], ⟨_, rfl⟩, by rw [← hR3]; exact (q3.out ▸ (q2.out ▸ (q1.out ▸ hR2.out.1))), hR2.out.2⟩
        case true.false.false.true =>
          have q1 := Lib.hid (HP.out.2.1 (fun h => of_decide_eq_false hq h.2))
          have q2 := Lib.hid (HP.out.2.2.2.1 (fun h => of_decide_eq_false hu h.1))
          go_wp2_with (first
            | (go_at_call 106; (with_reducible refine (HP.out.2.2.2.2.1 (of_decide_eq_true hp) (of_decide_eq_true hv) _ (q2.out ▸ (q1.out ▸ hR2.out.1))).mono ?_); rintro e w9 ⟨⟨v9, rfl⟩, hR9, hB9⟩))
          exact ⟨rfl, .tuple #[], by simp [results, Tryd.results106], ⟨_, rfl⟩, by rw [← hR3]; exact hR9, (hR2.out.2.trans hB9)⟩
        case true.false.false.false =>
          have q1 := Lib.hid (HP.out.2.1 (fun h => of_decide_eq_false hq h.2))
          have q2 := Lib.hid (HP.out.2.2.2.1 (fun h => of_decide_eq_false hu h.1))
          have q3 := Lib.hid (HP.out.2.2.2.2.2 (fun h => of_decide_eq_false hv h.2))
          go_wp2
          exact ⟨rfl, .tuple #[], by simp [results, Tryd.results106], ⟨_, rfl⟩, by rw [← hR3]; exact (q3.out ▸ (q2.out ▸ (q1.out ▸ hR2.out.1))), hR2.out.2⟩
        case false.true.true.true =>
          have q1 := Lib.hid (HP.out.2.1 (fun h => of_decide_eq_false hp h.1))
          have q3 := Lib.hid (HP.out.2.2.2.2.2 (fun h => of_decide_eq_false hp h.1))
          go_wp2_with (first
            | (go_at_call 106; (with_reducible refine (HP.out.2.2.1 (of_decide_eq_true hu) (of_decide_eq_true hq) _ (q1.out ▸ hR2.out.1)).mono ?_); rintro e w8 ⟨⟨v8, rfl⟩, hR8, hB8⟩))
          exact ⟨rfl, .tuple #[], by simp [results, Tryd.results106], ⟨_, rfl⟩, by rw [← hR3]; exact (q3.out ▸ hR8), (hR2.out.2.trans hB8)⟩
        case false.true.true.false =>
          have q1 := Lib.hid (HP.out.2.1 (fun h => of_decide_eq_false hp h.1))
          have q3 := Lib.hid (HP.out.2.2.2.2.2 (fun h => of_decide_eq_false hp h.1))
          go_wp2_with (first
            | (go_at_call 106; (with_reducible refine (HP.out.2.2.1 (of_decide_eq_true hu) (of_decide_eq_true hq) _ (q1.out ▸ hR2.out.1)).mono ?_); rintro e w8 ⟨⟨v8, rfl⟩, hR8, hB8⟩))
          exact ⟨rfl, .tuple #[], by simp [results, Tryd.results106], ⟨_, rfl⟩, by rw [← hR3]; exact (q3.out ▸ hR8), (hR2.out.2.trans hB8)⟩
        case false.true.false.true =>
          have q1 := Lib.hid (HP.out.2.1 (fun h => of_decide_eq_false hp h.1))
          have q2 := Lib.hid (HP.out.2.2.2.1 (fun h => of_decide_eq_false hu h.1))
          have q3 := Lib.hid (HP.out.2.2.2.2.2 (fun h => of_decide_eq_false hp h.1))
          go_wp2
          exact ⟨rfl, .tuple #[], by simp [results, Tryd.results106], ⟨_, rfl⟩, by rw [← hR3]; exact (q3.out ▸ (q2.out ▸ (q1.out ▸ hR2.out.1))), hR2.out.2⟩
        case false.true.false.false =>
          have q1 := Lib.hid (HP.out.2.1 (fun h => of_decide_eq_false hp h.1))
          have q2 := Lib.hid (HP.out.2.2.2.1 (fun h => of_decide_eq_false hu h.1))
          have q3 := Lib.hid (HP.out.2.2.2.2.2 (fun h => of_decide_eq_false hp h.1))
          go_wp2
          exact ⟨rfl, .tuple #[], by simp [results, Tryd.results106], ⟨_, rfl⟩, by rw [← hR3]; exact (q3.out ▸ (q2.out ▸ (q1.out ▸ hR2.out.1))), hR2.out.2⟩
        case false.false.true.true =>
          have q1 := Lib.hid (HP.out.2.1 (fun h => of_decide_eq_false hp h.1))
          have q2 := Lib.hid (HP.out.2.2.2.1 (fun h => of_decide_eq_false hq h.2))
          have q3 := Lib.hid (HP.out.2.2.2.2.2 (fun h => of_decide_eq_false hp h.1))
          go_wp2
          exact ⟨rfl, .tuple #[], by simp [results, Tryd.results106], ⟨_, rfl⟩, by rw [← hR3]; exact (q3.out ▸ (q2.out ▸ (q1.out ▸ hR2.out.1))), hR2.out.2⟩
        case false.false.true.false =>
          have q1 := Lib.hid (HP.out.2.1 (fun h => of_decide_eq_false hp h.1))
          have q2 := Lib.hid (HP.out.2.2.2.1 (fun h => of_decide_eq_false hq h.2))
          have q3 := Lib.hid (HP.out.2.2.2.2.2 (fun h => of_decide_eq_false hp h.1))
          go_wp2
          exact ⟨rfl, .tuple #[], by simp [results, Tryd.results106], ⟨_, rfl⟩, by rw [← hR3]; exact (q3.out ▸ (q2.out ▸ (q1.out ▸ hR2.out.1))), hR2.out.2⟩
        case false.false.false.true =>
          have q1 := Lib.hid (HP.out.2.1 (fun h => of_decide_eq_false hp h.1))
          have q2 := Lib.hid (HP.out.2.2.2.1 (fun h => of_decide_eq_false hu h.1))
          have q3 := Lib.hid (HP.out.2.2.2.2.2 (fun h => of_decide_eq_false hp h.1))
          go_wp2
          exact ⟨rfl, .tuple #[], by simp [results, Tryd.results106], ⟨_, rfl⟩, by rw [← hR3]; exact (q3.out ▸ (q2.out ▸ (q1.out ▸ hR2.out.1))), hR2.out.2⟩
        case false.false.false.false =>
          have q1 := Lib.hid (HP.out.2.1 (fun h => of_decide_eq_false hp h.1))
          have q2 := Lib.hid (HP.out.2.2.2.1 (fun h => of_decide_eq_false hu h.1))
          have q3 := Lib.hid (HP.out.2.2.2.2.2 (fun h => of_decide_eq_false hp h.1))
          go_wp2
          exact ⟨rfl, .tuple #[], by simp [results, Tryd.results106], ⟨_, rfl⟩, by rw [← hR3]; exact (q3.out ▸ (q2.out ▸ (q1.out ▸ hR2.out.1))), hR2.out.2⟩
theorem sym_calls (f : FuncId) (D : Array Value → Prop) (c : Array Value → Array Value → Int) (hcmp : CmpAt f D c) (hc : Wc.IsCmp c) (g cap N : Nat) : SymOk f D c g cap N := by
  induction N with
  | zero => intro X A B Z h1 h2; omega
  | succ N ih =>
    intro X A B Z h1 h2 h3 hA hB hDA hDB len hlen hcap hn a m b ha hm hb w hR
    rcases Nat.lt_or_ge A.length 2 with hl | hl
    · obtain ⟨x, rfl⟩ : ∃ x, A = [x] := List.length_eq_one_iff.1 (by omega)
      exact sym_one f D c hcmp hc X B Z x h3 hB (hDA x (by simp)) hDB g cap len hlen hcap hn a m b ha (by simpa using hm) (by simpa using hb) w hR
    · rcases Nat.lt_or_ge B.length 2 with hk | hk
      · obtain ⟨y, rfl⟩ : ∃ y, B = [y] := List.length_eq_one_iff.1 (by omega)
        exact sym_last f D c hcmp hc X A Z y hl hA (hDB y (by simp)) hDA g cap len hlen hcap hn a m b ha hm (by simpa using hb) w hR
      · exact sym_main f D c hcmp hc g cap N ih X A B Z h1 hl hk hA hB hDA hDB len hlen hcap hn a m b ha hm hb w hR
end Go.Proofs.YtoepbjgldmgaoaaDoor

/- Stable sorting by blocks, plainly: what each block holds on the way. -/
namespace Go.Proofs.YtoepbjgldmgaoaaDoor.Srt
open Go.Proofs.YtoepbjgldmgaoaaDoor.Wc
variable {α : Type} {c : α → α → Int}
def seg (L : List α) (a n : Nat) : List α := (L.drop a).take n
theorem seg_length (L : List α) (a n : Nat) : (seg L a n).length = min n (L.length - a) := by simp [seg]
theorem seg_cut (L : List α) (a n m : Nat) : seg L a (n + m) = seg L a n ++ seg L (a + n) m := by
  unfold seg
  rw [List.take_add, List.drop_drop]
theorem seg_split (L : List α) (a n : Nat) : L.take a ++ seg L a n ++ L.drop (a + n) = L := by
  unfold seg
  rw [List.append_assoc, ← List.drop_drop, List.take_append_drop, List.take_append_drop]
theorem seg_nil (L : List α) (a n : Nat) (h : L.length ≤ a) : seg L a n = [] := by
  unfold seg
  rw [List.drop_eq_nil_of_le h, List.take_nil]
theorem seg_all (L : List α) (a n : Nat) (h : L.length ≤ a + n) : seg L a n = L.drop a := by
  unfold seg
  rw [List.take_of_length_le (by rw [List.length_drop]; omega)]
section
variable (R Y : List α) (a w : Nat) (h : a + w ≤ R.length) (hY : Y.length = w)
include h hY
theorem rep_len : (R.take a ++ Y ++ R.drop (a + w)).length = R.length := by simp; omega
theorem rep_left (b n : Nat) (hb : b + n ≤ a) : seg (R.take a ++ Y ++ R.drop (a + w)) b n = seg R b n := by
  unfold seg
  rw [List.append_assoc, List.drop_append_of_le_length (by rw [List.length_take]; omega), List.take_append_of_le_length (by rw [List.length_drop, List.length_take]; omega), List.drop_take, List.take_take, show min n (a - b) = n by omega]
theorem rep_drop : (R.take a ++ Y ++ R.drop (a + w)).drop (a + w) = R.drop (a + w) := by
  rw [List.drop_append, List.drop_of_length_le (by rw [List.length_append, List.length_take]; omega), List.nil_append, List.length_append, List.length_take, show a + w - (min a R.length + Y.length) = 0 by omega, List.drop_zero]
theorem rep_right (b n : Nat) (hb : a + w ≤ b) : seg (R.take a ++ Y ++ R.drop (a + w)) b n = seg R b n := by
  unfold seg
  rw [show b = (a + w) + (b - (a + w)) by omega, ← List.drop_drop, rep_drop R Y a w h hY, List.drop_drop]
theorem rep_mid : seg (R.take a ++ Y ++ R.drop (a + w)) a w = Y := by
  unfold seg
  have e : (R.take a).length = a := by rw [List.length_take]; omega
  rw [List.append_assoc, List.drop_append_of_le_length (by omega), List.drop_of_length_le (by omega), List.nil_append, List.take_append_of_le_length (by omega), List.take_of_length_le (by omega)]
end
theorem mul_lt_ {k j m : Nat} (h : k < j) : k * m + m ≤ j * m := by
  have := Nat.mul_le_mul_right m (show k + 1 ≤ j by omega)
  rw [Nat.add_mul, Nat.one_mul] at this
  exact this
structure Begun (c : α → α → Int) (n a : Nat) (L R : List α) : Prop where
  len : R.length = L.length
  fst : ∀ k, k * n + n ≤ a → seg R (k * n) n = isort c (seg L (k * n) n)
  snd : R.drop a = L.drop a
structure Blocks (c : α → α → Int) (n : Nat) (L R : List α) : Prop where
  len : R.length = L.length
  all : ∀ k, seg R (k * n) n = isort c (seg L (k * n) n)
structure Part (c : α → α → Int) (m n a : Nat) (L R : List α) : Prop where
  len : R.length = L.length
  fst : ∀ k, k * m + m ≤ a → seg R (k * m) m = isort c (seg L (k * m) m)
  snd : ∀ k, a ≤ k * n → seg R (k * n) n = isort c (seg L (k * n) n)
theorem Begun.start (n : Nat) (hn : 0 < n) (L : List α) : Begun c n 0 L L := ⟨rfl, fun k hk => by omega, rfl⟩
theorem Begun.next {n a : Nat} {L R : List α} (h : Begun c n a L R) (j : Nat) (ha : a = j * n) (hb : a + n ≤ L.length) (hn : 0 < n) :
    Begun c n (a + n) L (R.take a ++ isort c ((R.drop a).take (a + n - a)) ++ R.drop (a + n)) := by
  have hl := h.len
  rw [show a + n - a = n by omega]
  have li : (isort c ((R.drop a).take n)).length = n := by rw [isort_length, List.length_take, List.length_drop]; omega
  refine ⟨by rw [rep_len R _ a n (by omega) li, hl], fun k hk => ?_, ?_⟩
  · rcases Nat.lt_trichotomy k j with g | g | g
    · have := mul_lt_ (m := n) g
      rw [rep_left R _ a n (by omega) li _ _ (by omega), h.fst k (by omega)]
    · subst g
      rw [← ha, rep_mid R _ a n (by omega) li, h.snd]
      rfl
    · have := mul_lt_ (m := n) g
      omega
  · rw [rep_drop R _ a n (by omega) li, ← List.drop_drop, ← List.drop_drop, h.snd]
theorem Begun.last {n a : Nat} {L R : List α} (h : Begun c n a L R) (j : Nat) (ha : a = j * n) (hb : L.length < a + n) (hal : a ≤ L.length) (hn : 0 < n) :
    Blocks c n L (R.take a ++ isort c ((R.drop a).take (L.length - a)) ++ R.drop L.length) := by
  have hl := h.len
  obtain ⟨w, hw⟩ : ∃ w, w = L.length - a := ⟨_, rfl⟩
  rw [← hw, show L.length = a + w by omega]
  have li : (isort c ((R.drop a).take w)).length = w := by rw [isort_length, List.length_take, List.length_drop]; omega
  have hlen := rep_len R _ a w (by omega) li
  refine ⟨by rw [hlen, hl], fun k => ?_⟩
  rcases Nat.lt_trichotomy k j with g | g | g
  · have := mul_lt_ (m := n) g
    rw [rep_left R _ a w (by omega) li _ _ (by omega), h.fst k (by omega)]
  · subst g
    rw [← ha, seg_all _ a n (by omega), ← seg_all _ a w (by omega), rep_mid R _ a w (by omega) li, h.snd, seg_all L a n (by omega), List.take_of_length_le (by rw [List.length_drop]; omega)]
  · have := mul_lt_ (m := n) g
    rw [seg_nil _ _ _ (by omega), seg_nil _ _ _ (by omega)]
    rfl
theorem Blocks.part {n : Nat} {L R : List α} (h : Blocks c n L R) (hn : 0 < n) : Part c (2 * n) n 0 L R := ⟨h.len, fun k hk => by omega, fun k _ => h.all k⟩
theorem Blocks.end_ {n : Nat} {L R : List α} (h : Blocks c n L R) (hn : L.length ≤ n) : R = isort c L := by
  have := h.all 0
  have hl := h.len
  rw [Nat.zero_mul, seg_all _ _ _ (by omega), seg_all _ _ _ (by omega)] at this
  exact this
theorem Part.two {n a : Nat} {L R : List α} (h : Part c (2 * n) n a L R) (hc : IsCmp c) (j : Nat) (ha : a = j * (2 * n)) : merge c (seg R a n) (seg R (a + n) n) = isort c (seg L a (2 * n)) := by
  have e1 : a = (2 * j) * n := by rw [ha, Nat.mul_left_comm, ← Nat.mul_assoc]
  have e2 : a + n = (2 * j + 1) * n := by rw [Nat.add_mul, Nat.one_mul, ← e1]
  have h1 := h.snd (2 * j) (by omega)
  have h2 := h.snd (2 * j + 1) (by omega)
  rw [← e1] at h1
  rw [← e2] at h2
  rw [h1, h2, ← isort_app hc, show 2 * n = n + n by omega, seg_cut]
theorem Part.next {n a : Nat} {L R : List α} (h : Part c (2 * n) n a L R) (hc : IsCmp c) (j : Nat) (ha : a = j * (2 * n)) (hb : a + 2 * n ≤ L.length) (hn : 0 < n) :
    Part c (2 * n) n (a + 2 * n) L (R.take a ++ merge c (seg R a n) (seg R (a + n) n) ++ R.drop (a + 2 * n)) := by
  have hl := h.len
  have li : (merge c (seg R a n) (seg R (a + n) n)).length = 2 * n := by rw [merge_length _ _ _ (Nat.le_refl _), seg_length, seg_length]; omega
  refine ⟨by rw [rep_len R _ a (2 * n) (by omega) li, hl], fun k hk => ?_, fun k hk => ?_⟩
  · rcases Nat.lt_trichotomy k j with g | g | g
    · have := mul_lt_ (m := 2 * n) g
      rw [rep_left R _ a (2 * n) (by omega) li _ _ (by omega), h.fst k (by omega)]
    · subst g
      rw [← ha, rep_mid R _ a (2 * n) (by omega) li, h.two hc k ha]
    · have := mul_lt_ (m := 2 * n) g
      omega
  · rw [rep_right R _ a (2 * n) (by omega) li _ _ (by omega), h.snd k (by omega)]
theorem Part.most {n a : Nat} {L R : List α} (h : Part c (2 * n) n a L R) (hc : IsCmp c) (j : Nat) (ha : a = j * (2 * n)) (hb : L.length < a + 2 * n) (hm : a + n < L.length) (hn : 0 < n) :
    Blocks c (2 * n) L (R.take a ++ merge c (seg R a n) (R.drop (a + n)) ++ []) := by
  have hl := h.len
  obtain ⟨w, hw⟩ : ∃ w, w = L.length - a := ⟨_, rfl⟩
  have e0 : ([] : List α) = R.drop (a + w) := by rw [List.drop_eq_nil_of_le (by omega)]
  rw [e0]
  have li : (merge c (seg R a n) (R.drop (a + n))).length = w := by rw [merge_length _ _ _ (Nat.le_refl _), seg_length, List.length_drop]; omega
  have hlen := rep_len R _ a w (by omega) li
  refine ⟨by rw [hlen, hl], fun k => ?_⟩
  rcases Nat.lt_trichotomy k j with g | g | g
  · have := mul_lt_ (m := 2 * n) g
    rw [rep_left R _ a w (by omega) li _ _ (by omega), h.fst k (by omega)]
  · subst g
    rw [← ha, seg_all _ a (2 * n) (by omega), ← seg_all _ a w (by omega), rep_mid R _ a w (by omega) li, ← seg_all R (a + n) n (by omega), h.two hc k ha]
  · have := mul_lt_ (m := 2 * n) g
    rw [seg_nil _ _ _ (by omega), seg_nil _ _ _ (by omega)]
    rfl
theorem Part.none_ {n a : Nat} {L R : List α} (h : Part c (2 * n) n a L R) (hc : IsCmp c) (j : Nat) (ha : a = j * (2 * n)) (hb : L.length ≤ a + n) (hn : 0 < n) : Blocks c (2 * n) L R := by
  have hl := h.len
  refine ⟨hl, fun k => ?_⟩
  rcases Nat.lt_trichotomy k j with g | g | g
  · have := mul_lt_ (m := 2 * n) g
    rw [h.fst k (by omega)]
  · subst g
    have e1 : a = (2 * k) * n := by rw [ha, Nat.mul_left_comm, ← Nat.mul_assoc]
    have h1 := h.snd (2 * k) (by omega)
    rw [← e1] at h1
    rw [← ha, seg_all _ a (2 * n) (by omega), seg_all _ a (2 * n) (by omega), ← seg_all R a n (by omega), h1, seg_all L a n (by omega)]
  · have := mul_lt_ (m := 2 * n) g
    rw [seg_nil _ _ _ (by omega), seg_nil _ _ _ (by omega)]
    rfl
theorem Blocks.sorted {n : Nat} {L R : List α} (h : Blocks c n L R) (hc : IsCmp c) (k : Nat) : Sorted c (seg R (k * n) n) := by rw [h.all]; exact isort_sorted hc _
end Go.Proofs.YtoepbjgldmgaoaaDoor.Srt

/- Stable sorting, plainly: sorting pictures; what is equal among itself keeps its order; the document's way (put in from behind). -/
namespace Go.Proofs.YtoepbjgldmgaoaaDoor.Srt
open Go.Proofs.YtoepbjgldmgaoaaDoor.Wc
variable {α β : Type}
theorem ins_map (c : α → α → Int) (f : β → α) (x : β) (l : List β) : (ins (fun a b => c (f a) (f b)) x l).map f = ins c (f x) (l.map f) := by
  induction l with
  | nil => rfl
  | cons y l ih =>
    simp only [ins, List.map_cons]
    split
    · rfl
    · rw [List.map_cons, ih]
theorem isort_map (c : α → α → Int) (f : β → α) (l : List β) : (isort (fun a b => c (f a) (f b)) l).map f = isort c (l.map f) := by
  have key : ∀ (l acc : List β), (l.foldl (fun acc x => ins (fun a b => c (f a) (f b)) x acc) acc).map f = (l.map f).foldl (fun acc x => ins c x acc) (acc.map f) := by
    intro l
    induction l with
    | nil => intro acc; rfl
    | cons x l ih => intro acc; rw [List.foldl_cons, ih, ins_map, List.map_cons, List.foldl_cons]
  exact key l []
theorem ins_congr {c c' : α → α → Int} (x : α) (l : List α) (h : ∀ y ∈ l, (c x y < 0 ↔ c' x y < 0)) : ins c x l = ins c' x l := by
  induction l with
  | nil => rfl
  | cons y l ih =>
    simp only [ins]
    have h1 := h y List.mem_cons_self
    by_cases g : c x y < 0
    · rw [if_pos g, if_pos (h1.1 g)]
    · rw [if_neg g, if_neg (fun k => g (h1.2 k)), ih (fun z hz => h z (List.mem_cons_of_mem _ hz))]
theorem isort_congr {c c' : α → α → Int} (l : List α) (h : ∀ x ∈ l, ∀ y ∈ l, (c x y < 0 ↔ c' x y < 0)) : isort c l = isort c' l := by
  have key : ∀ (l acc : List α), (∀ x ∈ l, ∀ y, y ∈ l ∨ y ∈ acc → (c x y < 0 ↔ c' x y < 0)) → l.foldl (fun acc x => ins c x acc) acc = l.foldl (fun acc x => ins c' x acc) acc := by
    intro l
    induction l with
    | nil => intro acc _; rfl
    | cons x l ih =>
      intro acc hh
      have e : ins c x acc = ins c' x acc := ins_congr x acc (fun y hy => hh x List.mem_cons_self y (.inr hy))
      rw [List.foldl_cons, List.foldl_cons, e]
      refine ih _ (fun z hz y hy => hh z (List.mem_cons_of_mem _ hz) y ?_)
      rcases hy with hy | hy
      · exact .inl (List.mem_cons_of_mem _ hy)
      · rcases (mem_ins x y acc).1 hy with rfl | hy
        · exact .inl List.mem_cons_self
        · exact .inr hy
  exact key l [] (fun x hx y hy => h x hx y (hy.resolve_right List.not_mem_nil))
theorem ins_perm (c : α → α → Int) (x : α) (l : List α) : (ins c x l).Perm (x :: l) := by
  induction l with
  | nil => exact List.Perm.refl _
  | cons y l ih =>
    simp only [ins]
    split
    · exact List.Perm.refl _
    · exact (List.Perm.cons y ih).trans (List.Perm.swap x y l)
theorem isort_perm (c : α → α → Int) (l : List α) : (isort c l).Perm l := by
  have key : ∀ (l acc : List α), (l.foldl (fun acc x => ins c x acc) acc).Perm (acc ++ l) := by
    intro l
    induction l with
    | nil => intro acc; rw [List.append_nil]; exact List.Perm.refl _
    | cons x l ih =>
      intro acc
      rw [List.foldl_cons]
      refine (ih _).trans ?_
      refine ((ins_perm c x acc).append_right l).trans ?_
      exact List.perm_middle.symm
  exact key l []
theorem mem_merge (c : α → α → Int) (x : α) : ∀ (n : Nat) (A B : List α), A.length + B.length ≤ n → (x ∈ merge c A B ↔ x ∈ A ∨ x ∈ B) := by
  intro n
  induction n with
  | zero =>
    intro A B hn
    obtain rfl : A = [] := List.length_eq_zero_iff.1 (by omega)
    rw [merge_nil_left]
    simp
  | succ n ih =>
    intro A B hn
    cases A with
    | nil => rw [merge_nil_left]; simp
    | cons a A =>
      cases B with
      | nil => rw [merge_nil_right]; simp
      | cons b B =>
        rw [merge_cons]
        split
        · rw [List.mem_cons, ih _ _ (by simp at hn ⊢; omega)]
          simp only [List.mem_cons]
          exact ⟨fun g => by rcases g with g | (g | g) | g <;> simp [g], fun g => by rcases g with (g | g) | (g | g) <;> simp [g]⟩
        · rw [List.mem_cons, ih _ _ (by simp at hn ⊢; omega)]
          simp only [List.mem_cons]
          exact ⟨fun g => by rcases g with g | g | (g | g) <;> simp [g], fun g => by rcases g with (g | g) | (g | g) <;> simp [g]⟩
def back (lt : α → α → Bool) (x : α) (acc : List α) (n : Nat) : Nat :=
  match n with
  | 0 => 0
  | n + 1 => match acc[n]? with
    | some y => if lt x y then back lt x acc n else n + 1
    | none => 0
theorem back_ins {c : α → α → Int} (h : IsCmp c) (x : α) (acc : List α) (hs : Sorted c acc) : ∀ (n : Nat), n ≤ acc.length → (∀ i y, n ≤ i → acc[i]? = some y → c x y < 0) →
    acc.take (back (fun a b => decide (c a b < 0)) x acc n) ++ x :: acc.drop (back (fun a b => decide (c a b < 0)) x acc n) = ins c x acc := by
  intro n
  induction n with
  | zero =>
    intro hn hab
    simp only [back, List.take_zero, List.drop_zero, List.nil_append]
    cases acc with
    | nil => rfl
    | cons y l =>
      simp only [ins]
      rw [if_pos (hab 0 y (Nat.le_refl _) rfl)]
  | succ n ih =>
    intro hn hab
    have e : acc[n]? = some acc[n] := List.getElem?_eq_getElem (by omega)
    simp only [back, e]
    by_cases g : c x acc[n] < 0
    · simp only [decide_eq_true g, if_true]
      refine ih (by omega) (fun i y hi hy => ?_)
      rcases Nat.lt_or_eq_of_le hi with hi | hi
      · exact hab i y hi hy
      · subst hi
        rw [e] at hy
        obtain rfl := Option.some.inj hy
        exact g
    · simp only [decide_eq_false g, Bool.false_eq_true, if_false]
      have h1 := ins_at (c := c) x (acc.take (n + 1)) (acc.drop (n + 1)) (fun a ha hlt => ?_) (fun b hb => ?_)
      · rw [List.take_append_drop] at h1
        exact h1.symm
      · obtain ⟨i, hi, ea⟩ := mem_take_at ha
        exact g (h.lt_trans hlt (sorted_le h hs (by omega) ea e))
      · obtain ⟨i, hi, eb⟩ := mem_drop_at hb
        exact hab i b hi eb
end Go.Proofs.YtoepbjgldmgaoaaDoor.Srt

/- slices' stable sort over a block of objects: blocks of twenty, put in order by insertion, then merged. -/
namespace Go.Proofs.YtoepbjgldmgaoaaDoor
open Go.RowKit Go.Proofs.YtoepbjgldmgaoaaDoorW.PrintWords Go.Proofs.YtoepbjgldmgaoaaDoorW.PrintLast
def StI (D : Array Value → Prop) (g : Nat) (w wr : World) (R : List (Array Value)) : Prop := RowsAt wr g 32 R ∧ But g w wr ∧ ∀ x ∈ R, D x
theorem ins_seg (f : FuncId) (D : Array Value → Prop) (c : Array Value → Array Value → Int) (hcmp : CmpAt f D c) (hc : Wc.IsCmp c) (g cap len : Nat) (hcap : len ≤ cap) (hn : len ≤ 1099511627776) (R : List (Array Value)) (hl : R.length = len) (w W : World) (hS : StI D g w W R) (a b : Nat) (hab : a ≤ b) (hb : b ≤ len) (za zb : Int) (ha : za = a) (hz : zb = b) :
    Calls Tryd.prog 105 #[.slice (some ⟨g, 0, none⟩) len cap, .int .i64 za, .int .i64 zb, .func (.func f) #[] #[]] W fun e w' =>
      (∃ v, e = .returned v) ∧ StI D g w w' (R.take a ++ Srt.isort c ((R.drop a).take (b - a)) ++ R.drop b) := by
  subst hl; subst ha; subst hz
  refine (insSort_calls f D c hcmp hc R hS.2.2 g cap a b hab hb hcap hn W hS.1).mono ?_
  rintro e w' ⟨hv, hR, hB⟩
  refine ⟨hv, hR, hS.2.1.trans hB, fun x hx => hS.2.2 x ?_⟩
  rcases List.mem_append.1 hx with hx | hx
  · rcases List.mem_append.1 hx with hx | hx
    · exact List.mem_of_mem_take hx
    · exact List.mem_of_mem_drop (List.mem_of_mem_take ((Srt.mem_isort x _).1 hx))
  · exact List.mem_of_mem_drop hx
theorem merge_seg (f : FuncId) (D : Array Value → Prop) (c : Array Value → Array Value → Int) (hcmp : CmpAt f D c) (hc : Wc.IsCmp c) (g cap len : Nat) (hcap : len ≤ cap) (hn : len ≤ 1099511627776) (R : List (Array Value)) (hl : R.length = len) (w W : World) (hS : StI D g w W R) (a k q : Nat) (hk : 0 < k) (hq : 0 < q) (hle : a + k + q ≤ len)
    (sA : Srt.Sorted c (Srt.seg R a k)) (sB : Srt.Sorted c (Srt.seg R (a + k) q)) (za zc zb : Int) (ha : za = a) (hz : zc = a + k) (hb : zb = a + k + q) :
    Calls Tryd.prog 106 #[.slice (some ⟨g, 0, none⟩) len cap, .int .i64 za, .int .i64 zc, .int .i64 zb, .func (.func f) #[] #[]] W fun e w' =>
      (∃ v, e = .returned v) ∧ StI D g w w' (R.take a ++ Srt.merge c (Srt.seg R a k) (Srt.seg R (a + k) q) ++ R.drop (a + k + q)) := by
  have lA : (Srt.seg R a k).length = k := by rw [Srt.seg_length]; omega
  have lB : (Srt.seg R (a + k) q).length = q := by rw [Srt.seg_length]; omega
  have lX : (R.take a).length = a := by rw [List.length_take]; omega
  have e : R.take a ++ Srt.seg R a k ++ Srt.seg R (a + k) q ++ R.drop (a + k + q) = R := by
    rw [List.append_assoc (R.take a), ← Srt.seg_cut, Nat.add_assoc, Srt.seg_split]
  have mA : ∀ y ∈ Srt.seg R a k, y ∈ R := fun y hy => List.mem_of_mem_drop (List.mem_of_mem_take hy)
  have mB : ∀ y ∈ Srt.seg R (a + k) q, y ∈ R := fun y hy => List.mem_of_mem_drop (List.mem_of_mem_take hy)
  have hW := hS.1
  rw [← e] at hW
  refine (sym_calls f D c hcmp hc g cap (k + q) (R.take a) (Srt.seg R a k) (Srt.seg R (a + k) q) (R.drop (a + k + q)) (by omega) (by omega) (by omega) sA sB (fun y hy => hS.2.2 y (mA y hy)) (fun y hy => hS.2.2 y (mB y hy)) len (by rw [e, hl]) hcap hn za zc zb (by omega) (by omega) (by omega) W hW).mono ?_
  rintro e' w' ⟨hv, hR, hB⟩
  refine ⟨hv, hR, hS.2.1.trans hB, fun x hx => hS.2.2 x ?_⟩
  rcases List.mem_append.1 hx with hx | hx
  · rcases List.mem_append.1 hx with hx | hx
    · exact List.mem_of_mem_take hx
    · rcases (Srt.mem_merge c x _ _ _ (Nat.le_refl _)).1 hx with hx | hx
      · exact mA x hx
      · exact mB x hx
  · exact List.mem_of_mem_drop hx
set_option maxHeartbeats 8000000 in
set_option maxRecDepth 100000 in
theorem stable_calls (f : FuncId) (D : Array Value → Prop) (c : Array Value → Array Value → Int) (hcmp : CmpAt f D c) (hc : Wc.IsCmp c) (g cap len : Nat) (hcap : len ≤ cap) (hn : len ≤ 1099511627776) (L : List (Array Value)) (hl : L.length = len) (w W0 : World) (hS : StI D g w W0 L) (n : Int) (hnn : n = len) :
    Calls Tryd.prog 82 #[.slice (some ⟨g, 0, none⟩) len cap, .int .i64 n, .func (.func f) #[] #[]] W0 fun e w' =>
      (∃ v, e = .returned v) ∧ StI D g w w' (Srt.isort c L) := by
  have QI := Lib.hid (fun (R : List (Array Value)) (h : R.length = len) (W : World) => ins_seg f D c hcmp hc g cap len hcap hn R h w W)
  have QM := Lib.hid (fun (R : List (Array Value)) (h : R.length = len) (W : World) => merge_seg f D c hcmp hc g cap len hcap hn R h w W)
  have HS := Lib.hid hS
  have HN := Lib.hid (And.intro hl (And.intro hn (And.intro hnn hc)))
  clear hcmp hS hl hn hnn hc hcap
  go_enter Tryd.func82, Tryd.ntmps82
  go_wp2
  go_loopw [7, 8] (fun v7 v8 wr => ∃ (za zb : Int), v7 = .int .i64 za ∧ v8 = .int .i64 zb ∧ Hid (∃ (R : List (Array Value)) (a j : Nat), za = a ∧ zb = a + 20 ∧ a = j * 20 ∧ a ≤ len ∧ Srt.Begun c 20 a L R ∧ StI D g w wr R)) (fun v7 _ _ => (n - intOf v7).toNat)
  case atStart => exact ⟨_, _, rfl, rfl, Lib.hid ⟨L, 0, 0, rfl, rfl, rfl, Nat.zero_le _, Srt.Begun.start 20 (by omega) L, HS.out⟩⟩
  case round =>
    obtain ⟨za, zb, rfl, rfl, hI⟩ := hrel
    obtain ⟨R, a, j, h1, h2, h3, h4, h5, h6⟩ := hI.out
    obtain ⟨n1, n2, n3, n4⟩ := HN.out
    have hll := h5.len
    by_cases hlt : zb ≤ n
    · have d1 : decide (zb ≤ n) = true := decide_eq_true hlt
      obtain ⟨zb2, hzb2⟩ : ∃ z : Int, z = zb + 20 := ⟨_, rfl⟩
      have e1 : wrap64 (zb + 20) = zb2 := by unfold wrap64; omega
      have HQ := Lib.hid (QI.out R (by omega) wr h6 a (a + 20) (by omega) (by omega) za zb h1 (by omega))
      have HB := Lib.hid (h5.next j h3 (by omega) (by omega))
      have HA := Lib.hid (And.intro h1 (And.intro h2 (And.intro h3 (And.intro h4 (And.intro hzb2 (And.intro hlt (And.intro n1 (And.intro n2 n3))))))))
      clear hI h1 h2 h3 h4 h5 h6 n1 n2 n3 n4 hll hzb2 hlt
      go_wp2_with (go_at_call 105; (with_reducible refine HQ.out.mono ?_); rintro e w7 ⟨⟨v7, rfl⟩, hR7⟩)
      obtain ⟨h1, h2, h3, h4, h5, h6, n1, n2, n3⟩ := HA.out
      go_roundw
      case rel => exact ⟨zb, zb2, rfl, by first | rfl | rw [e1], Lib.hid ⟨_, a + 20, j + 1, by omega, by omega, by omega, by omega, HB.out, hR7⟩⟩
      case measure => simp [intOf]; omega
    · have d1 : decide (zb ≤ n) = false := decide_eq_false hlt
      have HQ := Lib.hid (QI.out R (by omega) wr h6 a len (by omega) (by omega) za n h1 (by omega))
      have HB : Hid (Srt.Blocks c 20 L (R.take a ++ Srt.isort c ((R.drop a).take (len - a)) ++ R.drop len)) := by
        have h7 := h5.last j h3 (by omega) (by omega) (by omega)
        rw [n1] at h7
        exact Lib.hid h7
      clear hI h1 h2 h3 h4 h5 h6 n1 n2 n3 n4 hll hlt
      go_wp2_with (go_at_call 105; (with_reducible refine HQ.out.mono ?_); rintro e w7 ⟨⟨v7, rfl⟩, hR7⟩)
      have HR7 : Hid (∃ R, Srt.Blocks c 20 L R ∧ StI D g w w7 R) := Lib.hid ⟨_, HB.out, hR7⟩
      clear HQ HB hR7
      clear d1
      go_loopw [6] (fun v6 wr => ∃ zk : Int, v6 = .int .i64 zk ∧ Hid (∃ (R : List (Array Value)) (k : Nat), zk = k ∧ 20 ≤ k ∧ k ≤ 2199023255552 ∧ Srt.Blocks c k L R ∧ StI D g w wr R)) (fun v6 _ => (n - intOf v6).toNat)
      case atStart =>
        obtain ⟨R, h1, h2⟩ := HR7.out
        exact ⟨_, rfl, Lib.hid ⟨R, 20, rfl, by omega, by omega, h1, h2⟩⟩
      case round =>
        clear HR7
        obtain ⟨zk, rfl, hI⟩ := hrel
        by_cases hlt : zk < n
        · have d1 : decide (zk < n) = true := decide_eq_true hlt
          obtain ⟨R0, k, h1, h2, h3, h4, h5⟩ := hI.out
          obtain ⟨zm, hzm⟩ : ∃ zm : Int, zm = 2 * zk := ⟨_, rfl⟩
          have e1 : wrap64 (2 * zk) = zm := by unfold wrap64; omega
          have e1' : wrap64 (zk * 2) = zm := by unfold wrap64; omega
          have HA := Lib.hid (And.intro h1 (And.intro h2 (And.intro h3 (And.intro hzm hlt))))
          have HP := Lib.hid (And.intro (h4.part (by omega)) h5)
          clear hI h1 h2 h3 h4 h5 hlt hzm
          obtain ⟨wo, hwo⟩ : ∃ wo : World, wo = wr := ⟨_, rfl⟩
          subst hwo
          go_wp2
          rw [e1]
          go_loopw [7, 8] (fun v7 v8 wq => ∃ (za zb : Int), v7 = .int .i64 za ∧ v8 = .int .i64 zb ∧ Hid (∃ (R : List (Array Value)) (a j : Nat), za = a ∧ zb = a + 2 * k ∧ a = j * (2 * k) ∧ a ≤ len ∧ Srt.Part c (2 * k) k a L R ∧ StI D g w wq R)) (fun v7 _ _ => (n - intOf v7).toNat)
          case atStart => exact ⟨0, zm, rfl, by first | rfl | rw [e1], Lib.hid ⟨R0, 0, 0, rfl, by have := HA.out; omega, by omega, Nat.zero_le _, HP.out.1, HP.out.2⟩⟩
          case round =>
            clear HP
            obtain ⟨za, zb, rfl, rfl, hI⟩ := hrel
            obtain ⟨R, a, j, h1, h2, h3, h4, h5, h6⟩ := hI.out
            obtain ⟨n1, n2, n3, n4⟩ := HN.out
            obtain ⟨k1, k2, k3, k4, k5⟩ := HA.out
            have hll := h5.len
            obtain ⟨zc, hzc⟩ : ∃ z : Int, z = za + zk := ⟨_, rfl⟩
            have e2 : wrap64 (za + zk) = zc := by unfold wrap64; omega
            have ea : a = (2 * j) * k := by rw [h3, Nat.mul_left_comm, ← Nat.mul_assoc]
            have eb : a + k = (2 * j + 1) * k := by rw [Nat.add_mul, Nat.one_mul, ← ea]
            have sA : Srt.Sorted c (Srt.seg R a k) := by
              rw [ea, h5.snd (2 * j) (by omega)]
              exact Srt.isort_sorted n4 _
            have sB : Srt.Sorted c (Srt.seg R (a + k) k) := by
              rw [eb, h5.snd (2 * j + 1) (by omega)]
              exact Srt.isort_sorted n4 _
            by_cases hlt : zb ≤ n
            · have d2 : decide (zb ≤ n) = true := decide_eq_true hlt
              obtain ⟨zb2, hzb2⟩ : ∃ z : Int, z = zb + zm := ⟨_, rfl⟩
              have e3 : wrap64 (zb + zm) = zb2 := by unfold wrap64; omega
              have HQ := Lib.hid (QM.out R (by omega) wr h6 a k k (by omega) (by omega) (by omega) sA sB za zc zb (by omega) (by omega) (by omega))
              have HB := Lib.hid (h5.next n4 j h3 (by omega) (by omega))
              rw [show a + 2 * k = a + k + k by omega] at HB
              have HC := Lib.hid (And.intro h1 (And.intro h2 (And.intro h3 (And.intro h4 (And.intro hzb2 (And.intro hlt (And.intro n1 (And.intro n2 n3))))))))
              clear hI h1 h2 h3 h4 h5 h6 n1 n2 n3 n4 hll hzb2 hlt k1 k2 k3 k4 k5 hzc ea eb sA sB
              go_wp2_with (go_at_call 106; (with_reducible refine HQ.out.mono ?_); rintro e w7 ⟨⟨v7, rfl⟩, hR7⟩)
              obtain ⟨h1, h2, h3, h4, h5, h6, n1, n2, n3⟩ := HC.out
              have k1 := HA.out
              go_roundw
              case rel => exact ⟨zb, zb2, rfl, by first | rfl | rw [e3], Lib.hid ⟨_, a + k + k, j + 1, by omega, by omega, by rw [Nat.add_mul]; omega, by omega, HB.out, hR7⟩⟩
              case measure => simp [intOf]; omega
            · have d2 : decide (zb ≤ n) = false := decide_eq_false hlt
              by_cases hlt2 : zc < n
              · have d3 : decide (zc < n) = true := decide_eq_true hlt2
                have sB2 : Srt.seg R (a + k) (len - (a + k)) = R.drop (a + k) := Srt.seg_all _ _ _ (by omega)
                have sB3 : Srt.seg R (a + k) k = R.drop (a + k) := Srt.seg_all _ _ _ (by omega)
                have HQ := Lib.hid (QM.out R (by omega) wr h6 a k (len - (a + k)) (by omega) (by omega) (by omega) sA (by rw [sB2, ← sB3]; exact sB) za zc n (by omega) (by omega) (by omega))
                have HB : Hid (Srt.Blocks c (2 * k) L (R.take a ++ Srt.merge c (Srt.seg R a k) (Srt.seg R (a + k) (len - (a + k))) ++ R.drop (a + k + (len - (a + k))))) := by
                  have h7 := h5.most n4 j h3 (by omega) (by omega) (by omega)
                  rw [sB2, show R.drop (a + k + (len - (a + k))) = [] from List.drop_eq_nil_of_le (by omega)]
                  exact Lib.hid h7
                clear hI h1 h2 h3 h4 h5 h6 n1 n2 n3 n4 hll hlt hlt2 k1 k2 k3 k4 k5 hzc ea eb sA sB sB2 sB3
                go_wp2_with (go_at_call 106; (with_reducible refine HQ.out.mono ?_); rintro e w7 ⟨⟨v7, rfl⟩, hR7⟩)
                have k1 := HA.out
                have n1 := HN.out
                go_roundw
                case rel => exact ⟨zm, by first | rfl | rw [e1'], Lib.hid ⟨_, 2 * k, by omega, by omega, by omega, HB.out, hR7⟩⟩
                case measure => simp [intOf]; omega
              · have d3 : decide (zc < n) = false := decide_eq_false hlt2
                have HB := Lib.hid (And.intro (h5.none_ n4 j h3 (by omega) (by omega)) h6)
                clear hI h1 h2 h3 h4 h5 h6 n1 n2 n3 n4 hll hlt hlt2 k1 k2 k3 k4 k5 hzc ea eb sA sB
                go_wp2
                have k1 := HA.out
                have n1 := HN.out
                go_roundw
                case rel => exact ⟨zm, by first | rfl | rw [e1'], Lib.hid ⟨_, 2 * k, by omega, by omega, by omega, HB.out.1, HB.out.2⟩⟩
                case measure => simp [intOf]; omega
        · have d1 : decide (zk < n) = false := decide_eq_false hlt
          go_wp2
          obtain ⟨R, k, h1, h2, h3, h4, h5⟩ := hI.out
          obtain ⟨n1, n2, n3, n4⟩ := HN.out
          have h6 := h4.end_ (by omega)
          rw [h6] at h5
          exact ⟨rfl, .tuple #[], by simp [results, Tryd.results82], ⟨_, rfl⟩, h5⟩
end Go.Proofs.YtoepbjgldmgaoaaDoor

/- The library's stable sort, over rows of the call's own: what they are is sorted, all else stays. -/
namespace Go.Proofs.YtoepbjgldmgaoaaDoor
open Go.RowKit Go.Proofs.YtoepbjgldmgaoaaDoorW.PrintWords Go.Proofs.YtoepbjgldmgaoaaDoorW.PrintLast
abbrev flat (L : List (Array Value)) : List Value := L.flatMap Array.toList
theorem flat_length (L : List (Array Value)) (h : ∀ x ∈ L, x.size = 32) : (flat L).length = L.length * 32 := by
  induction L with
  | nil => rfl
  | cons x L ih =>
    rw [flat, List.flatMap_cons, List.length_append, Array.length_toList, h x List.mem_cons_self, ih (fun y hy => h y (List.mem_cons_of_mem _ hy)), List.length_cons]
    omega
theorem flat_drop (L : List (Array Value)) (h : ∀ x ∈ L, x.size = 32) (j : Nat) : (flat L).drop (j * 32) = flat (L.drop j) := by
  induction j generalizing L with
  | zero => simp
  | succ j ih =>
    cases L with
    | nil => simp [flat]
    | cons x L =>
      have hx : x.toList.length = 32 := by rw [Array.length_toList, h x List.mem_cons_self]
      rw [flat, List.flatMap_cons, show (j + 1) * 32 = x.toList.length + j * 32 by omega, ← List.drop_drop, List.drop_left, List.drop_succ_cons]
      exact ih L (fun y hy => h y (List.mem_cons_of_mem _ hy))
theorem flat_at (L : List (Array Value)) (h : ∀ x ∈ L, x.size = 32) (j : Nat) (x : Array Value) (hj : L[j]? = some x) : ((flat L).drop (j * 32)).take 32 = x.toList := by
  obtain ⟨hlt, rfl⟩ := List.getElem?_eq_some_iff.1 hj
  have hx : (L[j]).toList.length = 32 := by rw [Array.length_toList, h _ (List.getElem_mem hlt)]
  rw [flat_drop L h, List.drop_eq_getElem_cons hlt, flat, List.flatMap_cons, ← hx, List.take_left]
theorem flat_get (L : List (Array Value)) (h : ∀ x ∈ L, x.size = 32) (j : Nat) (x : Array Value) (hj : L[j]? = some x) (i : Nat) (hi : i < 32) : (flat L)[j * 32 + i]? = x[i]? := by
  have h1 := flat_at L h j x hj
  have h2 : ((flat L).drop (j * 32)).take 32 = x.toList := h1
  have h3 : (((flat L).drop (j * 32)).take 32)[i]? = x.toList[i]? := by rw [h2]
  rw [List.getElem?_take, if_pos hi, List.getElem?_drop] at h3
  rw [h3]
  simp
theorem own_rows {w : World} {base e n g cap : Nat} {L : List (Array Value)} (ho : w.ownsRow base e 32 (.slice (some ⟨g, 0, none⟩) n cap) n (flat L)) (hn : L.length = n) (h1 : ∀ x ∈ L, x.size = 32 ∧ x.all (·.oneCell') = true) : RowsAt w g 32 L where
  one := h1
  row := fun j x hj i v hi => by
    have hlt := (List.getElem?_eq_some_iff.1 hj).1
    have hs := (h1 x (List.mem_of_getElem? hj)).1
    have hi2 : i < 32 := by
      have := (List.getElem?_eq_some_iff.1 hi).1
      rw [Array.length_toList, hs] at this
      exact this
    rw [ho.cellAt (j * 32 + i) (by omega), flat_get L (fun y hy => (h1 y hy).1) j x hj i hi2]
    simpa using hi
  there := fun j hj i hi => by
    refine ⟨?_, ho.frozenAt _⟩
    rw [ho.cellAt (j * 32 + i) (by omega), List.getElem?_eq_getElem (by rw [flat_length L (fun y hy => (h1 y hy).1)]; omega)]
    rfl
theorem rows_own {w w' : World} {base e n g cap : Nat} {inner : List Value} {L : List (Array Value)} (ho : w.ownsRow base e 32 (.slice (some ⟨g, 0, none⟩) n cap) n inner) (hB : But g w w') (hR : RowsAt w' g 32 L) (hn : L.length = n) : w'.ownsRow base e 32 (.slice (some ⟨g, 0, none⟩) n cap) n (flat L) := by
  have hs := fun x hx => (hR.one x hx).1
  refine ⟨by rw [flat_length L hs, hn], ?_⟩
  rcases ho.2 with ⟨h0, _⟩ | ⟨g', cap', cur, he, hb, hh, hnc, hcm, hcs, _⟩
  · cases h0
  · injection he with e1 _ e3
    injection e1 with e1
    injection e1 with e1
    subst e1; subst e3
    obtain ⟨cur', h', hs'⟩ := hB.shape cur e (0, 0) hh
    refine .inr ⟨g, cap, cur', rfl, hb, h', hnc, hcm, hs'.trans hcs, ?_⟩
    have hle : n * 32 ≤ cap * 32 := Nat.mul_le_mul_right _ hnc
    refine List.ext_getElem? (fun i => ?_)
    rcases Nat.lt_or_ge i (n * 32) with hi | hi
    · rw [List.getElem?_take, if_pos hi]
      have hj : i / 32 < L.length := by omega
      have hx : L[i / 32]? = some L[i / 32] := List.getElem?_eq_getElem hj
      have h3 := flat_get L hs (i / 32) _ hx (i % 32) (Nat.mod_lt _ (by omega))
      rw [show i / 32 * 32 + i % 32 = i by omega] at h3
      have hxs := hs _ (List.getElem_mem hj)
      have h4 : (L[i / 32])[i % 32]? = some (L[i / 32])[i % 32] := Array.getElem?_eq_getElem (by rw [hxs]; exact Nat.mod_lt _ (by omega))
      have h5 := hR.row (i / 32) _ hx (i % 32) _ (by rw [Array.getElem?_toList]; exact h4)
      rw [show i / 32 * 32 + i % 32 = i by omega, cell_of_row _ _ i _ _ _ h'] at h5
      rw [h3, h4, Array.getElem?_toList]
      exact h5
    · rw [List.getElem?_eq_none (by rw [List.length_take]; omega), List.getElem?_eq_none (by rw [flat_length L hs]; omega)]
theorem ins_zero (f : FuncId) (A : Option Addr) (c : Nat) (w : World) : Calls Tryd.prog 105 #[.slice A 0 c, .int .i64 0, .int .i64 0, .func (.func f) #[] #[]] w fun e w' => (∃ v, e = .returned v) ∧ w' = w := by
  go_enter Tryd.func105, Tryd.ntmps105
  go_wp2
  go_loop [8] (fun v => v = .int .i64 1) (fun _ => 0)
  case atStart => rfl
  case round =>
    subst hrel
    go_wp2
    exact ⟨rfl, .tuple #[], by simp [results, Tryd.results105], ⟨_, rfl⟩, rfl⟩
theorem stable_zero (f : FuncId) (A : Option Addr) (c : Nat) (w : World) : Calls Tryd.prog 82 #[.slice A 0 c, .int .i64 0, .func (.func f) #[] #[]] w fun e w' => (∃ v, e = .returned v) ∧ w' = w := by
  go_enter Tryd.func82, Tryd.ntmps82
  go_wp2
  go_loop [7, 8] (fun v7 v8 => v7 = .int .i64 0 ∧ v8 = .int .i64 20) (fun _ _ => 0)
  case atStart => exact ⟨rfl, rfl⟩
  case round =>
    obtain ⟨rfl, rfl⟩ := hrel
    go_wp2_with (go_at_call 105; (with_reducible refine (ins_zero f A c _).mono ?_); rintro e w7 ⟨⟨v7, rfl⟩, rfl⟩)
    go_loop [6] (fun v6 => v6 = .int .i64 20) (fun _ => 0)
    case atStart => rfl
    case round =>
      subst hrel
      go_wp2
      exact ⟨rfl, .tuple #[], by simp [results, Tryd.results82], ⟨_, rfl⟩, rfl⟩
theorem sort_zero (f : FuncId) (A : Option Addr) (c : Nat) (w : World) : Calls Tryd.prog 43 #[.slice A 0 c, .func (.func f) #[] #[]] w fun e w' => (∃ v, e = .returned v) ∧ w' = w := by
  go_enter Tryd.func43, Tryd.ntmps43
  go_wp2_with (go_at_call 82; (with_reducible refine (stable_zero f A c _).mono ?_); rintro e w7 ⟨⟨v7, rfl⟩, rfl⟩)
  exact ⟨rfl, .tuple #[], by simp [results, Tryd.results43], ⟨_, rfl⟩, rfl⟩
theorem sort_rows (f : FuncId) (D : Array Value → Prop) (c : Array Value → Array Value → Int) (hcmp : CmpAt f D c) (hc : Wc.IsCmp c) (g cap len : Nat) (hcap : len ≤ cap) (hn : len ≤ 1099511627776) (L : List (Array Value)) (hl : L.length = len) (w : World) (hR : RowsAt w g 32 L) (hD : ∀ x ∈ L, D x) :
    Calls Tryd.prog 43 #[.slice (some ⟨g, 0, none⟩) len cap, .func (.func f) #[] #[]] w fun e w' => (∃ v, e = .returned v) ∧ RowsAt w' g 32 (Srt.isort c L) ∧ But g w w' := by
  have HQ := Lib.hid (fun W (h : StI D g w W L) => stable_calls f D c hcmp hc g cap len hcap hn L hl w W h len rfl)
  have HS : Hid (StI D g w w L) := Lib.hid ⟨hR, But.refl _ _, hD⟩
  have hlen : (len : Int) ≤ 9223372036854775807 := by omega
  clear hcmp hc hcap hn hl hR hD
  go_enter Tryd.func43, Tryd.ntmps43
  go_wp2_with (go_at_call 82; (with_reducible refine (HQ.out _ HS.out).mono ?_); rintro e w7 ⟨⟨v7, rfl⟩, hR7⟩)
  exact ⟨rfl, .tuple #[], by simp [results, Tryd.results43], ⟨_, rfl⟩, hR7.1, hR7.2.1⟩
end Go.Proofs.YtoepbjgldmgaoaaDoor

/- The library's stable sort, over what is made: the things are sorted, all else stays. -/
namespace Go.Proofs.YtoepbjgldmgaoaaDoor
open Go.RowKit Go.Proofs.YtoepbjgldmgaoaaDoorW.PrintWords Go.Proofs.YtoepbjgldmgaoaaDoorW.PrintLast
theorem unflat (n : Nat) (inner : List Value) (h : inner.length = n * 32) : ∃ L : List (Array Value), L.length = n ∧ flat L = inner ∧ ∀ x ∈ L, x.size = 32 := by
  induction n generalizing inner with
  | zero => exact ⟨[], rfl, by rw [List.length_eq_zero_iff.1 (show inner.length = 0 by omega)]; rfl, fun _ hx => absurd hx List.not_mem_nil⟩
  | succ n ih =>
    obtain ⟨L, h1, h2, h3⟩ := ih (inner.drop 32) (by rw [List.length_drop]; omega)
    refine ⟨(inner.take 32).toArray :: L, by rw [List.length_cons, h1], ?_, fun x hx => ?_⟩
    · rw [flat, List.flatMap_cons, show L.flatMap Array.toList = inner.drop 32 from h2]
      exact List.take_append_drop 32 inner
    · rcases List.mem_cons.1 hx with rfl | hx
      · simp
        omega
      · exact h3 x hx
section
variable {α : Type}
theorem sort_pairs (c : α → α → Int) (cf : Array Value → Array Value → Int) (R : α → List Value → Prop) (xs : List α) (L : List (Array Value)) (hl : L.length = xs.length) (hR : ∀ (j : Nat) (x : α) (y : Array Value), xs[j]? = some x → L[j]? = some y → R x y.toList)
    (hcc : ∀ (x y : α) (a b : Array Value), x ∈ xs → y ∈ xs → R x a.toList → R y b.toList → (cf a b < 0 ↔ c x y < 0)) : ∀ (j : Nat) (x : α) (y : Array Value), (Srt.isort c xs)[j]? = some x → (Srt.isort cf L)[j]? = some y → R x y.toList := by
  obtain ⟨zs, hzs⟩ : ∃ zs : List (α × Array Value), zs = xs.zip L := ⟨_, rfl⟩
  have h1 : zs.map Prod.fst = xs := by rw [hzs, List.map_fst_zip (by omega)]
  have h2 : zs.map Prod.snd = L := by rw [hzs, List.map_snd_zip (by omega)]
  have hz : ∀ p ∈ zs, p.1 ∈ xs ∧ R p.1 p.2.toList := by
    intro p hp
    obtain ⟨j, hj⟩ := List.getElem?_of_mem hp
    have e1 : xs[j]? = some p.1 := by rw [← h1, List.getElem?_map, hj]; rfl
    have e2 : L[j]? = some p.2 := by rw [← h2, List.getElem?_map, hj]; rfl
    exact ⟨List.mem_of_getElem? e1, hR j _ _ e1 e2⟩
  have k1 : (Srt.isort (fun p q : α × Array Value => c p.1 q.1) zs).map Prod.fst = Srt.isort c xs := by rw [Srt.isort_map c Prod.fst, h1]
  have k2 : (Srt.isort (fun p q : α × Array Value => c p.1 q.1) zs).map Prod.snd = Srt.isort cf L := by
    rw [Srt.isort_congr (c' := fun p q : α × Array Value => cf p.2 q.2) zs (fun p hp q hq => (hcc _ _ _ _ (hz p hp).1 (hz q hq).1 (hz p hp).2 (hz q hq).2).symm), Srt.isort_map cf Prod.snd, h2]
  intro j x y hx hy
  rw [← k1, List.getElem?_map, Option.map_eq_some_iff] at hx
  rw [← k2, List.getElem?_map, Option.map_eq_some_iff] at hy
  obtain ⟨p, hp, rfl⟩ := hx
  obtain ⟨q, hq, rfl⟩ := hy
  rw [hp] at hq
  obtain rfl := Option.some.inj hq
  exact (hz p ((Srt.mem_isort p zs).1 (List.mem_of_getElem? hp))).2
theorem sort_R (d : Kd α) (hd : d.sz = 32) (f : FuncId) (D : Array Value → Prop) (cf : Array Value → Array Value → Int) (hcmp : CmpAt f D cf) (hcf : Wc.IsCmp cf) (c : α → α → Int) {e base : Nat} {ok : Nat → Prop} {w : World} {v : Value} {xs : List α} (h : d.R e w base ok v xs)
    (hD : ∀ x cs, x ∈ xs → d.K w x cs → D cs.toArray) (hcc : ∀ x y cs ds, x ∈ xs → y ∈ xs → d.K w x cs → d.K w y ds → (cf cs.toArray ds.toArray < 0 ↔ c x y < 0)) (hn : xs.length ≤ 1099511627776) :
    Calls Tryd.prog 43 #[v, .func (.func f) #[] #[]] w fun e' w' =>
      (∃ r, e' = .returned r) ∧ d.R e w' base ok v (Srt.isort c xs) ∧ Below base w w' ∧ w.heap.size ≤ w'.heap.size ∧ ∀ k, some k ≠ v.ownBlock → k < w.heap.size → w'.heap[k]? = w.heap[k]? := by
  obtain ⟨h0, inner, ho, hr⟩ := h
  rw [hd] at ho hr
  rcases ho.2 with ⟨rfl, hl0⟩ | ⟨g, cap, cur, rfl, hb, hh, hnc, hcm, hcs, ht⟩
  · obtain rfl : xs = [] := List.eq_nil_of_length_eq_zero hl0
    refine (sort_zero f none 0 w).mono ?_
    rintro e' w' ⟨hv, rfl⟩
    exact ⟨hv, Kd.R_nil _ _ _ _ _, Below.refl _ _, Nat.le_refl _, fun _ _ _ => rfl⟩
  · obtain ⟨L, hL, rfl, hs⟩ := unflat xs.length inner ho.1
    have hM : ∀ (j : Nat) (x : α) (y : Array Value), xs[j]? = some x → L[j]? = some y → d.M w base (fun k => ok k ∧ some k ≠ (Value.slice (some ⟨g, 0, none⟩) xs.length cap).ownBlock) x y.toList := by
      intro j x y hx hy
      have := hr.2 j x hx
      rw [flat_at L hs j y hy] at this
      exact this
    have hx : ∀ y ∈ L, ∃ x ∈ xs, d.M w base (fun k => ok k ∧ some k ≠ (Value.slice (some ⟨g, 0, none⟩) xs.length cap).ownBlock) x y.toList := by
      intro y hy
      obtain ⟨j, hj⟩ := List.getElem?_of_mem hy
      have hjl := (List.getElem?_eq_some_iff.1 hj).1
      have e1 : xs[j]? = some xs[j] := List.getElem?_eq_getElem (by omega)
      exact ⟨_, List.getElem_mem (by omega), hM j _ _ e1 hj⟩
    have h1 : ∀ y ∈ L, y.size = 32 ∧ y.all (·.oneCell') = true := by
      intro y hy
      obtain ⟨x, _, hm⟩ := hx y hy
      exact ⟨hs y hy, all_oneCell_toArray (d.K_one (d.K_of_M hm))⟩
    have hRA := own_rows ho hL h1
    refine (sort_rows f D cf hcmp hcf g cap xs.length hnc hn L hL w hRA (fun y hy => ?_)).mono ?_
    · obtain ⟨x, hxx, hm⟩ := hx y hy
      have := hD x _ hxx (d.K_of_M hm)
      simpa using this
    · rintro e' w' ⟨hv, hR', hB⟩
      have hb' : ∀ k, some k ≠ (Value.slice (some ⟨g, 0, none⟩) xs.length cap).ownBlock → k < w.heap.size → w'.heap[k]? = w.heap[k]? := fun k hk hlt => hB.block k hlt (fun e => hk (by rw [e]; rfl))
      have ho' := rows_own ho hB hR' (by rw [Srt.isort_length, hL])
      have hlt : g < w.heap.size := blkLt hh
      refine ⟨hv, ⟨h0, flat (Srt.isort cf L), ?_, ?_⟩, But.below (Below.refl _ _) hB hb (by omega), hB.size, hb'⟩
      · rw [Srt.isort_length, hd]
        exact ho'
      · rw [hd]
        refine ⟨by rw [flat_length _ (fun y hy => (hR'.one y hy).1), Srt.isort_length, Srt.isort_length, hL], fun j x hj => ?_⟩
        have hjl := (List.getElem?_eq_some_iff.1 hj).1
        rw [Srt.isort_length] at hjl
        obtain ⟨y, hy⟩ : ∃ y, (Srt.isort cf L)[j]? = some y := ⟨_, List.getElem?_eq_getElem (by rw [Srt.isort_length]; omega)⟩
        rw [flat_at _ (fun y hy => (hR'.one y hy).1) j _ hy]
        have := sort_pairs c cf (d.M w base (fun k => ok k ∧ some k ≠ (Value.slice (some ⟨g, 0, none⟩) xs.length cap).ownBlock)) xs L hL hM (fun x y a b hx hy ha hb => hcc x y _ _ hx hy (d.K_of_M ha) (d.K_of_M hb)) j x _ hj hy
        exact Kd.M_step this (fun k hk hlt => hb' k hk.2 hlt)
theorem S_of_tags {d : Kd α} {e base : Nat} {ok : Nat → Prop} {w : World} {v : Value} {f : Nat → Nat} {L : List (α × Nat)} (h : (Kd.tag f d).R e w base ok v L) (hn : (L.map Prod.snd).Nodup) : Kd.S d e w base ok v (L.map Prod.fst) := by
  obtain ⟨h0, inner, ho, hr⟩ := h
  refine ⟨fun k => (L.map Prod.snd).idxOf (f k), h0, inner, by rw [List.length_zipIdx, List.length_map]; exact ho, ?_, fun j p hj => ?_⟩
  · rw [List.length_zipIdx, List.length_map]
    exact hr.1
  · rw [List.getElem?_zipIdx, Nat.zero_add, Option.map_eq_some_iff] at hj
    obtain ⟨x, hx, rfl⟩ := hj
    rw [List.getElem?_map, Option.map_eq_some_iff] at hx
    obtain ⟨q, hq, rfl⟩ := hx
    have := hr.2 j q hq
    refine d.M_mono (fun k hk => ⟨hk.1, ?_⟩) this
    have e2 : (L.map Prod.snd)[j]? = some q.2 := by rw [List.getElem?_map, hq]; rfl
    obtain ⟨hjl, he⟩ := List.getElem?_eq_some_iff.1 e2
    show (L.map Prod.snd).idxOf (f k) = j
    rw [hk.2, ← he]
    exact hn.idxOf_getElem j hjl
theorem zip_snd_nodup (xs : List α) : (xs.zipIdx.map Prod.snd).Nodup := by
  have : xs.zipIdx.map Prod.snd = List.range' 0 xs.length := by simp [List.zipIdx_eq_zip_range', List.map_snd_zip]
  rw [this]
  exact List.nodup_range'
theorem sort_S (d : Kd α) (hd : d.sz = 32) (f : FuncId) (D : Array Value → Prop) (cf : Array Value → Array Value → Int) (hcmp : CmpAt f D cf) (hcf : Wc.IsCmp cf) (c : α → α → Int) {e base : Nat} {ok : Nat → Prop} {w : World} {v : Value} {xs : List α} (h : Kd.S d e w base ok v xs)
    (hD : ∀ x cs, x ∈ xs → d.K w x cs → D cs.toArray) (hcc : ∀ x y cs ds, x ∈ xs → y ∈ xs → d.K w x cs → d.K w y ds → (cf cs.toArray ds.toArray < 0 ↔ c x y < 0)) (hn : xs.length ≤ 1099511627776) :
    Calls Tryd.prog 43 #[v, .func (.func f) #[] #[]] w fun e' w' =>
      (∃ r, e' = .returned r) ∧ Kd.S d e w' base ok v (Srt.isort c xs) ∧ Below base w w' ∧ w.heap.size ≤ w'.heap.size ∧ ∀ k, some k ≠ v.ownBlock → k < w.heap.size → w'.heap[k]? = w.heap[k]? := by
  obtain ⟨t, hR⟩ := h
  have hmem : ∀ p : α × Nat, p ∈ xs.zipIdx → p.1 ∈ xs := fun p hp => by
    obtain ⟨j, hj⟩ := List.getElem?_of_mem hp
    rw [List.getElem?_zipIdx, Nat.zero_add, Option.map_eq_some_iff] at hj
    obtain ⟨x, hx, rfl⟩ := hj
    exact List.mem_of_getElem? hx
  refine (sort_R (Kd.tag t d) hd f D cf hcmp hcf (fun p q => c p.1 q.1) hR (fun p cs hp hK => hD p.1 cs (hmem p hp) hK) (fun p q cs ds hp hq hK hK' => hcc p.1 q.1 cs ds (hmem p hp) (hmem q hq) hK hK') (by rw [List.length_zipIdx]; exact hn)).mono ?_
  rintro e' w' ⟨hv, hR', hr⟩
  have hp := Srt.isort_perm (fun p q : α × Nat => c p.1 q.1) xs.zipIdx
  have h2 := S_of_tags hR' ((hp.map Prod.snd).nodup_iff.2 (zip_snd_nodup xs))
  rw [Srt.isort_map c Prod.fst] at h2
  have e3 : xs.zipIdx.map Prod.fst = xs := by simp
  rw [e3] at h2
  exact ⟨hv, h2, hr⟩
end
end Go.Proofs.YtoepbjgldmgaoaaDoor

/- rank.Victims: the objects that aren't ending, each a copy, in their order; the first ones of them. -/
namespace Go.Proofs.YtoepbjgldmgaoaaDoor
open Go.RowKit Go.Proofs.YtoepbjgldmgaoaaDoorW.PrintWords Go.Proofs.YtoepbjgldmgaoaaDoorW.PrintLast
attribute [local go_sem] Go.Proofs.YtoepbjgldmgaoaaDoorW.PrintMore.max2_int Go.Proofs.YtoepbjgldmgaoaaDoorW.PrintMore.min2_int Go.Proofs.YtoepbjgldmgaoaaDoorW.PrintMore.max_two Go.Proofs.YtoepbjgldmgaoaaDoorW.PrintMore.min_two
theorem infoO : (Tryd.prog.info? 48).map (fun i => (i.zero, i.size, i.bytes)) = some (some (.agg (Ob.zero.cells (.slice none 0 0) (.slice none 0 0))), 32, 312) := by kernel_rfl
theorem infoO1 : (Tryd.prog.info? 48).map (·.size) = some 32 := by kernel_rfl
def live (l : List Ob) : List Ob := l.filter fun o => !o.ending
def sortV (l : List Ob) : List Ob := Srt.isort (fun a b => cV a.pk b.pk) l
def headN (n : Int) (len : Nat) : Nat := min n.toNat len
def victF (l : List Ob) (n : Int) : List Ob := (sortV (live l)).take (headN n (live l).length)
def ObFits (o : Ob) : Prop := o.name.size ≤ 140737488351232 ∧ o.labels.length ≤ 4398046510976 ∧ o.select.length ≤ 4398046510976
theorem kO_is {w : World} {o : Ob} {cs : List Value} (h : kO.K w o cs) (hf : ObFits o) : IsObj cs.toArray := by
  obtain ⟨v4, v27, rfl, _⟩ := h
  exact ⟨o, v4, v27, by simp, hf.1⟩
theorem kO_pk {w : World} {o : Ob} {cs : List Value} (h : kO.K w o cs) : pkOf cs.toArray = o.pk := by
  obtain ⟨v4, v27, rfl, _⟩ := h
  simp only [Array.toArray_toList]
  rfl
theorem live_snoc (l : List Ob) (k : Nat) (o : Ob) (h : l[k]? = some o) : live (l.take (k + 1)) = live (l.take k) ++ if o.ending then [] else [o] := by
  obtain ⟨hk, rfl⟩ := List.getElem?_eq_some_iff.1 h
  unfold live
  rw [List.take_succ_eq_append_getElem hk, List.filter_append]
  congr 1
  cases he : (l[k]).ending <;> simp [he]
theorem cells_set (o : Ob) (v4 v27 u4 u27 : Value) : ((o.cells v4 v27).setIfInBounds 4 u4).setIfInBounds 27 u27 = o.cells u4 u27 := rfl
theorem lab_cells {e base : Nat} {ok : Nat → Prop} {w : World} {v : Value} {l : List Lab} (h : kL.R e w base ok v l) : v.cells = #[v] := by
  obtain ⟨A, c, rfl⟩ := Kd.R_slice h
  rfl
def rg21_6_T : Bool × List (List Nat × List Nat) := (true, [([], []), ([0], [0]), ([1], [1]), ([], []), ([3], [3]), ([4, 2], [4]), ([0, 1, 2, 3, 4], []), ([6, 2, 5, 0, 1, 2, 3, 4], [2, 6]), ([0, 1, 2, 3, 4, 5, 6, 7], []), ([8, 5, 7, 0, 1, 2, 3, 4, 5, 6, 7], [5, 8])])
def rg21_6_B : List Nat := [0, 1, 3, 0, 8, 31, 31, 127, 255, 511]
theorem rg21_6_tab : rtab .any (opsOf Tryd.f21 6) = rg21_6_T := by kernel_rfl
theorem rg21_6_bits : waitsOk rg21_6_T.2 rg21_6_B = true := by kernel_rfl
set_option maxHeartbeats 16000000 in
set_option maxRecDepth 100000 in
theorem victims_calls (A : Option Addr) (c : Nat) (l : List Ob) (n : Int) (w : World) (hr : kO.C w A l.length l) (hl : l.length ≤ 1000000) (hf : ∀ o ∈ l, ObFits o) :
    Calls Tryd.prog 21 #[.slice A l.length c, .int .i64 n] w fun e w' => ∃ A' c', e = .returned (.slice A' (victF l n).length (victF l n).length) ∧ Kd.S kO 48 w' w.heap.size (fun _ => True) (.slice A' (victF l n).length c') (victF l n) ∧ Below w.heap.size w w' := by
  have HR := Lib.hid hr
  have HL := Lib.hid hl
  have HF := Lib.hid hf
  have hln : (l.length : Int) ≤ 1000000 := by omega
  clear hr hl hf
  go_enter Tryd.func21, Tryd.ntmps21
  go_wp2
  go_loopw [5, 10] (fun v5 v10 wr => ∃ k : Nat, v10 = .int .i64 k ∧ k ≤ l.length ∧ Hid (Kd.S kO 48 wr w.heap.size (fun _ => True) v5 (live (l.take k)) ∧ Below w.heap.size w wr)) (fun _ v10 _ => l.length - (intOf v10).toNat)
  case atStart => exact ⟨0, rfl, Nat.zero_le _, Lib.hid ⟨Kd.S_nil _ _ _ _ _, Below.refl _ _⟩⟩
  case round =>
    obtain ⟨k, rfl, hk, hI⟩ := hrel
    by_cases hlt : k < l.length
    · obtain ⟨o, ho⟩ : ∃ o, l[k]? = some o := ⟨_, List.getElem?_eq_getElem hlt⟩
      obtain ⟨ad, v4, v27, rfl, h4, h27, hcell0⟩ := obj_at (Kd.C_below HR.out hI.out.2) k o ho
      have hcell : ∀ (j : Nat) (u : Value), (o.cells v4 v27)[j]? = some u → wr.cell? ((ad.add (k * 32)).add j) = some u := fun j u hu => by rw [add_add]; exact hcell0 j u hu
      obtain ⟨A4, c4, rfl, hl4, hr4⟩ := h4
      obtain ⟨A27, c27, rfl, hl27, hr27⟩ := h27
      have hf := HF.out o (List.mem_of_getElem? ho)
      have Q4 := Lib.hid (fun W (hW : Below wr.heap.size wr W) => clone_calls A4 c4 o.labels W (Kd.C_below hr4 hW) (Nat.le_trans hf.2.1 (by decide)))
      have Q27 := Lib.hid (fun W (hW : Below wr.heap.size wr W) => clone_calls A27 c27 o.select W (Kd.C_below hr27 hW) (Nat.le_trans hf.2.2 (by decide)))
      have h1c := o.cells_one (v4 := .slice A4 o.labels.length c4) (v27 := .slice A27 o.select.length c27) rfl rfl
      have HO := Lib.hid (And.intro hcell h1c)
      have hsn := live_snoc l k o ho
      obtain ⟨b, hb⟩ : ∃ b, b = o.ending := ⟨_, rfl⟩
      have HE := Lib.hid (And.intro hb hsn)
      clear ho hl4 hr4 hl27 hr27 hf hcell hcell0 h1c hsn hb
      cases b
      · go_wp2_with (first
          | ((with_reducible refine wpList_load_any rfl 48 (.tmp 12) rfl (ad.add (k * 32)) ?c1 (o.cells (.slice A4 o.labels.length c4) (.slice A27 o.select.length c27)) _ ?c2 Tryd.underlying48 ?c3 ?c4 ?_); (case c1 => rfl); (case c2 => exact HO.out.1); (case c3 => rfl); (case c4 => exact infoO1))
          | ((with_reducible refine wpList_store_blk rfl 48 (.tmp 7) (.tmp 13) rfl wr.heap.size 48 ?c0 (o.cells (.slice A4 o.labels.length c4) (.slice A27 o.select.length c27)) ?c1 ?c2 ?c3 ?c4 ?c5 ?c6 ?_); (case c1 => rfl); (case c2 => rfl); (case c3 => exact heap_alloc_new _ _); (case c4 => exact infoO1); (case c5 => rfl); (case c6 => exact HO.out.2); intro w1 G1 hk1 hb1 hz1; have C16 : w1.cell? ⟨wr.heap.size, 16, none⟩ = some (.bool false) := ((cell_of_row _ _ 16 _ _ _ G1).trans rfl).trans (by rw [HE.out.1]; rfl)))
        have HBW : Below wr.heap.size wr w1.drew := (hb1 _ _ (below_alloc (Below.refl _ _) _) (Nat.le_refl _)).drew
        obtain ⟨g, hg⟩ : ∃ g, g = wr.heap.size := ⟨_, rfl⟩
        rw [← hg] at G1 C16 ⊢
        have G : w1.drew.heap[g]? = some (.cells (o.cells (.slice A4 o.labels.length c4) (.slice A27 o.select.length c27)) 48 (0, 0)) := G1
        have C4 : w1.drew.cell? ⟨g, 4, none⟩ = some (.slice A4 o.labels.length c4) := (cell_of_row _ _ 4 _ _ _ G).trans rfl
        have C27 : w1.drew.cell? ⟨g, 27, none⟩ = some (.slice A27 o.select.length c27) := (cell_of_row _ _ 27 _ _ _ G).trans rfl
        have HG := Lib.hid hg
        clear hk1 hb1 hz1 G1 C16 hg
        refine start_ (n := 10) (S := fun w' => w'.heap[g]? = some (.cells (o.cells (.slice A4 o.labels.length c4) (.slice A27 o.select.length c27)) 48 (0, 0)) ∧ w'.cell? ⟨g, 4, none⟩ = some (.slice A4 o.labels.length c4) ∧ w'.cell? ⟨g, 27, none⟩ = some (.slice A27 o.select.length c27)) (ds := [7, 9]) (bs 10 0) (by kernel_rfl) rfl (by kernel_rfl) ⟨G, C4, C27⟩ (fun hHeld => ?_)
        refine with_tabW rg21_6_tab rg21_6_bits (fun HT_ HW_ => ?_)
        refine pu 0 (some 17) (bs 10 1) HT_ rfl rfl (by kernel_rfl) (fun _ _ _ _ h => h) ⟨_, .inl ⟨by rfl, fun _ => by go_simp; with_reducible rfl⟩, _, by simp only [Act.put, sA, sB, sC, i64_w, i32_w]; rfl, ?_⟩
        refine pu 3 (some 20) (bs 10 9) HT_ rfl rfl (by kernel_rfl) (fun _ _ _ _ h => h) ⟨_, .inl ⟨by rfl, fun _ => by go_simp; with_reducible rfl⟩, _, by simp only [Act.put, sA, sB, sC, i64_w, i32_w]; rfl, ?_⟩
        refine tk 1 (some 18) (bs 10 11) HT_ HW_ rfl rfl (by kernel_rfl) (fun _ _ _ _ h => h) hHeld ⟨_, .inl ⟨by rfl, by rintro w' ⟨s0, s1, s2⟩; go_simp; with_reducible rfl⟩, _, by simp only [Act.put, sA, sB, sC, i64_w, i32_w]; rfl, ?_⟩
        refine tk 4 (some 21) (bs 10 27) HT_ HW_ rfl rfl (by kernel_rfl) (fun _ _ _ _ h => h) hHeld ⟨_, .inl ⟨by rfl, by rintro w' ⟨s0, s1, s2⟩; go_simp; with_reducible rfl⟩, _, by simp only [Act.put, sA, sB, sC, i64_w, i32_w]; rfl, ?_⟩
        refine on1 2 (some 19) (bs 10 31) HT_ rfl rfl (by kernel_rfl) (by decide) (fun K hK => ?_)
        refine goes_ Tryd.func68 (by kernel_rfl) rfl #[.slice A4 o.labels.length c4] (by rfl) rfl rfl (by (try simp only [List.map_toArray, List.map_cons, List.map_nil]); first | done | rfl) ?_
        with_reducible refine (Q4.out _ HBW).mono ?_
        rintro e w2 ⟨v19, rfl, H19, hb⟩
        have K19 : ∀ k, v19.ownBlock = some k → g < k := fun k hk => Nat.lt_of_lt_of_le (blkLt G) (Kd.R_base H19 k hk)
        replace G := blkB hb G
        replace C4 := cell_below hb C4
        replace C27 := cell_below hb C27
        have B19 := HBW.size
        replace HBW := belT HBW hb
        clear hb
        refine ⟨_, rfl, ?_⟩
        refine hK.out _ _ ⟨G, C4, C27⟩ (fun hHeld => ?_)
        clear hK K
        refine nm ⟨_, show Act.put _ (some 19) _ = _ by simp only [Act.put, sA, sB, sC, i64_w, i32_w]; rfl, ?_⟩
        refine pu 6 (some 23) (bs 10 95) HT_ rfl rfl (by kernel_rfl) (fun _ _ _ _ h => h) ⟨_, .inl ⟨by rfl, fun _ => by go_simp; with_reducible rfl⟩, _, by simp only [Act.put, sA, sB, sC, i64_w, i32_w]; rfl, ?_⟩
        refine on1 5 (some 22) (bs 10 127) HT_ rfl rfl (by kernel_rfl) (by decide) (fun K hK => ?_)
        refine goes_ Tryd.func68 (by kernel_rfl) rfl #[.slice A27 o.select.length c27] (by rfl) rfl rfl (by (try simp only [List.map_toArray, List.map_cons, List.map_nil]); first | done | rfl) ?_
        with_reducible refine (Q27.out _ HBW).mono ?_
        rintro e w3 ⟨v22, rfl, H22, hb⟩
        have K22 : ∀ k, v22.ownBlock = some k → g < k := fun k hk => Nat.lt_of_lt_of_le (blkLt G) (Kd.R_base H22 k hk)
        have L19 := Kd.R_lt H19
        have L22 := Kd.R_base H22
        have B22 := HBW.size
        replace H19 := Kd.R_below H19 hb
        replace G := blkB hb G
        replace C4 := cell_below hb C4
        replace C27 := cell_below hb C27
        replace HBW := belT HBW hb
        clear hb
        refine ⟨_, rfl, ?_⟩
        refine hK.out _ _ ⟨G, C4, C27⟩ (fun hHeld => ?_)
        clear hK K
        refine nm ⟨_, show Act.put _ (some 22) _ = _ by simp only [Act.put, sA, sB, sC, i64_w, i32_w]; rfl, ?_⟩
        refine la1 7 (none) (bs 10 255) HT_ rfl rfl (by kernel_rfl) (by decide) (fun K hK => ?_)
        refine store1_ (g := g) (i := 4) (x := .tmp 23) (y := .tmp 19) (u := v19) (by rfl) rfl rfl rfl rfl (lab_cells H19) G (by rw [Ob.cells_size]; omega) (by kernel_rfl) (Kd.R_val H19).2 ?_
        intro w4 G4 hk4 hb4
        refine hK.out _ _ ?_
        clear hK K
        refine pu 8 (some 24) (bs 10 511) HT_ rfl rfl (by kernel_rfl) (fun _ _ _ _ h => h) ⟨_, .inl ⟨by rfl, fun _ => by go_simp; with_reducible rfl⟩, _, by simp only [Act.put, sA, sB, sC, i64_w, i32_w]; rfl, ?_⟩
        refine la1 9 (none) (bs 10 1023) HT_ rfl rfl (by kernel_rfl) (by decide) (fun K hK => ?_)
        refine store1_ (g := g) (i := 27) (x := .tmp 24) (y := .tmp 22) (u := v22) (by rfl) rfl rfl rfl rfl (lab_cells H22) G4 (by simp [Ob.cells_size]) (by kernel_rfl) (Kd.R_val H22).2 ?_
        intro w5 G5 hk5 hb5
        refine hK.out _ _ ?_
        clear hK K
        refine done_ (done_of HT_.out (by kernel_rfl)) ?_
        rw [cells_set] at G5
        have hgw := HG.out
        have hw := hI.out.2.size
        have hgle : wr.heap.size ≤ g := by omega
        have HB5 : Below wr.heap.size wr w5 := hb5 _ _ (hb4 _ _ HBW hgle) hgle
        have hst : ∀ k, k ≠ g → w5.heap[k]? = w3.heap[k]? := fun k hk => (hk5 k hk).trans (hk4 k hk)
        have N19 : ∀ k, v19.ownBlock = some k → v22.ownBlock ≠ some k := fun k hk hk' => by
          have := L19 k hk
          have := L22 k hk'
          omega
        have R19 : kL.R 98 w5 w.heap.size (fun k => some k = v19.ownBlock) v19 o.labels := Kd.R_lower (Kd.R_step (Kd.R_tight rfl H19) (fun k hk _ => hst k (by have := K19 k hk.symm; omega))) (Nat.le_trans hw B19)
        have R22 : kL.R 98 w5 w.heap.size (fun k => some k = v22.ownBlock) v22 o.select := Kd.R_lower (Kd.R_step (Kd.R_tight rfl H22) (fun k hk _ => hst k (by have := K22 k hk.symm; omega))) (Nat.le_trans hw B22)
        have hM : kO.M w5 w.heap.size (fun k => some k = v19.ownBlock ∨ some k = v22.ownBlock) o (o.cells v19 v22).toList :=
          ⟨v19, v22, rfl, Kd.R_mono R19 (fun k hk => ⟨.inl hk, fun e => N19 k hk.symm e.symm⟩), Kd.R_mono R22 (fun k hk => ⟨.inr hk, fun e => N19 k e.symm hk.symm⟩)⟩
        have hS5 : Kd.S kO 48 w5 w.heap.size (fun k => True ∧ ¬ (some k = v19.ownBlock ∨ some k = v22.ownBlock)) u5 (live (l.take k)) :=
          Kd.S_mono (Kd.S_below (Kd.S_bound hI.out.1) HB5) (fun k hk => ⟨trivial, fun h => by
            have := hk.2.2.1
            rcases h with h | h
            · have := K19 k h.symm; omega
            · have := K22 k h.symm; omega⟩)
        have hop : ∀ k, (some k = v19.ownBlock ∨ some k = v22.ownBlock) → True ∧ some k ≠ u5.ownBlock := fun k h => ⟨trivial, fun e => by
          have := Kd.S_lt hI.out.1 k e.symm
          rcases h with h | h
          · have := K19 k h.symm; omega
          · have := K22 k h.symm; omega⟩
        have hlen : ((live (l.take k)).length + 1) * 312 ≤ 140737488355328 := by
          have h1 : (live (l.take k)).length ≤ (l.take k).length := List.length_filter_le _ _
          rw [List.length_take] at h1
          have := HL.out
          omega
        have HA := Lib.hid (And.intro hM (And.intro hS5 (And.intro hop (And.intro hlen (belT hI.out.2 HB5)))))
        have HG5 := Lib.hid G5
        have hw5 : w.heap.size ≤ w5.heap.size := Nat.le_trans hw HB5.size
        have HW5 := Lib.hid hw5
        obtain ⟨e1, e2⟩ := HE.out
        rw [← e1, if_neg (by simp)] at e2
        have HE2 := Lib.hid e2
        clear e1 e2 hw5 hM hS5 hop hlen R19 R22 N19 hst HB5 hgle hgw hw G C4 C27 HBW K19 K22 L19 L22 B19 B22 H19 H22 G4 hk4 hb4 G5 hk5 hb5 HE HO Q4 Q27
        go_wp2_with (first
          | ((with_reducible refine wpList_load_blk rfl 48 (.tmp 7) rfl g 48 ?c1 (o.cells v19 v22) _ ?c2 Tryd.underlying48 ?c3 ?c4 ?_); (case c1 => rfl); (case c2 => exact HG5.out); (case c3 => rfl); (case c4 => exact infoO1))
          | ((with_reducible refine wpList_build1 rfl 22 48 (.tmp 26) rfl (o.cells v19 v22) ?d1 ?d2 32 312 Tryd.underlying22 ?d3 ?d4 (by omega) (by omega) ?d5 ?_); (case d1 => rfl); (case d3 => exact infoO); (case d4 => rfl); (case d5 => rfl))
          | (at_builtin; refine Kd.S_append kO (w0 := w) (W := w5) w.heap.size rfl (.tmp 25) (.tmp 27) 22 48 (.agg (Ob.zero.cells (.slice none 0 0) (.slice none 0 0))) 312 rfl Tryd.underlying22 infoO rfl (by decide) (by omega) u5 (live (l.take k)) o (o.cells v19 v22).toList (fun _ => True) (fun k => some k = v19.ownBlock ∨ some k = v22.ownBlock) rfl rfl HA.out.1 HA.out.2.2.1 (fun _ _ => trivial) HA.out.2.1 HA.out.2.2.2.2 HW5.out HA.out.2.2.2.1 ?_; intro v1 w6 hS6 hB6 hg6 hat6))
        go_roundw
        case rel => exact ⟨k + 1, by go_num, by omega, Lib.hid ⟨by rw [HE2.out]; exact hS6, hB6⟩⟩
        case measure => simp [intOf]; omega
      · go_wp2_with (first
          | ((with_reducible refine wpList_load_any rfl 48 (.tmp 12) rfl (ad.add (k * 32)) ?c1 (o.cells (.slice A4 o.labels.length c4) (.slice A27 o.select.length c27)) _ ?c2 Tryd.underlying48 ?c3 ?c4 ?_); (case c1 => rfl); (case c2 => exact HO.out.1); (case c3 => rfl); (case c4 => exact infoO1))
          | ((with_reducible refine wpList_store_blk rfl 48 (.tmp 7) (.tmp 13) rfl wr.heap.size 48 ?c0 (o.cells (.slice A4 o.labels.length c4) (.slice A27 o.select.length c27)) ?c1 ?c2 ?c3 ?c4 ?c5 ?c6 ?_); (case c1 => rfl); (case c2 => rfl); (case c3 => exact heap_alloc_new _ _); (case c4 => exact infoO1); (case c5 => rfl); (case c6 => exact HO.out.2); intro w1 G1 hk1 hb1 hz1; have C16 : w1.cell? ⟨wr.heap.size, 16, none⟩ = some (.bool true) := ((cell_of_row _ _ 16 _ _ _ G1).trans rfl).trans (by rw [HE.out.1]; rfl)))
        have HBW : Below wr.heap.size wr w1 := hb1 _ _ (below_alloc (Below.refl _ _) _) (Nat.le_refl _)
        obtain ⟨e1, e2⟩ := HE.out
        rw [← e1] at e2
        go_roundw
        case rel => exact ⟨k + 1, by go_num, by omega, Lib.hid ⟨by rw [e2, if_pos rfl, List.append_nil]; exact Kd.S_below hI.out.1 HBW, belT hI.out.2 HBW⟩⟩
        case measure => simp [intOf]; omega
    · obtain rfl : k = l.length := by omega
      have d0 : decide (l.length < l.length) = false := by simp
      obtain ⟨A5, c5, rfl⟩ := Kd.S_slice hI.out.1
      have hle := (Kd.S_reads' hI.out.1).2.1
      have hS := hI.out.1
      have hB := hI.out.2
      rw [List.take_length] at hS hle
      have hll : (live l).length ≤ l.length := List.length_filter_le _ _
      have hl1 := HL.out
      have hvl : (victF l n).length = headN n (live l).length := by
        unfold victF headN
        rw [List.length_take, sortV, Srt.isort_length]
        omega
      have QS := Lib.hid (sort_S kO rfl 69 IsObj cVa vict1_at cVa_cmp (fun a b => cV a.pk b.pk) hS (fun x cs hx hK => kO_is hK (HF.out x (List.mem_filter.1 hx).1)) (fun x y cs ds hx hy hK hK' => by unfold cVa; rw [kO_pk hK, kO_pk hK']) (by omega))
      have QC := Lib.hid (fun (m : Nat) (hm : m ≤ (live l).length) W => clip_calls A5 m c5 (by omega) (by omega) W)
      rw [List.take_length] at hI ⊢
      have HB := Lib.hid hB
      have HV := Lib.hid hvl
      have HLL := Lib.hid hll
      have hlc : ((live l).length : Int) ≤ 1000000 := by omega
      have hlc2 : ((live l).length : Int) ≤ c5 := by omega
      have fin : ∀ (m : Nat) (w7 : World), Hid (m = headN n (live l).length) → Hid (Kd.S kO 48 w7 w.heap.size (fun _ => True) (.slice A5 (live l).length c5) (Srt.isort (fun a b => cV a.pk b.pk) (live l))) → Hid (Below w.heap.size w w7) →
          ∃ A' c', Ending.returned (.slice A5 m m) = .returned (.slice A' (victF l n).length (victF l n).length) ∧ Kd.S kO 48 w7 w.heap.size (fun _ => True) (.slice A' (victF l n).length c') (victF l n) ∧ Below w.heap.size w w7 := by
        intro m w7 hm hs hb
        refine ⟨A5, c5, by rw [HV.out, hm.out], ?_, hb.out⟩
        rw [HV.out]
        have := Kd.S_take (m := headN n (live l).length) hs.out (by rw [Srt.isort_length]; unfold headN; omega)
        exact this
      have FIN := Lib.hid fin
      clear fin hS hB hle hvl hl1 hll hk hlt hI
      by_cases hn0 : n < 0
      · have d1 : decide (n < 0) = true := decide_eq_true hn0
        have d2 : decide (((live l).length : Int) < 0) = false := decide_eq_false (by omega)
        have hm : Hid (0 = headN n (live l).length) := Lib.hid (by unfold headN; omega)
        go_wp2_with (first
          | (go_at_call 43; (with_reducible refine QS.out.mono ?_); rintro e w7 ⟨⟨r7, rfl⟩, hS7, hB7, hz7, hk7⟩; (replace hS7 := Lib.hid hS7); (replace hB7 := Lib.hid hB7); clear hz7 hk7)
          | (go_at_call 71; (with_reducible refine (QC.out 0 (Nat.zero_le _) _).mono ?_); rintro e w8 ⟨rfl, rfl⟩))
        go_ret
        exact FIN.out 0 _ hm hS7 (Lib.hid (HB.out.trans hB7.out))
      · have d1 : decide (n < 0) = false := decide_eq_false hn0
        have h0n : 0 ≤ n := by omega
        by_cases hn1 : ((live l).length : Int) < n
        · have d2 : decide (((live l).length : Int) < n) = true := decide_eq_true hn1
          have hm : Hid ((live l).length = headN n (live l).length) := Lib.hid (by unfold headN; omega)
          go_wp2_with (first
            | (go_at_call 43; (with_reducible refine QS.out.mono ?_); rintro e w7 ⟨⟨r7, rfl⟩, hS7, hB7, hz7, hk7⟩; (replace hS7 := Lib.hid hS7); (replace hB7 := Lib.hid hB7); clear hz7 hk7)
            | (go_at_call 71; (with_reducible refine (QC.out (live l).length (Nat.le_refl _) _).mono ?_); rintro e w8 ⟨rfl, rfl⟩))
          go_ret
          exact FIN.out _ _ hm hS7 (Lib.hid (HB.out.trans hB7.out))
        · have d2 : decide (((live l).length : Int) < n) = false := decide_eq_false hn1
          obtain ⟨m, rfl⟩ : ∃ m : Nat, n = m := ⟨n.toNat, by omega⟩
          have hm : Hid (m = headN m (live l).length) := Lib.hid (by unfold headN; omega)
          have hml : Hid (m ≤ (live l).length) := Lib.hid (by omega)
          have hmc : (m : Int) ≤ c5 := by omega
          go_wp2_with (first
            | (go_at_call 43; (with_reducible refine QS.out.mono ?_); rintro e w7 ⟨⟨r7, rfl⟩, hS7, hB7, hz7, hk7⟩; (replace hS7 := Lib.hid hS7); (replace hB7 := Lib.hid hB7); clear hz7 hk7)
            | (go_at_call 71; (with_reducible refine (QC.out m hml.out _).mono ?_); rintro e w8 ⟨rfl, rfl⟩))
          go_ret
          exact FIN.out _ _ hm hS7 (Lib.hid (HB.out.trans hB7.out))
end Go.Proofs.YtoepbjgldmgaoaaDoor

/- Objects that are lent: their lists in memory of their own, marks behind them. -/
namespace Go.Proofs.YtoepbjgldmgaoaaDoor
open Go.RowKit Go.Proofs.YtoepbjgldmgaoaaDoorW.PrintWords Go.Proofs.YtoepbjgldmgaoaaDoorW.PrintLast
def kLent : Kd Ob where
  sz := 32
  E := [98]
  K := fun w o cs => ∃ v4 v27, cs = (o.cells v4 v27).toList ∧ LentK w o.labels v4 ∧ LentK w o.select v27
  M := fun w base ok o cs => ∃ v4 v27, cs = (o.cells v4 v27).toList ∧ LentR w base (fun k => ok k ∧ some k ≠ v27.ownBlock) o.labels v4 ∧ LentR w base (fun k => ok k ∧ some k ≠ v4.ownBlock) o.select v27
  K_len := by
    rintro w x cs ⟨v4, v27, rfl, _⟩
    rfl
  K_one := by
    rintro w x cs ⟨v4, v27, rfl, h4, h27⟩ u hu
    exact (Array.all_eq_true_iff_forall_mem.1 (x.cells_one h4.lab.one h27.lab.one)) u (by simpa using hu)
  K_below := by
    rintro w w1 x cs hb ⟨v4, v27, rfl, h4, h27⟩
    exact ⟨v4, v27, rfl, h4.below hb, h27.below hb⟩
  K_of_M := by
    rintro w base ok x cs ⟨v4, v27, rfl, h4, h27⟩
    exact ⟨v4, v27, rfl, h4.lent, h27.lent⟩
  M_mono := by
    rintro w base ok ok' x cs hok ⟨v4, v27, rfl, h4, h27⟩
    exact ⟨v4, v27, rfl, h4.mono (fun k hk => ⟨hok k hk.1, hk.2⟩), h27.mono (fun k hk => ⟨hok k hk.1, hk.2⟩)⟩
  M_bound := by
    rintro w base ok x cs ⟨v4, v27, rfl, h4, h27⟩
    exact ⟨v4, v27, rfl, h4.bound.mono (fun k hk => ⟨⟨hk.1.1, hk.2⟩, hk.1.2⟩), h27.bound.mono (fun k hk => ⟨⟨hk.1.1, hk.2⟩, hk.1.2⟩)⟩
  M_move := by
    rintro w w1 base ok x cs hm ⟨v4, v27, rfl, h4, h27⟩
    exact ⟨v4, v27, rfl, h4.move (fun k hk => hm k hk.1), h27.move (fun k hk => hm k hk.1)⟩
  M_lower := by
    rintro w base base' ok x cs hb ⟨v4, v27, rfl, h4, h27⟩
    exact ⟨v4, v27, rfl, h4.lower hb, h27.lower hb⟩
theorem kLent_K {w : World} {o : Ob} {cs : List Value} (h : kLent.K w o cs) : kO.K w o cs := by
  obtain ⟨v4, v27, rfl, h4, h27⟩ := h
  exact ⟨v4, v27, rfl, h4.lab, h27.lab⟩
theorem kLent_C {w : World} {A : Option Addr} {n : Nat} {l : List Ob} (h : kLent.C w A n l) : kO.C w A n l := Kd.C_imp (d := kLent) (d' := kO) rfl (fun _ _ _ => kLent_K) h
theorem cells_set4 (o : Ob) (v4 v27 u4 : Value) : (o.cells v4 v27).setIfInBounds 4 u4 = o.cells u4 v27 := rfl
theorem cells_set27 (o : Ob) (v4 v27 u27 : Value) : (o.cells v4 v27).setIfInBounds 27 u27 = o.cells v4 u27 := rfl
set_option maxRecDepth 100000 in
set_option maxHeartbeats 2000000 in
theorem lentObject_calls (o : Ob) (v4 v27 : Value) (w : World) (h4 : LabK w o.labels v4) (h27 : LabK w o.select v27) (hf : ObFits o) :
    Calls Tryd.prog 41 #[.agg (o.cells v4 v27)] w fun e w' => ∃ u4 u27, e = .returned (.agg (o.cells u4 u27)) ∧ LentR w' w.heap.size (fun k => some k ≠ u27.ownBlock) o.labels u4 ∧ LentR w' w.heap.size (fun k => some k ≠ u4.ownBlock) o.select u27 ∧ Below w.heap.size w w' := by
  obtain ⟨cs, hcs⟩ : ∃ cs, cs = o.cells v4 v27 := ⟨_, rfl⟩
  have Q4 := Lib.hid (fun (W : World) (hW : Below w.heap.size w W) => lentLabels_calls (h4.below hW) hf.2.1)
  have Q27 := Lib.hid (fun (W : World) (hW : Below w.heap.size w W) => lentLabels_calls (h27.below hW) hf.2.2)
  have h1c := o.cells_one (v4 := v4) (v27 := v27) h4.one h27.one
  rw [← hcs] at h1c ⊢
  have hs : cs.size = 32 := by rw [hcs]; rfl
  have hi1 : Hid ((Tryd.prog.info? 48).map (·.size) = some cs.size) := Lib.hid (by rw [hs]; kernel_rfl)
  have Hcs := Lib.hid (And.intro hcs (And.intro h1c hs))
  have c4 : Hid (cs[4]? = some v4) := Lib.hid (by rw [hcs]; rfl)
  have c27 : Hid (cs[27]? = some v27) := Lib.hid (by rw [hcs]; rfl)
  clear hcs h1c hs h4 h27 hf
  have HM := Lib.hid (Eq.refl 0)
  go_enter Tryd.func41, Tryd.ntmps41
  obtain ⟨zz, hzz⟩ : ∃ zz, zz = Ob.zero.cells (.slice none 0 0) (.slice none 0 0) := ⟨_, rfl⟩
  have Hzz : Hid (zz.size = 32) := Lib.hid (by rw [hzz]; rfl)
  replace hzz := Lib.hid hzz
  go_wp2_with (first
    | ((with_reducible refine gate_ (.load 48 (.tmp 1)) rfl ?_); clear HM; (have HB : Below w.heap.size w ((w.alloc (Obj.cells cs 48)).alloc (Obj.cells zz 48)) := Go.Joins.below_alloc2 w _ _); (have BA : ((w.alloc (Obj.cells cs 48)).alloc (Obj.cells zz 48)).heap[w.heap.size]? = some (.cells cs 48 (0, 0)) := (heap_alloc_old _ _ (by simp)).trans (heap_alloc_new w _)); (have BC : ((w.alloc (Obj.cells cs 48)).alloc (Obj.cells zz 48)).heap[w.heap.size + 1]? = some (.cells zz 48 (0, 0)) := heap_alloc2_new w _ _); (have hW0 : ((w.alloc (Obj.cells cs 48)).alloc (Obj.cells zz 48)) = ((w.alloc (Obj.cells cs 48)).alloc (Obj.cells (Ob.zero.cells (.slice none 0 0) (.slice none 0 0)) 48)) := by rw [hzz.out]); generalize hW1 : ((w.alloc (Obj.cells cs 48)).alloc (Obj.cells zz 48)) = W0 at HB BA BC hW0; (refine Eq.mp (congrArg (fun x => wpList _ _ _ _ _ x) hW0) ?_); clear hW0 hW1; obtain ⟨ga, hga⟩ : ∃ x, x = w.heap.size := ⟨_, rfl⟩; obtain ⟨gc, hgc⟩ : ∃ x, x = w.heap.size + 1 := ⟨_, rfl⟩; rw [← hgc] at BC ⊢; rw [← hga] at BA ⊢; (have La : w.heap.size ≤ ga := by omega); (have Lc : w.heap.size ≤ gc := by omega); (have Nac : ga ≠ gc := by omega); clear hga hgc)
    | ((with_reducible refine wpList_load_blk rfl 48 (.tmp 1) rfl ga 48 ?l1 cs _ ?l2 Tryd.underlying48 ?l3 ?l4 ?_); (case l1 => rfl); (case l2 => exact BA); (case l3 => rfl); (case l4 => exact hi1.out))
    | ((with_reducible refine wpList_store_blk rfl 48 (.tmp 3) (.tmp 4) rfl W0.heap.size 48 ?c0 cs ?c1 ?c2 ?c3 ?c4 ?c5 ?c6 ?_); (case c1 => rfl); (case c2 => rfl); (case c3 => exact heap_alloc_new _ _); (case c4 => exact hi1.out); (case c5 => exact Eq.trans (b := 32) rfl Hcs.out.2.2.symm); (case c6 => exact Hcs.out.2.1); intro w1 BX hk hb hz; have Nax : ga ≠ W0.heap.size := (by have := blkLt BA; omega); have Ncx : gc ≠ W0.heap.size := (by have := blkLt BC; omega); replace BA := (hk _ Nax).trans ((heap_alloc_old _ _ (blkLt BA)).trans BA); replace BC := (hk _ Ncx).trans ((heap_alloc_old _ _ (blkLt BC)).trans BC); have Lx := HB.size; replace HB := hb _ _ (HB.alloc HB.size _) HB.size; clear hk hb hz; obtain ⟨gx, hgx⟩ : ∃ g, g = W0.heap.size := ⟨_, rfl⟩; rw [← hgx] at BX Nax Ncx Lx ⊢; clear hgx)
    | ((with_reducible refine gate_ (.load 43 _) rfl ?_); first | refine wpList_load1_w 43 _ rfl ⟨ga, 4, none⟩ rfl rfl v4 _ ((cell_of_row _ _ 4 _ _ _ BA).trans c4.out) Tryd.underlying43 rfl ?_ | refine wpList_load1_w 43 _ rfl ⟨ga, 27, none⟩ rfl rfl v27 _ ((cell_of_row _ _ 27 _ _ _ BA).trans c27.out) Tryd.underlying43 rfl ?_)
    | (go_at_call 81; (with_reducible refine (Q4.out _ HB).mono ?_); rintro e w2 ⟨u4, rfl, H4, hb⟩; obtain ⟨g4, hg4, hb4, hl4⟩ := H4.own; have Nx4 : gx ≠ g4 := (by have := blkLt BX; omega); have Nc4 : gc ≠ g4 := (by have := blkLt BC; omega); have L4 : w.heap.size ≤ g4 := (by have := HB.size; omega); have H4t := H4.lower HB.size; clear H4 hb4; replace BA := blkB hb BA; replace BC := blkB hb BC; replace BX := blkB hb BX; replace HB := belT HB hb; clear hb Q4)
    | (go_at_call 81; (with_reducible refine (Q27.out _ HB).mono ?_); rintro e w3 ⟨u27, rfl, H27, hb⟩; obtain ⟨g27, hg27, hb27, hl27⟩ := H27.own; have Nx27 : gx ≠ g27 := (by have := blkLt BX; omega); have Nc27 : gc ≠ g27 := (by have := blkLt BC; omega); have N4 : g4 ≠ g27 := (by omega); have H27t := H27.lower HB.size; clear H27 hb27; replace H4t := H4t.tight.move (fun k hk => hb.block k (by rw [hg4] at hk; injection hk with hk; omega)); replace BA := blkB hb BA; replace BC := blkB hb BC; replace BX := blkB hb BX; replace HB := belT HB hb; clear hb Q27)
    | ((with_reducible refine wpList_store1 rfl 43 (.tmp 8) (.tmp 7) rfl gx 4 48 cs u4 ?s1 ?s2 ?s3 ?s4 ?s5 ?s6 ?s7 ?_); (case s1 => rfl); (case s2 => rfl); (case s3 => exact H4t.cells.1); (case s4 => exact BX); (case s5 => (rw [Hcs.out.2.2]; omega)); (case s6 => kernel_rfl); (case s7 => exact H4t.cells.2); intro w4 BX' hk hb hz; rw [Hcs.out.1, cells_set4] at BX'; replace BX := BX'; replace BA := (hk _ Nax).trans BA; replace BC := (hk _ Ncx).trans BC; replace H4t := H4t.tight.move (fun k hk' => hk k (by rw [hg4] at hk'; injection hk' with hk'; omega)); replace HB := hb _ _ HB Lx; have hl4' : g4 < w4.heap.size := (by omega); clear hk hb hz BX' hl4)
    | ((with_reducible refine wpList_store1 rfl 43 (.tmp 12) (.tmp 11) rfl gx 27 48 (o.cells u4 v27) u27 ?s1 ?s2 ?s3 ?s4 ?s5 ?s6 ?s7 ?_); (case s1 => rfl); (case s2 => rfl); (case s3 => exact H27t.cells.1); (case s4 => exact BX); (case s5 => (rw [Ob.cells_size]; omega)); (case s6 => kernel_rfl); (case s7 => exact H27t.cells.2); intro w5 BX' hk hb hz; rw [cells_set27] at BX'; replace BX := BX'; replace BA := (hk _ Nax).trans BA; replace BC := (hk _ Ncx).trans BC; replace H4t := H4t.tight.move (fun k hk' => hk k (by rw [hg4] at hk'; injection hk' with hk'; omega)); replace H27t := H27t.tight.move (fun k hk' => hk k (by rw [hg27] at hk'; injection hk' with hk'; omega)); replace HB := hb _ _ HB Lx; clear hk hb hz BX')
    | ((with_reducible refine wpList_load_blk rfl 48 (.tmp 3) rfl gx 48 ?l1 (o.cells u4 u27) _ ?l2 Tryd.underlying48 ?l3 ?l4 ?_); (case l1 => rfl); (case l2 => exact BX); (case l3 => rfl); (case l4 => exact infoO1))
    | ((with_reducible refine wpList_store_blk rfl 48 (.tmp 2) (.tmp 13) rfl gc 48 zz (o.cells u4 u27) ?c1 ?c2 ?c3 ?c4 ?c5 ?c6 ?_); (case c1 => rfl); (case c2 => rfl); (case c3 => exact BC); (case c4 => exact infoO1); (case c5 => exact Hzz.out); (case c6 => exact o.cells_one H4t.cells.2 H27t.cells.2); intro w6 BC' hk hb hz; replace H4t := H4t.tight.move (fun k hk' => hk k (by rw [hg4] at hk'; injection hk' with hk'; omega)); replace H27t := H27t.tight.move (fun k hk' => hk k (by rw [hg27] at hk'; injection hk' with hk'; omega)); replace HB := hb _ _ HB Lc; clear hk hb hz))
  refine bodyPost_ret (v := .agg (o.cells u4 u27)) (results_cell_row (p := 2) (ty := 48) rfl _ _ gc 48 (o.cells u4 u27) (0, 0) _ (by rfl) BC' Tryd.underlying48 rfl infoO1) rfl ?_
  refine ⟨u4, u27, rfl, H4t.mono (fun k hk e => ?_), H27t.mono (fun k hk e => ?_), HB⟩
  · rw [hg27] at e
    rw [hg4] at hk
    injection e with e
    injection hk with hk
    omega
  · rw [hg4] at e
    rw [hg27] at hk
    injection e with e
    injection hk with hk
    omega
end Go.Proofs.YtoepbjgldmgaoaaDoor

/- The chapter's pods, and what each statement of chapter 24 asks first. -/
namespace Go.Proofs.YtoepbjgldmgaoaaDoor
open Go.RowKit Go.Proofs.YtoepbjgldmgaoaaDoorW.PrintWords Go.Proofs.YtoepbjgldmgaoaaDoorW.PrintLast
def Ob.c0 (o : Ob) : Array Value := o.cells (.slice none 0 0) (.slice none 0 0)
def oA : Ob := { Ob.zero with kind := 1, name := ⟨#[97]⟩, node := ⟨#[110]⟩, phase := 1, ready := true, born := 3 }
def oB1 : Ob := { oA with name := ⟨#[98]⟩ }
def oB : Ob := { oB1 with born := 5 }
def oC : Ob := { Ob.zero with kind := 1, name := ⟨#[99]⟩, node := ⟨#[110]⟩, born := 1 }
def oD : Ob := { Ob.zero with kind := 1, name := ⟨#[100]⟩, born := 1 }
def oE1 : Ob := { oB with name := ⟨#[101]⟩ }
def oE : Ob := { oE1 with ending := true }
theorem c0_size (o : Ob) : o.c0.size = 32 := rfl
theorem c0_one (o : Ob) : o.c0.all (·.oneCell') = true := Ob.cells_one o rfl rfl
theorem info_c0 (o : Ob) : (Tryd.prog.info? 48).map (·.size) = some o.c0.size := infoO1
theorem set_oB1 : oA.c0.setIfInBounds 1 (.string ⟨#[98]⟩) = oB1.c0 := by kernel_rfl
theorem set_oB : oB1.c0.setIfInBounds 3 (.int .i64 5) = oB.c0 := by kernel_rfl
theorem set_oE1 : oB.c0.setIfInBounds 1 (.string ⟨#[101]⟩) = oE1.c0 := by kernel_rfl
theorem set_oE : oE1.c0.setIfInBounds 16 (.bool true) = oE.c0 := by kernel_rfl
attribute [local irreducible] Ob.c0
set_option maxHeartbeats 4000000 in
set_option maxRecDepth 100000 in
theorem five_calls (w : World) :
    Calls Tryd.prog 26 #[] w fun e w' => ∃ g, e = .returned (.slice (some ⟨g, 0, none⟩) 5 5) ∧ w'.heap[g]? = some (.cells ([oA.c0, oB.c0, oC.c0, oD.c0, oE.c0].flatMap Array.toList).toArray 48 (0, 0)) ∧ Below w.heap.size w w' := by
  have HB := Below.refl w.heap.size w
  go_enter Tryd.func26, Tryd.ntmps26
  go_wp2_with (first
    | ((with_reducible refine wpList_pure (op := ⟨some 6, _, _, _, _, _⟩) rfl (.agg oA.c0) ?r0_0 ?_); (case r0_0 => first | kernel_rfl | (go_simp; rfl)))
    | ((with_reducible refine wpList_store_blk rfl 48 (.tmp 1) (.tmp 6) rfl ?g0_1 48 ?s0_1 oA.c0 ?s1_1 ?s2_1 ?s3_1 ?s4_1 ?s5_1 ?s6_1 ?_); (case s1_1 => rfl); (case s2_1 => rfl); (case s3_1 => exact heap_alloc_new _ _); (case s4_1 => exact info_c0 _); (case s5_1 => exact Eq.trans (b := 32) rfl (c0_size _).symm); (case s6_1 => exact c0_one oA); intro w1 Ga hk hb hz; replace HB := hb _ _ (HB.alloc HB.size _) HB.size; clear hk hb hz; obtain ⟨ga, hga⟩ : ∃ g, g = w.heap.size := ⟨_, rfl⟩; rw [← hga] at Ga  ⊢; replace hga := Lib.hid hga)
    | ((with_reducible refine wpList_load_blk (op := ⟨some 7, _, _, _, _, _⟩) rfl 48 (.tmp 1) rfl ga 48 ?l1_2 oA.c0 _ ?l2_2 Tryd.underlying48 ?l3_2 ?l4_2 ?_); (case l1_2 => rfl); (case l2_2 => exact Ga); (case l3_2 => rfl); (case l4_2 => exact info_c0 _))
    | ((with_reducible refine wpList_store_blk rfl 48 (.tmp 2) (.tmp 7) rfl ?g0_3 48 ?s0_3 oA.c0 ?s1_3 ?s2_3 ?s3_3 ?s4_3 ?s5_3 ?s6_3 ?_); (case s1_3 => rfl); (case s2_3 => rfl); (case s3_3 => exact heap_alloc_new _ _); (case s4_3 => exact info_c0 _); (case s5_3 => exact Eq.trans (b := 32) rfl (c0_size _).symm); (case s6_3 => exact c0_one oA); intro w2 Gb hk hb hz; have Nab : ga ≠ w1.heap.size := (by have := blkLt Ga; omega); replace Ga := (hk _ Nab).trans ((heap_alloc_old _ _ (blkLt Ga)).trans Ga); have HSb := HB.size; replace HB := hb _ _ (HB.alloc HB.size _) HB.size; clear hk hb hz; obtain ⟨gb, hgb⟩ : ∃ g, g = w1.heap.size := ⟨_, rfl⟩; rw [← hgb] at Gb Nab HSb ⊢; replace hgb := Lib.hid hgb)
    | ((with_reducible refine wpList_store1 rfl 9 (.tmp 8) (.const (.string ⟨#[98]⟩)) rfl gb 1 48 ?s0_4 (.string ⟨#[98]⟩) ?s1_4 ?s2_4 ?s3_4 ?s4_4 ?s5_4 ?s6_4 ?s7_4 ?_); (case s1_4 => rfl); (case s2_4 => rfl); (case s3_4 => rfl); (case s4_4 => exact Gb); (case s5_4 => (rw [c0_size]; omega)); (case s6_4 => kernel_rfl); (case s7_4 => rfl); intro w3 Gb' hk hb hz; rw [set_oB1] at Gb'; replace Gb := Gb'; replace Ga := (hk _ Nab).trans Ga; replace HB := hb _ _ HB HSb; clear hk hb hz Gb')
    | ((with_reducible refine wpList_store1 rfl 3 (.tmp 9) (.const (.int .i64 5)) rfl gb 3 48 ?s0_5 (.int .i64 5) ?s1_5 ?s2_5 ?s3_5 ?s4_5 ?s5_5 ?s6_5 ?s7_5 ?_); (case s1_5 => rfl); (case s2_5 => rfl); (case s3_5 => rfl); (case s4_5 => exact Gb); (case s5_5 => (rw [c0_size]; omega)); (case s6_5 => kernel_rfl); (case s7_5 => rfl); intro w4 Gb' hk hb hz; rw [set_oB] at Gb'; replace Gb := Gb'; replace Ga := (hk _ Nab).trans Ga; replace HB := hb _ _ HB HSb; clear hk hb hz Gb')
    | ((with_reducible refine wpList_pure (op := ⟨some 10, _, _, _, _, _⟩) rfl (.agg oC.c0) ?r0_6 ?_); (case r0_6 => first | kernel_rfl | (go_simp; rfl)))
    | ((with_reducible refine wpList_store_blk rfl 48 (.tmp 3) (.tmp 10) rfl ?g0_7 48 ?s0_7 oC.c0 ?s1_7 ?s2_7 ?s3_7 ?s4_7 ?s5_7 ?s6_7 ?_); (case s1_7 => rfl); (case s2_7 => rfl); (case s3_7 => exact heap_alloc_new _ _); (case s4_7 => exact info_c0 _); (case s5_7 => exact Eq.trans (b := 32) rfl (c0_size _).symm); (case s6_7 => exact c0_one oC); intro w5 Gc hk hb hz; have Nac : ga ≠ w4.heap.size := (by have := blkLt Ga; omega); replace Ga := (hk _ Nac).trans ((heap_alloc_old _ _ (blkLt Ga)).trans Ga); have Nbc : gb ≠ w4.heap.size := (by have := blkLt Gb; omega); replace Gb := (hk _ Nbc).trans ((heap_alloc_old _ _ (blkLt Gb)).trans Gb); have HSc := HB.size; replace HB := hb _ _ (HB.alloc HB.size _) HB.size; clear hk hb hz; obtain ⟨gc, hgc⟩ : ∃ g, g = w4.heap.size := ⟨_, rfl⟩; rw [← hgc] at Gc Nac Nbc HSc ⊢; replace hgc := Lib.hid hgc)
    | ((with_reducible refine wpList_pure (op := ⟨some 11, _, _, _, _, _⟩) rfl (.agg oD.c0) ?r0_8 ?_); (case r0_8 => first | kernel_rfl | (go_simp; rfl)))
    | ((with_reducible refine wpList_store_blk rfl 48 (.tmp 4) (.tmp 11) rfl ?g0_9 48 ?s0_9 oD.c0 ?s1_9 ?s2_9 ?s3_9 ?s4_9 ?s5_9 ?s6_9 ?_); (case s1_9 => rfl); (case s2_9 => rfl); (case s3_9 => exact heap_alloc_new _ _); (case s4_9 => exact info_c0 _); (case s5_9 => exact Eq.trans (b := 32) rfl (c0_size _).symm); (case s6_9 => exact c0_one oD); intro w6 Gd hk hb hz; have Nad : ga ≠ w5.heap.size := (by have := blkLt Ga; omega); replace Ga := (hk _ Nad).trans ((heap_alloc_old _ _ (blkLt Ga)).trans Ga); have Nbd : gb ≠ w5.heap.size := (by have := blkLt Gb; omega); replace Gb := (hk _ Nbd).trans ((heap_alloc_old _ _ (blkLt Gb)).trans Gb); have Ncd : gc ≠ w5.heap.size := (by have := blkLt Gc; omega); replace Gc := (hk _ Ncd).trans ((heap_alloc_old _ _ (blkLt Gc)).trans Gc); have HSd := HB.size; replace HB := hb _ _ (HB.alloc HB.size _) HB.size; clear hk hb hz; obtain ⟨gd, hgd⟩ : ∃ g, g = w5.heap.size := ⟨_, rfl⟩; rw [← hgd] at Gd Nad Nbd Ncd HSd ⊢; replace hgd := Lib.hid hgd)
    | ((with_reducible refine wpList_load_blk (op := ⟨some 12, _, _, _, _, _⟩) rfl 48 (.tmp 2) rfl gb 48 ?l1_10 oB.c0 _ ?l2_10 Tryd.underlying48 ?l3_10 ?l4_10 ?_); (case l1_10 => rfl); (case l2_10 => exact Gb); (case l3_10 => rfl); (case l4_10 => exact info_c0 _))
    | ((with_reducible refine wpList_store_blk rfl 48 (.tmp 5) (.tmp 12) rfl ?g0_11 48 ?s0_11 oB.c0 ?s1_11 ?s2_11 ?s3_11 ?s4_11 ?s5_11 ?s6_11 ?_); (case s1_11 => rfl); (case s2_11 => rfl); (case s3_11 => exact heap_alloc_new _ _); (case s4_11 => exact info_c0 _); (case s5_11 => exact Eq.trans (b := 32) rfl (c0_size _).symm); (case s6_11 => exact c0_one oB); intro w7 Ge hk hb hz; have Nae : ga ≠ w6.heap.size := (by have := blkLt Ga; omega); replace Ga := (hk _ Nae).trans ((heap_alloc_old _ _ (blkLt Ga)).trans Ga); have Nbe : gb ≠ w6.heap.size := (by have := blkLt Gb; omega); replace Gb := (hk _ Nbe).trans ((heap_alloc_old _ _ (blkLt Gb)).trans Gb); have Nce : gc ≠ w6.heap.size := (by have := blkLt Gc; omega); replace Gc := (hk _ Nce).trans ((heap_alloc_old _ _ (blkLt Gc)).trans Gc); have Nde : gd ≠ w6.heap.size := (by have := blkLt Gd; omega); replace Gd := (hk _ Nde).trans ((heap_alloc_old _ _ (blkLt Gd)).trans Gd); have HSe := HB.size; replace HB := hb _ _ (HB.alloc HB.size _) HB.size; clear hk hb hz; obtain ⟨ge, hge⟩ : ∃ g, g = w6.heap.size := ⟨_, rfl⟩; rw [← hge] at Ge Nae Nbe Nce Nde HSe ⊢; replace hge := Lib.hid hge)
    | ((with_reducible refine wpList_store1 rfl 9 (.tmp 13) (.const (.string ⟨#[101]⟩)) rfl ge 1 48 ?s0_12 (.string ⟨#[101]⟩) ?s1_12 ?s2_12 ?s3_12 ?s4_12 ?s5_12 ?s6_12 ?s7_12 ?_); (case s1_12 => rfl); (case s2_12 => rfl); (case s3_12 => rfl); (case s4_12 => exact Ge); (case s5_12 => (rw [c0_size]; omega)); (case s6_12 => kernel_rfl); (case s7_12 => rfl); intro w8 Ge' hk hb hz; rw [set_oE1] at Ge'; replace Ge := Ge'; replace Ga := (hk _ Nae).trans Ga; replace Gb := (hk _ Nbe).trans Gb; replace Gc := (hk _ Nce).trans Gc; replace Gd := (hk _ Nde).trans Gd; replace HB := hb _ _ HB HSe; clear hk hb hz Ge')
    | ((with_reducible refine wpList_store1 rfl 4 (.tmp 14) (.const (.bool true)) rfl ge 16 48 ?s0_13 (.bool true) ?s1_13 ?s2_13 ?s3_13 ?s4_13 ?s5_13 ?s6_13 ?s7_13 ?_); (case s1_13 => rfl); (case s2_13 => rfl); (case s3_13 => rfl); (case s4_13 => exact Ge); (case s5_13 => (rw [c0_size]; omega)); (case s6_13 => kernel_rfl); (case s7_13 => rfl); intro w9 Ge' hk hb hz; rw [set_oE] at Ge'; replace Ge := Ge'; replace Ga := (hk _ Nae).trans Ga; replace Gb := (hk _ Nbe).trans Gb; replace Gc := (hk _ Nce).trans Gc; replace Gd := (hk _ Nde).trans Gd; replace HB := hb _ _ HB HSe; clear hk hb hz Ge')
    | ((with_reducible refine wpList_load_blk (op := ⟨some 15, _, _, _, _, _⟩) rfl 48 (.tmp 1) rfl ga 48 ?l1_14 oA.c0 _ ?l2_14 Tryd.underlying48 ?l3_14 ?l4_14 ?_); (case l1_14 => rfl); (case l2_14 => exact Ga); (case l3_14 => rfl); (case l4_14 => exact info_c0 _))
    | ((with_reducible refine wpList_load_blk (op := ⟨some 16, _, _, _, _, _⟩) rfl 48 (.tmp 2) rfl gb 48 ?l1_15 oB.c0 _ ?l2_15 Tryd.underlying48 ?l3_15 ?l4_15 ?_); (case l1_15 => rfl); (case l2_15 => exact Gb); (case l3_15 => rfl); (case l4_15 => exact info_c0 _))
    | ((with_reducible refine wpList_load_blk (op := ⟨some 17, _, _, _, _, _⟩) rfl 48 (.tmp 3) rfl gc 48 ?l1_16 oC.c0 _ ?l2_16 Tryd.underlying48 ?l3_16 ?l4_16 ?_); (case l1_16 => rfl); (case l2_16 => exact Gc); (case l3_16 => rfl); (case l4_16 => exact info_c0 _))
    | ((with_reducible refine wpList_load_blk (op := ⟨some 18, _, _, _, _, _⟩) rfl 48 (.tmp 4) rfl gd 48 ?l1_17 oD.c0 _ ?l2_17 Tryd.underlying48 ?l3_17 ?l4_17 ?_); (case l1_17 => rfl); (case l2_17 => exact Gd); (case l3_17 => rfl); (case l4_17 => exact info_c0 _))
    | ((with_reducible refine wpList_load_blk (op := ⟨some 19, _, _, _, _, _⟩) rfl 48 (.tmp 5) rfl ge 48 ?l1_18 oE.c0 _ ?l2_18 Tryd.underlying48 ?l3_18 ?l4_18 ?_); (case l1_18 => rfl); (case l2_18 => exact Ge); (case l3_18 => rfl); (case l4_18 => exact info_c0 _))
    | ((with_reducible refine wpList_buildN (op := ⟨some 20, _, _, _, _, _⟩) rfl 22 48 5 _ rfl [oA.c0, oB.c0, oC.c0, oD.c0, oE.c0] ?b0_19 ?b1_19 ?b2_19 32 312 Tryd.underlying22 ?b3_19 ?b4_19 (by omega) (by omega) (by omega) (by omega) ?b5_19 ?_); (case b0_19 => rfl); (case b1_19 => rfl); (case b3_19 => exact infoO); (case b4_19 => (intro cs hcs; simp only [List.mem_cons, List.not_mem_nil, or_false] at hcs; rcases hcs with rfl | rfl | rfl | rfl | rfl <;> exact c0_size _)); (case b5_19 => rfl)))
  go_ret
  exact ⟨_, rfl, by rw [heap_alloc_new]; simp, HB.alloc HB.size _⟩
end Go.Proofs.YtoepbjgldmgaoaaDoor

/- What each statement of chapter 24 asks first: of the chapter's pods the one on no node ends first. -/
namespace Go.Proofs.YtoepbjgldmgaoaaDoor
open Go.RowKit Go.Proofs.YtoepbjgldmgaoaaDoorW.PrintWords Go.Proofs.YtoepbjgldmgaoaaDoorW.PrintLast
def fiveL : List Ob := [oA, oB, oC, oD, oE]
theorem vict5 : victF fiveL 2 = [oD, oC] := by kernel_rfl
theorem flatC_at (m : Nat) : ∀ (css : List (Array Value)) (_ : ∀ cs ∈ css, cs.size = m) (j : Nat) (cs : Array Value) (_ : css[j]? = some cs) (i : Nat) (u : Value), cs[i]? = some u → (css.flatMap Array.toList)[j * m + i]? = some u
  | [], _, j, cs, h, _, _, _ => by simp at h
  | c :: css, hs, 0, cs, h, i, u, hu => by
    obtain rfl : c = cs := by simpa using h
    have hi : i < c.size := (Array.getElem?_eq_some_iff.1 hu).1
    rw [List.flatMap_cons, Nat.zero_mul, Nat.zero_add, List.getElem?_append_left (by simpa using hi)]
    simpa using hu
  | c :: css, hs, j + 1, cs, h, i, u, hu => by
    have hc : c.toList.length = m := by simpa using hs c (by simp)
    have := flatC_at m css (fun x hx => hs x (List.mem_cons_of_mem _ hx)) j cs (by simpa using h) i u hu
    rw [List.flatMap_cons, List.getElem?_append_right (by rw [hc, Nat.succ_mul]; omega), hc, show (j + 1) * m + i - m = j * m + i by rw [Nat.succ_mul]; omega]
    exact this
theorem C_flat {w : World} {g : Nat} {l : List Ob} (t : TypeId) (hl : l.length ≤ 1000000) (h0 : ∀ o ∈ l, o.labels = [] ∧ o.select = []) (hg : w.heap[g]? = some (.cells ((l.map Ob.c0).flatMap Array.toList).toArray t (0, 0))) : kO.C w (some ⟨g, 0, none⟩) l.length l := by
  refine ⟨rfl, by omega, fun _ => ⟨_, rfl, fun j o hj => ⟨o.c0.toList, by rw [Array.length_toList, c0_size]; rfl, ?_, fun i u hu => ?_⟩⟩⟩
  · obtain ⟨e1, e2⟩ := h0 o (List.mem_of_getElem? hj)
    exact ⟨.slice none 0 0, .slice none 0 0, rfl, ⟨none, 0, by rw [e1]; rfl, by rw [e1]; exact Nat.le_refl _, by rw [e1]; exact Kd.C_nil _ _⟩, ⟨none, 0, by rw [e2]; rfl, by rw [e2]; exact Nat.le_refl _, by rw [e2]; exact Kd.C_nil _ _⟩⟩
  · rw [add_at, Nat.zero_add, cell_of_row w g _ _ t _ hg]
    have : ((l.map Ob.c0).flatMap Array.toList)[j * kO.sz + i]? = some u := flatC_at 32 (l.map Ob.c0) (fun cs hc => by obtain ⟨o', _, rfl⟩ := List.mem_map.1 hc; exact c0_size o') j o.c0 (by rw [List.getElem?_map, hj]; rfl) i u (by simpa using hu)
    simpa using this
theorem fits5 : ∀ o ∈ fiveL, ObFits o := by
  intro o ho
  have h : o.labels = [] ∧ o.select = [] ∧ o.name.size ≤ 1 := by
    simp only [fiveL, List.mem_cons, List.not_mem_nil, or_false] at ho
    rcases ho with rfl | rfl | rfl | rfl | rfl <;> exact ⟨rfl, rfl, by decide⟩
  exact ⟨by have := h.2.2; omega, by rw [h.1]; simp, by rw [h.2.1]; simp⟩
theorem lists5 : ∀ o ∈ fiveL, o.labels = [] ∧ o.select = [] := by
  intro o ho
  simp only [fiveL, List.mem_cons, List.not_mem_nil, or_false] at ho
  rcases ho with rfl | rfl | rfl | rfl | rfl <;> exact ⟨rfl, rfl⟩
theorem S_at {w : World} {base : Nat} {ok : Nat → Prop} {v : Value} {l : List Ob} (h : Kd.S kO 48 w base ok v l) (hp : 0 < l.length) :
    ∃ g c, v = .slice (some ⟨g, 0, none⟩) l.length c ∧ base ≤ g ∧ g < w.heap.size ∧ ∀ (i : Nat) (o : Ob), l[i]? = some o → ∃ v4 v27, LabK w o.labels v4 ∧ LabK w o.select v27 ∧ ∀ j u, (o.cells v4 v27)[j]? = some u → w.cell? ⟨g, i * 32 + j, none⟩ = some u := by
  obtain ⟨g, c, rfl, hb, hlt, _⟩ := Kd.R_form (Kd.S_R h) hp
  obtain ⟨_, _, hC⟩ := Kd.R_reads' (Kd.S_R h)
  refine ⟨g, c, rfl, hb, hlt, fun i o hi => ?_⟩
  obtain ⟨ad, v4, v27, e, h4, h27, hc⟩ := obj_at hC i o hi
  obtain rfl := Option.some.inj e
  exact ⟨v4, v27, h4, h27, fun j u hu => by have := hc j u hu; rwa [add_at, Nat.zero_add] at this⟩
theorem v5_calls (g : Nat) (w : World) (hC : kO.C w (some ⟨g, 0, none⟩) 5 fiveL) :
    Calls Tryd.prog 21 #[.slice (some ⟨g, 0, none⟩) 5 5, .int .i64 2] w fun e w' => ∃ g2, e = .returned (.slice (some ⟨g2, 0, none⟩) 2 2) ∧ w'.cell? ⟨g2, 1, none⟩ = some (.string ⟨#[100]⟩) ∧ w'.cell? ⟨g2, 33, none⟩ = some (.string ⟨#[99]⟩) ∧ Below w.heap.size w w' := by
  have h := victims_calls (some ⟨g, 0, none⟩) 5 fiveL 2 w hC (by decide) fits5
  refine (show Calls Tryd.prog 21 #[.slice (some ⟨g, 0, none⟩) 5 5, .int .i64 2] w _ from h).mono fun e w2 h2 => ?_
  rw [vict5] at h2
  obtain ⟨A', c', rfl, hS, hB2⟩ := h2
  obtain ⟨g2, c2, e2, _, _, hat⟩ := S_at hS (by decide)
  obtain ⟨u4, u27, _, _, hD⟩ := hat 0 oD rfl
  obtain ⟨t4, t27, _, _, hE⟩ := hat 1 oC rfl
  injection e2 with e2 _ _
  subst e2
  exact ⟨g2, rfl, hD 1 _ rfl, hE 1 _ rfl, hB2⟩
theorem works_calls (w : World) : Calls Tryd.prog 23 #[] w fun e w' => e = .returned (.bool true) ∧ Below w.heap.size w w' := by
  have H0 := Lib.hid lists5
  go_enter Tryd.func23, Tryd.ntmps23
  go_wp2_with (first
    | (go_at_call 26; (with_reducible refine (five_calls _).mono ?_); rintro e w1 ⟨g, rfl, hG, hB1⟩; have hC : Hid (kO.C w1 (some ⟨g, 0, none⟩) 5 fiveL) := Lib.hid (C_flat (l := fiveL) 48 (by decide) H0.out hG); clear hG)
    | (go_at_call 21; (with_reducible refine (v5_calls g _ hC.out).mono ?_); rintro e w2 ⟨g2, rfl, q0, q1, hB2⟩))
  go_ret
  exact ⟨rfl, hB1.trans (hB2.mono hB1.size)⟩
end Go.Proofs.YtoepbjgldmgaoaaDoor

/- SameObjects: are two lists of objects the same? has, bound (chapter 24). -/
namespace Go.Proofs.YtoepbjgldmgaoaaDoor
open Go.RowKit Go.Proofs.YtoepbjgldmgaoaaDoorW.PrintWords Go.Proofs.YtoepbjgldmgaoaaDoorW.PrintLast
instance obDec : DecidableEq Ob := fun o p => decidable_of_iff (sameB o p = true) (sameB_iff o p)
theorem sameB_dec (o p : Ob) : sameB o p = decide (o = p) := by
  rw [Bool.eq_iff_iff, sameB_iff, decide_eq_true_eq]
structure ObjAt (w : World) (ad : Addr) (k : Nat) (o : Ob) (v4 v27 : Value) : Prop where
  l4 : LabK w o.labels v4
  l27 : LabK w o.select v27
  cells : ∀ (j : Nat) (u : Value), (o.cells v4 v27)[j]? = some u → w.cell? ((ad.add (k * 32)).add j) = some u
theorem ObjAt.below {w w1 : World} {ad : Addr} {k : Nat} {o : Ob} {v4 v27 : Value} (h : ObjAt w ad k o v4 v27) (hb : Below w.heap.size w w1) : ObjAt w1 ad k o v4 v27 :=
  ⟨h.l4.below hb, h.l27.below hb, fun j u hu => cell_below hb (h.cells j u hu)⟩
theorem objAt {w : World} {A : Option Addr} {n : Nat} {l : List Ob} (h : kO.C w A n l) (k : Nat) (o : Ob) (hk : l[k]? = some o) : ∃ ad v4 v27, A = some ad ∧ ObjAt w ad k o v4 v27 := by
  obtain ⟨ad, v4, v27, e, h4, h27, hc⟩ := obj_at h k o hk
  exact ⟨ad, v4, v27, e, h4, h27, fun j u hu => by rw [add_add]; exact hc j u hu⟩
theorem ObjAt.field {w : World} {ad : Addr} {k : Nat} {o : Ob} {v4 v27 : Value} (h : ObjAt w ad k o v4 v27) (j : Nat) (hj : 0 < j) {u : Value} (hu : (o.cells v4 v27)[j]? = some u) : w.cell? ⟨(ad.add (k * 32)).block, (ad.add (k * 32)).off + j, none⟩ = some u := by
  have := h.cells j u hu
  rwa [add_add, add_field _ _ _ hj] at this
theorem take_same {l m : List Ob} {k : Nat} (h : l.take k = m.take k) {o p : Ob} (ho : l[k]? = some o) (hp : m[k]? = some p) : l.take (k + 1) = m.take (k + 1) ↔ o = p := by
  rw [List.take_add_one, List.take_add_one, h, ho, hp]
  simp
def rg15_6_T : Bool × List (List Nat × List Nat) := (true, [([], []), ([], []), ([0, 1], [0, 1]), ([2], [2]), ([], []), ([], []), ([4, 5], [4, 5]), ([6], [6]), ([3, 7], [3, 7]), ([8], [8])])
def rg15_6_B : List Nat := [0, 0, 3, 7, 0, 0, 48, 112, 255, 511]
theorem rg15_6_tab : rtab .any (opsOf Tryd.f15 6) = rg15_6_T := by kernel_rfl
theorem rg15_6_bits : waitsOk rg15_6_T.2 rg15_6_B = true := by kernel_rfl
def rg24_4_T : Bool × List (List Nat × List Nat) := (true, [([], []), ([], []), ([0, 1], [0, 1]), ([2], [2]), ([], []), ([3, 4], [3, 4])])
def rg24_4_B : List Nat := [0, 0, 3, 7, 0, 31]
theorem rg24_4_tab : rtab .any (opsOf Tryd.f24 4) = rg24_4_T := by kernel_rfl
theorem rg24_4_bits : waitsOk rg24_4_T.2 rg24_4_B = true := by kernel_rfl
set_option maxHeartbeats 1600000 in
set_option maxRecDepth 100000 in
theorem sameObjects_eq (A B : Option Addr) (l m : List Ob) (c d n : Nat) (w : World) (hr : kO.C w A l.length l) (hs : kO.C w B m.length m) (hl : l.length = n) (hm : m.length = n) (hn : n ≤ 1000000) :
    Calls Tryd.prog 15 #[.slice A n c, .slice B n d] w fun e w' => e = .returned (.bool (decide (l = m))) ∧ Below w.heap.size w w' := by
  have HR := Lib.hid hr
  have HS := Lib.hid hs
  have HL := Lib.hid (And.intro hl hm)
  clear hr hs hl hm
  go_enter Tryd.func15, Tryd.ntmps15
  go_wp2
  go_loopw [5] (fun v5 wr => ∃ k : Nat, k ≤ n ∧ v5 = .int .i64 k ∧ Hid (l.take k = m.take k ∧ Below w.heap.size w wr)) (fun v5 _ => n - (intOf v5).toNat)
  case atStart => exact ⟨0, Nat.zero_le _, rfl, Lib.hid ⟨by simp, Below.refl _ _⟩⟩
  case round =>
    obtain ⟨k, hk, rfl, hI⟩ := hrel
    by_cases hlt : k < n
    · obtain ⟨o, ho⟩ : ∃ o, l[k]? = some o := ⟨_, List.getElem?_eq_getElem (by have := HL.out; omega)⟩
      obtain ⟨p, hp⟩ : ∃ p, m[k]? = some p := ⟨_, List.getElem?_eq_getElem (by have := HL.out; omega)⟩
      obtain ⟨ad, v4, v27, rfl, hO⟩ := objAt (Kd.C_below HR.out hI.out.2) k o ho
      obtain ⟨bd, u4, u27, rfl, hP⟩ := objAt (Kd.C_below HS.out hI.out.2) k p hp
      obtain ⟨cs, hcs⟩ : ∃ cs, cs = o.cells v4 v27 := ⟨_, rfl⟩
      obtain ⟨ds, hds⟩ : ∃ ds, ds = p.cells u4 u27 := ⟨_, rfl⟩
      have hi1 : Hid ((Tryd.prog.info? 48).map (·.size) = some cs.size) := Lib.hid (by rw [hcs, Ob.cells_size]; kernel_rfl)
      have hi2 : Hid ((Tryd.prog.info? 48).map (·.size) = some ds.size) := Lib.hid (by rw [hds, Ob.cells_size]; kernel_rfl)
      have B1 := hO.cells
      have B2 := hP.cells
      rw [← hcs] at B1
      rw [← hds] at B2
      obtain ⟨rb, hrb⟩ : ∃ rb, rb = sameB o p := ⟨_, rfl⟩
      have QS := Lib.hid (fun (W : World) (hW : Below wr.heap.size wr W) => sameObject_calls o p v4 v27 u4 u27 W (hO.l4.below hW) (hO.l27.below hW) (hP.l4.below hW) (hP.l27.below hW))
      rw [← hrb, ← hcs, ← hds] at QS
      have HT := Lib.hid (And.intro ho (And.intro hp hrb))
      replace B1 := Lib.hid (fun (W : World) (hW : Below wr.heap.size wr W) j u hu => cell_below hW (B1 j u hu))
      replace B2 := Lib.hid (fun (W : World) (hW : Below wr.heap.size wr W) j u hu => cell_below hW (B2 j u hu))
      clear ho hp hrb hcs hds hO hP
      have HB : Below wr.heap.size wr wr := Below.refl _ _
      replace HB := below_drew HB
      have hlk : (k : Int) < (n : Int) := by omega
      go_upto_region 6 with (fail)
      refine start_ (n := 10) (S := fun w' => Below wr.heap.size wr w') (ds := []) (bs 10 0) (by kernel_rfl) rfl (by kernel_rfl) HB (fun hHeld => ?_)
      refine with_tabW rg15_6_tab rg15_6_bits (fun HT_ HW_ => ?_)
      refine pu 0 (some 17) (bs 10 1) HT_ rfl rfl (by kernel_rfl) (fun _ _ _ _ h => h) ⟨_, .inl ⟨by rfl, fun _ => by go_simp; with_reducible rfl⟩, _, by simp only [Act.put, sA, sB, sC, i64_w, i32_w]; rfl, ?_⟩
      refine pu 1 (some 18) (bs 10 3) HT_ rfl rfl (by kernel_rfl) (fun _ _ _ _ h => h) ⟨_, .inl ⟨by rfl, fun _ => by go_simp; with_reducible rfl⟩, _, by simp only [Act.put, sA, sB, sC, i64_w, i32_w]; rfl, ?_⟩
      refine pu 2 (some 19) (bs 10 7) HT_ rfl rfl (by kernel_rfl) (fun _ _ _ _ h => h) ⟨_, .inl ⟨by rfl, fun _ => by go_simp; with_reducible rfl⟩, _, by simp only [Act.put, sA, sB, sC, i64_w, i32_w]; rfl, ?_⟩
      refine pu 4 (some 21) (bs 10 23) HT_ rfl rfl (by kernel_rfl) (fun _ _ _ _ h => h) ⟨_, .inl ⟨by rfl, fun _ => by go_simp; with_reducible rfl⟩, _, by simp only [Act.put, sA, sB, sC, i64_w, i32_w]; rfl, ?_⟩
      refine pu 5 (some 22) (bs 10 55) HT_ rfl rfl (by kernel_rfl) (fun _ _ _ _ h => h) ⟨_, .inl ⟨by rfl, fun _ => by go_simp; with_reducible rfl⟩, _, by simp only [Act.put, sA, sB, sC, i64_w, i32_w]; rfl, ?_⟩
      refine pu 6 (some 23) (bs 10 119) HT_ rfl rfl (by kernel_rfl) (fun _ _ _ _ h => h) ⟨_, .inl ⟨by rfl, fun _ => by go_simp; with_reducible rfl⟩, _, by simp only [Act.put, sA, sB, sC, i64_w, i32_w]; rfl, ?_⟩
      refine tk 3 (some 20) (bs 10 127) HT_ HW_ rfl rfl (by kernel_rfl) (fun _ _ _ _ h => h) hHeld ⟨_, .inl ⟨by rfl, by rintro w' s0; refine load_any_ (x := .tmp 19) (p := ad.add (k * 32)) ?_ ?_ (B1.out _ s0) Tryd.underlying48 rfl hi1.out <;> rfl⟩, _, by simp only [Act.put, sA, sB, sC, i64_w, i32_w]; rfl, ?_⟩
      refine tk 7 (some 24) (bs 10 255) HT_ HW_ rfl rfl (by kernel_rfl) (fun _ _ _ _ h => h) hHeld ⟨_, .inl ⟨by rfl, by rintro w' s0; refine load_any_ (x := .tmp 23) (p := bd.add (k * 32)) ?_ ?_ (B2.out _ s0) Tryd.underlying48 rfl hi2.out <;> rfl⟩, _, by simp only [Act.put, sA, sB, sC, i64_w, i32_w]; rfl, ?_⟩
      refine on1 8 (some 25) (bs 10 511) HT_ rfl rfl (by kernel_rfl) (by decide) (fun K hK => ?_)
      refine goes_ Tryd.func32 (by kernel_rfl) rfl #[.agg cs, .agg ds] (by rfl) rfl rfl (by (try simp only [List.map_toArray, List.map_cons, List.map_nil]); first | done | rfl) ?_
      with_reducible refine (QS.out _ HB).mono ?_
      rintro e w1 ⟨rfl, hb⟩
      replace HB := belT HB hb
      clear hb
      refine ⟨_, rfl, ?_⟩
      refine hK.out _ _ HB (fun hHeld => ?_)
      clear hK K
      refine nm ⟨_, show Act.put _ (some 25) _ = _ by simp only [Act.put, sA, sB, sC, i64_w, i32_w]; rfl, ?_⟩
      refine pu 9 (some 26) (bs 10 1023) HT_ rfl rfl (by kernel_rfl) (fun _ _ _ _ h => h) ⟨_, .inl ⟨by rfl, fun _ => by go_simp; with_reducible rfl⟩, _, by simp only [Act.put, sA, sB, sC, i64_w, i32_w]; rfl, ?_⟩
      refine done_ (done_of HT_.out (by kernel_rfl)) ?_
      cases rb
      · go_wp2
        go_ret
        refine ⟨?_, belT hI.out.2 HB⟩
        have e : ¬ l = m := fun e => by
          subst e
          obtain ⟨h1, h2, h3⟩ := HT.out
          rw [h1] at h2
          injection h2 with h2
          subst h2
          rw [sameB_dec] at h3
          simp at h3
        rw [decide_eq_false e]
        rfl
      · go_wp2
        go_roundw
        case rel =>
          obtain ⟨h1, h2, h3⟩ := HT.out
          rw [sameB_dec] at h3
          exact ⟨k + 1, by omega, by go_num, Lib.hid ⟨(take_same hI.out.1 h1 h2).2 (of_decide_eq_true h3.symm), belT hI.out.2 HB⟩⟩
        case measure => simp [intOf]; omega
    · obtain rfl : k = n := by omega
      go_wp2
      go_ret
      refine ⟨?_, hI.out.2⟩
      obtain ⟨h1, h2⟩ := HL.out
      have h := hI.out.1
      rw [← h1, List.take_length, h1, ← h2, List.take_length] at h
      rw [decide_eq_true h]
      rfl
theorem sameObjects_calls (A B : Option Addr) (l m : List Ob) (c d : Nat) (w : World) (hr : kO.C w A l.length l) (hs : kO.C w B m.length m) (hn : l.length ≤ 1000000) :
    Calls Tryd.prog 15 #[.slice A l.length c, .slice B m.length d] w fun e w' => e = .returned (.bool (decide (l = m))) ∧ Below w.heap.size w w' := by
  by_cases h : l.length = m.length
  · have := sameObjects_eq A B l m c d l.length w hr hs rfl h.symm hn
    rw [← h]
    exact this
  · have hne : ¬ l = m := fun e => h (by rw [e])
    rw [decide_eq_false hne]
    have e1 : ((l.length : Int) != (m.length : Int)) = true := by simp; omega
    clear hr hs hne
    go_enter Tryd.func15, Tryd.ntmps15
    go_wp2
    go_ret
    exact ⟨rfl, Below.refl _ _⟩
set_option maxHeartbeats 1600000 in
set_option maxRecDepth 100000 in
theorem has_calls (A : Option Addr) (l : List Ob) (c n : Nat) (p : Ob) (u4 u27 : Value) (w : World) (hr : kO.C w A l.length l) (hm4 : LabK w p.labels u4) (hm27 : LabK w p.select u27) (hl : l.length = n) (hn : n ≤ 1000000) :
    Calls Tryd.prog 24 #[.slice A n c, .agg (p.cells u4 u27)] w fun e w' => e = .returned (.bool (decide (p ∈ l))) ∧ Below w.heap.size w w' := by
  have HR := Lib.hid hr
  have HL := Lib.hid hl
  obtain ⟨ds, hds⟩ : ∃ ds, ds = p.cells u4 u27 := ⟨_, rfl⟩
  have hi2 : Hid ((Tryd.prog.info? 48).map (·.size) = some ds.size) := Lib.hid (by rw [hds, Ob.cells_size]; kernel_rfl)
  have HQ := Lib.hid (fun (W : World) (hW : Below w.heap.size w W) (o : Ob) (v4 v27 : Value) (h4 : LabK W o.labels v4) (h27 : LabK W o.select v27) => sameObject_calls o p v4 v27 u4 u27 W h4 h27 (hm4.below hW) (hm27.below hW))
  rw [← hds] at HQ ⊢
  clear hr hl hm4 hm27 hds
  go_enter Tryd.func24, Tryd.ntmps24
  go_wp2
  have HW : Below w.heap.size w (w.alloc (Obj.cells ds 48)) := (Below.refl _ _).alloc (Nat.le_refl _) _
  have BX : (w.alloc (Obj.cells ds 48)).heap[w.heap.size]? = some (.cells ds 48 (0, 0)) := heap_alloc_new w _
  generalize (w.alloc (Obj.cells ds 48)) = W0 at HW BX ⊢
  obtain ⟨gx, hgx⟩ : ∃ x, x = w.heap.size := ⟨_, rfl⟩
  rw [← hgx] at BX ⊢
  have HW := Lib.hid HW
  have HX := Lib.hid BX
  clear hgx BX
  go_loopw [5] (fun v5 wr => ∃ k : Nat, k ≤ n ∧ v5 = .int .i64 k ∧ Hid ((∀ o ∈ l.take k, ¬ o = p) ∧ Below W0.heap.size W0 wr)) (fun v5 _ => n - (intOf v5).toNat)
  case atStart => exact ⟨0, Nat.zero_le _, rfl, Lib.hid ⟨by simp, Below.refl _ _⟩⟩
  case round =>
    obtain ⟨k, hk, rfl, hI⟩ := hrel
    by_cases hlt : k < n
    · obtain ⟨o, ho⟩ : ∃ o, l[k]? = some o := ⟨_, List.getElem?_eq_getElem (by have := HL.out; omega)⟩
      obtain ⟨ad, v4, v27, rfl, hO⟩ := objAt (Kd.C_below HR.out (belT HW.out hI.out.2)) k o ho
      obtain ⟨cs, hcs⟩ : ∃ cs, cs = o.cells v4 v27 := ⟨_, rfl⟩
      have hi1 : Hid ((Tryd.prog.info? 48).map (·.size) = some cs.size) := Lib.hid (by rw [hcs, Ob.cells_size]; kernel_rfl)
      have B1 := hO.cells
      rw [← hcs] at B1
      obtain ⟨rb, hrb⟩ : ∃ rb, rb = sameB o p := ⟨_, rfl⟩
      have QS := Lib.hid (fun (W : World) (hW : Below wr.heap.size wr W) => HQ.out W (belT (belT HW.out hI.out.2) hW) o v4 v27 (hO.l4.below hW) (hO.l27.below hW))
      rw [← hrb, ← hcs] at QS
      have HT := Lib.hid (And.intro ho hrb)
      have B2 : wr.heap[gx]? = some (.cells ds 48 (0, 0)) := blkB hI.out.2 HX.out
      replace B1 := Lib.hid (fun (W : World) (hW : Below wr.heap.size wr W) j u hu => cell_below hW (B1 j u hu))
      replace B2 := Lib.hid (fun (W : World) (hW : Below wr.heap.size wr W) => blkB hW B2)
      clear ho hrb hcs hO
      have HB : Below wr.heap.size wr wr := Below.refl _ _
      replace HB := below_drew HB
      have hlk : (k : Int) < (n : Int) := by omega
      go_upto_region 4 with (fail)
      refine start_ (n := 6) (S := fun w' => Below wr.heap.size wr w') (ds := []) (bs 6 0) (by kernel_rfl) rfl (by kernel_rfl) HB (fun hHeld => ?_)
      refine with_tabW rg24_4_tab rg24_4_bits (fun HT_ HW_ => ?_)
      refine pu 0 (some 12) (bs 6 1) HT_ rfl rfl (by kernel_rfl) (fun _ _ _ _ h => h) ⟨_, .inl ⟨by rfl, fun _ => by go_simp; with_reducible rfl⟩, _, by simp only [Act.put, sA, sB, sC, i64_w, i32_w]; rfl, ?_⟩
      refine pu 1 (some 13) (bs 6 3) HT_ rfl rfl (by kernel_rfl) (fun _ _ _ _ h => h) ⟨_, .inl ⟨by rfl, fun _ => by go_simp; with_reducible rfl⟩, _, by simp only [Act.put, sA, sB, sC, i64_w, i32_w]; rfl, ?_⟩
      refine pu 2 (some 14) (bs 6 7) HT_ rfl rfl (by kernel_rfl) (fun _ _ _ _ h => h) ⟨_, .inl ⟨by rfl, fun _ => by go_simp; with_reducible rfl⟩, _, by simp only [Act.put, sA, sB, sC, i64_w, i32_w]; rfl, ?_⟩
      refine tk 3 (some 15) (bs 6 15) HT_ HW_ rfl rfl (by kernel_rfl) (fun _ _ _ _ h => h) hHeld ⟨_, .inl ⟨by rfl, by rintro w' s0; refine load_any_ (x := .tmp 14) (p := ad.add (k * 32)) ?_ ?_ (B1.out _ s0) Tryd.underlying48 rfl hi1.out <;> rfl⟩, _, by simp only [Act.put, sA, sB, sC, i64_w, i32_w]; rfl, ?_⟩
      refine tk 4 (some 16) (bs 6 31) HT_ HW_ rfl rfl (by kernel_rfl) (fun _ _ _ _ h => h) hHeld ⟨_, .inl ⟨by rfl, by rintro w' s0; refine load_row (x := .tmp 3) ?_ ?_ (B2.out _ s0) Tryd.underlying48 rfl hi2.out <;> rfl⟩, _, by simp only [Act.put, sA, sB, sC, i64_w, i32_w]; rfl, ?_⟩
      refine on1 5 (some 17) (bs 6 63) HT_ rfl rfl (by kernel_rfl) (by decide) (fun K hK => ?_)
      refine goes_ Tryd.func32 (by kernel_rfl) rfl #[.agg cs, .agg ds] (by rfl) rfl rfl (by (try simp only [List.map_toArray, List.map_cons, List.map_nil]); first | done | rfl) ?_
      with_reducible refine (QS.out _ HB).mono ?_
      rintro e w1 ⟨rfl, hb⟩
      replace HB := belT HB hb
      clear hb
      refine ⟨_, rfl, ?_⟩
      refine hK.out _ _ HB (fun hHeld => ?_)
      clear hK K
      refine nm ⟨_, show Act.put _ (some 17) _ = _ by simp only [Act.put, sA, sB, sC, i64_w, i32_w]; rfl, ?_⟩
      refine done_ (done_of HT_.out (by kernel_rfl)) ?_
      obtain ⟨h1, h2⟩ := HT.out
      have hk' : k < l.length := (List.getElem?_eq_some_iff.1 h1).1
      rw [sameB_dec] at h2
      cases rb
      · go_wp2
        go_roundw
        case rel =>
          refine ⟨k + 1, by omega, by go_num, Lib.hid ⟨fun x hx => ?_, belT hI.out.2 HB⟩⟩
          rw [List.take_add_one, h1] at hx
          rcases List.mem_append.1 hx with hx | hx
          · exact hI.out.1 x hx
          · obtain rfl : x = o := by simpa using hx
            exact of_decide_eq_false h2.symm
        case measure => simp [intOf]; omega
      · go_wp2
        go_ret
        refine ⟨?_, belT HW.out (belT hI.out.2 HB)⟩
        have e : p ∈ l := by
          have := of_decide_eq_true h2.symm
          rw [← this]
          exact List.mem_of_getElem? h1
        rw [decide_eq_true e]
        rfl
    · obtain rfl : k = n := by omega
      go_wp2
      go_ret
      refine ⟨?_, belT HW.out hI.out.2⟩
      have e : ¬ p ∈ l := fun e => by
        have := hI.out.1
        rw [← HL.out, List.take_length] at this
        exact this p e rfl
      rw [decide_eq_false e]
      rfl
def boundB : Bool → List Ob → Bool
  | _, [] => true
  | r, o :: l => if o.node.toList = [] ∨ ¬ o.phase = 1 then boundB r l else if r = true ∧ o.ready = false then false else boundB (r || o.ready) l
set_option maxHeartbeats 1600000 in
theorem bound_calls (A : Option Addr) (l : List Ob) (c n : Nat) (w : World) (hr : kO.C w A l.length l) (hl : l.length = n) (hn : n ≤ 1000000) :
    Calls Tryd.prog 25 #[.slice A n c] w fun e w' => e = .returned (.bool (boundB false l)) ∧ Below w.heap.size w w' := by
  have HR := Lib.hid hr
  have HL := Lib.hid hl
  clear hr hl
  go_enter Tryd.func25, Tryd.ntmps25
  go_wp2
  go_loopw [3, 4] (fun v3 v4 wr => ∃ (k : Nat) (r : Bool), k ≤ n ∧ v3 = .bool r ∧ v4 = .int .i64 k ∧ wr = w ∧ Hid (boundB r (l.drop k) = boundB false l)) (fun _ v4 _ => n - (intOf v4).toNat)
  case atStart => exact ⟨0, false, Nat.zero_le _, rfl, rfl, rfl, Lib.hid rfl⟩
  case round =>
    obtain ⟨k, r, hk, rfl, rfl, rfl, hI⟩ := hrel
    by_cases hlt : k < n
    · obtain ⟨o, ho⟩ : ∃ o, l[k]? = some o := ⟨_, List.getElem?_eq_getElem (by have := HL.out; omega)⟩
      obtain ⟨ad, v4, v27, rfl, hO⟩ := objAt HR.out k o ho
      have q13 := hO.field 13 (by omega) (u := .string o.node) rfl
      have q14 := hO.field 14 (by omega) (u := .int .i64 o.phase) rfl
      have q15 := hO.field 15 (by omega) (u := .bool o.ready) rfl
      have hlk : (k : Int) < (n : Int) := by omega
      have hd : l.drop k = o :: l.drop (k + 1) := by
        obtain ⟨h1, h2⟩ := List.getElem?_eq_some_iff.1 ho
        rw [List.drop_eq_getElem_cons h1, h2]
      have hI2 := hI.out
      rw [hd] at hI2
      have HI := Lib.hid hI2
      obtain ⟨y, hy⟩ : ∃ y, y = o.ready := ⟨_, rfl⟩
      obtain ⟨b1, hb1⟩ : ∃ b, b = o.node.toList.isEmpty := ⟨_, rfl⟩
      have HY := Lib.hid (And.intro hy hb1)
      rw [← hy] at q15
      clear ho hd hI2 hO hy hb1 hI
      have step1 : o.node.toList = [] ∨ ¬ o.phase = 1 → boundB r (l.drop (k + 1)) = boundB false l := fun h => by
        rw [← HI.out, boundB, if_pos h]
      have step2 : ¬ (o.node.toList = [] ∨ ¬ o.phase = 1) → ¬ (r = true ∧ o.ready = false) → boundB (r || o.ready) (l.drop (k + 1)) = boundB false l := fun h h' => by
        rw [← HI.out, boundB, if_neg h, if_neg h']
      have step3 : ¬ (o.node.toList = [] ∨ ¬ o.phase = 1) → (r = true ∧ o.ready = false) → boundB false l = false := fun h h' => by
        rw [← HI.out, boundB, if_neg h, if_pos h']
      have HS := Lib.hid (And.intro step1 (And.intro step2 step3))
      clear step1 step2 step3 HI
      go_wp2
      · rename_i h1
        exact ⟨⟨k + 1, r, by omega, rfl, by go_num, trivial, Lib.hid (HS.out.1 (.inl h1))⟩, by simp [intOf]; omega⟩
      · rename_i h1 h2
        exact ⟨⟨k + 1, r, by omega, rfl, by go_num, trivial, Lib.hid (HS.out.1 (by simpa [h1] using h2))⟩, by simp [intOf]; omega⟩
      · have h1 := ‹¬ o.node.toList = []›
        have h2 := ‹o.node.toList.isEmpty = false ∧ (o.phase != 1) = false›
        have h3 := ‹r = true›
        have h4 := ‹(!y) = true›
        go_ret
        refine ⟨?_, Below.refl _ _⟩
        rw [HS.out.2.2 (by simpa [h1] using h2) ⟨h3, by rw [← HY.out.1]; simpa using h4⟩]
        rfl
      · have h1 := ‹¬ o.node.toList = []›
        have h2 := ‹o.node.toList.isEmpty = false ∧ (o.phase != 1) = false›
        have h3 := ‹r = true›
        have h4 := ‹(!y) = false›
        refine ⟨⟨k + 1, true, by omega, rfl, by go_num, trivial, Lib.hid ?_⟩, by simp [intOf]; omega⟩
        have := HS.out.2.1 (by simpa [h1] using h2) (fun h => by
          have h5 := h.2
          rw [← HY.out.1] at h5
          simp [h5] at h4)
        rw [h3, Bool.true_or] at this
        exact this
      · have h1 := ‹¬ o.node.toList = []›
        have h2 := ‹o.node.toList.isEmpty = false ∧ (o.phase != 1) = false›
        have h3 := ‹¬ r = true›
        refine ⟨⟨k + 1, y, by omega, rfl, by go_num, trivial, Lib.hid ?_⟩, by simp [intOf]; omega⟩
        have := HS.out.2.1 (by simpa [h1] using h2) (fun h => h3 h.1)
        rw [Bool.eq_false_iff.2 h3, Bool.false_or, ← HY.out.1] at this
        exact this
    · obtain rfl : k = n := by omega
      have hI2 := hI.out
      rw [List.drop_eq_nil_of_le (by have := HL.out; omega)] at hI2
      have HI := Lib.hid hI2
      clear hI2
      go_wp2
      go_ret
      refine ⟨?_, Below.refl _ _⟩
      rw [← HI.out]
      rfl
end Go.Proofs.YtoepbjgldmgaoaaDoor

/- LentObjects: each object lent, in a list of its own. -/
namespace Go.Proofs.YtoepbjgldmgaoaaDoor
open Go.RowKit Go.Proofs.YtoepbjgldmgaoaaDoorW.PrintWords Go.Proofs.YtoepbjgldmgaoaaDoorW.PrintLast
theorem lent_step {w wr w1 w2 : World} {v : Value} {xs : List Ob} {o : Ob} {u4 u27 : Value} (hR : Kd.R kLent 48 wr w.heap.size (fun _ => True) v xs) (hB : Below w.heap.size w wr) (hb1 : Below wr.heap.size wr w1)
    (H4 : LentR w1 wr.heap.size (fun k => some k ≠ u27.ownBlock) o.labels u4) (H27 : LentR w1 wr.heap.size (fun k => some k ≠ u4.ownBlock) o.select u27) {x : Obj}
    (hk : ∀ k, k ≠ w1.heap.size → w2.heap[k]? = (w1.alloc x).heap[k]?) (hb2 : Below wr.heap.size wr w2) :
    (kLent.M w2 w.heap.size (fun k => some k = u4.ownBlock ∨ some k = u27.ownBlock) o (o.cells u4 u27).toList ∧ Kd.R kLent 48 w2 w.heap.size (fun _ => True) v xs ∧ ∀ k, (some k = u4.ownBlock ∨ some k = u27.ownBlock) → True ∧ some k ≠ v.ownBlock) ∧ Below w.heap.size w w2 := by
  obtain ⟨g4, e4, b4, l4⟩ := H4.own
  obtain ⟨g27, e27, b27, l27⟩ := H27.own
  have ne : g4 ≠ g27 := fun e => by
    obtain ⟨A, c, rfl, _, hr⟩ := H4
    have := hr.1 g4 e4
    rw [e27] at this
    exact this (by rw [e])
  have same : ∀ k, k < w1.heap.size → w2.heap[k]? = w1.heap[k]? := fun k hlt => (hk k (by omega)).trans (heap_alloc_old _ _ hlt)
  have hw := hB.size
  refine ⟨⟨⟨u4, u27, rfl, ?_, ?_⟩, Kd.R_below hR hb2, ?_⟩, belT hB hb2⟩
  · exact ((H4.tight.move (fun k hk' => same k (by rw [e4] at hk'; injection hk' with hk'; omega))).lower hw).mono (fun k hk' => ⟨.inl hk', fun e => ne (by rw [e4] at hk'; rw [e27] at e; injection hk' with hk'; injection e with e; omega)⟩)
  · exact ((H27.tight.move (fun k hk' => same k (by rw [e27] at hk'; injection hk' with hk'; omega))).lower hw).mono (fun k hk' => ⟨.inr hk', fun e => ne (by rw [e27] at hk'; rw [e4] at e; injection hk' with hk'; injection e with e; omega)⟩)
  · rintro k (h | h) <;> refine ⟨trivial, fun e => ?_⟩ <;> have := Kd.R_lt hR k e.symm
    · rw [e4] at h; injection h with h; omega
    · rw [e27] at h; injection h with h; omega
set_option maxHeartbeats 2000000 in
set_option maxRecDepth 100000 in
theorem lentObjects_calls (A : Option Addr) (c n : Nat) (l : List Ob) (w : World) (hr : kO.C w A l.length l) (hln : l.length = n) (hl : n ≤ 1000000) (hf : ∀ o ∈ l, ObFits o) :
    Calls Tryd.prog 12 #[.slice A n c] w fun e w' => ∃ A', e = .returned (.slice A' n n) ∧ kLent.C w' A' n l ∧ Below w.heap.size w w' := by
  have HR := Lib.hid hr
  have HL := Lib.hid hln
  have HF := Lib.hid hf
  clear hr hln hf
  go_enter Tryd.func12, Tryd.ntmps12
  go_wp2
  go_loopw [3, 4] (fun v3 v4 wr => ∃ k : Nat, v4 = .int .i64 k ∧ k ≤ n ∧ Hid (Kd.R kLent 48 wr w.heap.size (fun _ => True) v3 (l.take k) ∧ Below w.heap.size w wr)) (fun _ v4 _ => n - (intOf v4).toNat)
  case atStart => exact ⟨0, rfl, Nat.zero_le _, Lib.hid ⟨Kd.R_nil _ _ _ _ _, Below.refl _ _⟩⟩
  case round =>
    obtain ⟨k, rfl, hk, hI⟩ := hrel
    by_cases hlt : k < n
    · obtain ⟨o, ho⟩ : ∃ o, l[k]? = some o := ⟨_, List.getElem?_eq_getElem (by have := HL.out; omega)⟩
      obtain ⟨ad, v4, v27, rfl, hO⟩ := objAt (Kd.C_below HR.out hI.out.2) k o ho
      have hlk : (k : Int) < (n : Int) := by omega
      obtain ⟨cs, hcs⟩ : ∃ cs, cs = o.cells v4 v27 := ⟨_, rfl⟩
      have hi1 : Hid ((Tryd.prog.info? 48).map (·.size) = some cs.size) := Lib.hid (by rw [hcs, Ob.cells_size]; kernel_rfl)
      have B1 := hO.cells
      have QL := Lib.hid (lentObject_calls o v4 v27 wr hO.l4 hO.l27 (HF.out o (List.mem_of_getElem? ho)))
      rw [← hcs] at B1 QL
      replace B1 := Lib.hid B1
      have hsn : l.take (k + 1) = l.take k ++ [o] := by rw [List.take_add_one, ho]; rfl
      have HT := Lib.hid hsn
      have hkl : (l.take k).length ≤ 1000000 := by rw [List.length_take]; omega
      have hlen : ((l.take k).length + 1) * 312 ≤ 140737488355328 := by omega
      clear ho hO hcs hsn hkl
      go_wp2_with (first
        | ((with_reducible refine wpList_load_any rfl 48 (.tmp 14) rfl (ad.add (k * 32)) ?l1 cs _ ?l2 Tryd.underlying48 ?l3 ?l4 ?_); (case l1 => rfl); (case l2 => exact B1.out); (case l3 => rfl); (case l4 => exact hi1.out))
        | (go_at_call 41; (with_reducible refine QL.out.mono ?_); rintro e w1 ⟨u4, u27, rfl, H4, H27, hb1⟩; clear QL)
        | ((with_reducible refine wpList_store_blk rfl 48 (.tmp 5) (.tmp 16) rfl w1.heap.size 48 ?c0 (o.cells u4 u27) ?c1 ?c2 ?c3 ?c4 ?c5 ?c6 ?_); (case c1 => rfl); (case c2 => rfl); (case c3 => exact heap_alloc_new _ _); (case c4 => exact infoO1); (case c5 => rfl); (case c6 => exact o.cells_one H4.cells.2 H27.cells.2); intro w2 G hk hb hz; obtain ⟨hA, hB2⟩ := lent_step hI.out.1 hI.out.2 hb1 H4 H27 hk (hb _ _ (Below.alloc (hb1.mono (Nat.le_refl _)) hb1.size _) hb1.size); have HA := Lib.hid hA; have HG := Lib.hid G; have HB2 := Lib.hid hB2; have hw2 : Hid (w.heap.size ≤ w2.heap.size) := Lib.hid hB2.size; obtain ⟨gx, hgx⟩ : ∃ g, g = w1.heap.size := ⟨_, rfl⟩; rw [← hgx] at HG ⊢; clear G hk hb hz hA hB2 hgx H4 H27 hb1)
        | ((with_reducible refine wpList_load_blk rfl 48 (.tmp 5) rfl gx 48 ?m1 (o.cells u4 u27) _ ?m2 Tryd.underlying48 ?m3 ?m4 ?_); (case m1 => rfl); (case m2 => exact HG.out); (case m3 => rfl); (case m4 => exact infoO1))
        | ((with_reducible refine wpList_build1 rfl 22 48 (.tmp 18) rfl (o.cells u4 u27) ?d1 ?d2 32 312 Tryd.underlying22 ?d3 ?d4 (by omega) (by omega) ?d5 ?_); (case d1 => rfl); (case d3 => exact infoO); (case d4 => rfl); (case d5 => rfl))
        | (at_builtin; refine Kd.R_append kLent (w0 := w) (W := w2) w.heap.size rfl (.tmp 17) (.tmp 19) 22 48 (.agg (Ob.zero.cells (.slice none 0 0) (.slice none 0 0))) 312 rfl Tryd.underlying22 infoO rfl (by decide) (by omega) u3 (l.take k) o (o.cells u4 u27).toList (fun _ => True) (fun k => some k = u4.ownBlock ∨ some k = u27.ownBlock) rfl rfl HA.out.1 HA.out.2.2 (fun _ _ => trivial) HA.out.2.1 HB2.out hw2.out hlen ?_; intro v1 w6 hR6 hB6 hg6 hat6))
      go_roundw
      case rel => exact ⟨k + 1, by go_num, by omega, Lib.hid ⟨by rw [HT.out]; exact hR6, hB6⟩⟩
      case measure => simp [intOf]; omega
    · obtain rfl : n = k := by omega
      obtain ⟨A5, c5, rfl⟩ := Kd.R_slice hI.out.1
      have h1 := (Kd.R_reads' hI.out.1)
      have hll : (l.take n).length = n := by rw [List.length_take]; have := HL.out; omega
      have hle : n ≤ c5 := by have := h1.2.1; omega
      have hle2 : (n : Int) ≤ (c5 : Int) := by omega
      have HI := Lib.hid (And.intro h1.2.2 hll)
      rw [hll]
      clear h1 hll
      go_wp2
      go_ret
      refine ⟨A5, rfl, ?_, hI.out.2⟩
      obtain ⟨h2, h3⟩ := HI.out
      rw [h3] at h2
      have e : l.take n = l := List.take_of_length_le (Nat.le_of_eq HL.out)
      rw [e] at h2
      exact h2
end Go.Proofs.YtoepbjgldmgaoaaDoor

/- Labels and objects that were lent: are they as they were? -/
namespace Go.Proofs.YtoepbjgldmgaoaaDoor
open Go.RowKit Go.Proofs.YtoepbjgldmgaoaaDoorW.PrintWords Go.Proofs.YtoepbjgldmgaoaaDoorW.PrintLast
section
attribute [local go_sem high] eqLab
theorem labAt {w : World} {b : Addr} {n k : Nat} {xs : List Lab} {p : Lab} (h : kL.C w (some b) n xs) (hp : xs[k]? = some p) :
    w.cell? (b.add (k * 2)) = some (.string p.f0) ∧ w.cell? ⟨(b.add (k * 2)).block, (b.add (k * 2)).off + 1, none⟩ = some (.string p.f1) := by
  have hk : k < xs.length := (List.getElem?_eq_some_iff.1 hp).1
  have hn := h.1
  obtain ⟨ad, e, h0, h1⟩ := QLb.at_T98 h (k : Int) (by omega) (by omega)
  obtain rfl := Option.some.inj e
  have hr : QLb.rd_T98 xs (k : Int) = p := by simp [QLb.rd_T98, List.getD_eq_getElem?_getD, hp]
  rw [hr] at h0 h1
  simpa using ⟨h0, h1⟩
theorem markLabels_calls (j : Int) (w : World) : ∃ s0 s1, markL j = ⟨s0, s1⟩ ∧ Calls Tryd.prog 93 #[.int .i64 90, .int .i64 j] w fun e w' => e = .returned (.agg #[.string s0, .string s1]) ∧ Below w.heap.size w w' :=
  ⟨_, _, rfl, QLb.flotillakit_markLabels.calls 90 j _ _ w (mark_f j)⟩
set_option maxHeartbeats 1600000 in
theorem keptFullLabels (l : List Lab) (b0 : Addr) (A1 : Option Addr) (c0 c1 n0 : Nat) (w : World) (h0 : kL.C w (some b0) (l.length + 16) (l ++ marksL)) (h1 : kL.C w A1 l.length l) (hn0 : n0 = l.length + 16) (hbd : l.length ≤ 4398046510976) :
    Calls Tryd.prog 111 #[.slice (some b0) n0 c0, .slice A1 l.length c1] w fun e w' => e = .returned (.bool true) ∧ Below w.heap.size w w' := by
  rw [← hn0] at h0
  have H0 := Lib.hid h0
  have H1 := Lib.hid h1
  have e1 : ((n0 : Int) != (l.length : Int) + 16) = false := by simp; omega
  have hk16 : n0 ≤ l.length + 16 := by omega
  have hk17 : l.length + 16 ≤ n0 := by omega
  clear h0 h1 hn0
  go_enter Tryd.func111, Tryd.ntmps111
  go_wp2
  go_loopw [5] (fun v5 wr => ∃ k : Nat, k ≤ n0 ∧ v5 = .int .i64 k ∧ Below w.heap.size w wr) (fun v5 _ => n0 - (intOf v5).toNat)
  case atStart => exact ⟨0, Nat.zero_le _, rfl, Below.refl _ _⟩
  case round =>
    obtain ⟨k, hk, rfl, hB⟩ := hrel
    have hC0 : Hid (kL.C wr (some b0) n0 (l ++ marksL)) := Lib.hid (Kd.C_below H0.out hB)
    have hC1 : Hid (kL.C wr A1 l.length l) := Lib.hid (Kd.C_below H1.out hB)
    by_cases hlt : k < n0
    · obtain ⟨s0, s1, hm, QM⟩ := markLabels_calls ((k : Int) - (l.length : Int)) wr
      by_cases hl1 : k < l.length
      · obtain ⟨p, hp⟩ : ∃ p, l[k]? = some p := ⟨l[k], List.getElem?_eq_getElem hl1⟩
        have hp0 : Hid ((l ++ marksL)[k]? = some p) := Lib.hid (by rw [List.getElem?_append_left hl1]; exact hp)
        have hp1 : Hid (l[k]? = some p) := Lib.hid hp
        have HQ := Lib.hid QM
        clear hp hm QM
        obtain ⟨b1, rfl⟩ : ∃ b1, A1 = some b1 := by obtain ⟨ad, e, _⟩ := hC1.out.2.2 (by omega); exact ⟨ad, e⟩
        go_wp2_with (go_at_call 93; refine HQ.out.mono ?_; rintro e w1 ⟨rfl, hb1⟩; have q0 := fun X => (labAt (Kd.C_below hC0.out (below_alloc hb1 X)) hp0.out).1; have q1 := fun X => (labAt (Kd.C_below hC0.out (below_alloc hb1 X)) hp0.out).2; have r0 := fun X => (labAt (Kd.C_below hC1.out (below_alloc hb1 X)) hp1.out).1; have r1 := fun X => (labAt (Kd.C_below hC1.out (below_alloc hb1 X)) hp1.out).2)
        go_quiet (fail)
        go_wp2
        go_roundw
        case rel => exact ⟨k + 1, by omega, by go_num, hB.trans ((pw_below_drewN (below_alloc hb1 _) _).mono hB.size)⟩
        case measure => simp [intOf]; omega
      · have hp0 : Hid ((l ++ marksL)[k]? = some ⟨s0, s1⟩) := Lib.hid (by
          rw [List.getElem?_append_right (by omega), marksN_at 16 _ (by omega), ← hm]
          have e : ((k - l.length : Nat) : Int) = (k : Int) - (l.length : Int) := by omega
          rw [e])
        have HQ := Lib.hid QM
        clear hm QM
        go_wp2_with (go_at_call 93; refine HQ.out.mono ?_; rintro e w1 ⟨rfl, hb1⟩; have q0 := fun X => (labAt (Kd.C_below hC0.out (below_alloc hb1 X)) hp0.out).1; have q1 := fun X => (labAt (Kd.C_below hC0.out (below_alloc hb1 X)) hp0.out).2)
        go_quiet (fail)
        go_wp2
        go_roundw
        case rel => exact ⟨k + 1, by omega, by go_num, hB.trans ((pw_below_drewN (below_alloc hb1 _) _).mono hB.size)⟩
        case measure => simp [intOf]; omega
    · go_wp2
      go_ret
      exact ⟨rfl, hB⟩
theorem keptLabels_calls {w : World} {l : List Lab} {v u : Value} (h : LentK w l v) (g : LabK w l u) (hbd : l.length ≤ 4398046510976) :
    Calls Tryd.prog 98 #[v, u] w fun e w' => e = .returned (.bool true) ∧ Below w.heap.size w w' := by
  obtain ⟨b0, c0, rfl, hc0, h0⟩ := h
  obtain ⟨A1, c1, rfl, hc1', h1⟩ := g
  have hc1 : (l.length : Int) + 16 ≤ (c0 : Int) := by omega
  have hn : ((l.length : Int) + 16).toNat = l.length + 16 := by omega
  have HC := Lib.hid (keptFullLabels l b0 A1 c0 c1 (l.length + 16) w h0 h1 rfl hbd)
  clear h0 h1 hc0
  go_enter Tryd.func98, Tryd.ntmps98
  go_wp2_with (go_at_call 111; refine HC.out.mono ?_; rintro e w1 ⟨rfl, hb1⟩)
  go_ret
  exact ⟨rfl, hb1⟩
end
end Go.Proofs.YtoepbjgldmgaoaaDoor

/- ApartLabels: lists of labels, each in memory of its own, are written over, and hold what was written. (Under way.) -/
namespace Go.Proofs.YtoepbjgldmgaoaaDoor
open Go.RowKit Go.Proofs.YtoepbjgldmgaoaaDoorW.PrintWords Go.Proofs.YtoepbjgldmgaoaaDoorW.PrintLast
def markK (k i : Nat) : Lab := ⟨strOfNums ([35, (k : Int) % 256, (k : Int) / 256 % 256, (i : Int) % 256, (i : Int) / 256 % 256] : List Int), (⟨#[]⟩ : ByteArray)⟩
def marksK (k n : Nat) : List Lab := (List.range n).map (markK k)
theorem marksK_length (k n : Nat) : (marksK k n).length = n := by simp [marksK]
theorem marksK_succ (k n : Nat) : marksK k (n + 1) = marksK k n ++ [markK k n] := by simp [marksK, List.range_succ]
theorem marksK_at (k n i : Nat) (h : i < n) : (marksK k n)[i]? = some (markK k i) := by simp [marksK, h]
theorem markK_calls (k i : Nat) (w : World) : Calls Tryd.prog 93 #[.int .i64 k, .int .i64 i] w fun e w' => e = .returned (.agg #[.string (markK k i).f0, .string (markK k i).f1]) ∧ Below w.heap.size w w' :=
  QLb.flotillakit_markLabels.calls k i _ _ w rfl
structure OnlyB (G : Nat → Prop) (w w' : World) : Prop where
  os : w'.os = w.os
  tape : w'.tape = w.tape
  output : w'.output = w.output
  size : w.heap.size ≤ w'.heap.size
  block : ∀ k, k < w.heap.size → ¬ G k → w'.heap[k]? = w.heap[k]?
theorem OnlyB.refl (G : Nat → Prop) (w : World) : OnlyB G w w := ⟨rfl, rfl, rfl, Nat.le_refl _, fun _ _ _ => rfl⟩
theorem OnlyB.of_below {G : Nat → Prop} {w w' : World} (h : Below w.heap.size w w') : OnlyB G w w' := ⟨h.os, h.tape, h.output, h.size, fun k hk _ => h.block k hk⟩
theorem OnlyB.trans {G : Nat → Prop} {a b c : World} (h : OnlyB G a b) (k : OnlyB G b c) : OnlyB G a c :=
  ⟨k.os.trans h.os, k.tape.trans h.tape, k.output.trans h.output, Nat.le_trans h.size k.size, fun i hi hg => (k.block i (Nat.lt_of_lt_of_le hi h.size) hg).trans (h.block i hi hg)⟩
theorem OnlyB.of_grown {G : Nat → Prop} {w w' : World} {row : Option Nat} (h : w.grownBy w' row) (hr : ∀ k, row = some k → G k) : OnlyB G w w' :=
  ⟨h.os, h.tape, h.output, h.size, fun k hk hg => h.block k hk (fun e => hg (hr k e.symm))⟩
theorem OnlyB.below {G : Nat → Prop} {B : Nat} {a b c : World} (h : Below B a b) (k : OnlyB G b c) (hB : ∀ k, G k → B ≤ k) (hs : B ≤ b.heap.size) : Below B a c :=
  ⟨k.os.trans h.os, k.tape.trans h.tape, k.output.trans h.output, Nat.le_trans h.size k.size, fun i hi => (k.block i (by omega) (fun hg => by have := hB i hg; omega)).trans (h.block i hi)⟩
structure Bk (w : World) (base : Nat) (V : List Value) (L : Nat → List Lab) : Prop where
  row : ∀ k v, V[k]? = some v → kL.R 98 w base (fun b => some b = v.ownBlock) v (L k)
def ApartV (V : List Value) : Prop := ∀ (j k : Nat) (v u : Value), j ≠ k → V[j]? = some v → V[k]? = some u → ∀ b, v.ownBlock = some b → u.ownBlock ≠ some b
def inV (V : List Value) (b : Nat) : Prop := ∃ v ∈ V, v.ownBlock = some b
theorem Bk.below {w w1 : World} {base : Nat} {V : List Value} {L : Nat → List Lab} (h : Bk w base V L) (hb : Below w.heap.size w w1) : Bk w1 base V L := ⟨fun k v hv => Kd.R_below (h.row k v hv) hb⟩
theorem Bk.congr {w : World} {base : Nat} {V : List Value} {L M : Nat → List Lab} (h : Bk w base V L) (e : ∀ k, k < V.length → L k = M k) : Bk w base V M := ⟨fun k v hv => by rw [← e k (List.getElem?_eq_some_iff.1 hv).1]; exact h.row k v hv⟩
theorem Bk.turn {w w1 : World} {base : Nat} {V : List Value} {L : Nat → List Lab} (h : Bk w base V L) (ha : ApartV V) {k : Nat} {v : Value} (hk : V[k]? = some v) (hg : w.grownBy w1 v.ownBlock) {l : List Lab} (hR : kL.R 98 w1 base (fun b => some b = v.ownBlock) v l) : Bk w1 base V (fun j => if j = k then l else L j) := by
  refine ⟨fun j u hu => ?_⟩
  by_cases hj : j = k
  · subst hj
    rw [hk] at hu
    obtain rfl := Option.some.inj hu
    rw [if_pos rfl]
    exact hR
  · rw [if_neg hj]
    have hr := h.row j u hu
    refine Kd.R_move hr (fun b hb => hg.block b (Kd.R_lt hr b hb.symm) (fun e => ?_))
    exact ha k j v u (fun e => hj e.symm) hk hu b e.symm hb.symm
section
variable {P : Program}
theorem storeLab_ {ops : Array Oper} {oi : Oper} {a : Act} {W : World} {K : Act → World → Prop} {Q : Exit → Act → World → Prop} {base g n cap i : Nat} {ok : Nat → Prop} {xs : List Lab} {p x : Operand} {s0 s1 : ByteArray} (hinfo : (P.info? 98).map (·.size) = some 2) (hw : Region.wanted oi (yielded ops a.tmps) = true) (hN : oi.dst = none) (ho : oi.op = .store 98 p x)
    (haddr : a.eval p = .pointer (some ⟨g, i * 2, none⟩)) (hx : a.eval x = .agg #[.string s0, .string s1]) (HO : kL.R 98 W base ok (.slice (some ⟨g, 0, none⟩) n cap) xs) (hi : i < n)
    (h : ∀ w1, kL.R 98 w1 base ok (.slice (some ⟨g, 0, none⟩) n cap) (xs.set i ⟨s0, s1⟩) → W.grownBy w1 (some g) → K a w1) :
    if Region.wanted oi (yielded ops a.tmps) = true then Oper.wp P oi a W K Q else K (a.put none undef) W := by
  obtain ⟨hn, _, hC⟩ := Kd.R_reads' HO
  have hil : i < xs.length := by omega
  obtain ⟨p0, hp0⟩ : ∃ p0, xs[i]? = some p0 := ⟨_, List.getElem?_eq_getElem hil⟩
  obtain ⟨c0, c1⟩ := labAt hC hp0
  rw [add_at, Nat.zero_add] at c0 c1
  have hs := Kd.R_seg HO (i : Int) (by omega) (by omega) (c := [.string p0.f0, .string p0.f1]) (seg := [.string s0, .string s1]) (j := 0) rfl (fun j u hu => by
    match j, hu with
    | 0, hu => obtain rfl : Value.string p0.f0 = u := by simpa using hu
               exact c0
    | 1, hu => obtain rfl : Value.string p0.f1 = u := by simpa using hu
               exact c1
    | j + 2, hu => simp at hu) (Nat.le_refl 2) (x' := ⟨s0, s1⟩) (okp := fun _ => False) (QLb.k98_mkM _ _ _ _) (fun _ hk => hk.elim)
  simp only [Nat.add_zero, Int.toNat_natCast] at hs
  have hsz : kL.sz = 2 := rfl
  rw [hsz] at hs
  refine skip_ hw hN (w1 := W.setCells g (i * 2) [.string s0, .string s1]) ?_ (h _ hs.1 hs.2)
  obtain ⟨hok, inner, hown, hr⟩ := HO
  rcases hown.2 with ⟨hv, _⟩ | ⟨g', cap', cur, hv, hb, hh, hnc', hcm, hcs, ht⟩
  · cases hv
  · injection hv with hv1 hv2 hv3
    injection hv1 with hv1
    injection hv1 with hv1
    subst hv1
    have hst := run_store_run (P := P) (w := W) (g := g) (o := i * 2) 98 (.agg #[.string s0, .string s1]) [.string s0, .string s1] hh rfl hinfo (by
      rw [hcs]
      show i * 2 + 2 ≤ _
      rw [hsz]
      omega) (fun q hq => by
      simp only [List.mem_cons, List.not_mem_nil, or_false] at hq
      rcases hq with rfl | rfl <;> rfl)
    unfold execOp
    simp [ho, haddr, hx, hst]
end
end Go.Proofs.YtoepbjgldmgaoaaDoor

/- CopyLabels, CopyObject, CopyObjects: the same, in memory of their own. -/
namespace Go.Proofs.YtoepbjgldmgaoaaDoor
open Go.RowKit Go.Proofs.YtoepbjgldmgaoaaDoorW.PrintWords Go.Proofs.YtoepbjgldmgaoaaDoorW.PrintLast
theorem copy0 (l : List Lab) (hl : l.length ≤ 4398046510976) : ∀ (d i k : Nat), l.length - i ≤ d → d < k → i ≤ l.length → QLb.flotillaref0_CopyLabels.l0 k l (l.take i) (i : Int) = some l := by
  intro d
  induction d with
  | zero =>
    intro i k h1 h2 h3
    obtain ⟨k, rfl⟩ : ∃ m, k = m + 1 := ⟨k - 1, by omega⟩
    simp only [QLb.flotillaref0_CopyLabels.l0]
    rw [if_neg (by omega), List.take_of_length_le (by omega)]
  | succ d ih =>
    intro i k h1 h2 h3
    obtain ⟨k, rfl⟩ : ∃ m, k = m + 1 := ⟨k - 1, by omega⟩
    by_cases hi : i < l.length
    · simp only [QLb.flotillaref0_CopyLabels.l0]
      rw [if_pos (by omega), if_pos (by omega), if_pos (by rw [List.length_take]; omega), show wrap64 ((i : Int) + 1) = ((i + 1 : Nat) : Int) by unfold wrap64; omega]
      have e1 : QLb.rd_T98 l (i : Int) = l[i] := by simp [QLb.rd_T98, List.getD_eq_getElem?_getD, hi]
      have e2 : l.take i ++ [(⟨(QLb.rd_T98 l (i : Int)).f0, (QLb.rd_T98 l (i : Int)).f1⟩ : Lab)] = l.take (i + 1) := by
        rw [e1, List.take_succ_eq_append_getElem hi]
      rw [e2]
      exact ih (i + 1) k (by omega) (by omega) (by omega)
    · simp only [QLb.flotillaref0_CopyLabels.l0]
      rw [if_neg (by omega), List.take_of_length_le (by omega)]
theorem copyLabels_calls {w : World} {l : List Lab} {v : Value} (h : LabK w l v) (hl : l.length ≤ 4398046510976) :
    Calls Tryd.prog 86 #[v] w fun e w' => ∃ v', e = .returned v' ∧ kL.R 98 w' w.heap.size (fun _ => True) v' l ∧ Below w.heap.size w w' := by
  obtain ⟨A, c, rfl, hc, hr⟩ := h
  have hf : QLb.flotillaref0_CopyLabels.f (l.length + 1) l = some l := by
    have := copy0 l hl l.length 0 (l.length + 1) (by omega) (by omega) (by omega)
    simpa [QLb.flotillaref0_CopyLabels.f] using this
  exact QLb.flotillaref0_CopyLabels.calls _ A c l l w hr hc hf
set_option maxRecDepth 100000 in
set_option maxHeartbeats 2000000 in
theorem copyObject_calls (o : Ob) (v4 v27 : Value) (w : World) (h4 : LabK w o.labels v4) (h27 : LabK w o.select v27) (hf : ObFits o) :
    Calls Tryd.prog 50 #[.agg (o.cells v4 v27)] w fun e w' => ∃ u4 u27, e = .returned (.agg (o.cells u4 u27)) ∧ kO.M w' w.heap.size (fun _ => True) o (o.cells u4 u27).toList ∧ Below w.heap.size w w' := by
  obtain ⟨cs, hcs⟩ : ∃ cs, cs = o.cells v4 v27 := ⟨_, rfl⟩
  have Q4 := Lib.hid (fun (W : World) (hW : Below w.heap.size w W) => copyLabels_calls (h4.below hW) hf.2.1)
  have Q27 := Lib.hid (fun (W : World) (hW : Below w.heap.size w W) => copyLabels_calls (h27.below hW) hf.2.2)
  have h1c := o.cells_one (v4 := v4) (v27 := v27) h4.one h27.one
  rw [← hcs] at h1c ⊢
  have hs : cs.size = 32 := by rw [hcs]; rfl
  have hi1 : Hid ((Tryd.prog.info? 48).map (·.size) = some cs.size) := Lib.hid (by rw [hs]; kernel_rfl)
  have Hcs := Lib.hid (And.intro hcs (And.intro h1c hs))
  have c4 : Hid (cs[4]? = some v4) := Lib.hid (by rw [hcs]; rfl)
  have c27 : Hid (cs[27]? = some v27) := Lib.hid (by rw [hcs]; rfl)
  clear hcs h1c hs h4 h27 hf
  have HM := Lib.hid (Eq.refl 0)
  go_enter Tryd.func50, Tryd.ntmps50
  obtain ⟨zz, hzz⟩ : ∃ zz, zz = Ob.zero.cells (.slice none 0 0) (.slice none 0 0) := ⟨_, rfl⟩
  have Hzz : Hid (zz.size = 32) := Lib.hid (by rw [hzz]; rfl)
  replace hzz := Lib.hid hzz
  go_wp2_with (first
    | ((with_reducible refine gate_ (.load 48 (.tmp 1)) rfl ?_); clear HM; (have HB : Below w.heap.size w ((w.alloc (Obj.cells cs 48)).alloc (Obj.cells zz 48)) := Go.Joins.below_alloc2 w _ _); (have BA : ((w.alloc (Obj.cells cs 48)).alloc (Obj.cells zz 48)).heap[w.heap.size]? = some (.cells cs 48 (0, 0)) := (heap_alloc_old _ _ (by simp)).trans (heap_alloc_new w _)); (have BC : ((w.alloc (Obj.cells cs 48)).alloc (Obj.cells zz 48)).heap[w.heap.size + 1]? = some (.cells zz 48 (0, 0)) := heap_alloc2_new w _ _); (have hW0 : ((w.alloc (Obj.cells cs 48)).alloc (Obj.cells zz 48)) = ((w.alloc (Obj.cells cs 48)).alloc (Obj.cells (Ob.zero.cells (.slice none 0 0) (.slice none 0 0)) 48)) := by rw [hzz.out]); generalize hW1 : ((w.alloc (Obj.cells cs 48)).alloc (Obj.cells zz 48)) = W0 at HB BA BC hW0; (refine Eq.mp (congrArg (fun x => wpList _ _ _ _ _ x) hW0) ?_); clear hW0 hW1; obtain ⟨ga, hga⟩ : ∃ x, x = w.heap.size := ⟨_, rfl⟩; obtain ⟨gc, hgc⟩ : ∃ x, x = w.heap.size + 1 := ⟨_, rfl⟩; rw [← hgc] at BC ⊢; rw [← hga] at BA ⊢; (have La : w.heap.size ≤ ga := by omega); (have Lc : w.heap.size ≤ gc := by omega); (have Nac : ga ≠ gc := by omega); clear hga hgc)
    | ((with_reducible refine wpList_load_blk rfl 48 (.tmp 1) rfl ga 48 ?l1 cs _ ?l2 Tryd.underlying48 ?l3 ?l4 ?_); (case l1 => rfl); (case l2 => exact BA); (case l3 => rfl); (case l4 => exact hi1.out))
    | ((with_reducible refine wpList_store_blk rfl 48 (.tmp 3) (.tmp 4) rfl W0.heap.size 48 ?c0 cs ?c1 ?c2 ?c3 ?c4 ?c5 ?c6 ?_); (case c1 => rfl); (case c2 => rfl); (case c3 => exact heap_alloc_new _ _); (case c4 => exact hi1.out); (case c5 => exact Eq.trans (b := 32) rfl Hcs.out.2.2.symm); (case c6 => exact Hcs.out.2.1); intro w1 BX hk hb hz; have Nax : ga ≠ W0.heap.size := (by have := blkLt BA; omega); have Ncx : gc ≠ W0.heap.size := (by have := blkLt BC; omega); replace BA := (hk _ Nax).trans ((heap_alloc_old _ _ (blkLt BA)).trans BA); replace BC := (hk _ Ncx).trans ((heap_alloc_old _ _ (blkLt BC)).trans BC); have Lx := HB.size; replace HB := hb _ _ (HB.alloc HB.size _) HB.size; clear hk hb hz; obtain ⟨gx, hgx⟩ : ∃ g, g = W0.heap.size := ⟨_, rfl⟩; rw [← hgx] at BX Nax Ncx Lx ⊢; clear hgx)
    | ((with_reducible refine gate_ (.load 43 _) rfl ?_); first | refine wpList_load1_w 43 _ rfl ⟨ga, 4, none⟩ rfl rfl v4 _ ((cell_of_row _ _ 4 _ _ _ BA).trans c4.out) Tryd.underlying43 rfl ?_ | refine wpList_load1_w 43 _ rfl ⟨ga, 27, none⟩ rfl rfl v27 _ ((cell_of_row _ _ 27 _ _ _ BA).trans c27.out) Tryd.underlying43 rfl ?_)
    | (go_at_call 86; (with_reducible refine (Q4.out _ HB).mono ?_); rintro e w2 ⟨u4, rfl, H4, hb⟩; have X4 : ∀ k, u4.ownBlock = some k → gx < k ∧ gc < k := (fun k hk => by have := Kd.R_base H4 k hk; have := blkLt BX; have := blkLt BC; omega); have Y4 : ∀ k, u4.ownBlock = some k → k < w2.heap.size := Kd.R_lt H4; have H4t := Kd.R_tight rfl (Kd.R_lower H4 HB.size); have V4 := Kd.R_val H4; have U4 := lab_cells H4; clear H4; replace BA := blkB hb BA; replace BC := blkB hb BC; replace BX := blkB hb BX; replace HB := belT HB hb; clear hb Q4)
    | (go_at_call 86; (with_reducible refine (Q27.out _ HB).mono ?_); rintro e w3 ⟨u27, rfl, H27, hb⟩; have X27 : ∀ k, u27.ownBlock = some k → gx < k ∧ gc < k := (fun k hk => by have := Kd.R_base H27 k hk; have := blkLt BX; have := blkLt BC; omega); have N4 : ∀ k, u4.ownBlock = some k → u27.ownBlock ≠ some k := (fun k hk hk' => by have := Kd.R_base H27 k hk'; have := Y4 k hk; omega); have H27t := Kd.R_tight rfl (Kd.R_lower H27 HB.size); have V27 := Kd.R_val H27; have U27 := lab_cells H27; clear H27; replace H4t := Kd.R_move H4t (fun k hk => hb.block k (Y4 k hk.symm)); replace BA := blkB hb BA; replace BC := blkB hb BC; replace BX := blkB hb BX; replace HB := belT HB hb; clear hb Q27)
    | ((with_reducible refine wpList_store1 rfl 43 (.tmp 8) (.tmp 7) rfl gx 4 48 cs u4 ?s1 ?s2 ?s3 ?s4 ?s5 ?s6 ?s7 ?_); (case s1 => rfl); (case s2 => rfl); (case s3 => exact U4); (case s4 => exact BX); (case s5 => (rw [Hcs.out.2.2]; omega)); (case s6 => kernel_rfl); (case s7 => exact V4.2); intro w4 BX' hk hb hz; rw [Hcs.out.1, cells_set4] at BX'; replace BX := BX'; replace BA := (hk _ Nax).trans BA; replace BC := (hk _ Ncx).trans BC; replace H4t := Kd.R_move H4t (fun k hk' => hk k (by have := X4 k hk'.symm; omega)); replace HB := hb _ _ HB Lx; replace Y4 : ∀ k, u4.ownBlock = some k → k < w4.heap.size := (fun k hk' => by have := Y4 k hk'; omega); clear hk hb hz BX')
    | ((with_reducible refine wpList_store1 rfl 43 (.tmp 12) (.tmp 11) rfl gx 27 48 (o.cells u4 v27) u27 ?s1 ?s2 ?s3 ?s4 ?s5 ?s6 ?s7 ?_); (case s1 => rfl); (case s2 => rfl); (case s3 => exact U27); (case s4 => exact BX); (case s5 => (rw [Ob.cells_size]; omega)); (case s6 => kernel_rfl); (case s7 => exact V27.2); intro w5 BX' hk hb hz; rw [cells_set27] at BX'; replace BX := BX'; replace BA := (hk _ Nax).trans BA; replace BC := (hk _ Ncx).trans BC; replace H4t := Kd.R_move H4t (fun k hk' => hk k (by have := X4 k hk'.symm; omega)); replace H27t := Kd.R_move H27t (fun k hk' => hk k (by have := X27 k hk'.symm; omega)); replace HB := hb _ _ HB Lx; clear hk hb hz BX')
    | ((with_reducible refine wpList_load_blk rfl 48 (.tmp 3) rfl gx 48 ?l1 (o.cells u4 u27) _ ?l2 Tryd.underlying48 ?l3 ?l4 ?_); (case l1 => rfl); (case l2 => exact BX); (case l3 => rfl); (case l4 => exact infoO1))
    | ((with_reducible refine wpList_store_blk rfl 48 (.tmp 2) (.tmp 13) rfl gc 48 zz (o.cells u4 u27) ?c1 ?c2 ?c3 ?c4 ?c5 ?c6 ?_); (case c1 => rfl); (case c2 => rfl); (case c3 => exact BC); (case c4 => exact infoO1); (case c5 => exact Hzz.out); (case c6 => exact o.cells_one V4.2 V27.2); intro w6 BC' hk hb hz; replace H4t := Kd.R_move H4t (fun k hk' => hk k (by have := X4 k hk'.symm; omega)); replace H27t := Kd.R_move H27t (fun k hk' => hk k (by have := X27 k hk'.symm; omega)); replace HB := hb _ _ HB Lc; clear hk hb hz))
  refine bodyPost_ret (v := .agg (o.cells u4 u27)) (results_cell_row (p := 2) (ty := 48) rfl _ _ gc 48 (o.cells u4 u27) (0, 0) _ (by rfl) BC' Tryd.underlying48 rfl infoO1) rfl ?_
  exact ⟨u4, u27, rfl, ⟨u4, u27, rfl, Kd.R_mono H4t (fun k hk => ⟨trivial, fun e => N4 k hk.symm e.symm⟩), Kd.R_mono H27t (fun k hk => ⟨trivial, fun e => N4 k e.symm hk.symm⟩)⟩, HB⟩
theorem copy_step {w wr w1 w2 : World} {v : Value} {xs : List Ob} {o : Ob} {cs : List Value} (hR : Kd.R kO 48 wr w.heap.size (fun _ => True) v xs) (hB : Below w.heap.size w wr) (hb1 : Below wr.heap.size wr w1)
    (HM : kO.M w1 wr.heap.size (fun _ => True) o cs) {x : Obj}
    (hk : ∀ k, k ≠ w1.heap.size → w2.heap[k]? = (w1.alloc x).heap[k]?) (hb2 : Below wr.heap.size wr w2) :
    (kO.M w2 w.heap.size (fun k => wr.heap.size ≤ k) o cs ∧ Kd.R kO 48 w2 w.heap.size (fun _ => True) v xs ∧ ∀ k, wr.heap.size ≤ k → True ∧ some k ≠ v.ownBlock) ∧ Below w.heap.size w w2 := by
  have same : ∀ k, k < w1.heap.size → w2.heap[k]? = w1.heap[k]? := fun k hlt => (hk k (by omega)).trans (heap_alloc_old _ _ hlt)
  refine ⟨⟨?_, Kd.R_below hR hb2, fun k hle => ⟨trivial, fun e => by have := Kd.R_lt hR k e.symm; omega⟩⟩, belT hB hb2⟩
  exact kO.M_mono (fun k hk => hk.2.1) (kO.M_lower hB.size (kO.M_move (fun k hk => same k hk.2.2.1) (kO.M_bound HM)))
set_option maxHeartbeats 2000000 in
set_option maxRecDepth 100000 in
theorem copyObjects_calls (A : Option Addr) (c n : Nat) (l : List Ob) (w : World) (hr : kO.C w A l.length l) (hln : l.length = n) (hl : n ≤ 1000000) (hf : ∀ o ∈ l, ObFits o) :
    Calls Tryd.prog 49 #[.slice A n c] w fun e w' => ∃ v, e = .returned v ∧ kO.R 48 w' w.heap.size (fun _ => True) v l ∧ Below w.heap.size w w' := by
  have HR := Lib.hid hr
  have HL := Lib.hid hln
  have HF := Lib.hid hf
  clear hr hln hf
  go_enter Tryd.func49, Tryd.ntmps49
  go_wp2
  go_loopw [3, 4] (fun v3 v4 wr => ∃ k : Nat, v4 = .int .i64 k ∧ k ≤ n ∧ Hid (Kd.R kO 48 wr w.heap.size (fun _ => True) v3 (l.take k) ∧ Below w.heap.size w wr)) (fun _ v4 _ => n - (intOf v4).toNat)
  case atStart => exact ⟨0, rfl, Nat.zero_le _, Lib.hid ⟨Kd.R_nil _ _ _ _ _, Below.refl _ _⟩⟩
  case round =>
    obtain ⟨k, rfl, hk, hI⟩ := hrel
    by_cases hlt : k < n
    · obtain ⟨o, ho⟩ : ∃ o, l[k]? = some o := ⟨_, List.getElem?_eq_getElem (by have := HL.out; omega)⟩
      obtain ⟨ad, v4, v27, rfl, hO⟩ := objAt (Kd.C_below HR.out hI.out.2) k o ho
      have hlk : (k : Int) < (n : Int) := by omega
      obtain ⟨cs, hcs⟩ : ∃ cs, cs = o.cells v4 v27 := ⟨_, rfl⟩
      have hi1 : Hid ((Tryd.prog.info? 48).map (·.size) = some cs.size) := Lib.hid (by rw [hcs, Ob.cells_size]; kernel_rfl)
      have B1 := hO.cells
      have QL := Lib.hid (copyObject_calls o v4 v27 wr hO.l4 hO.l27 (HF.out o (List.mem_of_getElem? ho)))
      rw [← hcs] at B1 QL
      replace B1 := Lib.hid B1
      have hsn : l.take (k + 1) = l.take k ++ [o] := by rw [List.take_add_one, ho]; rfl
      have HT := Lib.hid hsn
      have hkl : (l.take k).length ≤ 1000000 := by rw [List.length_take]; omega
      have hlen : ((l.take k).length + 1) * 312 ≤ 140737488355328 := by omega
      clear ho hO hcs hsn hkl
      go_wp2_with (first
        | ((with_reducible refine wpList_load_any rfl 48 (.tmp 14) rfl (ad.add (k * 32)) ?l1 cs _ ?l2 Tryd.underlying48 ?l3 ?l4 ?_); (case l1 => rfl); (case l2 => exact B1.out); (case l3 => rfl); (case l4 => exact hi1.out))
        | (go_at_call 50; (with_reducible refine QL.out.mono ?_); rintro e w1 ⟨u4, u27, rfl, HM, hb1⟩; have hc1 : (o.cells u4 u27).all (·.oneCell') = true := (Array.all_eq_true_iff_forall_mem.2 fun u hu => kO.K_one (kO.K_of_M HM) u (by simpa using hu)); replace HM := Lib.hid HM; clear QL)
        | ((with_reducible refine wpList_store_blk rfl 48 (.tmp 5) (.tmp 16) rfl w1.heap.size 48 ?c0 (o.cells u4 u27) ?c1 ?c2 ?c3 ?c4 ?c5 ?c6 ?_); (case c1 => rfl); (case c2 => rfl); (case c3 => exact heap_alloc_new _ _); (case c4 => exact infoO1); (case c5 => rfl); (case c6 => exact hc1); intro w2 G hk hb hz; obtain ⟨hA, hB2⟩ := copy_step hI.out.1 hI.out.2 hb1 HM.out hk (hb _ _ (Below.alloc (hb1.mono (Nat.le_refl _)) hb1.size _) hb1.size); have HA := Lib.hid hA; have HG := Lib.hid G; have HB2 := Lib.hid hB2; have hw2 : Hid (w.heap.size ≤ w2.heap.size) := Lib.hid hB2.size; obtain ⟨gx, hgx⟩ : ∃ g, g = w1.heap.size := ⟨_, rfl⟩; rw [← hgx] at HG ⊢; clear G hk hb hz hA hB2 hgx HM hb1 hc1)
        | ((with_reducible refine wpList_load_blk rfl 48 (.tmp 5) rfl gx 48 ?m1 (o.cells u4 u27) _ ?m2 Tryd.underlying48 ?m3 ?m4 ?_); (case m1 => rfl); (case m2 => exact HG.out); (case m3 => rfl); (case m4 => exact infoO1))
        | ((with_reducible refine wpList_build1 rfl 22 48 (.tmp 18) rfl (o.cells u4 u27) ?d1 ?d2 32 312 Tryd.underlying22 ?d3 ?d4 (by omega) (by omega) ?d5 ?_); (case d1 => rfl); (case d3 => exact infoO); (case d4 => rfl); (case d5 => rfl))
        | (at_builtin; refine Kd.R_append kO (w0 := w) (W := w2) w.heap.size rfl (.tmp 17) (.tmp 19) 22 48 (.agg (Ob.zero.cells (.slice none 0 0) (.slice none 0 0))) 312 rfl Tryd.underlying22 infoO rfl (by decide) (by omega) u3 (l.take k) o (o.cells u4 u27).toList (fun _ => True) (fun k => wr.heap.size ≤ k) rfl rfl HA.out.1 HA.out.2.2 (fun _ _ => trivial) HA.out.2.1 HB2.out hw2.out hlen ?_; intro v1 w6 hR6 hB6 hg6 hat6))
      go_roundw
      case rel => exact ⟨k + 1, by go_num, by omega, Lib.hid ⟨by rw [HT.out]; exact hR6, hB6⟩⟩
      case measure => simp [intOf]; omega
    · obtain rfl : n = k := by omega
      have hI1 := hI.out.1
      rw [List.take_of_length_le (Nat.le_of_eq HL.out)] at hI1
      replace hI1 := Lib.hid hI1
      go_wp2
      go_ret
      exact ⟨_, rfl, hI1.out, hI.out.2⟩
end Go.Proofs.YtoepbjgldmgaoaaDoor

/- One struct laid into a new block, in a region that draws its order; a slice of objects cut off below. -/
namespace Go.Proofs.YtoepbjgldmgaoaaDoor
open Go.RowKit Go.Proofs.YtoepbjgldmgaoaaDoorW.PrintWords Go.Proofs.YtoepbjgldmgaoaaDoorW.PrintLast
section
variable {P : Program}
theorem build1_ {ops : Array Oper} {op : Oper} {N : Option Tmp} {a : Act} {w : World} {K : Act → World → Prop} {Q : Exit → Act → World → Prop} (hw : Region.wanted op (yielded ops a.tmps) = true) (hN : op.dst = N) (t e : TypeId) (x : Operand) (ho : op.op = .buildSlice t 1 #[(0, x)]) (cs : Array Value) (hx : a.eval x = .agg cs)
    (z : Value) (n bytes : Nat) (hu : P.underlying t = some (.slice e)) (hinfo : (P.info? e).map (fun i => (i.zero, i.size, i.bytes)) = some (some z, n, bytes)) (hs : cs.size = n) (h0 : 0 < n) (hn : n ≤ 1000) (hz : z.cells.size = n)
    (h : K (a.put N (.slice (some ⟨w.heap.size, 0, none⟩) 1 1)) (w.alloc (.cells cs e))) : if Region.wanted op (yielded ops a.tmps) = true then Oper.wp P op a w K Q else K (a.put N undef) w := by
  rw [if_pos hw]
  subst hN
  obtain ⟨i0, hi, hzz⟩ := Option.map_eq_some_iff.1 hinfo
  simp only [Prod.mk.injEq] at hzz
  obtain ⟨hz0, hz1, hz2⟩ := hzz
  refine wp_buildSlice t e 1 #[(0, x)] ho cs i0 z hu hi hz0 (by rw [hz1]; omega) (by rw [hz1]; omega) ?_ h
  have hf := Great.fill_whole (s := n) h0 [Value.agg cs] ((Array.range (1 * i0.size)).map (z.cells[· % z.cells.size]!)) (fun v hv => by rw [List.mem_singleton.1 hv]; exact hs) (by simp [hz1])
  rw [hz1] at hf ⊢
  simpa [hx, Value.cells] using hf
end
theorem cut_low (A : Option Addr) (n c m : Nat) (hm : m ≤ n) (hc : n ≤ c) :
    ∃ A' : Option Addr, (∀ W : World, (Instr.slice 22 (.slice A n c) (some (.int .i64 (m : Int))) none none).run Tryd.prog W = .ok (.slice A' (n - m) (c - m)) W) ∧
      ∀ (w : World) (xs : List Ob), xs.length = n → kO.C w A n xs → kO.C w A' (xs.drop m).length (xs.drop m) := by
  have ht := Tryd.underlying22
  obtain ⟨i0, hi, hzz⟩ := Option.map_eq_some_iff.1 infoO
  simp only [Prod.mk.injEq] at hzz
  obtain ⟨_, hz1, _⟩ := hzz
  refine ⟨if c = m then A else A.map (·.add (m * 32)), fun W => ?_, fun w xs hl h => ?_⟩
  · have hel : Tryd.prog.elem 22 = 48 := by simp [Program.elem, ht]
    have hu : Tryd.prog.underlying 22 = some (.slice (Tryd.prog.elem 22)) := by rw [hel]; exact ht
    rw [run_slice_l W 22 A n c hu .i64 (m : Int) (Int.natCast_nonneg _) (by omega), hel]
    simp [sizeOf, typeInfo, hi, hz1, sliced, Result.andThen]
  · subst hl
    exact Kd.C_drop (k := kO) h hm hc
end Go.Proofs.YtoepbjgldmgaoaaDoor

/- append to a row of one's own: what it held stays where it lay, whether the row moves or not. -/
namespace Go.Proofs.YtoepbjgldmgaoaaDoor
open Go.RowKit Go.Proofs.YtoepbjgldmgaoaaDoorW.PrintWords Go.Proofs.YtoepbjgldmgaoaaDoorW.PrintLast
section
variable {P : Program}
theorem run_append_keep (w : World) (base : Nat) (t ty e : TypeId) (i : TypeInfo) (z : Value) (size bytes : Nat) (ht : P.underlying t = some (.slice e)) (hi : P.info? e = some i) (hz : i.zero = some z)
    (hsize : i.size = size) (hby : i.bytes = bytes) (hzs : z.cells.size = size) (hsz : 0 < size)
    (v : Value) (n : Nat) (xs : List Value) (hown : w.ownsRow base e size v n xs)
    (a : Addr) (m c : Nat) (news : List Value) (hl : news.length = m * size) (hnews : ∀ j u, news[j]? = some u → w.cell? (a.add j) = some u) (h1 : ∀ u ∈ news, u.oneCell' = true)
    (h63 : n + m ≤ maxLen) (hbytes : (n + m) * bytes ≤ 140737488355328) (hbase : base ≤ w.heap.size) :
    ∃ v' w', (Builtin.append_ #[t, t] ty #[v, .slice (some a) m c]).run P w = .ok v' w' ∧ w'.ownsRow base e size v' (n + m) (xs ++ news) ∧ w.grownBy w' v.ownBlock ∧
      (v'.ownBlock = v.ownBlock ∨ v'.ownBlock = some w.heap.size) ∧ ∀ g q, v.ownBlock = some g → q < n * size → w'.cell? ⟨g, q, none⟩ = w.cell? ⟨g, q, none⟩ := by
  obtain ⟨v', w', hr, h2, h3, _, h5⟩ := run_append_own_at (P := P) w base t ty e i z size bytes ht hi hz hsize hby hzs hsz v n xs hown a m c news hl hnews h1 h63 hbytes hbase
  refine ⟨v', w', hr, h2, h3, h5, fun g q hg hq => ?_⟩
  subst hsize
  subst hby
  have hsmall : n + m ≤ 9223372036854775807 := by simp only [maxLen] at h63; omega
  have hown' := hown
  rcases hown.2 with ⟨rfl, _⟩ | ⟨g0, cap, cur, rfl, hbg, hh, hnc, hcm, hcs, htake⟩
  · simp [Value.ownBlock] at hg
  · obtain rfl : g0 = g := by simpa [Value.ownBlock] using hg
    have hqc : q < cur.size := by
      rw [hcs]
      exact Nat.lt_of_lt_of_le hq (Nat.mul_le_mul_right _ hnc)
    by_cases hroom : n + m ≤ cap
    · have hfit : n * i.size + news.length ≤ cur.size := by rw [hl, hcs, ← Nat.add_mul]; exact Nat.mul_le_mul_right _ hroom
      have hr2 := run_append_room (P := P) w t ty e i ht hi g0 n cap cur hh a m c news hl hnews h1 hroom hfit
      rw [hr] at hr2
      injection hr2 with _ hw
      subst hw
      rw [cell_of_row _ g0 q _ e _ (setRow_heap w g0 cur _ e _ hh), cell_of_row _ g0 q cur e _ hh]
      have : q < (cur.toList.take (n * i.size)).length := by rw [List.length_take, Array.length_toList]; omega
      simp [List.getElem?_append_left this, List.getElem?_take, hq]
    · have holds : ∀ j u, xs[j]? = some u → w.cell? ((⟨g0, 0, none⟩ : Addr).add j) = some u := hown.cells (g := g0) rfl
      have hr2 := run_append_grow (P := P) w t ty e i z ht hi hz ⟨g0, 0, none⟩ n cap xs hown.1 holds a m c news hl hnews (by omega) (by omega) (growslice_fits (by omega) hbytes)
      rw [hr] at hr2
      injection hr2 with _ hw
      subst hw
      have hlt : g0 < w.heap.size := blkLt hh
      have e1 : ∀ o, (w.drew.alloc o).heap[g0]? = w.drew.heap[g0]? := fun o => heap_alloc_old w.drew o hlt
      unfold World.cell?
      simp only [e1]
      rfl
theorem R_append_keep {ops : Array Oper} {rest : List Oper} {o : Oper} {a : Act} {Q : Exit → Act → World → Prop} {α : Type} (d : Kd α) {w0 W : World} (base : Nat) (hgd : o.guard = none) (s x : Operand) (t e : TypeId) (z : Value) (bytes : Nat)
    (ho : o.op = .call { callee := .builtin .append, args := #[s, x], argTypes := #[t, t] })
    (ht : P.underlying t = some (.slice e)) (hinfo : (P.info? e).map (fun i => (i.zero, i.size, i.bytes)) = some (some z, d.sz, bytes)) (hz : z.cells.size = d.sz) (hs0 : 0 < d.sz) (hb0 : 0 < bytes)
    (v : Value) (xs : List α) (p : α) (cs : List Value) (ok okp : Nat → Prop) (hs : a.eval s = v) (hx : a.eval x = .slice (some ⟨W.heap.size, 0, none⟩) 1 1) (hp : d.M W base okp p cs) (hokp : ∀ k, okp k → ok k ∧ some k ≠ v.ownBlock) (hfresh : ∀ k, W.heap.size ≤ k → ok k)
    (HO : d.R e W base ok v xs) (HB : Below base w0 W) (hbase : base ≤ W.heap.size) (hl : (xs.length + 1) * bytes ≤ 140737488355328)
    (h : ∀ v1 w1, d.R e w1 base ok v1 (xs ++ [p]) → Below base w0 w1 → W.grownBy w1 v.ownBlock → (v1.ownBlock = v.ownBlock ∨ ∃ b, v1.ownBlock = some b ∧ W.heap.size ≤ b) → (∀ g q, v.ownBlock = some g → q < xs.length * d.sz → w1.cell? ⟨g, q, none⟩ = W.cell? ⟨g, q, none⟩) → wpList P ops Q rest (a.put o.dst v1) w1) :
    wpList P ops Q (o :: rest) a (W.alloc (.cells cs.toArray e)) := by
  obtain ⟨h0, inner, hown, hr⟩ := HO
  obtain ⟨i0, hi, hzz⟩ := Option.map_eq_some_iff.1 hinfo
  simp only [Prod.mk.injEq] at hzz
  obtain ⟨hz0, hz1, hz2⟩ := hzz
  have hlen : xs.length + 1 ≤ 140737488355328 := Nat.le_trans (Nat.le_mul_of_pos_right _ hb0) hl
  have hcl : cs.length = d.sz := d.K_len (d.K_of_M hp)
  have hown0 := hown
  obtain ⟨v1, w1, hrun, hown1, hg1, hat1, hkeep⟩ := run_append_keep (P := P) (W.alloc (.cells cs.toArray e)) base t o.type e i0 z d.sz bytes ht hi hz0 hz1 hz2 hz hs0 v xs.length inner (hown.alloc _) ⟨W.heap.size, 0, none⟩ 1 1 cs (by rw [hcl, Nat.one_mul])
    (by simpa using World.news_of_block (cs := cs.toArray) (t := e) (fr := (0, 0)) (heap_alloc_new W _)) (d.K_one (d.K_of_M hp)) (by simp only [maxLen]; omega) hl (by simp; omega)
  refine wpList_plain hgd fun K hK => ?_
  unfold Oper.wp execOp
  simp only [ho, resolve, invoke, builtin, Sem.run_bind, Sem.run_pure, Result.andThen_ok, List.map_toArray, List.map_cons, List.map_nil, hs, hx, hrun]
  have hat : v1.ownBlock = v.ownBlock ∨ ∃ b, v1.ownBlock = some b ∧ W.heap.size ≤ b := by
    rcases hat1 with hat | hat
    · exact .inl hat
    · exact .inr ⟨_, hat, by simp⟩
  have hg : W.grownBy w1 v.ownBlock := World.grownBy.trans (World.grownBy_alloc W _ _) hg1
  refine hK _ _ (h v1 w1 (Kd.R_appended h0 hr hp hokp hfresh hown1 hg hat) ((HB.alloc hbase _).grown hg1 (by simp; omega) (own_base hown0)) hg hat (fun g q hgb hq => ?_))
  rw [hkeep g q hgb hq]
  unfold World.cell?
  rw [heap_alloc_old W _ (own_lt hown0 g hgb)]
end
end Go.Proofs.YtoepbjgldmgaoaaDoor

/- ApartLabels' second loop, plainly: lists that are appended to, in place or moved. -/
namespace Go.Proofs.YtoepbjgldmgaoaaDoor
open Go.RowKit Go.Proofs.YtoepbjgldmgaoaaDoorW.PrintWords Go.Proofs.YtoepbjgldmgaoaaDoorW.PrintLast
theorem cell_same {w w' : World} {a : Addr} (h : w'.heap[a.block]? = w.heap[a.block]?) : w'.cell? a = w.cell? a := by
  unfold World.cell?
  rw [h]
theorem add_block (a : Addr) (k : Nat) : (a.add k).block = a.block := by unfold Addr.add; split <;> rfl
theorem OnlyB.grown' {G : Nat → Prop} {w W w1 : World} {row : Option Nat} (h : OnlyB G w W) (hg : W.grownBy w1 row) (hr : ∀ k, row = some k → G k ∨ w.heap.size ≤ k) : OnlyB G w w1 :=
  ⟨hg.os.trans h.os, hg.tape.trans h.tape, hg.output.trans h.output, Nat.le_trans h.size hg.size, fun k hk hn => (hg.block k (Nat.lt_of_lt_of_le hk h.size) (fun e => by
    rcases hr k e.symm with h1 | h1
    · exact hn h1
    · omega)).trans (h.block k hk hn)⟩
structure Gs (w wa : World) (base : Nat) (V G : List Value) (n : Nat → Nat) : Prop where
  row : ∀ (j : Nat) (u : Value), G[j]? = some u → kL.R 98 w base (fun b => some b = u.ownBlock) u (marksK j (n j + 64))
  old : ∀ (j : Nat) (u v : Value), G[j]? = some u → V[j]? = some v → ∀ b, u.ownBlock = some b → v.ownBlock = some b ∨ wa.heap.size ≤ b
theorem Gs.below {w wa w1 : World} {base : Nat} {V G : List Value} {n : Nat → Nat} (h : Gs w wa base V G n) (hb : Below w.heap.size w w1) : Gs w1 wa base V G n := ⟨fun j u hu => Kd.R_below (h.row j u hu) hb, h.old⟩
theorem Gs.other {wa wo W w1 : World} {base k : Nat} {V G : List Value} {n : Nat → Nat} (h : Gs W wa base V G n) (hG : Gs wo wa base V G n) (hl : G.length = k) (ha : ApartV V) {v u : Value} (hv : V[k]? = some v) (hvl : ∀ b, v.ownBlock = some b → b < wa.heap.size) (hlt : G.length ≤ V.length)
    (hu : ∀ b, u.ownBlock = some b → v.ownBlock = some b ∨ wo.heap.size ≤ b) (hg : W.grownBy w1 u.ownBlock) : Gs w1 wa base V G n := by
  refine ⟨fun j x hx => ?_, h.old⟩
  have hr := h.row j x hx
  refine Kd.R_move hr (fun b hb => hg.block b (Kd.R_lt hr b hb.symm) (fun e => ?_))
  have hj : j < G.length := (List.getElem?_eq_some_iff.1 hx).1
  obtain ⟨vj, hvj⟩ : ∃ vj, V[j]? = some vj := ⟨_, List.getElem?_eq_getElem (by omega)⟩
  rcases hu b e.symm with h1 | h1
  · rcases h.old j x vj hx hvj b hb.symm with h2 | h2
    · exact ha j k vj v (by omega) hvj hv b h2 h1
    · have := hvl b h1
      omega
  · have := Kd.R_lt (hG.row j x hx) b hb.symm
    omega
theorem LabK.keep {w w1 : World} {l : List Lab} {v : Value} (h : LabK w l v) (hs : ∀ ad c, v = .slice (some ad) l.length c → ∀ q, q < l.length * 2 → w1.cell? (ad.add q) = w.cell? (ad.add q)) : LabK w1 l v := by
  obtain ⟨A, c, rfl, hl, hr⟩ := h
  refine ⟨A, c, rfl, hl, hr.1, hr.2.1, fun hp => ?_⟩
  obtain ⟨ad, e, hc⟩ := hr.2.2 hp
  subst e
  refine ⟨ad, rfl, fun j p hj => ?_⟩
  obtain ⟨cs, h1, h2, h3⟩ := hc j p hj
  have hjl : j < l.length := (List.getElem?_eq_some_iff.1 hj).1
  refine ⟨cs, h1, QLb.k98_open h2 ▸ QLb.k98_mk w1 p, fun i u hu => ?_⟩
  have hi : i < 2 := by
    have := (List.getElem?_eq_some_iff.1 hu).1
    rw [h1] at this
    exact this
  have hsz : kL.sz = 2 := rfl
  rw [hsz] at h3 ⊢
  rw [hs ad c rfl (j * 2 + i) (by omega)]
  exact h3 i u hu
theorem LabK.same {w w1 : World} {l : List Lab} {v : Value} (h : LabK w l v) (hs : ∀ b, v.ownBlock = some b → w1.heap[b]? = w.heap[b]?) : LabK w1 l v :=
  h.keep fun ad c e q _ => cell_same (a := ad.add q) (by rw [add_block]; exact hs ad.block (by rw [e]; rfl))
structure BI (w wa W : World) (base : Nat) (V G : List Value) (n : Nat → Nat) (v5 : Value) (m : Nat) : Prop where
  rd : ∀ (j : Nat) (v : Value), V[j]? = some v → LabK W (marksK j (n j)) v
  todo : ∀ (j : Nat) (v : Value), m ≤ j → V[j]? = some v → kL.R 98 W base (fun b => some b = v.ownBlock) v (marksK j (n j))
  gs : Gs W wa base V G n
  row : (Kd.raw 1).R 43 W wa.heap.size (fun _ => True) v5 (G.map fun u => [u])
  only : OnlyB (inV V) w W
theorem BI.below {w wa W w1 : World} {base : Nat} {V G : List Value} {n : Nat → Nat} {v5 : Value} {m : Nat} (h : BI w wa W base V G n v5 m) (hb : Below W.heap.size W w1) : BI w wa w1 base V G n v5 m :=
  ⟨fun j v hv => (h.rd j v hv).below hb, fun j v hm hv => Kd.R_below (h.todo j v hm hv) hb, h.gs.below hb, Kd.R_below h.row hb, h.only.trans (OnlyB.of_below hb)⟩
theorem BI.step {w wa wo W w1 : World} {base k : Nat} {V G : List Value} {n : Nat → Nat} {v5 u v : Value} {xs : List Lab} (h : BI w wa W base V G n v5 (k + 1)) (hG : Gs wo wa base V G n) (hl : G.length = k) (ha : ApartV V) (hv : V[k]? = some v) (hV : ∀ x ∈ V, ∀ b, x.ownBlock = some b → b < wa.heap.size) (hww : w.heap.size ≤ wa.heap.size) (hwo : wa.heap.size ≤ wo.heap.size) (hwW : wo.heap.size ≤ W.heap.size)
    (hv0 : ∀ ad c, v = .slice (some ad) (n k) c → ad.off = 0 ∧ ad = ⟨ad.block, 0, none⟩)
    (hu : ∀ b, u.ownBlock = some b → v.ownBlock = some b ∨ wo.heap.size ≤ b) (hR : kL.R 98 W base (fun _ => True) u xs) (hxs : n k ≤ xs.length) (hg : W.grownBy w1 u.ownBlock)
    (hkeep : ∀ g q, u.ownBlock = some g → q < xs.length * 2 → w1.cell? ⟨g, q, none⟩ = W.cell? ⟨g, q, none⟩) : BI w wa w1 base V G n v5 (k + 1) := by
  have hVo : ∀ j x, V[j]? = some x → j ≠ k → ∀ b, x.ownBlock = some b → u.ownBlock ≠ some b := fun j x hx hj b hb e => by
    rcases hu b e with h1 | h1
    · exact ha k j v x (fun e => hj e.symm) hv hx b h1 hb
    · have := hV x (List.mem_of_getElem? hx) b hb
      omega
  have hlt : ∀ x ∈ V, ∀ b, x.ownBlock = some b → b < W.heap.size := fun x hx b hb => by
    have := hV x hx b hb
    omega
  refine ⟨fun j x hx => ?_, fun j x hm hx => ?_, ?_, ?_, ?_⟩
  · by_cases hj : j = k
    · subst hj
      rw [hv] at hx
      obtain rfl := Option.some.inj hx
      have h0 := h.rd j v hv
      refine h0.keep fun ad c e q hq => ?_
      rw [marksK_length] at e hq
      obtain ⟨_, e2⟩ := hv0 ad c e
      by_cases hub : u.ownBlock = some ad.block
      · rw [e2, add_at, Nat.zero_add]
        exact hkeep ad.block q hub (by omega)
      · refine cell_same (a := ad.add q) ?_
        rw [add_block]
        exact hg.block _ (hlt v (List.mem_of_getElem? hv) _ (by rw [e]; rfl)) (fun e' => hub e'.symm)
    · exact (h.rd j x hx).same fun b hb => hg.block b (hlt x (List.mem_of_getElem? hx) b hb) (fun e => hVo j x hx hj b hb e.symm)
  · have hr := h.todo j x hm hx
    exact Kd.R_move hr (fun b hb => hg.block b (Kd.R_lt hr b hb.symm) (fun e => hVo j x hx (by omega) b hb.symm e.symm))
  · exact h.gs.other hG hl ha hv (fun b hb => hV v (List.mem_of_getElem? hv) b hb) (by rw [hl]; exact Nat.le_of_lt (List.getElem?_eq_some_iff.1 hv).1) hu hg
  · exact Kd.R_over' h.row (Kd.R_typed hR) (fun q hq => by
      rcases List.mem_cons.1 hq with rfl | hq
      · decide
      · cases hq) hg
  · exact h.only.grown' hg (fun b hb => by
      rcases hu b hb with h1 | h1
      · exact .inl ⟨v, List.mem_of_getElem? hv, h1⟩
      · exact .inr (by omega))
theorem BI.next {w wa wo W w1 : World} {base k : Nat} {V G : List Value} {n : Nat → Nat} {v5 v5' u v : Value} (h : BI w wa W base V G n v5 (k + 1)) (hl : G.length = k) (hv : V[k]? = some v) (hwa : wa.heap.size ≤ wo.heap.size)
    (hu : ∀ b, u.ownBlock = some b → v.ownBlock = some b ∨ wo.heap.size ≤ b) (hR : kL.R 98 W base (fun _ => True) u (marksK k (n k + 64)))
    (hV : ∀ x ∈ V, ∀ b, x.ownBlock = some b → b < wa.heap.size) (hwaW : wa.heap.size ≤ W.heap.size)
    (hrow : (Kd.raw 1).R 43 w1 wa.heap.size (fun _ => True) v5' (G.map (fun u => [u]) ++ [[u]])) (hg : W.grownBy w1 v5.ownBlock) (hbase : w.heap.size ≤ wa.heap.size) : BI w wa w1 base V (G ++ [u]) n v5' (k + 1) := by
  have hty := Kd.R_typed h.row
  have hne : ∀ b : Nat, (∃ cells, W.heap[b]? = some (Obj.cells cells 98 (0, 0))) → some b ≠ v5.ownBlock := fun b ⟨c, hc⟩ e => by
    obtain ⟨c', hc'⟩ := hty b e.symm
    rw [hc] at hc'
    injection hc' with hc'
    injection hc' with _ hc'
    exact absurd hc' (by decide)
  have hk : ∀ b : Nat, (∃ cells, W.heap[b]? = some (Obj.cells cells 98 (0, 0))) → w1.heap[b]? = W.heap[b]? := fun b hb => by
    obtain ⟨c, hc⟩ := hb
    exact hg.block b (blkLt hc) (hne b ⟨c, hc⟩)
  have hmv : ∀ {ok : Nat → Prop} {x : Value} {l : List Lab}, kL.R 98 W base ok x l → kL.R 98 w1 base (fun b => some b = x.ownBlock) x l := fun {ok x l} hr => Kd.R_move (Kd.R_tight rfl hr) (fun b hb => hk b (Kd.R_typed hr b hb.symm))
  refine ⟨fun j x hx => ?_, fun j x hm hx => hmv (h.todo j x hm hx), ⟨fun j x hx => ?_, fun j x y hx hy b hb => ?_⟩, by rw [List.map_append]; exact hrow, h.only.grown' hg (fun b hb => .inr (by have := Kd.R_base h.row b hb; omega))⟩
  · exact (h.rd j x hx).same fun b hb => hg.block b (by have := hV x (List.mem_of_getElem? hx) b hb; omega) (fun e => by
      have := Kd.R_base h.row b e.symm
      have := hV x (List.mem_of_getElem? hx) b hb
      omega)
  · rcases Nat.lt_or_ge j G.length with hj | hj
    · rw [List.getElem?_append_left hj] at hx
      exact hmv (h.gs.row j x hx)
    · have hjk : j = G.length := by
        have := (List.getElem?_eq_some_iff.1 hx).1
        rw [List.length_append, List.length_singleton] at this
        omega
      subst hjk
      obtain rfl : u = x := by simpa using hx
      rw [hl]
      exact hmv hR
  · rcases Nat.lt_or_ge j G.length with hj | hj
    · rw [List.getElem?_append_left hj] at hx
      exact h.gs.old j x y hx hy b hb
    · have hjk : j = G.length := by
        have := (List.getElem?_eq_some_iff.1 hx).1
        rw [List.length_append, List.length_singleton] at this
        omega
      subst hjk
      obtain rfl : u = x := by simpa using hx
      rw [hl, hv] at hy
      obtain rfl := Option.some.inj hy
      rcases hu b hb with h1 | h1
      · exact .inl h1
      · exact .inr (by omega)
end Go.Proofs.YtoepbjgldmgaoaaDoor
