/- rank.Less: the order in which pods end, over objects that are read by the parts that it looks at. -/
import Derived.Test.YtgeegimiendcdaaDoorWc
import Derived.Test.YtgeegimiendcdaaDoorReg
import Derived.Test.YtgeegimiendcdaaDoorQScx
import Derived.ChangeKeysEq
import Derived.Deep.WholeRow
import Derived.Laws.Rows
import Derived.Lib.Hide
namespace Go.Proofs.YtgeegimiendcdaaDoor
set_option linter.unusedVariables false
set_option linter.unusedSimpArgs false
open Go.RowKit Go.Proofs.YtgeegimiendcdaaDoorW.PrintWords Go.Proofs.YtgeegimiendcdaaDoorW.PrintLast

theorem bcell {W w1 : World} (hb : Below W.heap.size W w1) : (∀ b o, b < W.heap.size → w1.cell? ⟨b, o, none⟩ = W.cell? ⟨b, o, none⟩) ∧ (∀ b o, b < W.heap.size → w1.frozen? ⟨b, o, none⟩ = W.frozen? ⟨b, o, none⟩) :=
  ⟨fun b o h => hb.cell (p := ⟨b, o, none⟩) h, fun b o h => hb.frozen (p := ⟨b, o, none⟩) h⟩
/-- An object's cells: those that Less looks at. -/
structure Pod (cs : Array Value) (name : ByteArray) (born : Int) (node : ByteArray) (phase : Int) (ready : Bool) : Prop where
  size : cs.size = 32
  c1 : cs[1]? = some (.string name)
  c3 : cs[3]? = some (.int .i64 born)
  c13 : cs[13]? = some (.string node)
  c14 : cs[14]? = some (.int .i64 phase)
  c15 : cs[15]? = some (.bool ready)
/-- .. written out. -/
theorem Pod.lit {cs : Array Value} {n : ByteArray} {b : Int} {o : ByteArray} {p : Int} {r : Bool} (h : Pod cs n b o p r) : ∃ v0 v2 v4 v5 v6 v7 v8 v9 v10 v11 v12 v16 v17 v18 v19 v20 v21 v22 v23 v24 v25 v26 v27 v28 v29 v30 v31 : Value, cs = #[v0, .string n, v2, .int .i64 b, v4, v5, v6, v7, v8, v9, v10, v11, v12, .string o, .int .i64 p, .bool r, v16, v17, v18, v19, v20, v21, v22, v23, v24, v25, v26, v27, v28, v29, v30, v31] := by
  obtain ⟨hs, h1, h3, h13, h14, h15⟩ := h
  refine ⟨cs[0], cs[2], cs[4], cs[5], cs[6], cs[7], cs[8], cs[9], cs[10], cs[11], cs[12], cs[16], cs[17], cs[18], cs[19], cs[20], cs[21], cs[22], cs[23], cs[24], cs[25], cs[26], cs[27], cs[28], cs[29], cs[30], cs[31], ?_⟩
  have e1 : cs[1] = .string n := (Array.getElem?_eq_some_iff.1 h1).2
  have e3 : cs[3] = .int .i64 b := (Array.getElem?_eq_some_iff.1 h3).2
  have e13 : cs[13] = .string o := (Array.getElem?_eq_some_iff.1 h13).2
  have e14 : cs[14] = .int .i64 p := (Array.getElem?_eq_some_iff.1 h14).2
  have e15 : cs[15] = .bool r := (Array.getElem?_eq_some_iff.1 h15).2
  rw [← e1, ← e3, ← e13, ← e14, ← e15]
  obtain ⟨l⟩ := cs
  match l, hs with
  | [x0, x1, x2, x3, x4, x5, x6, x7, x8, x9, x10, x11, x12, x13, x14, x15, x16, x17, x18, x19, x20, x21, x22, x23, x24, x25, x26, x27, x28, x29, x30, x31], _ => rfl
def one (b : Bool) : Int := if b = true then 1 else 0
def ordV (born : Int) (node : ByteArray) (phase : Int) (ready : Bool) : Array Value := #[.int .i64 (one !node.toList.isEmpty), .int .i64 (one (phase == 1)), .int .i64 (one ready), .int .i64 (wrap64 (-1 - born))]
theorem one_calls (b : Bool) (w : World) : Calls Tryd.prog 73 #[.bool b] w fun e w' => e = .returned (.int .i64 (one b)) ∧ w' = w := by
  cases b <;>
  · go_enter Tryd.func73, Tryd.ntmps73
    go_wp2
    go_ret
    exact ⟨rfl, rfl⟩
def rg41_1_T : Bool × List (List Nat × List Nat) := (true, [([], []), ([0], [0]), ([1], [1]), ([2], [2]), ([], []), ([4], [4]), ([5], [5]), ([6, 3], [6]), ([], []), ([8], [8]), ([9, 7], [9]), ([], []), ([11], [11]), ([12], [12]), ([3, 7, 10, 13], [3, 7, 10, 13]), ([14, 10, 0, 1, 2, 3, 4, 5, 6, 7, 8, 9, 10, 11, 12, 13, 14], [14])])
def rg41_1_B : List Nat := [0, 1, 3, 7, 0, 16, 48, 127, 0, 256, 1023, 0, 2048, 6144, 16383, 32767]
theorem rg41_1_tab : rtab .any (opsOf Tryd.f41 1) = rg41_1_T := by kernel_rfl
theorem rg41_1_bits : waitsOk rg41_1_T.2 rg41_1_B = true := by kernel_rfl
def rg12_1_T : Bool × List (List Nat × List Nat) := (true, [([], []), ([0], [0]), ([], []), ([2, 1], [2]), ([], []), ([], []), ([4, 1, 3, 0, 1, 3, 4, 5], [1, 4]), ([5, 3, 6, 0, 1, 2, 3, 4, 5, 6], [3, 5])])
def rg12_1_B : List Nat := [0, 1, 0, 7, 0, 0, 63, 127]
theorem rg12_1_tab : rtab .any (opsOf Tryd.f12 1) = rg12_1_T := by kernel_rfl
theorem rg12_1_bits : waitsOk rg12_1_T.2 rg12_1_B = true := by kernel_rfl
def rg12_4_T : Bool × List (List Nat × List Nat) := (true, [([], []), ([], []), ([0, 1], [0, 1]), ([2], [2]), ([3, 2, 0, 1, 2, 3], [3])])
def rg12_4_B : List Nat := [0, 0, 3, 7, 15]
theorem rg12_4_tab : rtab .any (opsOf Tryd.f12 4) = rg12_4_T := by kernel_rfl
theorem rg12_4_bits : waitsOk rg12_4_T.2 rg12_4_B = true := by kernel_rfl
set_option maxHeartbeats 1600000 in
set_option maxRecDepth 100000 in
theorem of_calls (cs : Array Value) (name : ByteArray) (born : Int) (node : ByteArray) (phase : Int) (ready : Bool) (h : Pod cs name born node phase ready) (w : World) :
    Calls Tryd.prog 41 #[.agg cs] w fun e w' => e = .returned (.agg (ordV born node phase ready)) ∧ Below w.heap.size w w' := by
  have hs := h.size
  have c3 : cs[3] = .int .i64 born := (Array.getElem?_eq_some_iff.1 h.c3).2
  have c13 : cs[13] = .string node := (Array.getElem?_eq_some_iff.1 h.c13).2
  have c14 : cs[14] = .int .i64 phase := (Array.getElem?_eq_some_iff.1 h.c14).2
  have c15 : cs[15] = .bool ready := (Array.getElem?_eq_some_iff.1 h.c15).2
  have HH := Lib.hid h
  clear h
  go_enter Tryd.func41, Tryd.ntmps41
  go_wp2
  refine start_ (n := 16) (S := fun w' => w'.cell? ⟨w.heap.size, 3, none⟩ = some (.int .i64 born) ∧ w'.cell? ⟨w.heap.size, 13, none⟩ = some (.string node) ∧ w'.cell? ⟨w.heap.size, 14, none⟩ = some (.int .i64 phase) ∧ w'.cell? ⟨w.heap.size, 15, none⟩ = some (.bool ready)) (ds := [15]) #[false, false, false, false, false, false, false, false, false, false, false, false, false, false, false, false] (by kernel_rfl) rfl rfl ⟨by simp [c3, hs], by simp [c13, hs], by simp [c14, hs], by simp [c15, hs]⟩ (fun hHeld => ?_)
  refine with_tabW rg41_1_tab rg41_1_bits (fun HT_ HW_ => ?_)
  refine pure_ (i := 0) (N := some 3) (v := ?_) (a' := ?_) #[true, false, false, false, false, false, false, false, false, false, false, false, false, false, false, false] rfl rfl (any_of HT_.out (by kernel_rfl)) (fun _ _ _ h => h) (Or.inl ⟨by rfl, ?_⟩) ?_ ?_
  rotate_left
  · intro w'
    go_simp
    with_reducible rfl
  rotate_left
  · simp only [Act.put, List.setIfInBounds_toArray, List.set_cons_zero, List.set_cons_succ, i64_w, i32_w]
    rfl
  refine pure_ (i := 4) (N := some 7) (v := ?_) (a' := ?_) #[true, false, false, false, true, false, false, false, false, false, false, false, false, false, false, false] rfl rfl (any_of HT_.out (by kernel_rfl)) (fun _ _ _ h => h) (Or.inl ⟨by rfl, ?_⟩) ?_ ?_
  rotate_left
  · intro w'
    go_simp
    with_reducible rfl
  rotate_left
  · simp only [Act.put, List.setIfInBounds_toArray, List.set_cons_zero, List.set_cons_succ, i64_w, i32_w]
    rfl
  refine pure_ (i := 8) (N := some 11) (v := ?_) (a' := ?_) #[true, false, false, false, true, false, false, false, true, false, false, false, false, false, false, false] rfl rfl (any_of HT_.out (by kernel_rfl)) (fun _ _ _ h => h) (Or.inl ⟨by rfl, ?_⟩) ?_ ?_
  rotate_left
  · intro w'
    go_simp
    with_reducible rfl
  rotate_left
  · simp only [Act.put, List.setIfInBounds_toArray, List.set_cons_zero, List.set_cons_succ, i64_w, i32_w]
    rfl
  refine pure_ (i := 11) (N := some 14) (v := ?_) (a' := ?_) #[true, false, false, false, true, false, false, false, true, false, false, true, false, false, false, false] rfl rfl (any_of HT_.out (by kernel_rfl)) (fun _ _ _ h => h) (Or.inl ⟨by rfl, ?_⟩) ?_ ?_
  rotate_left
  · intro w'
    go_simp
    with_reducible rfl
  rotate_left
  · simp only [Act.put, List.setIfInBounds_toArray, List.set_cons_zero, List.set_cons_succ, i64_w, i32_w]
    rfl
  refine take_ (i := 1) (N := some 4) (v := ?_) (a' := ?_) #[true, true, false, false, true, false, false, false, true, false, false, true, false, false, false, false] rfl rfl (take_ofW HT_.out HW_.out (by kernel_rfl)) (fun _ _ _ h => h) (Or.inl ⟨by rfl, ?_⟩) hHeld ?_ ?_
  rotate_left
  · rintro w' ⟨s0, s1, s2, s3⟩
    go_simp
    with_reducible rfl
  rotate_left
  · simp only [Act.put, List.setIfInBounds_toArray, List.set_cons_zero, List.set_cons_succ, i64_w, i32_w]
    rfl
  refine pure_ (i := 2) (N := some 5) (v := ?_) (a' := ?_) #[true, true, true, false, true, false, false, false, true, false, false, true, false, false, false, false] rfl rfl (any_of HT_.out (by kernel_rfl)) (fun _ _ _ h => h) (Or.inl ⟨by rfl, ?_⟩) ?_ ?_
  rotate_left
  · intro w'
    go_simp
    with_reducible rfl
  rotate_left
  · simp only [Act.put, List.setIfInBounds_toArray, List.set_cons_zero, List.set_cons_succ, i64_w, i32_w]
    rfl
  refine take_ (i := 5) (N := some 8) (v := ?_) (a' := ?_) #[true, true, true, false, true, true, false, false, true, false, false, true, false, false, false, false] rfl rfl (take_ofW HT_.out HW_.out (by kernel_rfl)) (fun _ _ _ h => h) (Or.inl ⟨by rfl, ?_⟩) hHeld ?_ ?_
  rotate_left
  · rintro w' ⟨s0, s1, s2, s3⟩
    go_simp
    with_reducible rfl
  rotate_left
  · simp only [Act.put, List.setIfInBounds_toArray, List.set_cons_zero, List.set_cons_succ, i64_w, i32_w]
    rfl
  refine pure_ (i := 6) (N := some 9) (v := ?_) (a' := ?_) #[true, true, true, false, true, true, true, false, true, false, false, true, false, false, false, false] rfl rfl (any_of HT_.out (by kernel_rfl)) (fun _ _ _ h => h) (Or.inl ⟨by rfl, ?_⟩) ?_ ?_
  rotate_left
  · intro w'
    go_simp
    with_reducible rfl
  rotate_left
  · simp only [Act.put, List.setIfInBounds_toArray, List.set_cons_zero, List.set_cons_succ, i64_w, i32_w]
    rfl
  refine take_ (i := 9) (N := some 12) (v := ?_) (a' := ?_) #[true, true, true, false, true, true, true, false, true, true, false, true, false, false, false, false] rfl rfl (take_ofW HT_.out HW_.out (by kernel_rfl)) (fun _ _ _ h => h) (Or.inl ⟨by rfl, ?_⟩) hHeld ?_ ?_
  rotate_left
  · rintro w' ⟨s0, s1, s2, s3⟩
    go_simp
    with_reducible rfl
  rotate_left
  · simp only [Act.put, List.setIfInBounds_toArray, List.set_cons_zero, List.set_cons_succ, i64_w, i32_w]
    rfl
  refine take_ (i := 12) (N := some 15) (v := ?_) (a' := ?_) #[true, true, true, false, true, true, true, false, true, true, false, true, true, false, false, false] rfl rfl (take_ofW HT_.out HW_.out (by kernel_rfl)) (fun _ _ _ h => h) (Or.inl ⟨by rfl, ?_⟩) hHeld ?_ ?_
  rotate_left
  · rintro w' ⟨s0, s1, s2, s3⟩
    go_simp
    with_reducible rfl
  rotate_left
  · simp only [Act.put, List.setIfInBounds_toArray, List.set_cons_zero, List.set_cons_succ, i64_w, i32_w]
    rfl
  refine pure_ (i := 13) (N := some 16) (v := ?_) (a' := ?_) #[true, true, true, false, true, true, true, false, true, true, false, true, true, true, false, false] rfl rfl (any_of HT_.out (by kernel_rfl)) (fun _ _ _ h => h) (Or.inl ⟨by rfl, ?_⟩) ?_ ?_
  rotate_left
  · intro w'
    go_simp
    with_reducible rfl
  rotate_left
  · simp only [Act.put, List.setIfInBounds_toArray, List.set_cons_zero, List.set_cons_succ, i64_w, i32_w]
    rfl
  refine one_ (i := 3) (N := some 6) #[true, true, true, true, true, true, true, false, true, true, false, true, true, true, false, false] rfl rfl (one_of HT_.out (by kernel_rfl)) (by decide) (fun K hK => ?_)
  refine goes_ Tryd.func73 (by kernel_rfl) rfl #[.bool !node.toList.isEmpty] (by rfl) rfl rfl (by (try simp only [List.map_toArray, List.map_cons, List.map_nil]); first | done | rfl) ?_
  with_reducible refine (one_calls _ _).mono ?_
  rintro e w1 ⟨rfl, rfl⟩
  refine ⟨_, rfl, ?_⟩
  refine hK.out _ _ hHeld (fun hHeld => ?_)
  clear hK K
  refine norm_ (a' := ?_) ?_ ?_
  rotate_left
  · show Act.put _ (some 6) _ = _
    simp only [Act.put, List.setIfInBounds_toArray, List.set_cons_zero, List.set_cons_succ, i64_w, i32_w]
    rfl
  refine one_ (i := 7) (N := some 10) #[true, true, true, true, true, true, true, true, true, true, false, true, true, true, false, false] rfl rfl (one_of HT_.out (by kernel_rfl)) (by decide) (fun K hK => ?_)
  refine goes_ Tryd.func73 (by kernel_rfl) rfl #[.bool (phase == 1)] (by rfl) rfl rfl (by (try simp only [List.map_toArray, List.map_cons, List.map_nil]); first | done | rfl) ?_
  with_reducible refine (one_calls _ _).mono ?_
  rintro e w1 ⟨rfl, rfl⟩
  refine ⟨_, rfl, ?_⟩
  refine hK.out _ _ hHeld (fun hHeld => ?_)
  clear hK K
  refine norm_ (a' := ?_) ?_ ?_
  rotate_left
  · show Act.put _ (some 10) _ = _
    simp only [Act.put, List.setIfInBounds_toArray, List.set_cons_zero, List.set_cons_succ, i64_w, i32_w]
    rfl
  refine one_ (i := 10) (N := some 13) #[true, true, true, true, true, true, true, true, true, true, true, true, true, true, false, false] rfl rfl (one_of HT_.out (by kernel_rfl)) (by decide) (fun K hK => ?_)
  refine goes_ Tryd.func73 (by kernel_rfl) rfl #[.bool ready] (by rfl) rfl rfl (by (try simp only [List.map_toArray, List.map_cons, List.map_nil]); first | done | rfl) ?_
  with_reducible refine (one_calls _ _).mono ?_
  rintro e w1 ⟨rfl, rfl⟩
  refine ⟨_, rfl, ?_⟩
  refine hK.out _ _ hHeld (fun hHeld => ?_)
  clear hK K
  refine norm_ (a' := ?_) ?_ ?_
  rotate_left
  · show Act.put _ (some 13) _ = _
    simp only [Act.put, List.setIfInBounds_toArray, List.set_cons_zero, List.set_cons_succ, i64_w, i32_w]
    rfl
  refine pure_ (i := 14) (N := some 17) (v := ?_) (a' := ?_) #[true, true, true, true, true, true, true, true, true, true, true, true, true, true, true, false] rfl rfl (any_of HT_.out (by kernel_rfl)) (fun _ _ _ h => h) (Or.inl ⟨by rfl, ?_⟩) ?_ ?_
  rotate_left
  · intro w'
    go_simp
    with_reducible rfl
  rotate_left
  · simp only [Act.put, List.setIfInBounds_toArray, List.set_cons_zero, List.set_cons_succ, i64_w, i32_w]
    rfl
  refine last_ (i := 15) (N := none) #[true, true, true, true, true, true, true, true, true, true, true, true, true, true, true, true] rfl rfl (one_of HT_.out (by kernel_rfl)) (by decide) (fun K hK => ?_)
  skip
  refine skip_ (w1 := ?_) (by rfl) rfl ?_ ?_
  rotate_left
  · go_simp
    rfl
  refine hK.out _ _ ?_
  clear hK K
  refine done_ (done_of HT_.out (by kernel_rfl)) ?_
  go_wp2
  refine bodyPost_ret (v := .agg (ordV born node phase ready)) (results_cell_row (p := 2) (ty := 74) rfl _ _ (w.heap.size + 1) 74 (ordV born node phase ready) (0, 0) _ (by rfl) (heap_alloc2_new w _ _) Tryd.underlying74 rfl (by kernel_rfl)) rfl ?_
  exact ⟨rfl, by repeat (first | (with_reducible first | exact Below.refl _ _ | apply below_alloc | apply pw_below_drewN | apply below_drew1) | exact Below.refl _ _)⟩
theorem part3 (xs : Array Value) (j : Nat) (v : Value) (h : xs[j]? = some v) (w : World) : (part 3 xs j).run Tryd.prog w = .ok v w := by
  unfold part
  simp [go_sem, h]
theorem item3 (X Y : Array Value) (j : Nat) (is : List Nat) (a b : Int) (r : Bool) (w : World) (hx : X[j]? = some (.int .i64 a)) (hy : Y[j]? = some (.int .i64 b)) (h : (Op.eqItems 9999 3 1 X Y is).run Tryd.prog w = .ok r w) :
    (Op.eqItems 9999 3 1 X Y (j :: is)).run Tryd.prog w = .ok ((a == b) && r) w := by
  have hu := Tryd.underlying3
  have e : (Op.equalIn 9999 3 (.int .i64 a) (.int .i64 b)).run Tryd.prog w = .ok (a == b) w := run_equalIn_int w 9998 _ _ _ a b hu
  simp only [Op.eqItems, Sem.run_bind, Nat.mul_one]
  rw [part3 X j _ hx, Result.andThen_ok, part3 Y j _ hy, Result.andThen_ok, e, Result.andThen_ok]
  cases (a == b) <;> simp [h]
theorem eq4 (x0 x1 x2 x3 y0 y1 y2 y3 : Int) (w : World) : (Op.equalIn 10000 74 (.agg #[.int .i64 x0, .int .i64 x1, .int .i64 x2, .int .i64 x3]) (.agg #[.int .i64 y0, .int .i64 y1, .int .i64 y2, .int .i64 y3])).run Tryd.prog w = .ok (x0 == y0 && (x1 == y1 && (x2 == y2 && (x3 == y3 && true)))) w := by
  have hs : (Tryd.prog.info? 3).isSome = true := by kernel_rfl
  obtain ⟨i, hi⟩ := Option.isSome_iff_exists.1 hs
  rw [run_equalIn_array w 9999 #[.int .i64 x0, .int .i64 x1, .int .i64 x2, .int .i64 x3] #[.int .i64 y0, .int .i64 y1, .int .i64 y2, .int .i64 y3] Tryd.underlying74 hi, show Tryd.prog.cellsOf 3 = 1 by kernel_rfl, show List.range 4 = [0, 1, 2, 3] from rfl]
  exact item3 _ _ 0 _ x0 y0 _ w rfl rfl (item3 _ _ 1 _ x1 y1 _ w rfl rfl (item3 _ _ 2 _ x2 y2 _ w rfl rfl (item3 _ _ 3 _ x3 y3 _ w rfl rfl (by simp [Op.eqItems]))))
theorem lessI_sc (a b : Int) : QSc.cmp_Compare_int.f a b = some (Wc.lessI a b) := by
  unfold QSc.cmp_Compare_int.f QSc.cmp_isNaN_int.f Wc.lessI
  simp
  split <;> (try split) <;> rfl
def ord4 (x0 x1 x2 x3 y0 y1 y2 y3 : Int) : Int := Wc.lexL Wc.lessI [x0, x1, x2, x3] [y0, y1, y2, y3]
theorem sc4 (x0 x1 x2 x3 y0 y1 y2 y3 : Int) : QSc.slices_Compare_int_int.f 6 [x0, x1, x2, x3] [y0, y1, y2, y3] = some (ord4 x0 x1 x2 x3 y0 y1 y2 y3) := by
  unfold QSc.slices_Compare_int_int.f ord4
  simp only [QSc.slices_Compare_int_int.l0, lessI_sc, Option.bind_some, Wc.lexL]
  have w0 : wrap64 1 = 1 := by unfold wrap64; omega
  have w1 : wrap64 2 = 2 := by unfold wrap64; omega
  have w2 : wrap64 3 = 3 := by unfold wrap64; omega
  have w3 : wrap64 4 = 4 := by unfold wrap64; omega
  simp [rd, w0, w1, w2, w3]
  by_cases h0 : Wc.lessI x0 y0 = 0
  · by_cases h1 : Wc.lessI x1 y1 = 0
    · by_cases h2 : Wc.lessI x2 y2 = 0
      · by_cases h3 : Wc.lessI x3 y3 = 0 <;> simp [h0, h1, h2, h3]
      · simp [h0, h1, h2]
    · simp [h0, h1]
  · simp [h0]
/-- Does the one end ahead of the other? -/
def lessF (n1 n2 : ByteArray) (b1 b2 : Int) (o1 o2 : ByteArray) (p1 p2 : Int) (r1 r2 : Bool) : Bool :=
  if ((one !o1.toList.isEmpty) == (one !o2.toList.isEmpty) && (one (p1 == 1) == one (p2 == 1) && (one r1 == one r2 && (wrap64 (-1 - b1) == wrap64 (-1 - b2) && true)))) = true then decide (0 < Wc.cmpW n1 n2)
  else decide (ord4 (one !o1.toList.isEmpty) (one (p1 == 1)) (one r1) (wrap64 (-1 - b1)) (one !o2.toList.isEmpty) (one (p2 == 1)) (one r2) (wrap64 (-1 - b2)) < 0)
set_option maxHeartbeats 16000000 in
set_option maxRecDepth 100000 in
theorem less_calls (cs ds : Array Value) (n1 n2 : ByteArray) (b1 b2 : Int) (o1 o2 : ByteArray) (p1 p2 : Int) (r1 r2 : Bool) (h : Pod cs n1 b1 o1 p1 r1) (g : Pod ds n2 b2 o2 p2 r2) (m1 : n1.size ≤ 140737488351232) (m2 : n2.size ≤ 140737488351232) (w : World) :
    Calls Tryd.prog 12 #[.agg cs, .agg ds] w fun e w' => e = .returned (.bool (lessF n1 n2 b1 b2 o1 o2 p1 p2 r1 r2)) ∧ Below w.heap.size w w' := by
  unfold lessF
  have hs := h.size
  have gs := g.size
  have hi1 : (Tryd.prog.info? 27).map (·.size) = some cs.size := by rw [hs]; kernel_rfl
  have hi2 : (Tryd.prog.info? 27).map (·.size) = some ds.size := by rw [gs]; kernel_rfl
  have Q1 := fun W => of_calls cs n1 b1 o1 p1 r1 h W
  have Q2 := fun W => of_calls ds n2 b2 o2 p2 r2 g W
  simp only [ordV] at Q1 Q2
  obtain ⟨x0, hx0⟩ : ∃ x, x = one !o1.toList.isEmpty := ⟨_, rfl⟩
  obtain ⟨x1, hx1⟩ : ∃ x, x = one (p1 == 1) := ⟨_, rfl⟩
  obtain ⟨x2, hx2⟩ : ∃ x, x = one r1 := ⟨_, rfl⟩
  obtain ⟨x3, hx3⟩ : ∃ x, x = wrap64 (-1 - b1) := ⟨_, rfl⟩
  obtain ⟨y0, hy0⟩ : ∃ x, x = one !o2.toList.isEmpty := ⟨_, rfl⟩
  obtain ⟨y1, hy1⟩ : ∃ x, x = one (p2 == 1) := ⟨_, rfl⟩
  obtain ⟨y2, hy2⟩ : ∃ x, x = one r2 := ⟨_, rfl⟩
  obtain ⟨y3, hy3⟩ : ∃ x, x = wrap64 (-1 - b2) := ⟨_, rfl⟩
  rw [← hx0, ← hx1, ← hx2, ← hx3] at Q1 ⊢
  rw [← hy0, ← hy1, ← hy2, ← hy3] at Q2 ⊢
  obtain ⟨E, hE⟩ : ∃ E, E = (x0 == y0 && (x1 == y1 && (x2 == y2 && (x3 == y3 && true)))) := ⟨_, rfl⟩
  have qE : ∀ W, (Op.equalIn 10000 74 (.agg #[.int .i64 x0, .int .i64 x1, .int .i64 x2, .int .i64 x3]) (.agg #[.int .i64 y0, .int .i64 y1, .int .i64 y2, .int .i64 y3])).run Tryd.prog W = .ok E W := fun W => (eq4 x0 x1 x2 x3 y0 y1 y2 y3 W).trans (by rw [hE])
  rw [← hE]
  have QE := Lib.hid qE
  obtain ⟨cw, hcw⟩ : ∃ c, c = Wc.cmpW n1 n2 := ⟨_, rfl⟩
  have QW := Lib.hid (fun W => Wc.words_calls n1 n2 cw W (by unfold Wc.cmpO; rw [if_pos ⟨m1, m2⟩, hcw]))
  obtain ⟨o4, ho4⟩ : ∃ c, c = ord4 x0 x1 x2 x3 y0 y1 y2 y3 := ⟨_, rfl⟩
  have hsc0 := sc4 x0 x1 x2 x3 y0 y1 y2 y3
  rw [← ho4] at hsc0
  have hsc := Lib.hid hsc0
  clear hsc0
  rw [← hcw, ← ho4]
  clear qE hE hcw ho4
  have HX := Lib.hid (And.intro hx0 (And.intro hx1 (And.intro hx2 hx3)))
  have HY := Lib.hid (And.intro hy0 (And.intro hy1 (And.intro hy2 hy3)))
  replace Q1 := Lib.hid Q1
  replace Q2 := Lib.hid Q2
  have HG := Lib.hid (And.intro h g)
  have HI1 := Lib.hid hi1
  have HI2 := Lib.hid hi2
  clear hi1 hi2 h g hs gs hx0 hx1 hx2 hx3 hy0 hy1 hy2 hy3
  go_enter Tryd.func12, Tryd.ntmps12
  go_wp2
  have HW : Below w.heap.size w ((w.alloc (Obj.cells cs 27)).alloc (Obj.cells ds 27)) := Go.Joins.below_alloc2 w _ _
  have B1 : ((w.alloc (Obj.cells cs 27)).alloc (Obj.cells ds 27)).heap[w.heap.size]? = some (.cells cs 27 (0, 0)) := (heap_alloc_old _ _ (by simp)).trans (heap_alloc_new w _)
  have B2 : ((w.alloc (Obj.cells cs 27)).alloc (Obj.cells ds 27)).heap[w.heap.size + 1]? = some (.cells ds 27 (0, 0)) := heap_alloc2_new w _ _
  generalize ((w.alloc (Obj.cells cs 27)).alloc (Obj.cells ds 27)) = W0 at HW B1 B2 ⊢
  obtain ⟨ga, hga⟩ : ∃ x, x = w.heap.size := ⟨_, rfl⟩
  obtain ⟨gb, hgb⟩ : ∃ x, x = w.heap.size + 1 := ⟨_, rfl⟩
  rw [← hgb] at B2 ⊢
  rw [← hga] at B1 ⊢
  have A1 := blkLt B1
  have A2 := blkLt B2
  have HB : Below W0.heap.size W0 W0.drew := below_drew (Below.refl _ _)
  replace HW := Lib.hid HW
  clear hga hgb
  refine start_ (n := 8) (S := fun w' => w'.heap[ga]? = some (.cells cs 27 (0, 0)) ∧ w'.heap[gb]? = some (.cells ds 27 (0, 0))) (ds := []) #[false, false, false, false, false, false, false, false] (by kernel_rfl) rfl rfl ⟨B1, B2⟩ (fun hHeld => ?_)
  refine with_tabW rg12_1_tab rg12_1_bits (fun HT_ HW_ => ?_)
  refine take_ (i := 0) (N := some 7) (v := ?_) (a' := ?_) #[true, false, false, false, false, false, false, false] rfl rfl (take_ofW HT_.out HW_.out (by kernel_rfl)) (fun _ _ _ h => h) (Or.inl ⟨by rfl, ?_⟩) hHeld ?_ ?_
  rotate_left
  · rintro w' ⟨s0, s1⟩
    refine load_row (x := .tmp 2) ?_ ?_ s0 Tryd.underlying27 rfl HI1.out <;> rfl
  rotate_left
  · simp only [Act.put, List.setIfInBounds_toArray, List.set_cons_zero, List.set_cons_succ, i64_w, i32_w]
    rfl
  refine take_ (i := 2) (N := some 9) (v := ?_) (a' := ?_) #[true, false, true, false, false, false, false, false] rfl rfl (take_ofW HT_.out HW_.out (by kernel_rfl)) (fun _ _ _ h => h) (Or.inl ⟨by rfl, ?_⟩) hHeld ?_ ?_
  rotate_left
  · rintro w' ⟨s0, s1⟩
    refine load_row (x := .tmp 3) ?_ ?_ s1 Tryd.underlying27 rfl HI2.out <;> rfl
  rotate_left
  · simp only [Act.put, List.setIfInBounds_toArray, List.set_cons_zero, List.set_cons_succ, i64_w, i32_w]
    rfl
  refine join_ (σ := Nat × Nat) 2 #[true, true, true, true, true, true, false, false] (fun s => [(8, .agg #[.int .i64 x0, .int .i64 x1, .int .i64 x2, .int .i64 x3]), (10, .agg #[.int .i64 y0, .int .i64 y1, .int .i64 y2, .int .i64 y3]), (5, .pointer (some ⟨s.1, 0, none⟩)), (6, .pointer (some ⟨s.2, 0, none⟩))]) (fun s w' => (w'.heap[ga]? = some (.cells cs 27 (0, 0)) ∧ w'.heap[gb]? = some (.cells ds 27 (0, 0))) ∧ Below W0.heap.size W0 w' ∧ w'.heap[s.1]? = some (.cells #[.int .i64 0, .int .i64 0, .int .i64 0, .int .i64 0] 74 (0, 0)) ∧ w'.heap[s.2]? = some (.cells #[.int .i64 0, .int .i64 0, .int .i64 0, .int .i64 0] 74 (0, 0)) ∧ W0.heap.size ≤ s.1 ∧ W0.heap.size ≤ s.2 ∧ s.1 ≠ s.2) ?_ ?_
  rotate_left
  · intro hCont
    refine three_ (i := 1) (j := 4) (k := 5) (Ni := some 8) (Nj := some 5) (Nk := some 6) #[true, true, true, false, false, false, false, false] #[true, false, true, false, true, false, false, false] #[true, false, true, false, false, true, false, false] rfl rfl rfl rfl rfl rfl (three_of HT_.out (by kernel_rfl)) (by decide) (by decide) (by decide) (fun K hK => ?_) (fun K hK => ?_) (fun K hK => ?_)
    · skip
      refine goes_ Tryd.func41 (by kernel_rfl) rfl #[.agg cs] (by rfl) rfl rfl (by (try simp only [List.map_toArray, List.map_cons, List.map_nil]); first | done | rfl) ?_
      with_reducible refine (Q1.out _).mono ?_
      rintro e w1 ⟨rfl, hb⟩
      replace B1 := blkB hb B1
      replace B2 := blkB hb B2
      replace HB := belT HB hb
      clear hb
      refine ⟨_, rfl, ?_⟩
      refine hK.out _ _ ⟨B1, B2⟩ (fun hHeld => ?_)
      clear hK K
      refine norm_ (a' := ?_) ?_ ?_
      rotate_left
      · show Act.put _ (some 8) _ = _
        simp only [Act.put, List.setIfInBounds_toArray, List.set_cons_zero, List.set_cons_succ, i64_w, i32_w]
        rfl
      refine three_ (i := 3) (j := 4) (k := 5) (Ni := some 10) (Nj := some 5) (Nk := some 6) #[true, true, true, true, false, false, false, false] #[true, true, true, false, true, false, false, false] #[true, true, true, false, false, true, false, false] rfl rfl rfl rfl rfl rfl (three_of HT_.out (by kernel_rfl)) (by decide) (by decide) (by decide) (fun K hK => ?_) (fun K hK => ?_) (fun K hK => ?_)
      · skip
        refine goes_ Tryd.func41 (by kernel_rfl) rfl #[.agg ds] (by rfl) rfl rfl (by (try simp only [List.map_toArray, List.map_cons, List.map_nil]); first | done | rfl) ?_
        with_reducible refine (Q2.out _).mono ?_
        rintro e w1 ⟨rfl, hb⟩
        replace B1 := blkB hb B1
        replace B2 := blkB hb B2
        replace HB := belT HB hb
        clear hb
        refine ⟨_, rfl, ?_⟩
        refine hK.out _ _ ⟨B1, B2⟩ (fun hHeld => ?_)
        clear hK K
        refine norm_ (a' := ?_) ?_ ?_
        rotate_left
        · show Act.put _ (some 10) _ = _
          simp only [Act.put, List.setIfInBounds_toArray, List.set_cons_zero, List.set_cons_succ, i64_w, i32_w]
          rfl
        refine two_ (i := 4) (j := 5) (Ni := some 5) (Nj := some 6) #[true, true, true, true, true, false, false, false] #[true, true, true, true, false, true, false, false] rfl rfl rfl rfl (two_of HT_.out (by kernel_rfl)) (by decide) (by decide) (fun K hK => ?_) (fun K hK => ?_)
        · skip
          refine allocs_ (z := #[.int .i64 0, .int .i64 0, .int .i64 0, .int .i64 0]) (t := 74) (by rfl) rfl (by first | (go_simp; done) | (go_simp; rfl)) ?_
          intro g5 w5 hg5 G5 hb
          have L5 : W0.heap.size ≤ g5 := by rw [hg5]; exact HB.size
          replace B1 := blkB hb B1
          replace B2 := blkB hb B2
          replace HB := belT HB hb
          clear hb
          refine hK.out _ _ ⟨B1, B2⟩ (fun hHeld => ?_)
          clear hK K
          refine norm_ (a' := ?_) ?_ ?_
          rotate_left
          · show Act.put _ (some 5) _ = _
            simp only [Act.put, List.setIfInBounds_toArray, List.set_cons_zero, List.set_cons_succ, i64_w, i32_w]
            rfl
          refine one_ (i := 5) (N := some 6) #[true, true, true, true, true, true, false, false] rfl rfl (one_of HT_.out (by kernel_rfl)) (by decide) (fun K hK => ?_)
          refine allocs_ (z := #[.int .i64 0, .int .i64 0, .int .i64 0, .int .i64 0]) (t := 74) (by rfl) rfl (by first | (go_simp; done) | (go_simp; rfl)) ?_
          intro g6 w6 hg6 G6 hb
          have L6 : W0.heap.size ≤ g6 := by rw [hg6]; exact HB.size
          have N56 : g5 ≠ g6 := by have := blkLt G5; omega
          replace B1 := blkB hb B1
          replace B2 := blkB hb B2
          replace G5 := blkB hb G5
          replace HB := belT HB hb
          clear hb
          refine hK.out _ _ ⟨B1, B2⟩ (fun hHeld => ?_)
          clear hK K
          refine norm_ (a' := ?_) ?_ ?_
          rotate_left
          · show Act.put _ (some 6) _ = _
            simp only [Act.put, List.setIfInBounds_toArray, List.set_cons_zero, List.set_cons_succ, i64_w, i32_w]
            rfl
          exact norm_ (by simp only [putAll, Act.put, List.setIfInBounds_toArray, List.set_cons_zero, List.set_cons_succ]) (hCont (g5, g6) _ ⟨⟨B1, B2⟩, HB, G5, G6, L5, L6, N56⟩)
        · skip
          refine allocs_ (z := #[.int .i64 0, .int .i64 0, .int .i64 0, .int .i64 0]) (t := 74) (by rfl) rfl (by first | (go_simp; done) | (go_simp; rfl)) ?_
          intro g6 w6 hg6 G6 hb
          have L6 : W0.heap.size ≤ g6 := by rw [hg6]; exact HB.size
          replace B1 := blkB hb B1
          replace B2 := blkB hb B2
          replace HB := belT HB hb
          clear hb
          refine hK.out _ _ ⟨B1, B2⟩ (fun hHeld => ?_)
          clear hK K
          refine norm_ (a' := ?_) ?_ ?_
          rotate_left
          · show Act.put _ (some 6) _ = _
            simp only [Act.put, List.setIfInBounds_toArray, List.set_cons_zero, List.set_cons_succ, i64_w, i32_w]
            rfl
          refine one_ (i := 4) (N := some 5) #[true, true, true, true, true, true, false, false] rfl rfl (one_of HT_.out (by kernel_rfl)) (by decide) (fun K hK => ?_)
          refine allocs_ (z := #[.int .i64 0, .int .i64 0, .int .i64 0, .int .i64 0]) (t := 74) (by rfl) rfl (by first | (go_simp; done) | (go_simp; rfl)) ?_
          intro g5 w5 hg5 G5 hb
          have L5 : W0.heap.size ≤ g5 := by rw [hg5]; exact HB.size
          have N56 : g5 ≠ g6 := by have := blkLt G6; omega
          replace B1 := blkB hb B1
          replace B2 := blkB hb B2
          replace G6 := blkB hb G6
          replace HB := belT HB hb
          clear hb
          refine hK.out _ _ ⟨B1, B2⟩ (fun hHeld => ?_)
          clear hK K
          refine norm_ (a' := ?_) ?_ ?_
          rotate_left
          · show Act.put _ (some 5) _ = _
            simp only [Act.put, List.setIfInBounds_toArray, List.set_cons_zero, List.set_cons_succ, i64_w, i32_w]
            rfl
          exact norm_ (by simp only [putAll, Act.put, List.setIfInBounds_toArray, List.set_cons_zero, List.set_cons_succ]) (hCont (g5, g6) _ ⟨⟨B1, B2⟩, HB, G5, G6, L5, L6, N56⟩)
      · skip
        refine allocs_ (z := #[.int .i64 0, .int .i64 0, .int .i64 0, .int .i64 0]) (t := 74) (by rfl) rfl (by first | (go_simp; done) | (go_simp; rfl)) ?_
        intro g5 w5 hg5 G5 hb
        have L5 : W0.heap.size ≤ g5 := by rw [hg5]; exact HB.size
        replace B1 := blkB hb B1
        replace B2 := blkB hb B2
        replace HB := belT HB hb
        clear hb
        refine hK.out _ _ ⟨B1, B2⟩ (fun hHeld => ?_)
        clear hK K
        refine norm_ (a' := ?_) ?_ ?_
        rotate_left
        · show Act.put _ (some 5) _ = _
          simp only [Act.put, List.setIfInBounds_toArray, List.set_cons_zero, List.set_cons_succ, i64_w, i32_w]
          rfl
        refine two_ (i := 3) (j := 5) (Ni := some 10) (Nj := some 6) #[true, true, true, true, true, false, false, false] #[true, true, true, false, true, true, false, false] rfl rfl rfl rfl (two_of HT_.out (by kernel_rfl)) (by decide) (by decide) (fun K hK => ?_) (fun K hK => ?_)
        · skip
          refine goes_ Tryd.func41 (by kernel_rfl) rfl #[.agg ds] (by rfl) rfl rfl (by (try simp only [List.map_toArray, List.map_cons, List.map_nil]); first | done | rfl) ?_
          with_reducible refine (Q2.out _).mono ?_
          rintro e w1 ⟨rfl, hb⟩
          replace B1 := blkB hb B1
          replace B2 := blkB hb B2
          replace G5 := blkB hb G5
          replace HB := belT HB hb
          clear hb
          refine ⟨_, rfl, ?_⟩
          refine hK.out _ _ ⟨B1, B2⟩ (fun hHeld => ?_)
          clear hK K
          refine norm_ (a' := ?_) ?_ ?_
          rotate_left
          · show Act.put _ (some 10) _ = _
            simp only [Act.put, List.setIfInBounds_toArray, List.set_cons_zero, List.set_cons_succ, i64_w, i32_w]
            rfl
          refine one_ (i := 5) (N := some 6) #[true, true, true, true, true, true, false, false] rfl rfl (one_of HT_.out (by kernel_rfl)) (by decide) (fun K hK => ?_)
          refine allocs_ (z := #[.int .i64 0, .int .i64 0, .int .i64 0, .int .i64 0]) (t := 74) (by rfl) rfl (by first | (go_simp; done) | (go_simp; rfl)) ?_
          intro g6 w6 hg6 G6 hb
          have L6 : W0.heap.size ≤ g6 := by rw [hg6]; exact HB.size
          have N56 : g5 ≠ g6 := by have := blkLt G5; omega
          replace B1 := blkB hb B1
          replace B2 := blkB hb B2
          replace G5 := blkB hb G5
          replace HB := belT HB hb
          clear hb
          refine hK.out _ _ ⟨B1, B2⟩ (fun hHeld => ?_)
          clear hK K
          refine norm_ (a' := ?_) ?_ ?_
          rotate_left
          · show Act.put _ (some 6) _ = _
            simp only [Act.put, List.setIfInBounds_toArray, List.set_cons_zero, List.set_cons_succ, i64_w, i32_w]
            rfl
          exact norm_ (by simp only [putAll, Act.put, List.setIfInBounds_toArray, List.set_cons_zero, List.set_cons_succ]) (hCont (g5, g6) _ ⟨⟨B1, B2⟩, HB, G5, G6, L5, L6, N56⟩)
        · skip
          refine allocs_ (z := #[.int .i64 0, .int .i64 0, .int .i64 0, .int .i64 0]) (t := 74) (by rfl) rfl (by first | (go_simp; done) | (go_simp; rfl)) ?_
          intro g6 w6 hg6 G6 hb
          have L6 : W0.heap.size ≤ g6 := by rw [hg6]; exact HB.size
          have N56 : g5 ≠ g6 := by have := blkLt G5; omega
          replace B1 := blkB hb B1
          replace B2 := blkB hb B2
          replace G5 := blkB hb G5
          replace HB := belT HB hb
          clear hb
          refine hK.out _ _ ⟨B1, B2⟩ (fun hHeld => ?_)
          clear hK K
          refine norm_ (a' := ?_) ?_ ?_
          rotate_left
          · show Act.put _ (some 6) _ = _
            simp only [Act.put, List.setIfInBounds_toArray, List.set_cons_zero, List.set_cons_succ, i64_w, i32_w]
            rfl
          refine one_ (i := 3) (N := some 10) #[true, true, true, true, true, true, false, false] rfl rfl (one_of HT_.out (by kernel_rfl)) (by decide) (fun K hK => ?_)
          refine goes_ Tryd.func41 (by kernel_rfl) rfl #[.agg ds] (by rfl) rfl rfl (by (try simp only [List.map_toArray, List.map_cons, List.map_nil]); first | done | rfl) ?_
          with_reducible refine (Q2.out _).mono ?_
          rintro e w1 ⟨rfl, hb⟩
          replace B1 := blkB hb B1
          replace B2 := blkB hb B2
          replace G5 := blkB hb G5
          replace G6 := blkB hb G6
          replace HB := belT HB hb
          clear hb
          refine ⟨_, rfl, ?_⟩
          refine hK.out _ _ ⟨B1, B2⟩ (fun hHeld => ?_)
          clear hK K
          refine norm_ (a' := ?_) ?_ ?_
          rotate_left
          · show Act.put _ (some 10) _ = _
            simp only [Act.put, List.setIfInBounds_toArray, List.set_cons_zero, List.set_cons_succ, i64_w, i32_w]
            rfl
          exact norm_ (by simp only [putAll, Act.put, List.setIfInBounds_toArray, List.set_cons_zero, List.set_cons_succ]) (hCont (g5, g6) _ ⟨⟨B1, B2⟩, HB, G5, G6, L5, L6, N56⟩)
      · skip
        refine allocs_ (z := #[.int .i64 0, .int .i64 0, .int .i64 0, .int .i64 0]) (t := 74) (by rfl) rfl (by first | (go_simp; done) | (go_simp; rfl)) ?_
        intro g6 w6 hg6 G6 hb
        have L6 : W0.heap.size ≤ g6 := by rw [hg6]; exact HB.size
        replace B1 := blkB hb B1
        replace B2 := blkB hb B2
        replace HB := belT HB hb
        clear hb
        refine hK.out _ _ ⟨B1, B2⟩ (fun hHeld => ?_)
        clear hK K
        refine norm_ (a' := ?_) ?_ ?_
        rotate_left
        · show Act.put _ (some 6) _ = _
          simp only [Act.put, List.setIfInBounds_toArray, List.set_cons_zero, List.set_cons_succ, i64_w, i32_w]
          rfl
        refine two_ (i := 3) (j := 4) (Ni := some 10) (Nj := some 5) #[true, true, true, true, false, true, false, false] #[true, true, true, false, true, true, false, false] rfl rfl rfl rfl (two_of HT_.out (by kernel_rfl)) (by decide) (by decide) (fun K hK => ?_) (fun K hK => ?_)
        · skip
          refine goes_ Tryd.func41 (by kernel_rfl) rfl #[.agg ds] (by rfl) rfl rfl (by (try simp only [List.map_toArray, List.map_cons, List.map_nil]); first | done | rfl) ?_
          with_reducible refine (Q2.out _).mono ?_
          rintro e w1 ⟨rfl, hb⟩
          replace B1 := blkB hb B1
          replace B2 := blkB hb B2
          replace G6 := blkB hb G6
          replace HB := belT HB hb
          clear hb
          refine ⟨_, rfl, ?_⟩
          refine hK.out _ _ ⟨B1, B2⟩ (fun hHeld => ?_)
          clear hK K
          refine norm_ (a' := ?_) ?_ ?_
          rotate_left
          · show Act.put _ (some 10) _ = _
            simp only [Act.put, List.setIfInBounds_toArray, List.set_cons_zero, List.set_cons_succ, i64_w, i32_w]
            rfl
          refine one_ (i := 4) (N := some 5) #[true, true, true, true, true, true, false, false] rfl rfl (one_of HT_.out (by kernel_rfl)) (by decide) (fun K hK => ?_)
          refine allocs_ (z := #[.int .i64 0, .int .i64 0, .int .i64 0, .int .i64 0]) (t := 74) (by rfl) rfl (by first | (go_simp; done) | (go_simp; rfl)) ?_
          intro g5 w5 hg5 G5 hb
          have L5 : W0.heap.size ≤ g5 := by rw [hg5]; exact HB.size
          have N56 : g5 ≠ g6 := by have := blkLt G6; omega
          replace B1 := blkB hb B1
          replace B2 := blkB hb B2
          replace G6 := blkB hb G6
          replace HB := belT HB hb
          clear hb
          refine hK.out _ _ ⟨B1, B2⟩ (fun hHeld => ?_)
          clear hK K
          refine norm_ (a' := ?_) ?_ ?_
          rotate_left
          · show Act.put _ (some 5) _ = _
            simp only [Act.put, List.setIfInBounds_toArray, List.set_cons_zero, List.set_cons_succ, i64_w, i32_w]
            rfl
          exact norm_ (by simp only [putAll, Act.put, List.setIfInBounds_toArray, List.set_cons_zero, List.set_cons_succ]) (hCont (g5, g6) _ ⟨⟨B1, B2⟩, HB, G5, G6, L5, L6, N56⟩)
        · skip
          refine allocs_ (z := #[.int .i64 0, .int .i64 0, .int .i64 0, .int .i64 0]) (t := 74) (by rfl) rfl (by first | (go_simp; done) | (go_simp; rfl)) ?_
          intro g5 w5 hg5 G5 hb
          have L5 : W0.heap.size ≤ g5 := by rw [hg5]; exact HB.size
          have N56 : g5 ≠ g6 := by have := blkLt G6; omega
          replace B1 := blkB hb B1
          replace B2 := blkB hb B2
          replace G6 := blkB hb G6
          replace HB := belT HB hb
          clear hb
          refine hK.out _ _ ⟨B1, B2⟩ (fun hHeld => ?_)
          clear hK K
          refine norm_ (a' := ?_) ?_ ?_
          rotate_left
          · show Act.put _ (some 5) _ = _
            simp only [Act.put, List.setIfInBounds_toArray, List.set_cons_zero, List.set_cons_succ, i64_w, i32_w]
            rfl
          refine one_ (i := 3) (N := some 10) #[true, true, true, true, true, true, false, false] rfl rfl (one_of HT_.out (by kernel_rfl)) (by decide) (fun K hK => ?_)
          refine goes_ Tryd.func41 (by kernel_rfl) rfl #[.agg ds] (by rfl) rfl rfl (by (try simp only [List.map_toArray, List.map_cons, List.map_nil]); first | done | rfl) ?_
          with_reducible refine (Q2.out _).mono ?_
          rintro e w1 ⟨rfl, hb⟩
          replace B1 := blkB hb B1
          replace B2 := blkB hb B2
          replace G5 := blkB hb G5
          replace G6 := blkB hb G6
          replace HB := belT HB hb
          clear hb
          refine ⟨_, rfl, ?_⟩
          refine hK.out _ _ ⟨B1, B2⟩ (fun hHeld => ?_)
          clear hK K
          refine norm_ (a' := ?_) ?_ ?_
          rotate_left
          · show Act.put _ (some 10) _ = _
            simp only [Act.put, List.setIfInBounds_toArray, List.set_cons_zero, List.set_cons_succ, i64_w, i32_w]
            rfl
          exact norm_ (by simp only [putAll, Act.put, List.setIfInBounds_toArray, List.set_cons_zero, List.set_cons_succ]) (hCont (g5, g6) _ ⟨⟨B1, B2⟩, HB, G5, G6, L5, L6, N56⟩)
    · skip
      refine allocs_ (z := #[.int .i64 0, .int .i64 0, .int .i64 0, .int .i64 0]) (t := 74) (by rfl) rfl (by first | (go_simp; done) | (go_simp; rfl)) ?_
      intro g5 w5 hg5 G5 hb
      have L5 : W0.heap.size ≤ g5 := by rw [hg5]; exact HB.size
      replace B1 := blkB hb B1
      replace B2 := blkB hb B2
      replace HB := belT HB hb
      clear hb
      refine hK.out _ _ ⟨B1, B2⟩ (fun hHeld => ?_)
      clear hK K
      refine norm_ (a' := ?_) ?_ ?_
      rotate_left
      · show Act.put _ (some 5) _ = _
        simp only [Act.put, List.setIfInBounds_toArray, List.set_cons_zero, List.set_cons_succ, i64_w, i32_w]
        rfl
      refine two_ (i := 1) (j := 5) (Ni := some 8) (Nj := some 6) #[true, true, true, false, true, false, false, false] #[true, false, true, false, true, true, false, false] rfl rfl rfl rfl (two_of HT_.out (by kernel_rfl)) (by decide) (by decide) (fun K hK => ?_) (fun K hK => ?_)
      · skip
        refine goes_ Tryd.func41 (by kernel_rfl) rfl #[.agg cs] (by rfl) rfl rfl (by (try simp only [List.map_toArray, List.map_cons, List.map_nil]); first | done | rfl) ?_
        with_reducible refine (Q1.out _).mono ?_
        rintro e w1 ⟨rfl, hb⟩
        replace B1 := blkB hb B1
        replace B2 := blkB hb B2
        replace G5 := blkB hb G5
        replace HB := belT HB hb
        clear hb
        refine ⟨_, rfl, ?_⟩
        refine hK.out _ _ ⟨B1, B2⟩ (fun hHeld => ?_)
        clear hK K
        refine norm_ (a' := ?_) ?_ ?_
        rotate_left
        · show Act.put _ (some 8) _ = _
          simp only [Act.put, List.setIfInBounds_toArray, List.set_cons_zero, List.set_cons_succ, i64_w, i32_w]
          rfl
        refine two_ (i := 3) (j := 5) (Ni := some 10) (Nj := some 6) #[true, true, true, true, true, false, false, false] #[true, true, true, false, true, true, false, false] rfl rfl rfl rfl (two_of HT_.out (by kernel_rfl)) (by decide) (by decide) (fun K hK => ?_) (fun K hK => ?_)
        · skip
          refine goes_ Tryd.func41 (by kernel_rfl) rfl #[.agg ds] (by rfl) rfl rfl (by (try simp only [List.map_toArray, List.map_cons, List.map_nil]); first | done | rfl) ?_
          with_reducible refine (Q2.out _).mono ?_
          rintro e w1 ⟨rfl, hb⟩
          replace B1 := blkB hb B1
          replace B2 := blkB hb B2
          replace G5 := blkB hb G5
          replace HB := belT HB hb
          clear hb
          refine ⟨_, rfl, ?_⟩
          refine hK.out _ _ ⟨B1, B2⟩ (fun hHeld => ?_)
          clear hK K
          refine norm_ (a' := ?_) ?_ ?_
          rotate_left
          · show Act.put _ (some 10) _ = _
            simp only [Act.put, List.setIfInBounds_toArray, List.set_cons_zero, List.set_cons_succ, i64_w, i32_w]
            rfl
          refine one_ (i := 5) (N := some 6) #[true, true, true, true, true, true, false, false] rfl rfl (one_of HT_.out (by kernel_rfl)) (by decide) (fun K hK => ?_)
          refine allocs_ (z := #[.int .i64 0, .int .i64 0, .int .i64 0, .int .i64 0]) (t := 74) (by rfl) rfl (by first | (go_simp; done) | (go_simp; rfl)) ?_
          intro g6 w6 hg6 G6 hb
          have L6 : W0.heap.size ≤ g6 := by rw [hg6]; exact HB.size
          have N56 : g5 ≠ g6 := by have := blkLt G5; omega
          replace B1 := blkB hb B1
          replace B2 := blkB hb B2
          replace G5 := blkB hb G5
          replace HB := belT HB hb
          clear hb
          refine hK.out _ _ ⟨B1, B2⟩ (fun hHeld => ?_)
          clear hK K
          refine norm_ (a' := ?_) ?_ ?_
          rotate_left
          · show Act.put _ (some 6) _ = _
            simp only [Act.put, List.setIfInBounds_toArray, List.set_cons_zero, List.set_cons_succ, i64_w, i32_w]
            rfl
          exact norm_ (by simp only [putAll, Act.put, List.setIfInBounds_toArray, List.set_cons_zero, List.set_cons_succ]) (hCont (g5, g6) _ ⟨⟨B1, B2⟩, HB, G5, G6, L5, L6, N56⟩)
        · skip
          refine allocs_ (z := #[.int .i64 0, .int .i64 0, .int .i64 0, .int .i64 0]) (t := 74) (by rfl) rfl (by first | (go_simp; done) | (go_simp; rfl)) ?_
          intro g6 w6 hg6 G6 hb
          have L6 : W0.heap.size ≤ g6 := by rw [hg6]; exact HB.size
          have N56 : g5 ≠ g6 := by have := blkLt G5; omega
          replace B1 := blkB hb B1
          replace B2 := blkB hb B2
          replace G5 := blkB hb G5
          replace HB := belT HB hb
          clear hb
          refine hK.out _ _ ⟨B1, B2⟩ (fun hHeld => ?_)
          clear hK K
          refine norm_ (a' := ?_) ?_ ?_
          rotate_left
          · show Act.put _ (some 6) _ = _
            simp only [Act.put, List.setIfInBounds_toArray, List.set_cons_zero, List.set_cons_succ, i64_w, i32_w]
            rfl
          refine one_ (i := 3) (N := some 10) #[true, true, true, true, true, true, false, false] rfl rfl (one_of HT_.out (by kernel_rfl)) (by decide) (fun K hK => ?_)
          refine goes_ Tryd.func41 (by kernel_rfl) rfl #[.agg ds] (by rfl) rfl rfl (by (try simp only [List.map_toArray, List.map_cons, List.map_nil]); first | done | rfl) ?_
          with_reducible refine (Q2.out _).mono ?_
          rintro e w1 ⟨rfl, hb⟩
          replace B1 := blkB hb B1
          replace B2 := blkB hb B2
          replace G5 := blkB hb G5
          replace G6 := blkB hb G6
          replace HB := belT HB hb
          clear hb
          refine ⟨_, rfl, ?_⟩
          refine hK.out _ _ ⟨B1, B2⟩ (fun hHeld => ?_)
          clear hK K
          refine norm_ (a' := ?_) ?_ ?_
          rotate_left
          · show Act.put _ (some 10) _ = _
            simp only [Act.put, List.setIfInBounds_toArray, List.set_cons_zero, List.set_cons_succ, i64_w, i32_w]
            rfl
          exact norm_ (by simp only [putAll, Act.put, List.setIfInBounds_toArray, List.set_cons_zero, List.set_cons_succ]) (hCont (g5, g6) _ ⟨⟨B1, B2⟩, HB, G5, G6, L5, L6, N56⟩)
      · skip
        refine allocs_ (z := #[.int .i64 0, .int .i64 0, .int .i64 0, .int .i64 0]) (t := 74) (by rfl) rfl (by first | (go_simp; done) | (go_simp; rfl)) ?_
        intro g6 w6 hg6 G6 hb
        have L6 : W0.heap.size ≤ g6 := by rw [hg6]; exact HB.size
        have N56 : g5 ≠ g6 := by have := blkLt G5; omega
        replace B1 := blkB hb B1
        replace B2 := blkB hb B2
        replace G5 := blkB hb G5
        replace HB := belT HB hb
        clear hb
        refine hK.out _ _ ⟨B1, B2⟩ (fun hHeld => ?_)
        clear hK K
        refine norm_ (a' := ?_) ?_ ?_
        rotate_left
        · show Act.put _ (some 6) _ = _
          simp only [Act.put, List.setIfInBounds_toArray, List.set_cons_zero, List.set_cons_succ, i64_w, i32_w]
          rfl
        refine one_ (i := 1) (N := some 8) #[true, true, true, false, true, true, false, false] rfl rfl (one_of HT_.out (by kernel_rfl)) (by decide) (fun K hK => ?_)
        refine goes_ Tryd.func41 (by kernel_rfl) rfl #[.agg cs] (by rfl) rfl rfl (by (try simp only [List.map_toArray, List.map_cons, List.map_nil]); first | done | rfl) ?_
        with_reducible refine (Q1.out _).mono ?_
        rintro e w1 ⟨rfl, hb⟩
        replace B1 := blkB hb B1
        replace B2 := blkB hb B2
        replace G5 := blkB hb G5
        replace G6 := blkB hb G6
        replace HB := belT HB hb
        clear hb
        refine ⟨_, rfl, ?_⟩
        refine hK.out _ _ ⟨B1, B2⟩ (fun hHeld => ?_)
        clear hK K
        refine norm_ (a' := ?_) ?_ ?_
        rotate_left
        · show Act.put _ (some 8) _ = _
          simp only [Act.put, List.setIfInBounds_toArray, List.set_cons_zero, List.set_cons_succ, i64_w, i32_w]
          rfl
        refine one_ (i := 3) (N := some 10) #[true, true, true, true, true, true, false, false] rfl rfl (one_of HT_.out (by kernel_rfl)) (by decide) (fun K hK => ?_)
        refine goes_ Tryd.func41 (by kernel_rfl) rfl #[.agg ds] (by rfl) rfl rfl (by (try simp only [List.map_toArray, List.map_cons, List.map_nil]); first | done | rfl) ?_
        with_reducible refine (Q2.out _).mono ?_
        rintro e w1 ⟨rfl, hb⟩
        replace B1 := blkB hb B1
        replace B2 := blkB hb B2
        replace G5 := blkB hb G5
        replace G6 := blkB hb G6
        replace HB := belT HB hb
        clear hb
        refine ⟨_, rfl, ?_⟩
        refine hK.out _ _ ⟨B1, B2⟩ (fun hHeld => ?_)
        clear hK K
        refine norm_ (a' := ?_) ?_ ?_
        rotate_left
        · show Act.put _ (some 10) _ = _
          simp only [Act.put, List.setIfInBounds_toArray, List.set_cons_zero, List.set_cons_succ, i64_w, i32_w]
          rfl
        exact norm_ (by simp only [putAll, Act.put, List.setIfInBounds_toArray, List.set_cons_zero, List.set_cons_succ]) (hCont (g5, g6) _ ⟨⟨B1, B2⟩, HB, G5, G6, L5, L6, N56⟩)
    · skip
      refine allocs_ (z := #[.int .i64 0, .int .i64 0, .int .i64 0, .int .i64 0]) (t := 74) (by rfl) rfl (by first | (go_simp; done) | (go_simp; rfl)) ?_
      intro g6 w6 hg6 G6 hb
      have L6 : W0.heap.size ≤ g6 := by rw [hg6]; exact HB.size
      replace B1 := blkB hb B1
      replace B2 := blkB hb B2
      replace HB := belT HB hb
      clear hb
      refine hK.out _ _ ⟨B1, B2⟩ (fun hHeld => ?_)
      clear hK K
      refine norm_ (a' := ?_) ?_ ?_
      rotate_left
      · show Act.put _ (some 6) _ = _
        simp only [Act.put, List.setIfInBounds_toArray, List.set_cons_zero, List.set_cons_succ, i64_w, i32_w]
        rfl
      refine two_ (i := 1) (j := 4) (Ni := some 8) (Nj := some 5) #[true, true, true, false, false, true, false, false] #[true, false, true, false, true, true, false, false] rfl rfl rfl rfl (two_of HT_.out (by kernel_rfl)) (by decide) (by decide) (fun K hK => ?_) (fun K hK => ?_)
      · skip
        refine goes_ Tryd.func41 (by kernel_rfl) rfl #[.agg cs] (by rfl) rfl rfl (by (try simp only [List.map_toArray, List.map_cons, List.map_nil]); first | done | rfl) ?_
        with_reducible refine (Q1.out _).mono ?_
        rintro e w1 ⟨rfl, hb⟩
        replace B1 := blkB hb B1
        replace B2 := blkB hb B2
        replace G6 := blkB hb G6
        replace HB := belT HB hb
        clear hb
        refine ⟨_, rfl, ?_⟩
        refine hK.out _ _ ⟨B1, B2⟩ (fun hHeld => ?_)
        clear hK K
        refine norm_ (a' := ?_) ?_ ?_
        rotate_left
        · show Act.put _ (some 8) _ = _
          simp only [Act.put, List.setIfInBounds_toArray, List.set_cons_zero, List.set_cons_succ, i64_w, i32_w]
          rfl
        refine two_ (i := 3) (j := 4) (Ni := some 10) (Nj := some 5) #[true, true, true, true, false, true, false, false] #[true, true, true, false, true, true, false, false] rfl rfl rfl rfl (two_of HT_.out (by kernel_rfl)) (by decide) (by decide) (fun K hK => ?_) (fun K hK => ?_)
        · skip
          refine goes_ Tryd.func41 (by kernel_rfl) rfl #[.agg ds] (by rfl) rfl rfl (by (try simp only [List.map_toArray, List.map_cons, List.map_nil]); first | done | rfl) ?_
          with_reducible refine (Q2.out _).mono ?_
          rintro e w1 ⟨rfl, hb⟩
          replace B1 := blkB hb B1
          replace B2 := blkB hb B2
          replace G6 := blkB hb G6
          replace HB := belT HB hb
          clear hb
          refine ⟨_, rfl, ?_⟩
          refine hK.out _ _ ⟨B1, B2⟩ (fun hHeld => ?_)
          clear hK K
          refine norm_ (a' := ?_) ?_ ?_
          rotate_left
          · show Act.put _ (some 10) _ = _
            simp only [Act.put, List.setIfInBounds_toArray, List.set_cons_zero, List.set_cons_succ, i64_w, i32_w]
            rfl
          refine one_ (i := 4) (N := some 5) #[true, true, true, true, true, true, false, false] rfl rfl (one_of HT_.out (by kernel_rfl)) (by decide) (fun K hK => ?_)
          refine allocs_ (z := #[.int .i64 0, .int .i64 0, .int .i64 0, .int .i64 0]) (t := 74) (by rfl) rfl (by first | (go_simp; done) | (go_simp; rfl)) ?_
          intro g5 w5 hg5 G5 hb
          have L5 : W0.heap.size ≤ g5 := by rw [hg5]; exact HB.size
          have N56 : g5 ≠ g6 := by have := blkLt G6; omega
          replace B1 := blkB hb B1
          replace B2 := blkB hb B2
          replace G6 := blkB hb G6
          replace HB := belT HB hb
          clear hb
          refine hK.out _ _ ⟨B1, B2⟩ (fun hHeld => ?_)
          clear hK K
          refine norm_ (a' := ?_) ?_ ?_
          rotate_left
          · show Act.put _ (some 5) _ = _
            simp only [Act.put, List.setIfInBounds_toArray, List.set_cons_zero, List.set_cons_succ, i64_w, i32_w]
            rfl
          exact norm_ (by simp only [putAll, Act.put, List.setIfInBounds_toArray, List.set_cons_zero, List.set_cons_succ]) (hCont (g5, g6) _ ⟨⟨B1, B2⟩, HB, G5, G6, L5, L6, N56⟩)
        · skip
          refine allocs_ (z := #[.int .i64 0, .int .i64 0, .int .i64 0, .int .i64 0]) (t := 74) (by rfl) rfl (by first | (go_simp; done) | (go_simp; rfl)) ?_
          intro g5 w5 hg5 G5 hb
          have L5 : W0.heap.size ≤ g5 := by rw [hg5]; exact HB.size
          have N56 : g5 ≠ g6 := by have := blkLt G6; omega
          replace B1 := blkB hb B1
          replace B2 := blkB hb B2
          replace G6 := blkB hb G6
          replace HB := belT HB hb
          clear hb
          refine hK.out _ _ ⟨B1, B2⟩ (fun hHeld => ?_)
          clear hK K
          refine norm_ (a' := ?_) ?_ ?_
          rotate_left
          · show Act.put _ (some 5) _ = _
            simp only [Act.put, List.setIfInBounds_toArray, List.set_cons_zero, List.set_cons_succ, i64_w, i32_w]
            rfl
          refine one_ (i := 3) (N := some 10) #[true, true, true, true, true, true, false, false] rfl rfl (one_of HT_.out (by kernel_rfl)) (by decide) (fun K hK => ?_)
          refine goes_ Tryd.func41 (by kernel_rfl) rfl #[.agg ds] (by rfl) rfl rfl (by (try simp only [List.map_toArray, List.map_cons, List.map_nil]); first | done | rfl) ?_
          with_reducible refine (Q2.out _).mono ?_
          rintro e w1 ⟨rfl, hb⟩
          replace B1 := blkB hb B1
          replace B2 := blkB hb B2
          replace G5 := blkB hb G5
          replace G6 := blkB hb G6
          replace HB := belT HB hb
          clear hb
          refine ⟨_, rfl, ?_⟩
          refine hK.out _ _ ⟨B1, B2⟩ (fun hHeld => ?_)
          clear hK K
          refine norm_ (a' := ?_) ?_ ?_
          rotate_left
          · show Act.put _ (some 10) _ = _
            simp only [Act.put, List.setIfInBounds_toArray, List.set_cons_zero, List.set_cons_succ, i64_w, i32_w]
            rfl
          exact norm_ (by simp only [putAll, Act.put, List.setIfInBounds_toArray, List.set_cons_zero, List.set_cons_succ]) (hCont (g5, g6) _ ⟨⟨B1, B2⟩, HB, G5, G6, L5, L6, N56⟩)
      · skip
        refine allocs_ (z := #[.int .i64 0, .int .i64 0, .int .i64 0, .int .i64 0]) (t := 74) (by rfl) rfl (by first | (go_simp; done) | (go_simp; rfl)) ?_
        intro g5 w5 hg5 G5 hb
        have L5 : W0.heap.size ≤ g5 := by rw [hg5]; exact HB.size
        have N56 : g5 ≠ g6 := by have := blkLt G6; omega
        replace B1 := blkB hb B1
        replace B2 := blkB hb B2
        replace G6 := blkB hb G6
        replace HB := belT HB hb
        clear hb
        refine hK.out _ _ ⟨B1, B2⟩ (fun hHeld => ?_)
        clear hK K
        refine norm_ (a' := ?_) ?_ ?_
        rotate_left
        · show Act.put _ (some 5) _ = _
          simp only [Act.put, List.setIfInBounds_toArray, List.set_cons_zero, List.set_cons_succ, i64_w, i32_w]
          rfl
        refine one_ (i := 1) (N := some 8) #[true, true, true, false, true, true, false, false] rfl rfl (one_of HT_.out (by kernel_rfl)) (by decide) (fun K hK => ?_)
        refine goes_ Tryd.func41 (by kernel_rfl) rfl #[.agg cs] (by rfl) rfl rfl (by (try simp only [List.map_toArray, List.map_cons, List.map_nil]); first | done | rfl) ?_
        with_reducible refine (Q1.out _).mono ?_
        rintro e w1 ⟨rfl, hb⟩
        replace B1 := blkB hb B1
        replace B2 := blkB hb B2
        replace G5 := blkB hb G5
        replace G6 := blkB hb G6
        replace HB := belT HB hb
        clear hb
        refine ⟨_, rfl, ?_⟩
        refine hK.out _ _ ⟨B1, B2⟩ (fun hHeld => ?_)
        clear hK K
        refine norm_ (a' := ?_) ?_ ?_
        rotate_left
        · show Act.put _ (some 8) _ = _
          simp only [Act.put, List.setIfInBounds_toArray, List.set_cons_zero, List.set_cons_succ, i64_w, i32_w]
          rfl
        refine one_ (i := 3) (N := some 10) #[true, true, true, true, true, true, false, false] rfl rfl (one_of HT_.out (by kernel_rfl)) (by decide) (fun K hK => ?_)
        refine goes_ Tryd.func41 (by kernel_rfl) rfl #[.agg ds] (by rfl) rfl rfl (by (try simp only [List.map_toArray, List.map_cons, List.map_nil]); first | done | rfl) ?_
        with_reducible refine (Q2.out _).mono ?_
        rintro e w1 ⟨rfl, hb⟩
        replace B1 := blkB hb B1
        replace B2 := blkB hb B2
        replace G5 := blkB hb G5
        replace G6 := blkB hb G6
        replace HB := belT HB hb
        clear hb
        refine ⟨_, rfl, ?_⟩
        refine hK.out _ _ ⟨B1, B2⟩ (fun hHeld => ?_)
        clear hK K
        refine norm_ (a' := ?_) ?_ ?_
        rotate_left
        · show Act.put _ (some 10) _ = _
          simp only [Act.put, List.setIfInBounds_toArray, List.set_cons_zero, List.set_cons_succ, i64_w, i32_w]
          rfl
        exact norm_ (by simp only [putAll, Act.put, List.setIfInBounds_toArray, List.set_cons_zero, List.set_cons_succ]) (hCont (g5, g6) _ ⟨⟨B1, B2⟩, HB, G5, G6, L5, L6, N56⟩)
  rintro ⟨g5, g6⟩ w4 ⟨⟨B1, B2⟩, HB, G5, G6, L5, L6, N56⟩
  simp only at G5 G6 L5 L6 N56
  refine norm_ (a' := ?_) ?_ ?_
  rotate_left
  · simp only [putAll, Act.put, List.setIfInBounds_toArray, List.set_cons_zero, List.set_cons_succ]
    rfl
  refine one_ (i := 6) (N := none) #[true, true, true, true, true, true, true, false] rfl rfl (one_of HT_.out (by kernel_rfl)) (by decide) (fun K hK => ?_)
  refine stores_ (cs := #[.int .i64 x0, .int .i64 x1, .int .i64 x2, .int .i64 x3]) (x := .tmp 5) (y := .tmp 8) (by rfl) rfl rfl rfl rfl G5 (by kernel_rfl) rfl (by kernel_rfl) ?_
  intro w5 G5' hk hbb
  replace G5 := G5'
  replace G6 := hk _ _ (Ne.symm N56) G6
  replace B1 := hk _ _ (by omega) B1
  replace B2 := hk _ _ (by omega) B2
  replace HB := hbb _ _ HB L5
  clear hk hbb G5'
  refine hK.out _ _ ⟨B1, B2⟩ (fun hHeld => ?_)
  clear hK K
  refine one_ (i := 7) (N := none) #[true, true, true, true, true, true, true, true] rfl rfl (one_of HT_.out (by kernel_rfl)) (by decide) (fun K hK => ?_)
  refine stores_ (cs := #[.int .i64 y0, .int .i64 y1, .int .i64 y2, .int .i64 y3]) (x := .tmp 6) (y := .tmp 10) (by rfl) rfl rfl rfl rfl G6 (by kernel_rfl) rfl (by kernel_rfl) ?_
  intro w6 G6' hk hbb
  replace G6 := G6'
  replace G5 := hk _ _ N56 G5
  replace B1 := hk _ _ (by omega) B1
  replace B2 := hk _ _ (by omega) B2
  replace HB := hbb _ _ HB L6
  clear hk hbb G6'
  refine hK.out _ _ ⟨B1, B2⟩ (fun hHeld => ?_)
  clear hK K
  refine done_ (done_of HT_.out (by kernel_rfl)) ?_
  have c50 : w6.cell? ⟨g5, 0, none⟩ = some (.int .i64 x0) := (cell_of_row _ _ 0 _ _ _ G5).trans rfl
  have c51 : w6.cell? ⟨g5, 1, none⟩ = some (.int .i64 x1) := (cell_of_row _ _ 1 _ _ _ G5).trans rfl
  have c52 : w6.cell? ⟨g5, 2, none⟩ = some (.int .i64 x2) := (cell_of_row _ _ 2 _ _ _ G5).trans rfl
  have c53 : w6.cell? ⟨g5, 3, none⟩ = some (.int .i64 x3) := (cell_of_row _ _ 3 _ _ _ G5).trans rfl
  have c60 : w6.cell? ⟨g6, 0, none⟩ = some (.int .i64 y0) := (cell_of_row _ _ 0 _ _ _ G6).trans rfl
  have c61 : w6.cell? ⟨g6, 1, none⟩ = some (.int .i64 y1) := (cell_of_row _ _ 1 _ _ _ G6).trans rfl
  have c62 : w6.cell? ⟨g6, 2, none⟩ = some (.int .i64 y2) := (cell_of_row _ _ 2 _ _ _ G6).trans rfl
  have c63 : w6.cell? ⟨g6, 3, none⟩ = some (.int .i64 y3) := (cell_of_row _ _ 3 _ _ _ G6).trans rfl
  have cn1 : w6.cell? ⟨ga, 1, none⟩ = some (.string n1) := (cell_of_row _ _ 1 _ _ _ B1).trans HG.out.1.c1
  have cn2 : w6.cell? ⟨gb, 1, none⟩ = some (.string n2) := (cell_of_row _ _ 1 _ _ _ B2).trans HG.out.2.c1
  replace G5 := Lib.hid G5
  replace G6 := Lib.hid G6
  replace B1 := Lib.hid B1
  replace B2 := Lib.hid B2
  replace HB := Lib.hid HB
  have qE := QE.out
  cases E
  · go_wp2
    have KX : Kd.C (Kd.int .i64) w6 (some ⟨g5, 0, none⟩) 4 [x0, x1, x2, x3] := ⟨rfl, by omega, fun _ => ⟨_, rfl, fun j p hj => by
      match j, hj with
      | 0, hj => cases hj; exact ⟨_, rfl, rfl, fun i u hu => by match i, hu with | 0, hu => cases hu; exact c50 | i + 1, hu => simp at hu⟩
      | 1, hj => cases hj; exact ⟨_, rfl, rfl, fun i u hu => by match i, hu with | 0, hu => cases hu; exact c51 | i + 1, hu => simp at hu⟩
      | 2, hj => cases hj; exact ⟨_, rfl, rfl, fun i u hu => by match i, hu with | 0, hu => cases hu; exact c52 | i + 1, hu => simp at hu⟩
      | 3, hj => cases hj; exact ⟨_, rfl, rfl, fun i u hu => by match i, hu with | 0, hu => cases hu; exact c53 | i + 1, hu => simp at hu⟩
      | j + 4, hj => simp at hj⟩⟩
    have KY : Kd.C (Kd.int .i64) w6 (some ⟨g6, 0, none⟩) 4 [y0, y1, y2, y3] := ⟨rfl, by omega, fun _ => ⟨_, rfl, fun j p hj => by
      match j, hj with
      | 0, hj => cases hj; exact ⟨_, rfl, rfl, fun i u hu => by match i, hu with | 0, hu => cases hu; exact c60 | i + 1, hu => simp at hu⟩
      | 1, hj => cases hj; exact ⟨_, rfl, rfl, fun i u hu => by match i, hu with | 0, hu => cases hu; exact c61 | i + 1, hu => simp at hu⟩
      | 2, hj => cases hj; exact ⟨_, rfl, rfl, fun i u hu => by match i, hu with | 0, hu => cases hu; exact c62 | i + 1, hu => simp at hu⟩
      | 3, hj => cases hj; exact ⟨_, rfl, rfl, fun i u hu => by match i, hu with | 0, hu => cases hu; exact c63 | i + 1, hu => simp at hu⟩
      | j + 4, hj => simp at hj⟩⟩
    have QC : Calls Tryd.prog 43 #[.slice (some ⟨g5, 0, none⟩) 4 4, .slice (some ⟨g6, 0, none⟩) 4 4] w6.drew fun e w' => e = .returned (.int .i64 o4) ∧ Drawn0 w6.drew w' :=
      QSc.slices_Compare_int_int.calls 6 (some ⟨g5, 0, none⟩) 4 [x0, x1, x2, x3] (some ⟨g6, 0, none⟩) 4 [y0, y1, y2, y3] o4 w6.drew (Kd.C_drew KX) (Nat.le_refl _) (Kd.C_drew KY) (Nat.le_refl _) hsc.out
    replace QC := Lib.hid QC
    replace KX := Lib.hid KX
    replace KY := Lib.hid KY
    refine start_ (n := 5) (S := fun w' => True) (ds := []) #[false, false, false, false, false] (by kernel_rfl) rfl rfl trivial (fun hHeld => ?_)
    refine with_tabW rg12_4_tab rg12_4_bits (fun HT_ HW_ => ?_)
    refine pure_ (i := 0) (N := some 20) (v := ?_) (a' := ?_) #[true, false, false, false, false] rfl rfl (any_of HT_.out (by kernel_rfl)) (fun _ _ _ h => h) (Or.inl ⟨by rfl, ?_⟩) ?_ ?_
    rotate_left
    · intro w'
      go_simp
      with_reducible rfl
    rotate_left
    · simp only [Act.put, List.setIfInBounds_toArray, List.set_cons_zero, List.set_cons_succ, i64_w, i32_w]
      rfl
    refine pure_ (i := 1) (N := some 21) (v := ?_) (a' := ?_) #[true, true, false, false, false] rfl rfl (any_of HT_.out (by kernel_rfl)) (fun _ _ _ h => h) (Or.inl ⟨by rfl, ?_⟩) ?_ ?_
    rotate_left
    · intro w'
      go_simp
      with_reducible rfl
    rotate_left
    · simp only [Act.put, List.setIfInBounds_toArray, List.set_cons_zero, List.set_cons_succ, i64_w, i32_w]
      rfl
    refine one_ (i := 2) (N := some 22) #[true, true, true, false, false] rfl rfl (one_of HT_.out (by kernel_rfl)) (by decide) (fun K hK => ?_)
    refine goes_ Tryd.func43 (by kernel_rfl) rfl #[.slice (some ⟨g5, 0, none⟩) 4 4, .slice (some ⟨g6, 0, none⟩) 4 4] (by rfl) rfl rfl (by (try simp only [List.map_toArray, List.map_cons, List.map_nil]); first | done | rfl) ?_
    with_reducible refine QC.out.mono ?_
    rintro e w8 ⟨rfl, ⟨nd, rfl⟩⟩
    refine ⟨_, rfl, ?_⟩
    refine hK.out _ _ trivial (fun hHeld => ?_)
    clear hK K
    refine norm_ (a' := ?_) ?_ ?_
    rotate_left
    · show Act.put _ (some 22) _ = _
      simp only [Act.put, List.setIfInBounds_toArray, List.set_cons_zero, List.set_cons_succ, i64_w, i32_w]
      rfl
    refine pure_ (i := 3) (N := some 23) (v := ?_) (a' := ?_) #[true, true, true, true, false] rfl rfl (any_of HT_.out (by kernel_rfl)) (fun _ _ _ h => h) (Or.inl ⟨by rfl, ?_⟩) ?_ ?_
    rotate_left
    · intro w'
      go_simp
      with_reducible rfl
    rotate_left
    · simp only [Act.put, List.setIfInBounds_toArray, List.set_cons_zero, List.set_cons_succ, i64_w, i32_w]
      rfl
    refine pure_ (i := 4) (N := some 4) (v := ?_) (a' := ?_) #[true, true, true, true, true] rfl rfl (any_of HT_.out (by kernel_rfl)) (fun _ _ _ h => h) (Or.inl ⟨by rfl, ?_⟩) ?_ ?_
    rotate_left
    · intro w'
      go_simp
      with_reducible rfl
    rotate_left
    · simp only [Act.put, List.setIfInBounds_toArray, List.set_cons_zero, List.set_cons_succ, i64_w, i32_w]
      rfl
    refine done_ (done_of HT_.out (by kernel_rfl)) ?_
    go_wp2
    go_ret
    exact ⟨rfl, belT HW.out (by first | exact pw_below_drewN (below_drew HB.out) _ | exact pw_below_drewN HB.out _)⟩
  · go_wp2_with (go_at_call 42; (with_reducible refine (QW.out _).mono ?_); rintro e w7 ⟨rfl, hb7⟩)
    go_ret
    exact ⟨rfl, belT (belT HW.out HB.out) hb7⟩
end Go.Proofs.YtgeegimiendcdaaDoor
