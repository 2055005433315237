/- Lemmas on which the law stands, part 4: Order, OpenPod, Laid. -/
import Derived.Test.YtoepbjgldmgaoaaDoorKOrder3
import Derived.Test.YtoepbjgldmgaoaaDoorKOrder2
import Derived.SizedLaws
import Derived.ChangeArms
import Derived.WideShapes
import Derived.OpenShut
import Derived.Test.YtoepbjgldmgaoaaDoorCards
import Derived.WalkKit
import Derived.ProofKit
/- RankOrder walked: which pods end first is an order. -/
namespace Go.Proofs.YtoepbjgldmgaoaaDoor
set_option linter.unusedVariables false
set_option linter.unusedSimpArgs false
open Go.RowKit Go.Proofs.YtoepbjgldmgaoaaDoorW.PrintWords Go.Proofs.YtoepbjgldmgaoaaDoorW.PrintLast
/-- rank.Less of these two, whatever the world: its answer. -/
abbrev LessIs (x y : Array Value) (b : Bool) : Prop := ∀ w : World, Calls Tryd.prog 19 #[.agg x, .agg y] w fun e w' => e = .returned (.bool b) ∧ Below w.heap.size w w'
theorem heap_alloc3_new (w : World) (o1 o2 o3 : Obj) : (((w.alloc o1).alloc o2).alloc o3).heap[w.heap.size + 2]? = some o3 := by
  have := heap_alloc_new ((w.alloc o1).alloc o2) o3
  simpa using this
def rg6_6_T : Bool × List (List Nat × List Nat) := (true, [([], []), ([0], [0]), ([1], [1]), ([2], [2]), ([2], [2]), ([3, 4, 2, 2], [2, 3, 4]), ([2], [2]), ([2], [2]), ([6, 7, 5, 2], [2, 6, 7]), ([5, 8, 2], [2, 5, 8]), ([9, 8, 2], [2, 9]), ([10], [10]), ([10], [10]), ([11, 12, 10, 10], [10, 11, 12]), ([10], [10]), ([10], [10]), ([14, 15, 13, 10], [10, 14, 15]), ([13, 16, 10], [10, 13, 16]), ([10, 17, 2], [2, 10, 17]), ([2, 18], [2, 18]), ([19, 16, 0, 1, 2, 3, 4, 5, 6, 7, 8, 9, 10, 11, 12, 13, 14, 15, 16, 17, 18, 19], [19])])
def rg6_6_B : List Nat := [0, 1, 3, 7, 7, 31, 7, 7, 255, 511, 1023, 2047, 2047, 8191, 2047, 2047, 65535, 131071, 262143, 524287, 1048575]
theorem rg6_6_tab : rtab .any (opsOf Tryd.f6 6) = rg6_6_T := by kernel_rfl
theorem rg6_6_bits : waitsOk rg6_6_T.2 rg6_6_B = true := by kernel_rfl
set_option maxHeartbeats 4000000 in
set_option maxRecDepth 100000 in
theorem order1 (x y : Bool) (cs ds es : Array Value) (HI1 : Hid ((Tryd.prog.info? 48).map (·.size) = some cs.size)) (HI2 : Hid ((Tryd.prog.info? 48).map (·.size) = some ds.size)) (HI3 : Hid ((Tryd.prog.info? 48).map (·.size) = some es.size)) (QAA : Hid (LessIs cs cs false)) (QAB : Hid (LessIs cs ds true)) (QBA : Hid (LessIs ds cs false)) (QBC : Hid (LessIs ds es true)) (QAC : Hid (LessIs cs es true)) (QCA : Hid (LessIs es cs x)) (QCB : Hid (LessIs es ds y)) (w : World) :
    Calls Tryd.prog 6 #[.agg cs, .agg ds, .agg es] w fun e w' => e = .returned (.bool true) ∧ Below w.heap.size w w' := by
      go_enter Tryd.func6, Tryd.ntmps6
      go_wp2_with (first
    | (go_at_call 23; (have HW : Hid (Below w.heap.size w (((w.alloc (Obj.cells cs 48)).alloc (Obj.cells ds 48)).alloc (Obj.cells es 48))) := Lib.hid (Go.Joins.below_alloc3 w _ _ _)); (have B1 : (((w.alloc (Obj.cells cs 48)).alloc (Obj.cells ds 48)).alloc (Obj.cells es 48)).heap[w.heap.size]? = some (.cells cs 48 (0, 0)) := (heap_alloc_old _ _ (by simp; omega)).trans ((heap_alloc_old _ _ (by simp)).trans (heap_alloc_new w _))); (have B2 : (((w.alloc (Obj.cells cs 48)).alloc (Obj.cells ds 48)).alloc (Obj.cells es 48)).heap[w.heap.size + 1]? = some (.cells ds 48 (0, 0)) := (heap_alloc_old _ _ (by simp)).trans (heap_alloc2_new w _ _)); (have B3 : (((w.alloc (Obj.cells cs 48)).alloc (Obj.cells ds 48)).alloc (Obj.cells es 48)).heap[w.heap.size + 2]? = some (.cells es 48 (0, 0)) := heap_alloc3_new w _ _ _); (generalize (((w.alloc (Obj.cells cs 48)).alloc (Obj.cells ds 48)).alloc (Obj.cells es 48)) = W0 at HW B1 B2 B3 ⊢); obtain ⟨ga, hga⟩ : ∃ x, x = w.heap.size := ⟨_, rfl⟩; obtain ⟨gb, hgb⟩ : ∃ x, x = w.heap.size + 1 := ⟨_, rfl⟩; obtain ⟨gc, hgc⟩ : ∃ x, x = w.heap.size + 2 := ⟨_, rfl⟩; rw [← hgc] at B3 ⊢; rw [← hgb] at B2 ⊢; rw [← hga] at B1 ⊢; clear hga hgb hgc; have HB : Below W0.heap.size W0 W0 := Below.refl _ _; (with_reducible refine (works_calls _).mono ?_); rintro e w1 ⟨rfl, hb⟩; replace B1 := blkB hb B1; replace B2 := blkB hb B2; replace B3 := blkB hb B3; replace HB := belT HB hb; clear hb)
    | ((with_reducible refine wpList_load_blk_w 48 (.tmp 3) rfl ga 48 ?l0 ?l1 cs _ ?l2 Tryd.underlying48 ?l3 ?l4 ?_); (case l0 => rfl); (case l1 => rfl); (case l2 => exact B1); (case l3 => rfl); (case l4 => exact HI1.out))
    | ((with_reducible refine wpList_load_blk_w 48 (.tmp 4) rfl gb 48 ?l0 ?l1 ds _ ?l2 Tryd.underlying48 ?l3 ?l4 ?_); (case l0 => rfl); (case l1 => rfl); (case l2 => exact B2); (case l3 => rfl); (case l4 => exact HI2.out))
    | ((with_reducible refine wpList_load_blk_w 48 (.tmp 5) rfl gc 48 ?l0 ?l1 es _ ?l2 Tryd.underlying48 ?l3 ?l4 ?_); (case l0 => rfl); (case l1 => rfl); (case l2 => exact B3); (case l3 => rfl); (case l4 => exact HI3.out))
    | (go_at_call 19; (with_reducible refine (QAA.out _).mono ?_); rintro e w1 ⟨rfl, hb⟩; replace B1 := blkB hb B1; replace B2 := blkB hb B2; replace B3 := blkB hb B3; replace HB := belT HB hb; clear hb)
    | (go_at_call 19; (with_reducible refine (QAB.out _).mono ?_); rintro e w1 ⟨rfl, hb⟩; replace B1 := blkB hb B1; replace B2 := blkB hb B2; replace B3 := blkB hb B3; replace HB := belT HB hb; clear hb)
    | (go_at_call 19; (with_reducible refine (QBA.out _).mono ?_); rintro e w1 ⟨rfl, hb⟩; replace B1 := blkB hb B1; replace B2 := blkB hb B2; replace B3 := blkB hb B3; replace HB := belT HB hb; clear hb)
    | (go_at_call 19; (with_reducible refine (QBC.out _).mono ?_); rintro e w1 ⟨rfl, hb⟩; replace B1 := blkB hb B1; replace B2 := blkB hb B2; replace B3 := blkB hb B3; replace HB := belT HB hb; clear hb)
    | (go_at_call 19; (with_reducible refine (QAC.out _).mono ?_); rintro e w1 ⟨rfl, hb⟩; replace B1 := blkB hb B1; replace B2 := blkB hb B2; replace B3 := blkB hb B3; replace HB := belT HB hb; clear hb))
      replace HB := below_drew HB
      refine start_ (n := 21) (S := fun w' => w'.heap[ga]? = some (.cells cs 48 (0, 0)) ∧ w'.heap[gb]? = some (.cells ds 48 (0, 0)) ∧ w'.heap[gc]? = some (.cells es 48 (0, 0))) (ds := []) #[false, false, false, false, false, false, false, false, false, false, false, false, false, false, false, false, false, false, false, false, false] (by kernel_rfl) rfl rfl ⟨B1, B2, B3⟩ (fun hHeld => ?_)
      refine with_tabW rg6_6_tab rg6_6_bits (fun HT_ HW_ => ?_)
      refine pure_ (i := 0) (N := some 49) (v := ?_) (a' := ?_) #[true, false, false, false, false, false, false, false, false, false, false, false, false, false, false, false, false, false, false, false, false] rfl rfl (any_of HT_.out (by kernel_rfl)) (fun _ _ _ h => h) (Or.inl ⟨by rfl, ?_⟩) ?_ ?_
      rotate_left
      · intro w'
        go_simp
        with_reducible rfl
      rotate_left
      · simp only [Act.put, List.setIfInBounds_toArray, List.set_cons_zero, List.set_cons_succ, i64_w, i32_w]
        rfl
      refine pure_ (i := 1) (N := some 50) (v := ?_) (a' := ?_) #[true, true, false, false, false, false, false, false, false, false, false, false, false, false, false, false, false, false, false, false, false] rfl rfl (any_of HT_.out (by kernel_rfl)) (fun _ _ _ h => h) (Or.inl ⟨by rfl, ?_⟩) ?_ ?_
      rotate_left
      · intro w'
        go_simp
        with_reducible rfl
      rotate_left
      · simp only [Act.put, List.setIfInBounds_toArray, List.set_cons_zero, List.set_cons_succ, i64_w, i32_w]
        rfl
      refine pure_ (i := 2) (N := some 51) (v := ?_) (a' := ?_) #[true, true, true, false, false, false, false, false, false, false, false, false, false, false, false, false, false, false, false, false, false] rfl rfl (any_of HT_.out (by kernel_rfl)) (fun _ _ _ h => h) (Or.inl ⟨by rfl, ?_⟩) ?_ ?_
      rotate_left
      · intro w'
        go_simp
        with_reducible rfl
      rotate_left
      · simp only [Act.put, List.setIfInBounds_toArray, List.set_cons_zero, List.set_cons_succ, i64_w, i32_w]
        rfl
      refine pure_ (i := 3) (N := some 52) (v := undef) (a' := ?_) #[true, true, true, true, false, false, false, false, false, false, false, false, false, false, false, false, false, false, false, false, false] rfl rfl (any_of HT_.out (by kernel_rfl)) (fun _ _ _ h => h) (Or.inr ⟨by rfl, rfl⟩) ?_ ?_
      rotate_left
      · simp only [Act.put, List.setIfInBounds_toArray, List.set_cons_zero, List.set_cons_succ, i64_w, i32_w]
        rfl
      refine pure_ (i := 4) (N := some 53) (v := undef) (a' := ?_) #[true, true, true, true, true, false, false, false, false, false, false, false, false, false, false, false, false, false, false, false, false] rfl rfl (any_of HT_.out (by kernel_rfl)) (fun _ _ _ h => h) (Or.inr ⟨by rfl, rfl⟩) ?_ ?_
      rotate_left
      · simp only [Act.put, List.setIfInBounds_toArray, List.set_cons_zero, List.set_cons_succ, i64_w, i32_w]
        rfl
      refine pure_ (i := 5) (N := some 54) (v := undef) (a' := ?_) #[true, true, true, true, true, true, false, false, false, false, false, false, false, false, false, false, false, false, false, false, false] rfl rfl (any_of HT_.out (by kernel_rfl)) (fun _ _ _ h => h) (Or.inr ⟨by rfl, rfl⟩) ?_ ?_
      rotate_left
      · simp only [Act.put, List.setIfInBounds_toArray, List.set_cons_zero, List.set_cons_succ, i64_w, i32_w]
        rfl
      refine pure_ (i := 6) (N := some 55) (v := undef) (a' := ?_) #[true, true, true, true, true, true, true, false, false, false, false, false, false, false, false, false, false, false, false, false, false] rfl rfl (any_of HT_.out (by kernel_rfl)) (fun _ _ _ h => h) (Or.inr ⟨by rfl, rfl⟩) ?_ ?_
      rotate_left
      · simp only [Act.put, List.setIfInBounds_toArray, List.set_cons_zero, List.set_cons_succ, i64_w, i32_w]
        rfl
      refine pure_ (i := 7) (N := some 56) (v := undef) (a' := ?_) #[true, true, true, true, true, true, true, true, false, false, false, false, false, false, false, false, false, false, false, false, false] rfl rfl (any_of HT_.out (by kernel_rfl)) (fun _ _ _ h => h) (Or.inr ⟨by rfl, rfl⟩) ?_ ?_
      rotate_left
      · simp only [Act.put, List.setIfInBounds_toArray, List.set_cons_zero, List.set_cons_succ, i64_w, i32_w]
        rfl
      refine pure_ (i := 8) (N := some 57) (v := undef) (a' := ?_) #[true, true, true, true, true, true, true, true, true, false, false, false, false, false, false, false, false, false, false, false, false] rfl rfl (any_of HT_.out (by kernel_rfl)) (fun _ _ _ h => h) (Or.inr ⟨by rfl, rfl⟩) ?_ ?_
      rotate_left
      · simp only [Act.put, List.setIfInBounds_toArray, List.set_cons_zero, List.set_cons_succ, i64_w, i32_w]
        rfl
      refine pure_ (i := 9) (N := some 58) (v := undef) (a' := ?_) #[true, true, true, true, true, true, true, true, true, true, false, false, false, false, false, false, false, false, false, false, false] rfl rfl (any_of HT_.out (by kernel_rfl)) (fun _ _ _ h => h) (Or.inr ⟨by rfl, rfl⟩) ?_ ?_
      rotate_left
      · simp only [Act.put, List.setIfInBounds_toArray, List.set_cons_zero, List.set_cons_succ, i64_w, i32_w]
        rfl
      refine pure_ (i := 10) (N := some 59) (v := undef) (a' := ?_) #[true, true, true, true, true, true, true, true, true, true, true, false, false, false, false, false, false, false, false, false, false] rfl rfl (any_of HT_.out (by kernel_rfl)) (fun _ _ _ h => h) (Or.inr ⟨by rfl, rfl⟩) ?_ ?_
      rotate_left
      · simp only [Act.put, List.setIfInBounds_toArray, List.set_cons_zero, List.set_cons_succ, i64_w, i32_w]
        rfl
      refine pure_ (i := 11) (N := some 60) (v := undef) (a' := ?_) #[true, true, true, true, true, true, true, true, true, true, true, true, false, false, false, false, false, false, false, false, false] rfl rfl (any_of HT_.out (by kernel_rfl)) (fun _ _ _ h => h) (Or.inr ⟨by rfl, rfl⟩) ?_ ?_
      rotate_left
      · simp only [Act.put, List.setIfInBounds_toArray, List.set_cons_zero, List.set_cons_succ, i64_w, i32_w]
        rfl
      refine pure_ (i := 12) (N := some 61) (v := undef) (a' := ?_) #[true, true, true, true, true, true, true, true, true, true, true, true, true, false, false, false, false, false, false, false, false] rfl rfl (any_of HT_.out (by kernel_rfl)) (fun _ _ _ h => h) (Or.inr ⟨by rfl, rfl⟩) ?_ ?_
      rotate_left
      · simp only [Act.put, List.setIfInBounds_toArray, List.set_cons_zero, List.set_cons_succ, i64_w, i32_w]
        rfl
      refine pure_ (i := 13) (N := some 62) (v := undef) (a' := ?_) #[true, true, true, true, true, true, true, true, true, true, true, true, true, true, false, false, false, false, false, false, false] rfl rfl (any_of HT_.out (by kernel_rfl)) (fun _ _ _ h => h) (Or.inr ⟨by rfl, rfl⟩) ?_ ?_
      rotate_left
      · simp only [Act.put, List.setIfInBounds_toArray, List.set_cons_zero, List.set_cons_succ, i64_w, i32_w]
        rfl
      refine pure_ (i := 14) (N := some 63) (v := undef) (a' := ?_) #[true, true, true, true, true, true, true, true, true, true, true, true, true, true, true, false, false, false, false, false, false] rfl rfl (any_of HT_.out (by kernel_rfl)) (fun _ _ _ h => h) (Or.inr ⟨by rfl, rfl⟩) ?_ ?_
      rotate_left
      · simp only [Act.put, List.setIfInBounds_toArray, List.set_cons_zero, List.set_cons_succ, i64_w, i32_w]
        rfl
      refine pure_ (i := 15) (N := some 64) (v := undef) (a' := ?_) #[true, true, true, true, true, true, true, true, true, true, true, true, true, true, true, true, false, false, false, false, false] rfl rfl (any_of HT_.out (by kernel_rfl)) (fun _ _ _ h => h) (Or.inr ⟨by rfl, rfl⟩) ?_ ?_
      rotate_left
      · simp only [Act.put, List.setIfInBounds_toArray, List.set_cons_zero, List.set_cons_succ, i64_w, i32_w]
        rfl
      refine pure_ (i := 16) (N := some 65) (v := undef) (a' := ?_) #[true, true, true, true, true, true, true, true, true, true, true, true, true, true, true, true, true, false, false, false, false] rfl rfl (any_of HT_.out (by kernel_rfl)) (fun _ _ _ h => h) (Or.inr ⟨by rfl, rfl⟩) ?_ ?_
      rotate_left
      · simp only [Act.put, List.setIfInBounds_toArray, List.set_cons_zero, List.set_cons_succ, i64_w, i32_w]
        rfl
      refine pure_ (i := 17) (N := some 66) (v := undef) (a' := ?_) #[true, true, true, true, true, true, true, true, true, true, true, true, true, true, true, true, true, true, false, false, false] rfl rfl (any_of HT_.out (by kernel_rfl)) (fun _ _ _ h => h) (Or.inr ⟨by rfl, rfl⟩) ?_ ?_
      rotate_left
      · simp only [Act.put, List.setIfInBounds_toArray, List.set_cons_zero, List.set_cons_succ, i64_w, i32_w]
        rfl
      refine pure_ (i := 18) (N := some 67) (v := undef) (a' := ?_) #[true, true, true, true, true, true, true, true, true, true, true, true, true, true, true, true, true, true, true, false, false] rfl rfl (any_of HT_.out (by kernel_rfl)) (fun _ _ _ h => h) (Or.inr ⟨by rfl, rfl⟩) ?_ ?_
      rotate_left
      · simp only [Act.put, List.setIfInBounds_toArray, List.set_cons_zero, List.set_cons_succ, i64_w, i32_w]
        rfl
      refine pure_ (i := 19) (N := some 68) (v := ?_) (a' := ?_) #[true, true, true, true, true, true, true, true, true, true, true, true, true, true, true, true, true, true, true, true, false] rfl rfl (any_of HT_.out (by kernel_rfl)) (fun _ _ _ h => h) (Or.inl ⟨by rfl, ?_⟩) ?_ ?_
      rotate_left
      · intro w'
        go_simp
        with_reducible rfl
      rotate_left
      · simp only [Act.put, List.setIfInBounds_toArray, List.set_cons_zero, List.set_cons_succ, i64_w, i32_w]
        rfl
      refine pure_ (i := 20) (N := some 6) (v := ?_) (a' := ?_) #[true, true, true, true, true, true, true, true, true, true, true, true, true, true, true, true, true, true, true, true, true] rfl rfl (any_of HT_.out (by kernel_rfl)) (fun _ _ _ h => h) (Or.inl ⟨by rfl, ?_⟩) ?_ ?_
      rotate_left
      · intro w'
        go_simp
        with_reducible rfl
      rotate_left
      · simp only [Act.put, List.setIfInBounds_toArray, List.set_cons_zero, List.set_cons_succ, i64_w, i32_w]
        rfl
      refine done_ (done_of HT_.out (by kernel_rfl)) ?_
      go_wp2
      go_ret
      exact ⟨rfl, belT HW.out (by first | exact HB | exact below_drew HB)⟩
set_option maxHeartbeats 4000000 in
set_option maxRecDepth 100000 in
theorem order2 (p x y : Bool) (cs ds es : Array Value) (HI1 : Hid ((Tryd.prog.info? 48).map (·.size) = some cs.size)) (HI2 : Hid ((Tryd.prog.info? 48).map (·.size) = some ds.size)) (HI3 : Hid ((Tryd.prog.info? 48).map (·.size) = some es.size)) (QAA : Hid (LessIs cs cs false)) (QAB : Hid (LessIs cs ds true)) (QBA : Hid (LessIs ds cs false)) (QBC : Hid (LessIs ds es false)) (QAC : Hid (LessIs cs es p)) (QCA : Hid (LessIs es cs x)) (QCB : Hid (LessIs es ds y)) (w : World) :
    Calls Tryd.prog 6 #[.agg cs, .agg ds, .agg es] w fun e w' => e = .returned (.bool true) ∧ Below w.heap.size w w' := by
      go_enter Tryd.func6, Tryd.ntmps6
      go_wp2_with (first
    | (go_at_call 23; (have HW : Hid (Below w.heap.size w (((w.alloc (Obj.cells cs 48)).alloc (Obj.cells ds 48)).alloc (Obj.cells es 48))) := Lib.hid (Go.Joins.below_alloc3 w _ _ _)); (have B1 : (((w.alloc (Obj.cells cs 48)).alloc (Obj.cells ds 48)).alloc (Obj.cells es 48)).heap[w.heap.size]? = some (.cells cs 48 (0, 0)) := (heap_alloc_old _ _ (by simp; omega)).trans ((heap_alloc_old _ _ (by simp)).trans (heap_alloc_new w _))); (have B2 : (((w.alloc (Obj.cells cs 48)).alloc (Obj.cells ds 48)).alloc (Obj.cells es 48)).heap[w.heap.size + 1]? = some (.cells ds 48 (0, 0)) := (heap_alloc_old _ _ (by simp)).trans (heap_alloc2_new w _ _)); (have B3 : (((w.alloc (Obj.cells cs 48)).alloc (Obj.cells ds 48)).alloc (Obj.cells es 48)).heap[w.heap.size + 2]? = some (.cells es 48 (0, 0)) := heap_alloc3_new w _ _ _); (generalize (((w.alloc (Obj.cells cs 48)).alloc (Obj.cells ds 48)).alloc (Obj.cells es 48)) = W0 at HW B1 B2 B3 ⊢); obtain ⟨ga, hga⟩ : ∃ x, x = w.heap.size := ⟨_, rfl⟩; obtain ⟨gb, hgb⟩ : ∃ x, x = w.heap.size + 1 := ⟨_, rfl⟩; obtain ⟨gc, hgc⟩ : ∃ x, x = w.heap.size + 2 := ⟨_, rfl⟩; rw [← hgc] at B3 ⊢; rw [← hgb] at B2 ⊢; rw [← hga] at B1 ⊢; clear hga hgb hgc; have HB : Below W0.heap.size W0 W0 := Below.refl _ _; (with_reducible refine (works_calls _).mono ?_); rintro e w1 ⟨rfl, hb⟩; replace B1 := blkB hb B1; replace B2 := blkB hb B2; replace B3 := blkB hb B3; replace HB := belT HB hb; clear hb)
    | ((with_reducible refine wpList_load_blk_w 48 (.tmp 3) rfl ga 48 ?l0 ?l1 cs _ ?l2 Tryd.underlying48 ?l3 ?l4 ?_); (case l0 => rfl); (case l1 => rfl); (case l2 => exact B1); (case l3 => rfl); (case l4 => exact HI1.out))
    | ((with_reducible refine wpList_load_blk_w 48 (.tmp 4) rfl gb 48 ?l0 ?l1 ds _ ?l2 Tryd.underlying48 ?l3 ?l4 ?_); (case l0 => rfl); (case l1 => rfl); (case l2 => exact B2); (case l3 => rfl); (case l4 => exact HI2.out))
    | ((with_reducible refine wpList_load_blk_w 48 (.tmp 5) rfl gc 48 ?l0 ?l1 es _ ?l2 Tryd.underlying48 ?l3 ?l4 ?_); (case l0 => rfl); (case l1 => rfl); (case l2 => exact B3); (case l3 => rfl); (case l4 => exact HI3.out))
    | (go_at_call 19; (with_reducible refine (QAA.out _).mono ?_); rintro e w1 ⟨rfl, hb⟩; replace B1 := blkB hb B1; replace B2 := blkB hb B2; replace B3 := blkB hb B3; replace HB := belT HB hb; clear hb)
    | (go_at_call 19; (with_reducible refine (QAB.out _).mono ?_); rintro e w1 ⟨rfl, hb⟩; replace B1 := blkB hb B1; replace B2 := blkB hb B2; replace B3 := blkB hb B3; replace HB := belT HB hb; clear hb)
    | (go_at_call 19; (with_reducible refine (QBA.out _).mono ?_); rintro e w1 ⟨rfl, hb⟩; replace B1 := blkB hb B1; replace B2 := blkB hb B2; replace B3 := blkB hb B3; replace HB := belT HB hb; clear hb)
    | (go_at_call 19; (with_reducible refine (QBC.out _).mono ?_); rintro e w1 ⟨rfl, hb⟩; replace B1 := blkB hb B1; replace B2 := blkB hb B2; replace B3 := blkB hb B3; replace HB := belT HB hb; clear hb)
    | (go_at_call 19; (with_reducible refine (QAC.out _).mono ?_); rintro e w1 ⟨rfl, hb⟩; replace B1 := blkB hb B1; replace B2 := blkB hb B2; replace B3 := blkB hb B3; replace HB := belT HB hb; clear hb))
      replace HB := below_drew HB
      refine start_ (n := 21) (S := fun w' => w'.heap[ga]? = some (.cells cs 48 (0, 0)) ∧ w'.heap[gb]? = some (.cells ds 48 (0, 0)) ∧ w'.heap[gc]? = some (.cells es 48 (0, 0))) (ds := []) #[false, false, false, false, false, false, false, false, false, false, false, false, false, false, false, false, false, false, false, false, false] (by kernel_rfl) rfl rfl ⟨B1, B2, B3⟩ (fun hHeld => ?_)
      refine with_tabW rg6_6_tab rg6_6_bits (fun HT_ HW_ => ?_)
      refine pure_ (i := 0) (N := some 49) (v := ?_) (a' := ?_) #[true, false, false, false, false, false, false, false, false, false, false, false, false, false, false, false, false, false, false, false, false] rfl rfl (any_of HT_.out (by kernel_rfl)) (fun _ _ _ h => h) (Or.inl ⟨by rfl, ?_⟩) ?_ ?_
      rotate_left
      · intro w'
        go_simp
        with_reducible rfl
      rotate_left
      · simp only [Act.put, List.setIfInBounds_toArray, List.set_cons_zero, List.set_cons_succ, i64_w, i32_w]
        rfl
      refine pure_ (i := 1) (N := some 50) (v := ?_) (a' := ?_) #[true, true, false, false, false, false, false, false, false, false, false, false, false, false, false, false, false, false, false, false, false] rfl rfl (any_of HT_.out (by kernel_rfl)) (fun _ _ _ h => h) (Or.inl ⟨by rfl, ?_⟩) ?_ ?_
      rotate_left
      · intro w'
        go_simp
        with_reducible rfl
      rotate_left
      · simp only [Act.put, List.setIfInBounds_toArray, List.set_cons_zero, List.set_cons_succ, i64_w, i32_w]
        rfl
      refine pure_ (i := 2) (N := some 51) (v := ?_) (a' := ?_) #[true, true, true, false, false, false, false, false, false, false, false, false, false, false, false, false, false, false, false, false, false] rfl rfl (any_of HT_.out (by kernel_rfl)) (fun _ _ _ h => h) (Or.inl ⟨by rfl, ?_⟩) ?_ ?_
      rotate_left
      · intro w'
        go_simp
        with_reducible rfl
      rotate_left
      · simp only [Act.put, List.setIfInBounds_toArray, List.set_cons_zero, List.set_cons_succ, i64_w, i32_w]
        rfl
      refine pure_ (i := 3) (N := some 52) (v := undef) (a' := ?_) #[true, true, true, true, false, false, false, false, false, false, false, false, false, false, false, false, false, false, false, false, false] rfl rfl (any_of HT_.out (by kernel_rfl)) (fun _ _ _ h => h) (Or.inr ⟨by rfl, rfl⟩) ?_ ?_
      rotate_left
      · simp only [Act.put, List.setIfInBounds_toArray, List.set_cons_zero, List.set_cons_succ, i64_w, i32_w]
        rfl
      refine pure_ (i := 4) (N := some 53) (v := undef) (a' := ?_) #[true, true, true, true, true, false, false, false, false, false, false, false, false, false, false, false, false, false, false, false, false] rfl rfl (any_of HT_.out (by kernel_rfl)) (fun _ _ _ h => h) (Or.inr ⟨by rfl, rfl⟩) ?_ ?_
      rotate_left
      · simp only [Act.put, List.setIfInBounds_toArray, List.set_cons_zero, List.set_cons_succ, i64_w, i32_w]
        rfl
      refine pure_ (i := 5) (N := some 54) (v := undef) (a' := ?_) #[true, true, true, true, true, true, false, false, false, false, false, false, false, false, false, false, false, false, false, false, false] rfl rfl (any_of HT_.out (by kernel_rfl)) (fun _ _ _ h => h) (Or.inr ⟨by rfl, rfl⟩) ?_ ?_
      rotate_left
      · simp only [Act.put, List.setIfInBounds_toArray, List.set_cons_zero, List.set_cons_succ, i64_w, i32_w]
        rfl
      refine pure_ (i := 6) (N := some 55) (v := undef) (a' := ?_) #[true, true, true, true, true, true, true, false, false, false, false, false, false, false, false, false, false, false, false, false, false] rfl rfl (any_of HT_.out (by kernel_rfl)) (fun _ _ _ h => h) (Or.inr ⟨by rfl, rfl⟩) ?_ ?_
      rotate_left
      · simp only [Act.put, List.setIfInBounds_toArray, List.set_cons_zero, List.set_cons_succ, i64_w, i32_w]
        rfl
      refine pure_ (i := 7) (N := some 56) (v := undef) (a' := ?_) #[true, true, true, true, true, true, true, true, false, false, false, false, false, false, false, false, false, false, false, false, false] rfl rfl (any_of HT_.out (by kernel_rfl)) (fun _ _ _ h => h) (Or.inr ⟨by rfl, rfl⟩) ?_ ?_
      rotate_left
      · simp only [Act.put, List.setIfInBounds_toArray, List.set_cons_zero, List.set_cons_succ, i64_w, i32_w]
        rfl
      refine pure_ (i := 8) (N := some 57) (v := undef) (a' := ?_) #[true, true, true, true, true, true, true, true, true, false, false, false, false, false, false, false, false, false, false, false, false] rfl rfl (any_of HT_.out (by kernel_rfl)) (fun _ _ _ h => h) (Or.inr ⟨by rfl, rfl⟩) ?_ ?_
      rotate_left
      · simp only [Act.put, List.setIfInBounds_toArray, List.set_cons_zero, List.set_cons_succ, i64_w, i32_w]
        rfl
      refine pure_ (i := 9) (N := some 58) (v := undef) (a' := ?_) #[true, true, true, true, true, true, true, true, true, true, false, false, false, false, false, false, false, false, false, false, false] rfl rfl (any_of HT_.out (by kernel_rfl)) (fun _ _ _ h => h) (Or.inr ⟨by rfl, rfl⟩) ?_ ?_
      rotate_left
      · simp only [Act.put, List.setIfInBounds_toArray, List.set_cons_zero, List.set_cons_succ, i64_w, i32_w]
        rfl
      refine pure_ (i := 10) (N := some 59) (v := undef) (a' := ?_) #[true, true, true, true, true, true, true, true, true, true, true, false, false, false, false, false, false, false, false, false, false] rfl rfl (any_of HT_.out (by kernel_rfl)) (fun _ _ _ h => h) (Or.inr ⟨by rfl, rfl⟩) ?_ ?_
      rotate_left
      · simp only [Act.put, List.setIfInBounds_toArray, List.set_cons_zero, List.set_cons_succ, i64_w, i32_w]
        rfl
      refine pure_ (i := 11) (N := some 60) (v := undef) (a' := ?_) #[true, true, true, true, true, true, true, true, true, true, true, true, false, false, false, false, false, false, false, false, false] rfl rfl (any_of HT_.out (by kernel_rfl)) (fun _ _ _ h => h) (Or.inr ⟨by rfl, rfl⟩) ?_ ?_
      rotate_left
      · simp only [Act.put, List.setIfInBounds_toArray, List.set_cons_zero, List.set_cons_succ, i64_w, i32_w]
        rfl
      refine pure_ (i := 12) (N := some 61) (v := undef) (a' := ?_) #[true, true, true, true, true, true, true, true, true, true, true, true, true, false, false, false, false, false, false, false, false] rfl rfl (any_of HT_.out (by kernel_rfl)) (fun _ _ _ h => h) (Or.inr ⟨by rfl, rfl⟩) ?_ ?_
      rotate_left
      · simp only [Act.put, List.setIfInBounds_toArray, List.set_cons_zero, List.set_cons_succ, i64_w, i32_w]
        rfl
      refine pure_ (i := 13) (N := some 62) (v := undef) (a' := ?_) #[true, true, true, true, true, true, true, true, true, true, true, true, true, true, false, false, false, false, false, false, false] rfl rfl (any_of HT_.out (by kernel_rfl)) (fun _ _ _ h => h) (Or.inr ⟨by rfl, rfl⟩) ?_ ?_
      rotate_left
      · simp only [Act.put, List.setIfInBounds_toArray, List.set_cons_zero, List.set_cons_succ, i64_w, i32_w]
        rfl
      refine pure_ (i := 14) (N := some 63) (v := undef) (a' := ?_) #[true, true, true, true, true, true, true, true, true, true, true, true, true, true, true, false, false, false, false, false, false] rfl rfl (any_of HT_.out (by kernel_rfl)) (fun _ _ _ h => h) (Or.inr ⟨by rfl, rfl⟩) ?_ ?_
      rotate_left
      · simp only [Act.put, List.setIfInBounds_toArray, List.set_cons_zero, List.set_cons_succ, i64_w, i32_w]
        rfl
      refine pure_ (i := 15) (N := some 64) (v := undef) (a' := ?_) #[true, true, true, true, true, true, true, true, true, true, true, true, true, true, true, true, false, false, false, false, false] rfl rfl (any_of HT_.out (by kernel_rfl)) (fun _ _ _ h => h) (Or.inr ⟨by rfl, rfl⟩) ?_ ?_
      rotate_left
      · simp only [Act.put, List.setIfInBounds_toArray, List.set_cons_zero, List.set_cons_succ, i64_w, i32_w]
        rfl
      refine pure_ (i := 16) (N := some 65) (v := undef) (a' := ?_) #[true, true, true, true, true, true, true, true, true, true, true, true, true, true, true, true, true, false, false, false, false] rfl rfl (any_of HT_.out (by kernel_rfl)) (fun _ _ _ h => h) (Or.inr ⟨by rfl, rfl⟩) ?_ ?_
      rotate_left
      · simp only [Act.put, List.setIfInBounds_toArray, List.set_cons_zero, List.set_cons_succ, i64_w, i32_w]
        rfl
      refine pure_ (i := 17) (N := some 66) (v := undef) (a' := ?_) #[true, true, true, true, true, true, true, true, true, true, true, true, true, true, true, true, true, true, false, false, false] rfl rfl (any_of HT_.out (by kernel_rfl)) (fun _ _ _ h => h) (Or.inr ⟨by rfl, rfl⟩) ?_ ?_
      rotate_left
      · simp only [Act.put, List.setIfInBounds_toArray, List.set_cons_zero, List.set_cons_succ, i64_w, i32_w]
        rfl
      refine pure_ (i := 18) (N := some 67) (v := undef) (a' := ?_) #[true, true, true, true, true, true, true, true, true, true, true, true, true, true, true, true, true, true, true, false, false] rfl rfl (any_of HT_.out (by kernel_rfl)) (fun _ _ _ h => h) (Or.inr ⟨by rfl, rfl⟩) ?_ ?_
      rotate_left
      · simp only [Act.put, List.setIfInBounds_toArray, List.set_cons_zero, List.set_cons_succ, i64_w, i32_w]
        rfl
      refine pure_ (i := 19) (N := some 68) (v := ?_) (a' := ?_) #[true, true, true, true, true, true, true, true, true, true, true, true, true, true, true, true, true, true, true, true, false] rfl rfl (any_of HT_.out (by kernel_rfl)) (fun _ _ _ h => h) (Or.inl ⟨by rfl, ?_⟩) ?_ ?_
      rotate_left
      · intro w'
        go_simp
        with_reducible rfl
      rotate_left
      · simp only [Act.put, List.setIfInBounds_toArray, List.set_cons_zero, List.set_cons_succ, i64_w, i32_w]
        rfl
      refine pure_ (i := 20) (N := some 6) (v := ?_) (a' := ?_) #[true, true, true, true, true, true, true, true, true, true, true, true, true, true, true, true, true, true, true, true, true] rfl rfl (any_of HT_.out (by kernel_rfl)) (fun _ _ _ h => h) (Or.inl ⟨by rfl, ?_⟩) ?_ ?_
      rotate_left
      · intro w'
        go_simp
        with_reducible rfl
      rotate_left
      · simp only [Act.put, List.setIfInBounds_toArray, List.set_cons_zero, List.set_cons_succ, i64_w, i32_w]
        rfl
      refine done_ (done_of HT_.out (by kernel_rfl)) ?_
      go_wp2
      go_ret
      exact ⟨rfl, belT HW.out (by first | exact HB | exact below_drew HB)⟩
set_option maxHeartbeats 4000000 in
set_option maxRecDepth 100000 in
theorem order3 (p q x y : Bool) (cs ds es : Array Value) (HI1 : Hid ((Tryd.prog.info? 48).map (·.size) = some cs.size)) (HI2 : Hid ((Tryd.prog.info? 48).map (·.size) = some ds.size)) (HI3 : Hid ((Tryd.prog.info? 48).map (·.size) = some es.size)) (QAA : Hid (LessIs cs cs false)) (QAB : Hid (LessIs cs ds false)) (QBA : Hid (LessIs ds cs true)) (QBC : Hid (LessIs ds es p)) (QAC : Hid (LessIs cs es q)) (QCA : Hid (LessIs es cs x)) (QCB : Hid (LessIs es ds y)) (w : World) :
    Calls Tryd.prog 6 #[.agg cs, .agg ds, .agg es] w fun e w' => e = .returned (.bool true) ∧ Below w.heap.size w w' := by
      go_enter Tryd.func6, Tryd.ntmps6
      go_wp2_with (first
    | (go_at_call 23; (have HW : Hid (Below w.heap.size w (((w.alloc (Obj.cells cs 48)).alloc (Obj.cells ds 48)).alloc (Obj.cells es 48))) := Lib.hid (Go.Joins.below_alloc3 w _ _ _)); (have B1 : (((w.alloc (Obj.cells cs 48)).alloc (Obj.cells ds 48)).alloc (Obj.cells es 48)).heap[w.heap.size]? = some (.cells cs 48 (0, 0)) := (heap_alloc_old _ _ (by simp; omega)).trans ((heap_alloc_old _ _ (by simp)).trans (heap_alloc_new w _))); (have B2 : (((w.alloc (Obj.cells cs 48)).alloc (Obj.cells ds 48)).alloc (Obj.cells es 48)).heap[w.heap.size + 1]? = some (.cells ds 48 (0, 0)) := (heap_alloc_old _ _ (by simp)).trans (heap_alloc2_new w _ _)); (have B3 : (((w.alloc (Obj.cells cs 48)).alloc (Obj.cells ds 48)).alloc (Obj.cells es 48)).heap[w.heap.size + 2]? = some (.cells es 48 (0, 0)) := heap_alloc3_new w _ _ _); (generalize (((w.alloc (Obj.cells cs 48)).alloc (Obj.cells ds 48)).alloc (Obj.cells es 48)) = W0 at HW B1 B2 B3 ⊢); obtain ⟨ga, hga⟩ : ∃ x, x = w.heap.size := ⟨_, rfl⟩; obtain ⟨gb, hgb⟩ : ∃ x, x = w.heap.size + 1 := ⟨_, rfl⟩; obtain ⟨gc, hgc⟩ : ∃ x, x = w.heap.size + 2 := ⟨_, rfl⟩; rw [← hgc] at B3 ⊢; rw [← hgb] at B2 ⊢; rw [← hga] at B1 ⊢; clear hga hgb hgc; have HB : Below W0.heap.size W0 W0 := Below.refl _ _; (with_reducible refine (works_calls _).mono ?_); rintro e w1 ⟨rfl, hb⟩; replace B1 := blkB hb B1; replace B2 := blkB hb B2; replace B3 := blkB hb B3; replace HB := belT HB hb; clear hb)
    | ((with_reducible refine wpList_load_blk_w 48 (.tmp 3) rfl ga 48 ?l0 ?l1 cs _ ?l2 Tryd.underlying48 ?l3 ?l4 ?_); (case l0 => rfl); (case l1 => rfl); (case l2 => exact B1); (case l3 => rfl); (case l4 => exact HI1.out))
    | ((with_reducible refine wpList_load_blk_w 48 (.tmp 4) rfl gb 48 ?l0 ?l1 ds _ ?l2 Tryd.underlying48 ?l3 ?l4 ?_); (case l0 => rfl); (case l1 => rfl); (case l2 => exact B2); (case l3 => rfl); (case l4 => exact HI2.out))
    | ((with_reducible refine wpList_load_blk_w 48 (.tmp 5) rfl gc 48 ?l0 ?l1 es _ ?l2 Tryd.underlying48 ?l3 ?l4 ?_); (case l0 => rfl); (case l1 => rfl); (case l2 => exact B3); (case l3 => rfl); (case l4 => exact HI3.out))
    | (go_at_call 19; (with_reducible refine (QAA.out _).mono ?_); rintro e w1 ⟨rfl, hb⟩; replace B1 := blkB hb B1; replace B2 := blkB hb B2; replace B3 := blkB hb B3; replace HB := belT HB hb; clear hb)
    | (go_at_call 19; (with_reducible refine (QAB.out _).mono ?_); rintro e w1 ⟨rfl, hb⟩; replace B1 := blkB hb B1; replace B2 := blkB hb B2; replace B3 := blkB hb B3; replace HB := belT HB hb; clear hb)
    | (go_at_call 19; (with_reducible refine (QBA.out _).mono ?_); rintro e w1 ⟨rfl, hb⟩; replace B1 := blkB hb B1; replace B2 := blkB hb B2; replace B3 := blkB hb B3; replace HB := belT HB hb; clear hb)
    | (go_at_call 19; (with_reducible refine (QBC.out _).mono ?_); rintro e w1 ⟨rfl, hb⟩; replace B1 := blkB hb B1; replace B2 := blkB hb B2; replace B3 := blkB hb B3; replace HB := belT HB hb; clear hb)
    | (go_at_call 19; (with_reducible refine (QAC.out _).mono ?_); rintro e w1 ⟨rfl, hb⟩; replace B1 := blkB hb B1; replace B2 := blkB hb B2; replace B3 := blkB hb B3; replace HB := belT HB hb; clear hb))
      replace HB := below_drew HB
      refine start_ (n := 21) (S := fun w' => w'.heap[ga]? = some (.cells cs 48 (0, 0)) ∧ w'.heap[gb]? = some (.cells ds 48 (0, 0)) ∧ w'.heap[gc]? = some (.cells es 48 (0, 0))) (ds := []) #[false, false, false, false, false, false, false, false, false, false, false, false, false, false, false, false, false, false, false, false, false] (by kernel_rfl) rfl rfl ⟨B1, B2, B3⟩ (fun hHeld => ?_)
      refine with_tabW rg6_6_tab rg6_6_bits (fun HT_ HW_ => ?_)
      refine pure_ (i := 0) (N := some 49) (v := ?_) (a' := ?_) #[true, false, false, false, false, false, false, false, false, false, false, false, false, false, false, false, false, false, false, false, false] rfl rfl (any_of HT_.out (by kernel_rfl)) (fun _ _ _ h => h) (Or.inl ⟨by rfl, ?_⟩) ?_ ?_
      rotate_left
      · intro w'
        go_simp
        with_reducible rfl
      rotate_left
      · simp only [Act.put, List.setIfInBounds_toArray, List.set_cons_zero, List.set_cons_succ, i64_w, i32_w]
        rfl
      refine pure_ (i := 1) (N := some 50) (v := ?_) (a' := ?_) #[true, true, false, false, false, false, false, false, false, false, false, false, false, false, false, false, false, false, false, false, false] rfl rfl (any_of HT_.out (by kernel_rfl)) (fun _ _ _ h => h) (Or.inl ⟨by rfl, ?_⟩) ?_ ?_
      rotate_left
      · intro w'
        go_simp
        with_reducible rfl
      rotate_left
      · simp only [Act.put, List.setIfInBounds_toArray, List.set_cons_zero, List.set_cons_succ, i64_w, i32_w]
        rfl
      refine pure_ (i := 2) (N := some 51) (v := ?_) (a' := ?_) #[true, true, true, false, false, false, false, false, false, false, false, false, false, false, false, false, false, false, false, false, false] rfl rfl (any_of HT_.out (by kernel_rfl)) (fun _ _ _ h => h) (Or.inl ⟨by rfl, ?_⟩) ?_ ?_
      rotate_left
      · intro w'
        go_simp
        with_reducible rfl
      rotate_left
      · simp only [Act.put, List.setIfInBounds_toArray, List.set_cons_zero, List.set_cons_succ, i64_w, i32_w]
        rfl
      refine pure_ (i := 3) (N := some 52) (v := undef) (a' := ?_) #[true, true, true, true, false, false, false, false, false, false, false, false, false, false, false, false, false, false, false, false, false] rfl rfl (any_of HT_.out (by kernel_rfl)) (fun _ _ _ h => h) (Or.inr ⟨by rfl, rfl⟩) ?_ ?_
      rotate_left
      · simp only [Act.put, List.setIfInBounds_toArray, List.set_cons_zero, List.set_cons_succ, i64_w, i32_w]
        rfl
      refine pure_ (i := 4) (N := some 53) (v := undef) (a' := ?_) #[true, true, true, true, true, false, false, false, false, false, false, false, false, false, false, false, false, false, false, false, false] rfl rfl (any_of HT_.out (by kernel_rfl)) (fun _ _ _ h => h) (Or.inr ⟨by rfl, rfl⟩) ?_ ?_
      rotate_left
      · simp only [Act.put, List.setIfInBounds_toArray, List.set_cons_zero, List.set_cons_succ, i64_w, i32_w]
        rfl
      refine pure_ (i := 5) (N := some 54) (v := undef) (a' := ?_) #[true, true, true, true, true, true, false, false, false, false, false, false, false, false, false, false, false, false, false, false, false] rfl rfl (any_of HT_.out (by kernel_rfl)) (fun _ _ _ h => h) (Or.inr ⟨by rfl, rfl⟩) ?_ ?_
      rotate_left
      · simp only [Act.put, List.setIfInBounds_toArray, List.set_cons_zero, List.set_cons_succ, i64_w, i32_w]
        rfl
      refine pure_ (i := 6) (N := some 55) (v := undef) (a' := ?_) #[true, true, true, true, true, true, true, false, false, false, false, false, false, false, false, false, false, false, false, false, false] rfl rfl (any_of HT_.out (by kernel_rfl)) (fun _ _ _ h => h) (Or.inr ⟨by rfl, rfl⟩) ?_ ?_
      rotate_left
      · simp only [Act.put, List.setIfInBounds_toArray, List.set_cons_zero, List.set_cons_succ, i64_w, i32_w]
        rfl
      refine pure_ (i := 7) (N := some 56) (v := undef) (a' := ?_) #[true, true, true, true, true, true, true, true, false, false, false, false, false, false, false, false, false, false, false, false, false] rfl rfl (any_of HT_.out (by kernel_rfl)) (fun _ _ _ h => h) (Or.inr ⟨by rfl, rfl⟩) ?_ ?_
      rotate_left
      · simp only [Act.put, List.setIfInBounds_toArray, List.set_cons_zero, List.set_cons_succ, i64_w, i32_w]
        rfl
      refine pure_ (i := 8) (N := some 57) (v := undef) (a' := ?_) #[true, true, true, true, true, true, true, true, true, false, false, false, false, false, false, false, false, false, false, false, false] rfl rfl (any_of HT_.out (by kernel_rfl)) (fun _ _ _ h => h) (Or.inr ⟨by rfl, rfl⟩) ?_ ?_
      rotate_left
      · simp only [Act.put, List.setIfInBounds_toArray, List.set_cons_zero, List.set_cons_succ, i64_w, i32_w]
        rfl
      refine pure_ (i := 9) (N := some 58) (v := undef) (a' := ?_) #[true, true, true, true, true, true, true, true, true, true, false, false, false, false, false, false, false, false, false, false, false] rfl rfl (any_of HT_.out (by kernel_rfl)) (fun _ _ _ h => h) (Or.inr ⟨by rfl, rfl⟩) ?_ ?_
      rotate_left
      · simp only [Act.put, List.setIfInBounds_toArray, List.set_cons_zero, List.set_cons_succ, i64_w, i32_w]
        rfl
      refine pure_ (i := 10) (N := some 59) (v := undef) (a' := ?_) #[true, true, true, true, true, true, true, true, true, true, true, false, false, false, false, false, false, false, false, false, false] rfl rfl (any_of HT_.out (by kernel_rfl)) (fun _ _ _ h => h) (Or.inr ⟨by rfl, rfl⟩) ?_ ?_
      rotate_left
      · simp only [Act.put, List.setIfInBounds_toArray, List.set_cons_zero, List.set_cons_succ, i64_w, i32_w]
        rfl
      refine pure_ (i := 11) (N := some 60) (v := undef) (a' := ?_) #[true, true, true, true, true, true, true, true, true, true, true, true, false, false, false, false, false, false, false, false, false] rfl rfl (any_of HT_.out (by kernel_rfl)) (fun _ _ _ h => h) (Or.inr ⟨by rfl, rfl⟩) ?_ ?_
      rotate_left
      · simp only [Act.put, List.setIfInBounds_toArray, List.set_cons_zero, List.set_cons_succ, i64_w, i32_w]
        rfl
      refine pure_ (i := 12) (N := some 61) (v := undef) (a' := ?_) #[true, true, true, true, true, true, true, true, true, true, true, true, true, false, false, false, false, false, false, false, false] rfl rfl (any_of HT_.out (by kernel_rfl)) (fun _ _ _ h => h) (Or.inr ⟨by rfl, rfl⟩) ?_ ?_
      rotate_left
      · simp only [Act.put, List.setIfInBounds_toArray, List.set_cons_zero, List.set_cons_succ, i64_w, i32_w]
        rfl
      refine pure_ (i := 13) (N := some 62) (v := undef) (a' := ?_) #[true, true, true, true, true, true, true, true, true, true, true, true, true, true, false, false, false, false, false, false, false] rfl rfl (any_of HT_.out (by kernel_rfl)) (fun _ _ _ h => h) (Or.inr ⟨by rfl, rfl⟩) ?_ ?_
      rotate_left
      · simp only [Act.put, List.setIfInBounds_toArray, List.set_cons_zero, List.set_cons_succ, i64_w, i32_w]
        rfl
      refine pure_ (i := 14) (N := some 63) (v := undef) (a' := ?_) #[true, true, true, true, true, true, true, true, true, true, true, true, true, true, true, false, false, false, false, false, false] rfl rfl (any_of HT_.out (by kernel_rfl)) (fun _ _ _ h => h) (Or.inr ⟨by rfl, rfl⟩) ?_ ?_
      rotate_left
      · simp only [Act.put, List.setIfInBounds_toArray, List.set_cons_zero, List.set_cons_succ, i64_w, i32_w]
        rfl
      refine pure_ (i := 15) (N := some 64) (v := undef) (a' := ?_) #[true, true, true, true, true, true, true, true, true, true, true, true, true, true, true, true, false, false, false, false, false] rfl rfl (any_of HT_.out (by kernel_rfl)) (fun _ _ _ h => h) (Or.inr ⟨by rfl, rfl⟩) ?_ ?_
      rotate_left
      · simp only [Act.put, List.setIfInBounds_toArray, List.set_cons_zero, List.set_cons_succ, i64_w, i32_w]
        rfl
      refine pure_ (i := 16) (N := some 65) (v := undef) (a' := ?_) #[true, true, true, true, true, true, true, true, true, true, true, true, true, true, true, true, true, false, false, false, false] rfl rfl (any_of HT_.out (by kernel_rfl)) (fun _ _ _ h => h) (Or.inr ⟨by rfl, rfl⟩) ?_ ?_
      rotate_left
      · simp only [Act.put, List.setIfInBounds_toArray, List.set_cons_zero, List.set_cons_succ, i64_w, i32_w]
        rfl
      refine pure_ (i := 17) (N := some 66) (v := undef) (a' := ?_) #[true, true, true, true, true, true, true, true, true, true, true, true, true, true, true, true, true, true, false, false, false] rfl rfl (any_of HT_.out (by kernel_rfl)) (fun _ _ _ h => h) (Or.inr ⟨by rfl, rfl⟩) ?_ ?_
      rotate_left
      · simp only [Act.put, List.setIfInBounds_toArray, List.set_cons_zero, List.set_cons_succ, i64_w, i32_w]
        rfl
      refine pure_ (i := 18) (N := some 67) (v := undef) (a' := ?_) #[true, true, true, true, true, true, true, true, true, true, true, true, true, true, true, true, true, true, true, false, false] rfl rfl (any_of HT_.out (by kernel_rfl)) (fun _ _ _ h => h) (Or.inr ⟨by rfl, rfl⟩) ?_ ?_
      rotate_left
      · simp only [Act.put, List.setIfInBounds_toArray, List.set_cons_zero, List.set_cons_succ, i64_w, i32_w]
        rfl
      refine pure_ (i := 19) (N := some 68) (v := ?_) (a' := ?_) #[true, true, true, true, true, true, true, true, true, true, true, true, true, true, true, true, true, true, true, true, false] rfl rfl (any_of HT_.out (by kernel_rfl)) (fun _ _ _ h => h) (Or.inl ⟨by rfl, ?_⟩) ?_ ?_
      rotate_left
      · intro w'
        go_simp
        with_reducible rfl
      rotate_left
      · simp only [Act.put, List.setIfInBounds_toArray, List.set_cons_zero, List.set_cons_succ, i64_w, i32_w]
        rfl
      refine pure_ (i := 20) (N := some 6) (v := ?_) (a' := ?_) #[true, true, true, true, true, true, true, true, true, true, true, true, true, true, true, true, true, true, true, true, true] rfl rfl (any_of HT_.out (by kernel_rfl)) (fun _ _ _ h => h) (Or.inl ⟨by rfl, ?_⟩) ?_ ?_
      rotate_left
      · intro w'
        go_simp
        with_reducible rfl
      rotate_left
      · simp only [Act.put, List.setIfInBounds_toArray, List.set_cons_zero, List.set_cons_succ, i64_w, i32_w]
        rfl
      refine done_ (done_of HT_.out (by kernel_rfl)) ?_
      go_wp2
      go_ret
      exact ⟨rfl, belT HW.out (by first | exact HB | exact below_drew HB)⟩
set_option maxHeartbeats 4000000 in
set_option maxRecDepth 100000 in
theorem order4 (p q : Bool) (cs ds es : Array Value) (HI1 : Hid ((Tryd.prog.info? 48).map (·.size) = some cs.size)) (HI2 : Hid ((Tryd.prog.info? 48).map (·.size) = some ds.size)) (HI3 : Hid ((Tryd.prog.info? 48).map (·.size) = some es.size)) (QAA : Hid (LessIs cs cs false)) (QAB : Hid (LessIs cs ds false)) (QBA : Hid (LessIs ds cs false)) (QBC : Hid (LessIs ds es p)) (QAC : Hid (LessIs cs es p)) (QCA : Hid (LessIs es cs q)) (QCB : Hid (LessIs es ds q)) (w : World) :
    Calls Tryd.prog 6 #[.agg cs, .agg ds, .agg es] w fun e w' => e = .returned (.bool true) ∧ Below w.heap.size w w' := by
      go_enter Tryd.func6, Tryd.ntmps6
      go_wp2_with (first
    | (go_at_call 23; (have HW : Hid (Below w.heap.size w (((w.alloc (Obj.cells cs 48)).alloc (Obj.cells ds 48)).alloc (Obj.cells es 48))) := Lib.hid (Go.Joins.below_alloc3 w _ _ _)); (have B1 : (((w.alloc (Obj.cells cs 48)).alloc (Obj.cells ds 48)).alloc (Obj.cells es 48)).heap[w.heap.size]? = some (.cells cs 48 (0, 0)) := (heap_alloc_old _ _ (by simp; omega)).trans ((heap_alloc_old _ _ (by simp)).trans (heap_alloc_new w _))); (have B2 : (((w.alloc (Obj.cells cs 48)).alloc (Obj.cells ds 48)).alloc (Obj.cells es 48)).heap[w.heap.size + 1]? = some (.cells ds 48 (0, 0)) := (heap_alloc_old _ _ (by simp)).trans (heap_alloc2_new w _ _)); (have B3 : (((w.alloc (Obj.cells cs 48)).alloc (Obj.cells ds 48)).alloc (Obj.cells es 48)).heap[w.heap.size + 2]? = some (.cells es 48 (0, 0)) := heap_alloc3_new w _ _ _); (generalize (((w.alloc (Obj.cells cs 48)).alloc (Obj.cells ds 48)).alloc (Obj.cells es 48)) = W0 at HW B1 B2 B3 ⊢); obtain ⟨ga, hga⟩ : ∃ x, x = w.heap.size := ⟨_, rfl⟩; obtain ⟨gb, hgb⟩ : ∃ x, x = w.heap.size + 1 := ⟨_, rfl⟩; obtain ⟨gc, hgc⟩ : ∃ x, x = w.heap.size + 2 := ⟨_, rfl⟩; rw [← hgc] at B3 ⊢; rw [← hgb] at B2 ⊢; rw [← hga] at B1 ⊢; clear hga hgb hgc; have HB : Below W0.heap.size W0 W0 := Below.refl _ _; (with_reducible refine (works_calls _).mono ?_); rintro e w1 ⟨rfl, hb⟩; replace B1 := blkB hb B1; replace B2 := blkB hb B2; replace B3 := blkB hb B3; replace HB := belT HB hb; clear hb)
    | ((with_reducible refine wpList_load_blk_w 48 (.tmp 3) rfl ga 48 ?l0 ?l1 cs _ ?l2 Tryd.underlying48 ?l3 ?l4 ?_); (case l0 => rfl); (case l1 => rfl); (case l2 => exact B1); (case l3 => rfl); (case l4 => exact HI1.out))
    | ((with_reducible refine wpList_load_blk_w 48 (.tmp 4) rfl gb 48 ?l0 ?l1 ds _ ?l2 Tryd.underlying48 ?l3 ?l4 ?_); (case l0 => rfl); (case l1 => rfl); (case l2 => exact B2); (case l3 => rfl); (case l4 => exact HI2.out))
    | ((with_reducible refine wpList_load_blk_w 48 (.tmp 5) rfl gc 48 ?l0 ?l1 es _ ?l2 Tryd.underlying48 ?l3 ?l4 ?_); (case l0 => rfl); (case l1 => rfl); (case l2 => exact B3); (case l3 => rfl); (case l4 => exact HI3.out))
    | (go_at_call 19; (with_reducible refine (QAA.out _).mono ?_); rintro e w1 ⟨rfl, hb⟩; replace B1 := blkB hb B1; replace B2 := blkB hb B2; replace B3 := blkB hb B3; replace HB := belT HB hb; clear hb)
    | (go_at_call 19; (with_reducible refine (QAB.out _).mono ?_); rintro e w1 ⟨rfl, hb⟩; replace B1 := blkB hb B1; replace B2 := blkB hb B2; replace B3 := blkB hb B3; replace HB := belT HB hb; clear hb)
    | (go_at_call 19; (with_reducible refine (QBA.out _).mono ?_); rintro e w1 ⟨rfl, hb⟩; replace B1 := blkB hb B1; replace B2 := blkB hb B2; replace B3 := blkB hb B3; replace HB := belT HB hb; clear hb)
    | (go_at_call 19; (with_reducible refine (QBC.out _).mono ?_); rintro e w1 ⟨rfl, hb⟩; replace B1 := blkB hb B1; replace B2 := blkB hb B2; replace B3 := blkB hb B3; replace HB := belT HB hb; clear hb)
    | (go_at_call 19; (with_reducible refine (QAC.out _).mono ?_); rintro e w1 ⟨rfl, hb⟩; replace B1 := blkB hb B1; replace B2 := blkB hb B2; replace B3 := blkB hb B3; replace HB := belT HB hb; clear hb))
      replace HB := below_drew HB
      refine start_ (n := 21) (S := fun w' => w'.heap[ga]? = some (.cells cs 48 (0, 0)) ∧ w'.heap[gb]? = some (.cells ds 48 (0, 0)) ∧ w'.heap[gc]? = some (.cells es 48 (0, 0))) (ds := []) #[false, false, false, false, false, false, false, false, false, false, false, false, false, false, false, false, false, false, false, false, false] (by kernel_rfl) rfl rfl ⟨B1, B2, B3⟩ (fun hHeld => ?_)
      refine with_tabW rg6_6_tab rg6_6_bits (fun HT_ HW_ => ?_)
      refine pure_ (i := 0) (N := some 49) (v := ?_) (a' := ?_) #[true, false, false, false, false, false, false, false, false, false, false, false, false, false, false, false, false, false, false, false, false] rfl rfl (any_of HT_.out (by kernel_rfl)) (fun _ _ _ h => h) (Or.inl ⟨by rfl, ?_⟩) ?_ ?_
      rotate_left
      · intro w'
        go_simp
        with_reducible rfl
      rotate_left
      · simp only [Act.put, List.setIfInBounds_toArray, List.set_cons_zero, List.set_cons_succ, i64_w, i32_w]
        rfl
      refine pure_ (i := 1) (N := some 50) (v := ?_) (a' := ?_) #[true, true, false, false, false, false, false, false, false, false, false, false, false, false, false, false, false, false, false, false, false] rfl rfl (any_of HT_.out (by kernel_rfl)) (fun _ _ _ h => h) (Or.inl ⟨by rfl, ?_⟩) ?_ ?_
      rotate_left
      · intro w'
        go_simp
        with_reducible rfl
      rotate_left
      · simp only [Act.put, List.setIfInBounds_toArray, List.set_cons_zero, List.set_cons_succ, i64_w, i32_w]
        rfl
      refine pure_ (i := 2) (N := some 51) (v := ?_) (a' := ?_) #[true, true, true, false, false, false, false, false, false, false, false, false, false, false, false, false, false, false, false, false, false] rfl rfl (any_of HT_.out (by kernel_rfl)) (fun _ _ _ h => h) (Or.inl ⟨by rfl, ?_⟩) ?_ ?_
      rotate_left
      · intro w'
        go_simp
        with_reducible rfl
      rotate_left
      · simp only [Act.put, List.setIfInBounds_toArray, List.set_cons_zero, List.set_cons_succ, i64_w, i32_w]
        rfl
      refine take_ (i := 3) (N := some 52) (v := ?_) (a' := ?_) #[true, true, true, true, false, false, false, false, false, false, false, false, false, false, false, false, false, false, false, false, false] rfl rfl (take_ofW HT_.out HW_.out (by kernel_rfl)) (fun _ _ _ h => h) (Or.inl ⟨by rfl, ?_⟩) hHeld ?_ ?_
      rotate_left
      · rintro w' ⟨s0, s1, s2⟩
        refine load_row (x := .tmp 3) ?_ ?_ s0 Tryd.underlying48 rfl HI1.out <;> rfl
      rotate_left
      · simp only [Act.put, List.setIfInBounds_toArray, List.set_cons_zero, List.set_cons_succ, i64_w, i32_w]
        rfl
      refine take_ (i := 4) (N := some 53) (v := ?_) (a' := ?_) #[true, true, true, true, true, false, false, false, false, false, false, false, false, false, false, false, false, false, false, false, false] rfl rfl (take_ofW HT_.out HW_.out (by kernel_rfl)) (fun _ _ _ h => h) (Or.inl ⟨by rfl, ?_⟩) hHeld ?_ ?_
      rotate_left
      · rintro w' ⟨s0, s1, s2⟩
        refine load_row (x := .tmp 5) ?_ ?_ s2 Tryd.underlying48 rfl HI3.out <;> rfl
      rotate_left
      · simp only [Act.put, List.setIfInBounds_toArray, List.set_cons_zero, List.set_cons_succ, i64_w, i32_w]
        rfl
      refine take_ (i := 6) (N := some 55) (v := ?_) (a' := ?_) #[true, true, true, true, true, false, true, false, false, false, false, false, false, false, false, false, false, false, false, false, false] rfl rfl (take_ofW HT_.out HW_.out (by kernel_rfl)) (fun _ _ _ h => h) (Or.inl ⟨by rfl, ?_⟩) hHeld ?_ ?_
      rotate_left
      · rintro w' ⟨s0, s1, s2⟩
        refine load_row (x := .tmp 4) ?_ ?_ s1 Tryd.underlying48 rfl HI2.out <;> rfl
      rotate_left
      · simp only [Act.put, List.setIfInBounds_toArray, List.set_cons_zero, List.set_cons_succ, i64_w, i32_w]
        rfl
      refine take_ (i := 7) (N := some 56) (v := ?_) (a' := ?_) #[true, true, true, true, true, false, true, true, false, false, false, false, false, false, false, false, false, false, false, false, false] rfl rfl (take_ofW HT_.out HW_.out (by kernel_rfl)) (fun _ _ _ h => h) (Or.inl ⟨by rfl, ?_⟩) hHeld ?_ ?_
      rotate_left
      · rintro w' ⟨s0, s1, s2⟩
        refine load_row (x := .tmp 5) ?_ ?_ s2 Tryd.underlying48 rfl HI3.out <;> rfl
      rotate_left
      · simp only [Act.put, List.setIfInBounds_toArray, List.set_cons_zero, List.set_cons_succ, i64_w, i32_w]
        rfl
      refine one_ (i := 5) (N := some 54) #[true, true, true, true, true, true, true, true, false, false, false, false, false, false, false, false, false, false, false, false, false] rfl rfl (one_of HT_.out (by kernel_rfl)) (by decide) (fun K hK => ?_)
      refine goes_ Tryd.func19 (by kernel_rfl) rfl #[.agg cs, .agg es] (by rfl) rfl rfl (by (try simp only [List.map_toArray, List.map_cons, List.map_nil]); first | done | rfl) ?_
      with_reducible refine (QAC.out _).mono ?_
      rintro e w1 ⟨rfl, hb⟩
      replace B1 := blkB hb B1
      replace B2 := blkB hb B2
      replace B3 := blkB hb B3
      replace HB := belT HB hb
      clear hb
      refine ⟨_, rfl, ?_⟩
      refine hK.out _ _ ⟨B1, B2, B3⟩ (fun hHeld => ?_)
      clear hK K
      refine norm_ (a' := ?_) ?_ ?_
      rotate_left
      · show Act.put _ (some 54) _ = _
        simp only [Act.put, List.setIfInBounds_toArray, List.set_cons_zero, List.set_cons_succ, i64_w, i32_w]
        rfl
      refine one_ (i := 8) (N := some 57) #[true, true, true, true, true, true, true, true, true, false, false, false, false, false, false, false, false, false, false, false, false] rfl rfl (one_of HT_.out (by kernel_rfl)) (by decide) (fun K hK => ?_)
      refine goes_ Tryd.func19 (by kernel_rfl) rfl #[.agg ds, .agg es] (by rfl) rfl rfl (by (try simp only [List.map_toArray, List.map_cons, List.map_nil]); first | done | rfl) ?_
      with_reducible refine (QBC.out _).mono ?_
      rintro e w1 ⟨rfl, hb⟩
      replace B1 := blkB hb B1
      replace B2 := blkB hb B2
      replace B3 := blkB hb B3
      replace HB := belT HB hb
      clear hb
      refine ⟨_, rfl, ?_⟩
      refine hK.out _ _ ⟨B1, B2, B3⟩ (fun hHeld => ?_)
      clear hK K
      refine norm_ (a' := ?_) ?_ ?_
      rotate_left
      · show Act.put _ (some 57) _ = _
        simp only [Act.put, List.setIfInBounds_toArray, List.set_cons_zero, List.set_cons_succ, i64_w, i32_w]
        rfl
      refine pure_ (i := 9) (N := some 58) (v := ?_) (a' := ?_) #[true, true, true, true, true, true, true, true, true, true, false, false, false, false, false, false, false, false, false, false, false] rfl rfl (any_of HT_.out (by kernel_rfl)) (fun _ _ _ h => h) (Or.inl ⟨by rfl, ?_⟩) ?_ ?_
      rotate_left
      · intro w'
        go_simp
        with_reducible rfl
      rotate_left
      · simp only [Act.put, List.setIfInBounds_toArray, List.set_cons_zero, List.set_cons_succ, i64_w, i32_w]
        rfl
      refine pure_ (i := 10) (N := some 59) (v := ?_) (a' := ?_) #[true, true, true, true, true, true, true, true, true, true, true, false, false, false, false, false, false, false, false, false, false] rfl rfl (any_of HT_.out (by kernel_rfl)) (fun _ _ _ h => h) (Or.inl ⟨by rfl, ?_⟩) ?_ ?_
      rotate_left
      · intro w'
        go_simp
        with_reducible rfl
      rotate_left
      · simp only [Act.put, List.setIfInBounds_toArray, List.set_cons_zero, List.set_cons_succ, i64_w, i32_w]
        rfl
      refine take_ (i := 11) (N := some 60) (v := ?_) (a' := ?_) #[true, true, true, true, true, true, true, true, true, true, true, true, false, false, false, false, false, false, false, false, false] rfl rfl (take_ofW HT_.out HW_.out (by kernel_rfl)) (fun _ _ _ h => h) (Or.inl ⟨by rfl, ?_⟩) hHeld ?_ ?_
      rotate_left
      · rintro w' ⟨s0, s1, s2⟩
        refine load_row (x := .tmp 5) ?_ ?_ s2 Tryd.underlying48 rfl HI3.out <;> rfl
      rotate_left
      · simp only [Act.put, List.setIfInBounds_toArray, List.set_cons_zero, List.set_cons_succ, i64_w, i32_w]
        rfl
      refine take_ (i := 12) (N := some 61) (v := ?_) (a' := ?_) #[true, true, true, true, true, true, true, true, true, true, true, true, true, false, false, false, false, false, false, false, false] rfl rfl (take_ofW HT_.out HW_.out (by kernel_rfl)) (fun _ _ _ h => h) (Or.inl ⟨by rfl, ?_⟩) hHeld ?_ ?_
      rotate_left
      · rintro w' ⟨s0, s1, s2⟩
        refine load_row (x := .tmp 3) ?_ ?_ s0 Tryd.underlying48 rfl HI1.out <;> rfl
      rotate_left
      · simp only [Act.put, List.setIfInBounds_toArray, List.set_cons_zero, List.set_cons_succ, i64_w, i32_w]
        rfl
      refine take_ (i := 14) (N := some 63) (v := ?_) (a' := ?_) #[true, true, true, true, true, true, true, true, true, true, true, true, true, false, true, false, false, false, false, false, false] rfl rfl (take_ofW HT_.out HW_.out (by kernel_rfl)) (fun _ _ _ h => h) (Or.inl ⟨by rfl, ?_⟩) hHeld ?_ ?_
      rotate_left
      · rintro w' ⟨s0, s1, s2⟩
        refine load_row (x := .tmp 5) ?_ ?_ s2 Tryd.underlying48 rfl HI3.out <;> rfl
      rotate_left
      · simp only [Act.put, List.setIfInBounds_toArray, List.set_cons_zero, List.set_cons_succ, i64_w, i32_w]
        rfl
      refine take_ (i := 15) (N := some 64) (v := ?_) (a' := ?_) #[true, true, true, true, true, true, true, true, true, true, true, true, true, false, true, true, false, false, false, false, false] rfl rfl (take_ofW HT_.out HW_.out (by kernel_rfl)) (fun _ _ _ h => h) (Or.inl ⟨by rfl, ?_⟩) hHeld ?_ ?_
      rotate_left
      · rintro w' ⟨s0, s1, s2⟩
        refine load_row (x := .tmp 4) ?_ ?_ s1 Tryd.underlying48 rfl HI2.out <;> rfl
      rotate_left
      · simp only [Act.put, List.setIfInBounds_toArray, List.set_cons_zero, List.set_cons_succ, i64_w, i32_w]
        rfl
      refine one_ (i := 13) (N := some 62) #[true, true, true, true, true, true, true, true, true, true, true, true, true, true, true, true, false, false, false, false, false] rfl rfl (one_of HT_.out (by kernel_rfl)) (by decide) (fun K hK => ?_)
      refine goes_ Tryd.func19 (by kernel_rfl) rfl #[.agg es, .agg cs] (by rfl) rfl rfl (by (try simp only [List.map_toArray, List.map_cons, List.map_nil]); first | done | rfl) ?_
      with_reducible refine (QCA.out _).mono ?_
      rintro e w1 ⟨rfl, hb⟩
      replace B1 := blkB hb B1
      replace B2 := blkB hb B2
      replace B3 := blkB hb B3
      replace HB := belT HB hb
      clear hb
      refine ⟨_, rfl, ?_⟩
      refine hK.out _ _ ⟨B1, B2, B3⟩ (fun hHeld => ?_)
      clear hK K
      refine norm_ (a' := ?_) ?_ ?_
      rotate_left
      · show Act.put _ (some 62) _ = _
        simp only [Act.put, List.setIfInBounds_toArray, List.set_cons_zero, List.set_cons_succ, i64_w, i32_w]
        rfl
      refine one_ (i := 16) (N := some 65) #[true, true, true, true, true, true, true, true, true, true, true, true, true, true, true, true, true, false, false, false, false] rfl rfl (one_of HT_.out (by kernel_rfl)) (by decide) (fun K hK => ?_)
      refine goes_ Tryd.func19 (by kernel_rfl) rfl #[.agg es, .agg ds] (by rfl) rfl rfl (by (try simp only [List.map_toArray, List.map_cons, List.map_nil]); first | done | rfl) ?_
      with_reducible refine (QCB.out _).mono ?_
      rintro e w1 ⟨rfl, hb⟩
      replace B1 := blkB hb B1
      replace B2 := blkB hb B2
      replace B3 := blkB hb B3
      replace HB := belT HB hb
      clear hb
      refine ⟨_, rfl, ?_⟩
      refine hK.out _ _ ⟨B1, B2, B3⟩ (fun hHeld => ?_)
      clear hK K
      refine norm_ (a' := ?_) ?_ ?_
      rotate_left
      · show Act.put _ (some 65) _ = _
        simp only [Act.put, List.setIfInBounds_toArray, List.set_cons_zero, List.set_cons_succ, i64_w, i32_w]
        rfl
      refine pure_ (i := 17) (N := some 66) (v := ?_) (a' := ?_) #[true, true, true, true, true, true, true, true, true, true, true, true, true, true, true, true, true, true, false, false, false] rfl rfl (any_of HT_.out (by kernel_rfl)) (fun _ _ _ h => h) (Or.inl ⟨by rfl, ?_⟩) ?_ ?_
      rotate_left
      · intro w'
        go_simp
        with_reducible rfl
      rotate_left
      · simp only [Act.put, List.setIfInBounds_toArray, List.set_cons_zero, List.set_cons_succ, i64_w, i32_w]
        rfl
      refine pure_ (i := 18) (N := some 67) (v := ?_) (a' := ?_) #[true, true, true, true, true, true, true, true, true, true, true, true, true, true, true, true, true, true, true, false, false] rfl rfl (any_of HT_.out (by kernel_rfl)) (fun _ _ _ h => h) (Or.inl ⟨by rfl, ?_⟩) ?_ ?_
      rotate_left
      · intro w'
        go_simp
        with_reducible rfl
      rotate_left
      · simp only [Act.put, List.setIfInBounds_toArray, List.set_cons_zero, List.set_cons_succ, i64_w, i32_w]
        rfl
      refine pure_ (i := 19) (N := some 68) (v := ?_) (a' := ?_) #[true, true, true, true, true, true, true, true, true, true, true, true, true, true, true, true, true, true, true, true, false] rfl rfl (any_of HT_.out (by kernel_rfl)) (fun _ _ _ h => h) (Or.inl ⟨by rfl, ?_⟩) ?_ ?_
      rotate_left
      · intro w'
        go_simp
        with_reducible rfl
      rotate_left
      · simp only [Act.put, List.setIfInBounds_toArray, List.set_cons_zero, List.set_cons_succ, i64_w, i32_w]
        rfl
      refine pure_ (i := 20) (N := some 6) (v := ?_) (a' := ?_) #[true, true, true, true, true, true, true, true, true, true, true, true, true, true, true, true, true, true, true, true, true] rfl rfl (any_of HT_.out (by kernel_rfl)) (fun _ _ _ h => h) (Or.inl ⟨by rfl, ?_⟩) ?_ ?_
      rotate_left
      · intro w'
        go_simp
        with_reducible rfl
      rotate_left
      · simp only [Act.put, List.setIfInBounds_toArray, List.set_cons_zero, List.set_cons_succ, i64_w, i32_w]
        rfl
      refine done_ (done_of HT_.out (by kernel_rfl)) ?_
      go_wp2
      go_ret
      exact ⟨rfl, belT HW.out (by first | exact HB | exact below_drew HB)⟩

/-- An object that Less looks at. -/
structure PodV (x : Array Value) (p : PK) : Prop where
  pod : Pod x p.name p.born p.node p.phase p.ready
  fits : p.name.size ≤ 140737488351232
theorem PodV.info {x : Array Value} {p : PK} (h : PodV x p) : (Tryd.prog.info? 48).map (·.size) = some x.size := by rw [h.pod.size]; exact infoO1
theorem lessIs {x y : Array Value} {p q : PK} (hx : PodV x p) (hy : PodV y q) : LessIs x y (p.less q) := fun w => less_calls x y _ _ _ _ _ _ _ _ _ _ hx.pod hy.pod hx.fits hy.fits w
theorem order_calls (cs ds es : Array Value) (p q r : PK) (h1 : PodV cs p) (h2 : PodV ds q) (h3 : PodV es r) (w : World) :
    Calls Tryd.prog 6 #[.agg cs, .agg ds, .agg es] w fun e w' => e = .returned (.bool true) ∧ Below w.heap.size w w' := by
  have laa := lessIs h1 h1
  have lab := lessIs h1 h2
  have lba := lessIs h2 h1
  have lbc := lessIs h2 h3
  have lac := lessIs h1 h3
  have lca := lessIs h3 h1
  have lcb := lessIs h3 h2
  rw [less_irrefl] at laa
  rw [less_podC] at lab lba lbc lac lca lcb
  have i1 := Lib.hid h1.info
  have i2 := Lib.hid h2.info
  have i3 := Lib.hid h3.info
  have a1 := podC_cmp.anti p q
  have a2 := podC_cmp.anti q r
  have a3 := podC_cmp.anti p r
  by_cases x : podC p q < 0
  · have y : ¬ podC q p < 0 := by omega
    rw [decide_eq_true x] at lab
    rw [decide_eq_false y] at lba
    by_cases z : podC q r < 0
    · have t := podC_cmp.lt_trans x (by omega : podC q r ≤ 0)
      rw [decide_eq_true z] at lbc
      rw [decide_eq_true t] at lac
      exact order1 _ _ cs ds es i1 i2 i3 (Lib.hid laa) (Lib.hid lab) (Lib.hid lba) (Lib.hid lbc) (Lib.hid lac) (Lib.hid lca) (Lib.hid lcb) w
    · rw [decide_eq_false z] at lbc
      exact order2 _ _ _ cs ds es i1 i2 i3 (Lib.hid laa) (Lib.hid lab) (Lib.hid lba) (Lib.hid lbc) (Lib.hid lac) (Lib.hid lca) (Lib.hid lcb) w
  · rw [decide_eq_false x] at lab
    by_cases y : podC q p < 0
    · rw [decide_eq_true y] at lba
      exact order3 _ _ _ _ cs ds es i1 i2 i3 (Lib.hid laa) (Lib.hid lab) (Lib.hid lba) (Lib.hid lbc) (Lib.hid lac) (Lib.hid lca) (Lib.hid lcb) w
    · rw [decide_eq_false y] at lba
      obtain ⟨l1, l2⟩ := podC_cmp.level_neg (by omega : podC p q = 0) r
      rw [show decide (podC p r < 0) = decide (podC q r < 0) by rw [decide_eq_decide]; exact l1] at lac
      rw [show decide (podC r p < 0) = decide (podC r q < 0) by rw [decide_eq_decide]; omega] at lca
      exact order4 _ _ cs ds es i1 i2 i3 (Lib.hid laa) (Lib.hid lab) (Lib.hid lba) (Lib.hid lbc) (Lib.hid lac) (Lib.hid lca) (Lib.hid lcb) w
end Go.Proofs.YtoepbjgldmgaoaaDoor

/- An object that is an argument, opened: the parts that rank.Less looks at. -/
namespace Go.Proofs.YtoepbjgldmgaoaaDoor
set_option linter.unusedVariables false
open Go.ChangeShapes Go.WideShapes Go.RowKit
theorem okWide_agg {P : Program} {W : World} {r : Reach} {b0 : Nat} {t : TypeId} {fs : Array Field} {v : Value} (ht : P.underlying t = some (.struct fs)) (h : Value.okWide P W r b0 t v) : ∃ cs, v = .agg cs ∧ cs.size = P.cellsOf t := by
  unfold Value.okWide at h
  rw [ht] at h
  obtain ⟨cs, h1, h2, _⟩ := h
  exact ⟨cs, h1, h2⟩
theorem one_of_take {cs : Array Value} {o : Nat} {v : Value} (h : (cs.toList.drop o).take 1 = [v]) : cs[o]? = some v := by
  have h1 : ((cs.toList.drop o).take 1)[0]? = some v := by rw [h]; rfl
  rw [List.getElem?_take, if_pos (by omega), List.getElem?_drop, Nat.add_zero] at h1
  simpa using h1

set_option maxRecDepth 100000 in
theorem open_pod {H : Type} {enc : TypeId × Value → H} {W : World} {base : Nat} {spare : Nat → Bool} {held : Bool} {r : Reach} {b0 : Nat} {v : Value} {d : DataW H} {ps : List MemPlace}
    (hval : Value.okWide Tryd.prog W r b0 48 v) (hw : ∀ n ∈ d.weights Tryd.prog 48, n ≤ reachBytes) (h : DataW.Trod enc Tryd.prog W base spare held 48 v d ps) :
    ∃ cs n b o p rd, v = .agg cs ∧ Pod cs n b o p rd ∧ n.size ≤ 140737488351232 ∧ -9223372036854775808 ≤ b ∧ b ≤ 9223372036854775807 := by
  have hu := Tryd.underlying48
  obtain ⟨cs, rfl, hsz⟩ := okWide_agg hu hval
  rw [show Tryd.prog.cellsOf 48 = 32 by kernel_rfl] at hsz
  obtain ⟨fuel, hf⟩ := h
  obtain ⟨xs, m, rfl, hx, _, hl, hfd⟩ := DataW.trod_struct hu hf
  have c1 : Tryd.prog.cellsOf 9 = 1 := by kernel_rfl
  have c2 : Tryd.prog.cellsOf 3 = 1 := by kernel_rfl
  have c3 : Tryd.prog.cellsOf 4 = 1 := by kernel_rfl
  have f1 : DataW.trod enc Tryd.prog W base spare held m 9 ((cs.toList.drop 1).take (Tryd.prog.cellsOf 9)) = xs[1]? := hfd 1 _ rfl
  rw [c1] at f1
  have f3 : DataW.trod enc Tryd.prog W base spare held m 3 ((cs.toList.drop 3).take (Tryd.prog.cellsOf 3)) = xs[3]? := hfd 3 _ rfl
  rw [c2] at f3
  have f12 : DataW.trod enc Tryd.prog W base spare held m 9 ((cs.toList.drop 13).take (Tryd.prog.cellsOf 9)) = xs[12]? := hfd 12 _ rfl
  rw [c1] at f12
  have f13 : DataW.trod enc Tryd.prog W base spare held m 3 ((cs.toList.drop 14).take (Tryd.prog.cellsOf 3)) = xs[13]? := hfd 13 _ rfl
  rw [c2] at f13
  have f14 : DataW.trod enc Tryd.prog W base spare held m 4 ((cs.toList.drop 15).take (Tryd.prog.cellsOf 4)) = xs[14]? := hfd 14 _ rfl
  rw [c3] at f14
  have ex : ∀ j, j < xs.length → ∃ y, xs[j]? = some y := fun j hj => ⟨_, List.getElem?_eq_getElem hj⟩
  have hlen : 14 < xs.length := by rw [hl]; decide
  obtain ⟨y1, e1⟩ := ex 1 (by omega)
  obtain ⟨y3, e3⟩ := ex 3 (by omega)
  obtain ⟨y12, e12⟩ := ex 12 (by omega)
  obtain ⟨y13, e13⟩ := ex 13 (by omega)
  obtain ⟨y14, e14⟩ := ex 14 (by omega)
  rw [e1] at f1; rw [e3] at f3; rw [e12] at f12; rw [e13] at f13; rw [e14] at f14
  obtain ⟨n, g1, x1, _⟩ := DataW.trod_string Tryd.underlying9 f1
  obtain ⟨b, g3, _, wb⟩ := DataW.trod_int Tryd.underlying3 f3
  obtain ⟨o, g12, _, _⟩ := DataW.trod_string Tryd.underlying9 f12
  obtain ⟨p, g13, _, _⟩ := DataW.trod_int Tryd.underlying3 f13
  obtain ⟨rd, g14, _⟩ := DataW.trod_bool Tryd.underlying4 f14
  have bb := bounds_i64 wb
  obtain ⟨hd, _⟩ := Prod.mk.inj hx
  refine ⟨cs, n, b, o, p, rd, rfl, ⟨hsz, one_of_take g1, one_of_take g3, one_of_take g12, one_of_take g13, one_of_take g14⟩, ?_, bb.1, bb.2⟩
  have hz : n.data.toList.length ≤ reachBytes := by
    refine hw _ ?_
    rw [hd]
    unfold DataW.weights
    rw [hu]
    refine DataW.weights_mem_each (j := 1) (t := 9) (d := y1.1) rfl (by simp [e1]) _ ?_
    rw [x1]
    simp [DataW.weights]
  rw [Array.length_toList] at hz
  exact hz
end Go.Proofs.YtoepbjgldmgaoaaDoor

/- A start for the witness: the settled world, some variables' cells laid as the row says. -/
namespace Go.Proofs.YtoepbjgldmgaoaaDoor
/-- The cells of a datum that is made of numbers (in arrays, structs; two deep). -/
def flat1 : DataW Unit → List Value
  | .lit (.int k n) => [.int k n]
  | _ => []
def flat2 : DataW Unit → List Value
  | .agg l => l.flatMap fun
    | .agg m => m.flatMap flat1
    | x => flat1 x
  | x => flat1 x
def handleCell (h t : Nat) : List Value := [.iface h (.agg #[.pointer (some ⟨3, t, none⟩)])]
/-- One variable's cells, laid. -/
def layAt (heap : Array Obj) (x : Nat × List Value) : Array Obj := heap.modify x.1 fun
  | .cells _ t frozen => .cells x.2.toArray t frozen
  | o => o
noncomputable def laidWith (l : List (Nat × List Value)) (os : Os) : World :=
  { World.holding Tryd.prog os ⟨#[], #[], []⟩ with heap := l.foldl layAt (World.holding Tryd.prog os ⟨#[], #[], []⟩).heap }
end Go.Proofs.YtoepbjgldmgaoaaDoor
