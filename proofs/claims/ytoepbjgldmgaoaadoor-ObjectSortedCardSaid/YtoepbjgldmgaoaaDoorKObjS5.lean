/- Lemmas on which the law stands, part 5: SrtC, RefS, ObjSorted, Laid. -/
import Derived.Test.YtoepbjgldmgaoaaDoorKObjS3
import Derived.Test.YtoepbjgldmgaoaaDoorKObjS4
import Derived.Test.YtoepbjgldmgaoaaDoorCards
import Derived.WalkKit
import Derived.ProofKit
set_option linter.unusedVariables false
set_option linter.unusedSimpArgs false
/- object.clone; an object stored into a list of one's own; object.Sorted. -/
namespace Go.Proofs.YtoepbjgldmgaoaaDoor
open Go.RowKit Go.Proofs.YtoepbjgldmgaoaaDoorW.PrintWords Go.Proofs.YtoepbjgldmgaoaaDoorW.PrintLast
def rg42_1_T : Bool × List (List Nat × List Nat) := (true, [([], []), ([0], [0]), ([1], [1]), ([], []), ([3], [3]), ([4, 2], [4]), ([0, 1, 2, 3, 4], []), ([6, 2, 5, 0, 1, 2, 3, 4], [2, 6]), ([0, 1, 2, 3, 4, 5, 6, 7], []), ([8, 5, 7, 0, 1, 2, 3, 4, 5, 6, 7], [5, 8])])
def rg42_1_B : List Nat := [0, 1, 3, 0, 8, 31, 31, 127, 255, 511]
theorem rg42_1_tab : rtab .any (opsOf Tryd.f42 1) = rg42_1_T := by kernel_rfl
theorem rg42_1_bits : waitsOk rg42_1_T.2 rg42_1_B = true := by kernel_rfl
set_option maxHeartbeats 4000000 in
set_option maxRecDepth 100000 in
theorem objClone_calls (o : Ob) (v4 v27 : Value) (w : World) (h4 : LabK w o.labels v4) (h27 : LabK w o.select v27) (hf : ObFits o) :
    Calls Tryd.prog 42 #[.agg (o.cells v4 v27)] w fun e w' => ∃ u4 u27, e = .returned (.agg (o.cells u4 u27)) ∧ kO.M w' w.heap.size (fun _ => True) o (o.cells u4 u27).toList ∧ Below w.heap.size w w' := by
  obtain ⟨A4, c4, rfl, hl4, hr4⟩ := h4
  obtain ⟨A27, c27, rfl, hl27, hr27⟩ := h27
  have Q4 := Lib.hid (fun W (hW : Below w.heap.size w W) => clone_calls A4 c4 o.labels W (Kd.C_below hr4 hW) (Nat.le_trans hf.2.1 (by decide)))
  have Q27 := Lib.hid (fun W (hW : Below w.heap.size w W) => clone_calls A27 c27 o.select W (Kd.C_below hr27 hW) (Nat.le_trans hf.2.2 (by decide)))
  obtain ⟨cs, hcs⟩ : ∃ cs, cs = o.cells (.slice A4 o.labels.length c4) (.slice A27 o.select.length c27) := ⟨_, rfl⟩
  have e4 : cs[4]? = some (.slice A4 o.labels.length c4) := by rw [hcs]; rfl
  have e27 : cs[27]? = some (.slice A27 o.select.length c27) := by rw [hcs]; rfl
  have hsz : cs.size = 32 := by rw [hcs]; rfl
  have HCS := Lib.hid (And.intro hcs (And.intro e4 (And.intro e27 hsz)))
  obtain ⟨n4, hn4⟩ : ∃ n, n = o.labels.length := ⟨_, rfl⟩
  obtain ⟨n27, hn27⟩ : ∃ n, n = o.select.length := ⟨_, rfl⟩
  rw [← hcs]
  clear hcs e4 e27 hsz hl4 hr4 hl27 hr27 hf hn4 hn27
  go_enter Tryd.func42, Tryd.ntmps42
  obtain ⟨zz, hzz⟩ : ∃ zz, zz = Ob.zero.cells (.slice none 0 0) (.slice none 0 0) := ⟨_, rfl⟩
  have Hzz : Hid (zz.size = 32) := Lib.hid (by rw [hzz]; rfl)
  go_upto_region 1 with (fail)
  rw [show ((w.alloc (Obj.cells cs 48)).alloc _) = (w.alloc (Obj.cells cs 48)).alloc (Obj.cells zz 48) by rw [hzz]; rfl]
  have HBW : Below w.heap.size w ((w.alloc (Obj.cells cs 48)).alloc (Obj.cells zz 48)) := Go.Joins.below_alloc2 w _ _
  have BA : ((w.alloc (Obj.cells cs 48)).alloc (Obj.cells zz 48)).heap[w.heap.size]? = some (.cells cs 48 (0, 0)) := (heap_alloc_old _ _ (by simp)).trans (heap_alloc_new w _)
  have BC : ((w.alloc (Obj.cells cs 48)).alloc (Obj.cells zz 48)).heap[w.heap.size + 1]? = some (.cells zz 48 (0, 0)) := heap_alloc2_new w _ _
  generalize ((w.alloc (Obj.cells cs 48)).alloc (Obj.cells zz 48)) = W0 at HBW BA BC ⊢
  obtain ⟨g, hg⟩ : ∃ x, x = w.heap.size := ⟨_, rfl⟩
  obtain ⟨gc, hgc⟩ : ∃ x, x = w.heap.size + 1 := ⟨_, rfl⟩
  have hgg : g < gc := by omega
  have hgw : w.heap.size ≤ g := by omega
  have hgcw : w.heap.size ≤ gc := by omega
  rw [← hgc] at BC ⊢
  rw [← hg] at BA ⊢
  have HBD := below_drew HBW
  have G : W0.drew.heap[g]? = some (.cells cs 48 (0, 0)) := BA
  have GC : W0.drew.heap[gc]? = some (.cells zz 48 (0, 0)) := BC
  have C4 : W0.drew.cell? ⟨g, 4, none⟩ = some (.slice A4 o.labels.length c4) := (cell_of_row _ _ 4 _ _ _ G).trans HCS.out.2.1
  have C27 : W0.drew.cell? ⟨g, 27, none⟩ = some (.slice A27 o.select.length c27) := (cell_of_row _ _ 27 _ _ _ G).trans HCS.out.2.2.1
  clear BA BC HBW hg hgc hzz
  refine start_ (n := 10) (S := fun w' => w'.heap[g]? = some (.cells cs 48 (0, 0)) ∧ w'.cell? ⟨g, 4, none⟩ = some (.slice A4 o.labels.length c4) ∧ w'.cell? ⟨g, 27, none⟩ = some (.slice A27 o.select.length c27)) (ds := [7, 9]) (bs 10 0) (by kernel_rfl) rfl (by kernel_rfl) ⟨G, C4, C27⟩ (fun hHeld => ?_)
  refine with_tabW rg42_1_tab rg42_1_bits (fun HT_ HW_ => ?_)
  refine pu 0 (some 3) (bs 10 1) HT_ rfl rfl (by kernel_rfl) (fun _ _ _ _ h => h) ⟨_, .inl ⟨by rfl, fun _ => by go_simp; with_reducible rfl⟩, _, by simp only [Act.put, sA, sB, sC, i64_w, i32_w]; rfl, ?_⟩
  refine pu 3 (some 6) (bs 10 9) HT_ rfl rfl (by kernel_rfl) (fun _ _ _ _ h => h) ⟨_, .inl ⟨by rfl, fun _ => by go_simp; with_reducible rfl⟩, _, by simp only [Act.put, sA, sB, sC, i64_w, i32_w]; rfl, ?_⟩
  refine tk 1 (some 4) (bs 10 11) HT_ HW_ rfl rfl (by kernel_rfl) (fun _ _ _ _ h => h) hHeld ⟨_, .inl ⟨by rfl, by rintro w' ⟨s0, s1, s2⟩; go_simp; with_reducible rfl⟩, _, by simp only [Act.put, sA, sB, sC, i64_w, i32_w]; rfl, ?_⟩
  refine tk 4 (some 7) (bs 10 27) HT_ HW_ rfl rfl (by kernel_rfl) (fun _ _ _ _ h => h) hHeld ⟨_, .inl ⟨by rfl, by rintro w' ⟨s0, s1, s2⟩; go_simp; with_reducible rfl⟩, _, by simp only [Act.put, sA, sB, sC, i64_w, i32_w]; rfl, ?_⟩
  refine on1 2 (some 5) (bs 10 31) HT_ rfl rfl (by kernel_rfl) (by decide) (fun K hK => ?_)
  refine goes_ Tryd.func68 (by kernel_rfl) rfl #[.slice A4 o.labels.length c4] (by rfl) rfl rfl (by (try simp only [List.map_toArray, List.map_cons, List.map_nil]); first | done | rfl) ?_
  with_reducible refine (Q4.out _ HBD).mono ?_
  rintro e w2 ⟨v5, rfl, H5, hb⟩
  have K5 : ∀ k, v5.ownBlock = some k → gc < k := fun k hk => Nat.lt_of_lt_of_le (blkLt GC) (Kd.R_base H5 k hk)
  have B5 := HBD.size
  replace G := blkB hb G
  replace GC := blkB hb GC
  replace C4 := cell_below hb C4
  replace C27 := cell_below hb C27
  replace HBD := belT HBD hb
  clear hb
  refine ⟨_, rfl, ?_⟩
  refine hK.out _ _ ⟨G, C4, C27⟩ (fun hHeld => ?_)
  clear hK K
  refine nm ⟨_, show Act.put _ (some 5) _ = _ by simp only [Act.put, sA, sB, sC, i64_w, i32_w]; rfl, ?_⟩
  refine pu 6 (some 9) (bs 10 95) HT_ rfl rfl (by kernel_rfl) (fun _ _ _ _ h => h) ⟨_, .inl ⟨by rfl, fun _ => by go_simp; with_reducible rfl⟩, _, by simp only [Act.put, sA, sB, sC, i64_w, i32_w]; rfl, ?_⟩
  refine on1 5 (some 8) (bs 10 127) HT_ rfl rfl (by kernel_rfl) (by decide) (fun K hK => ?_)
  refine goes_ Tryd.func68 (by kernel_rfl) rfl #[.slice A27 o.select.length c27] (by rfl) rfl rfl (by (try simp only [List.map_toArray, List.map_cons, List.map_nil]); first | done | rfl) ?_
  with_reducible refine (Q27.out _ HBD).mono ?_
  rintro e w3 ⟨v8, rfl, H8, hb⟩
  have K8 : ∀ k, v8.ownBlock = some k → gc < k := fun k hk => Nat.lt_of_lt_of_le (blkLt GC) (Kd.R_base H8 k hk)
  have L5 := Kd.R_lt H5
  have L8 := Kd.R_base H8
  have B8 := HBD.size
  replace H5 := Kd.R_below H5 hb
  replace G := blkB hb G
  replace GC := blkB hb GC
  replace C4 := cell_below hb C4
  replace C27 := cell_below hb C27
  replace HBD := belT HBD hb
  clear hb
  refine ⟨_, rfl, ?_⟩
  refine hK.out _ _ ⟨G, C4, C27⟩ (fun hHeld => ?_)
  clear hK K
  refine nm ⟨_, show Act.put _ (some 8) _ = _ by simp only [Act.put, sA, sB, sC, i64_w, i32_w]; rfl, ?_⟩
  refine la1 7 (none) (bs 10 255) HT_ rfl rfl (by kernel_rfl) (by decide) (fun K hK => ?_)
  refine store1_ (g := g) (i := 4) (x := .tmp 9) (y := .tmp 5) (u := v5) (by rfl) rfl rfl rfl rfl (lab_cells H5) G (by rw [HCS.out.2.2.2]; omega) (by kernel_rfl) (Kd.R_val H5).2 ?_
  intro w4 G4 hk4 hb4
  refine hK.out _ _ ?_
  clear hK K
  refine pu 8 (some 10) (bs 10 511) HT_ rfl rfl (by kernel_rfl) (fun _ _ _ _ h => h) ⟨_, .inl ⟨by rfl, fun _ => by go_simp; with_reducible rfl⟩, _, by simp only [Act.put, sA, sB, sC, i64_w, i32_w]; rfl, ?_⟩
  refine la1 9 (none) (bs 10 1023) HT_ rfl rfl (by kernel_rfl) (by decide) (fun K hK => ?_)
  refine store1_ (g := g) (i := 27) (x := .tmp 10) (y := .tmp 8) (u := v8) (by rfl) rfl rfl rfl rfl (lab_cells H8) G4 (by rw [Array.size_setIfInBounds, HCS.out.2.2.2]; omega) (by kernel_rfl) (Kd.R_val H8).2 ?_
  intro w5 G5 hk5 hb5
  refine hK.out _ _ ?_
  clear hK K
  refine done_ (done_of HT_.out (by kernel_rfl)) ?_
  rw [HCS.out.1, cells_set] at G5
  have HB5 : Below w.heap.size w w5 := hb5 _ _ (hb4 _ _ HBD hgw) hgw
  have hst : ∀ k, k ≠ g → w5.heap[k]? = w3.heap[k]? := fun k hk => (hk5 k hk).trans (hk4 k hk)
  have N5 : ∀ k, v5.ownBlock = some k → v8.ownBlock ≠ some k := fun k hk hk' => by
    have := L5 k hk
    have := L8 k hk'
    omega
  have R5 : kL.R 98 w5 w.heap.size (fun k => some k = v5.ownBlock) v5 o.labels := Kd.R_lower (Kd.R_step (Kd.R_tight rfl H5) (fun k hk _ => hst k (by have := K5 k hk.symm; omega))) B5
  have R8 : kL.R 98 w5 w.heap.size (fun k => some k = v8.ownBlock) v8 o.select := Kd.R_lower (Kd.R_step (Kd.R_tight rfl H8) (fun k hk _ => hst k (by have := K8 k hk.symm; omega))) B8
  have GC5 : w5.heap[gc]? = some (.cells zz 48 (0, 0)) := (hst gc (by omega)).trans GC
  have one4 := (Kd.R_val H5).2
  have one27 := (Kd.R_val H8).2
  have HA := Lib.hid (And.intro R5 (And.intro R8 (And.intro N5 (And.intro K5 (And.intro K8 (And.intro HB5 (And.intro GC5 (And.intro G5 (And.intro one4 one27)))))))))
  clear R5 R8 N5 K5 K8 HB5 GC5 G5 hst HBD G GC C4 C27 H5 H8 L5 L8 B5 B8 G4 hk4 hb4 hk5 hb5 Q4 Q27 one4 one27
  go_wp2_with (first
    | ((with_reducible refine wpList_load_blk rfl 48 (.tmp 1) rfl g 48 ?l1 (o.cells v5 v8) _ ?l2 Tryd.underlying48 ?l3 ?l4 ?_); (case l1 => rfl); (case l2 => exact HA.out.2.2.2.2.2.2.2.1); (case l3 => rfl); (case l4 => exact infoO1))
    | ((with_reducible refine wpList_store_blk rfl 48 (.tmp 2) (.tmp 11) rfl gc 48 zz (o.cells v5 v8) ?c1 ?c2 ?c3 ?c4 ?c5 ?c6 ?_); (case c1 => rfl); (case c2 => rfl); (case c3 => exact HA.out.2.2.2.2.2.2.1); (case c4 => exact infoO1); (case c5 => exact Hzz.out); (case c6 => exact o.cells_one HA.out.2.2.2.2.2.2.2.2.1 HA.out.2.2.2.2.2.2.2.2.2); intro w6 BC' hk hb hz))
  refine bodyPost_ret (v := .agg (o.cells v5 v8)) (results_cell_row (p := 2) (ty := 48) rfl _ _ gc 48 (o.cells v5 v8) (0, 0) _ (by rfl) BC' Tryd.underlying48 rfl infoO1) rfl ?_
  refine ⟨v5, v8, rfl, ⟨v5, v8, rfl, Kd.R_mono (Kd.R_move HA.out.1 (fun k hk' => hk k (by have := HA.out.2.2.2.1 k hk'.symm; omega))) (fun k hk' => ⟨trivial, fun e => HA.out.2.2.1 k hk'.symm e.symm⟩), Kd.R_mono (Kd.R_move HA.out.2.1 (fun k hk' => hk k (by have := HA.out.2.2.2.2.1 k hk'.symm; omega))) (fun k hk' => ⟨trivial, fun e => HA.out.2.2.1 k e.symm hk'.symm⟩)⟩, hb _ _ HA.out.2.2.2.2.2.1 hgcw⟩
section
variable {P : Program}
theorem wpList_storeS {ops : Array Oper} {rest : List Oper} {op : Oper} {a : Act} {W : World} {Q : Exit → Act → World → Prop} (hgd : op.guard = none) (p x : Operand) (ho : op.op = .store 48 p x) (g i n cap N0 base : Nat) (xs : List Ob) (o : Ob) (cs : Array Value)
    (haddr : a.eval p = .pointer (some ⟨g, i * 32, none⟩)) (hx : a.eval x = .agg cs) (hinfo : (P.info? 48).map (·.size) = some 32) (hS : Kd.S kO 48 W base (fun k => k < N0) (.slice (some ⟨g, 0, none⟩) n cap) xs) (hi : i < n) (hM : kO.M W base (fun k => N0 ≤ k) o cs.toList)
    (h : ∀ w1, Kd.S kO 48 w1 base (fun _ => True) (.slice (some ⟨g, 0, none⟩) n cap) (xs.set i o) → W.grownBy w1 (some g) → wpList P ops Q rest (a.put op.dst undef) w1) : wpList P ops Q (op :: rest) a W := by
  have hcl := kO.K_len (kO.K_of_M hM)
  have hone := kO.K_one (kO.K_of_M hM)
  have hgN : g < N0 := by
    obtain ⟨f, h0, _⟩ := hS
    exact h0 g rfl
  obtain ⟨f, h0, inner, hown, hr⟩ := id hS
  rw [List.length_zipIdx] at hown
  have hS' : Kd.S kO 48 W base (fun k => True ∧ ¬ N0 ≤ k) (.slice (some ⟨g, 0, none⟩) n cap) xs := Kd.S_mono hS (fun k hk => ⟨trivial, by omega⟩)
  obtain ⟨oki, c, hc1, hM1, hcc, _, hoki, hH⟩ := Kd.S_elem hS' Ob.zero (i : Int) (Int.natCast_nonneg _) (by omega)
  have hsz : kO.sz = 32 := rfl
  have e : c.take 0 ++ cs.toList ++ c.drop (0 + cs.toList.length) = cs.toList := by
    rw [List.take_zero, List.nil_append, Nat.zero_add, hcl, ← hc1, List.drop_length, List.append_nil]
  obtain ⟨hs, hg⟩ := Kd.S_seg (okg := fun k => N0 ≤ k) hH (Int.natCast_nonneg _) (by omega) (seg := cs.toList) (j := 0) (by rw [hcl]; exact Nat.le_of_eq (Nat.zero_add _)) (x' := o) (okp := fun k => N0 ≤ k) (by rw [e]; exact hM) (fun k hk => Or.inr hk) (fun k hk => ⟨trivial, by omega⟩)
  rw [Int.toNat_natCast, hsz, Nat.add_zero] at hs hg
  refine wpList_plain hgd fun K hK => ?_
  rcases hown.2 with ⟨hv, _⟩ | ⟨g', cap', cur, hv, hb, hh, hnc, hcm, hcs, ht⟩
  · cases hv
  · injection hv with hv1 hv2 hv3
    injection hv1 with hv1
    injection hv1 with hv1
    subst hv1
    have hsz2 : (Kd.tag f kO).sz = 32 := rfl
    rw [hsz2] at hcs
    rw [hsz] at hcl
    have hst := run_store_run (P := P) (w := W) (g := g) (o := i * 32) 48 (.agg cs) cs.toList hh rfl (by rw [hcl]; exact hinfo) (by rw [hcl, hcs]; omega) hone
    unfold Oper.wp execOp
    simp only [ho, haddr, hx, hst, Sem.run_bind, Sem.run_pure, Result.andThen_ok]
    exact hK _ _ (h _ hs hg)
end
theorem kO_kn {w : World} {o : Ob} {cs : List Value} (h : kO.K w o cs) : knOf cs.toArray = o.kn := by
  obtain ⟨v4, v27, rfl, _⟩ := h
  simp only [Array.toArray_toList]
  rfl
theorem made_form {w1 : World} {base n : Nat} {v1 : Value} {W : World} (hS : Kd.S kO 48 w1 base (fun _ => True) v1 (List.replicate (n : Int).toNat Ob.zero)) (hat : ∃ b, v1.ownBlock = some b ∧ W.heap.size ≤ b) :
    ∃ g c, v1 = .slice (some ⟨g, 0, none⟩) n c ∧ Kd.S kO 48 w1 base (fun _ => True) (.slice (some ⟨g, 0, none⟩) n c) (List.replicate n Ob.zero) := by
  rw [Int.toNat_natCast] at hS
  obtain ⟨A, c, e⟩ := Kd.S_slice hS
  rw [List.length_replicate] at e
  subst e
  obtain ⟨b, hb, _⟩ := hat
  cases A with
  | none => simp [Value.ownBlock] at hb
  | some ad =>
    obtain ⟨g, rfl⟩ := Kd.R_head (Kd.S_R hS)
    exact ⟨g, c, rfl, hS⟩
theorem srt_round {w wr w4 w5 : World} {v : Value} {xs : List Ob} {o : Ob} {cs : List Value} (hS : Kd.S kO 48 wr w.heap.size (fun _ => True) v xs) (hB : Below w.heap.size w wr) (h4 : Below wr.heap.size wr w4) (h5 : Below w4.heap.size w4 w5) (hM : kO.M w5 w4.heap.size (fun _ => True) o cs) :
    Kd.S kO 48 w5 w.heap.size (fun k => k < wr.heap.size) v xs ∧ kO.M w5 w.heap.size (fun k => wr.heap.size ≤ k) o cs ∧ Below w.heap.size w w5 := by
  have h45 := belT h4 h5
  have h6 := h4.size
  have h7 := hB.size
  refine ⟨Kd.S_below (Kd.S_mono (Kd.S_bound hS) (fun k hk => hk.2.2.1)) h45, kO.M_lower (by omega) (kO.M_mono (fun k hk => by have := hk.2.1; omega) (kO.M_bound hM)), belT hB h45⟩
theorem srt_grown {w w5 w6 : World} {g : Nat} (h : Below w.heap.size w w5) (hg : w5.grownBy w6 (some g)) (hb : w.heap.size ≤ g) : Below w.heap.size w w6 :=
  ⟨hg.os.trans h.os, hg.tape.trans h.tape, hg.output.trans h.output, Nat.le_trans h.size hg.size, fun k hk => (hg.block k (Nat.lt_of_lt_of_le hk h.size) (fun e => by injection e with e; omega)).trans (h.block k hk)⟩
theorem zero_M (w : World) (base : Nat) : kO.M w base (fun _ => False) Ob.zero (Value.agg (Ob.zero.cells (.slice none 0 0) (.slice none 0 0))).cells.toList := ⟨_, _, rfl, Kd.R_nil _ _ _ _ _, Kd.R_nil _ _ _ _ _⟩
theorem fill_set {l : List Ob} {k n : Nat} {o : Ob} (hl : l.length = n) (hk : k < n) (ho : l[k]? = some o) : (l.take k ++ List.replicate (n - k) Ob.zero).set k o = l.take (k + 1) ++ List.replicate (n - (k + 1)) Ob.zero := by
  have hlk : (l.take k).length = k := by rw [List.length_take]; omega
  rw [List.set_append_right _ _ (by rw [hlk]; exact Nat.le_refl _), hlk, Nat.sub_self, show n - k = (n - (k + 1)) + 1 by omega, List.replicate_succ, List.set_cons_zero, List.take_add_one, ho]
  simp
set_option maxHeartbeats 4000000 in
set_option maxRecDepth 100000 in
theorem sorted_calls (A : Option Addr) (c n : Nat) (l : List Ob) (w : World) (hr : kO.C w A n l) (hl : l.length = n) (hn : n ≤ 1000000) (hf : ∀ o ∈ l, ObFits o) :
    Calls Tryd.prog 13 #[.slice A n c] w fun e w' => ∃ A' c', e = .returned (.slice A' n c') ∧ Kd.S kO 48 w' w.heap.size (fun _ => True) (.slice A' n c') (sortK l) ∧ Below w.heap.size w w' := by
  have HR := Lib.hid (And.intro hr (And.intro hl (And.intro hf (And.intro (zero_M w w.heap.size) (show (n : Int).toNat * 312 ≤ 281474976710656 by omega)))))
  clear hr hl hf
  go_enter Tryd.func13, Tryd.ntmps13
  go_wp2_with (first
    | ((with_reducible refine gate_ (.makeSlice 22 (.tmp 7) (.tmp 7)) rfl ?_); refine Kd.S_make kO (w0 := w) (W := w) w.heap.size 48 rfl (N := 8) rfl 22 (.tmp 7) (.tmp 7) rfl (n : Int) rfl rfl Tryd.underlying22 (.agg (Ob.zero.cells (.slice none 0 0) (.slice none 0 0))) 312 infoO rfl (by decide) (by decide) Ob.zero (ok := fun _ => True) (okp := fun _ => False) HR.out.2.2.2.1 (fun _ h => h.elim) trivial (Int.natCast_nonneg _) HR.out.2.2.2.2 (Below.refl _ _) (Nat.le_refl _) ?_; intro v1 w1 hS hB hg hat; obtain ⟨g, c3, hv1, hS1⟩ := made_form hS hat; have HS := Lib.hid (And.intro hS1 hB); clear hS hB hg hat hS1; subst hv1))
  go_loopw [11] (fun v11 wr => ∃ k : Nat, k ≤ n ∧ v11 = .int .i64 k ∧ Hid (Kd.S kO 48 wr w.heap.size (fun _ => True) (.slice (some ⟨g, 0, none⟩) n c3) (l.take k ++ List.replicate (n - k) Ob.zero) ∧ Below w.heap.size w wr)) (fun v11 _ => n - (intOf v11).toNat)
  case atStart => exact ⟨0, Nat.zero_le _, rfl, Lib.hid ⟨by simpa using HS.out.1, HS.out.2⟩⟩
  case round =>
    obtain ⟨k, hk, rfl, hI⟩ := hrel
    by_cases hkn : k < n
    · obtain ⟨o, ho⟩ : ∃ o, l[k]? = some o := ⟨_, List.getElem?_eq_getElem (by rw [HR.out.2.1]; exact hkn)⟩
      obtain ⟨ad, v4, v27, rfl, h4, h27, hcell0⟩ := obj_at (Kd.C_below HR.out.1 hI.out.2) k o ho
      have hlk : (k : Int) < (n : Int) := by omega
      have hone := o.cells_one (v4 := v4) (v27 := v27) h4.one h27.one
      obtain ⟨cs, hcs⟩ : ∃ cs, cs = o.cells v4 v27 := ⟨_, rfl⟩
      have QC := Lib.hid (fun W (hW : Below wr.heap.size wr W) => objClone_calls o v4 v27 W (h4.below hW) (h27.below hW) (HR.out.2.2.1 o (List.mem_of_getElem? ho)))
      rw [← hcs] at hcell0 hone
      have HO := Lib.hid (And.intro hcell0 (And.intro hone (And.intro (show cs.size = 32 by rw [hcs]; rfl) (And.intro hcs ho))))
      clear hcell0 hone hcs ho h4 h27
      go_wp2_with (first
        | ((with_reducible refine wpList_load_any rfl 48 (.tmp 14) rfl (ad.add (k * 32)) ?c1 cs _ ?c2 Tryd.underlying48 ?c3 ?c4 ?_); (case c1 => rfl); (case c2 => intro j u hu; rw [add_add]; exact HO.out.1 j u hu); (case c3 => rfl); (case c4 => rw [HO.out.2.2.1]; exact infoO1))
        | ((with_reducible refine wpList_store_blk rfl 48 (.tmp 5) (.tmp 15) rfl wr.heap.size 48 (Ob.zero.cells (.slice none 0 0) (.slice none 0 0)) cs ?s1 ?s2 ?s3 ?s4 ?s5 ?s6 ?_); (case s1 => rfl); (case s2 => rfl); (case s3 => exact heap_alloc_new _ _); (case s4 => rw [HO.out.2.2.1]; exact infoO1); (case s5 => rw [HO.out.2.2.1]; rfl); (case s6 => exact HO.out.2.1); intro w4 hG hk4 hb4 hz4; obtain ⟨g5, hg5⟩ : ∃ x, x = wr.heap.size := ⟨_, rfl⟩; rw [← hg5] at hG ⊢; have H4 := Lib.hid (And.intro hG (hb4 _ _ (below_alloc (Below.refl _ _) _) (Nat.le_refl _))); clear hG hk4 hb4 hz4 hg5)
        | ((with_reducible refine wpList_load_blk (op := ⟨some 18, _, _, _, _, _⟩) rfl 48 (.tmp 5) rfl g5 48 ?l1 cs _ ?l2 Tryd.underlying48 ?l3 ?l4 ?_); (case l1 => rfl); (case l2 => exact H4.out.1); (case l3 => rfl); (case l4 => rw [HO.out.2.2.1]; exact infoO1))
        | (go_at_call 42; rw [HO.out.2.2.2.1]; (with_reducible refine (QC.out _ H4.out.2).mono ?_); rintro e w5 ⟨u4, u27, rfl, hM, hb⟩; have H5 := Lib.hid (srt_round hI.out.1 hI.out.2 H4.out.2 hb hM); clear hM hb)
        | ((with_reducible refine wpList_storeS rfl (.tmp 20) (.tmp 19) rfl g k n c3 wr.heap.size w.heap.size (l.take k ++ List.replicate (n - k) Ob.zero) o (o.cells u4 u27) ?z1 ?z2 infoO1 H5.out.1 hkn H5.out.2.1 ?_); (case z1 => rfl); (case z2 => rfl); intro w6 hS6 hg6; rw [fill_set HR.out.2.1 hkn HO.out.2.2.2.2] at hS6; have H6 := Lib.hid (And.intro hS6 (srt_grown H5.out.2.2 hg6 (Kd.S_base hI.out.1 g rfl))); clear hS6 hg6))
      go_roundw
      case rel => exact ⟨k + 1, by omega, by go_num, H6⟩
      case measure => simp [intOf]; omega
    · obtain rfl : k = n := by omega
      have hS := hI.out.1
      rw [Nat.sub_self, List.replicate_zero, List.append_nil, List.take_of_length_le (Nat.le_of_eq HR.out.2.1)] at hS
      have QS := Lib.hid (sort_S kO rfl 44 IsObj cSa srt1_at cSa_cmp (fun a b => cS a.kn b.kn) hS (fun x cs hx hK => kO_is hK (HR.out.2.2.1 x hx)) (fun x y cs ds hx hy hK hK' => by unfold cSa; rw [kO_kn hK, kO_kn hK']) (by rw [HR.out.2.1]; omega))
      have HI := Lib.hid hI.out.2
      clear hS
      go_wp2_with (first
        | (go_at_call 43; (with_reducible refine QS.out.mono ?_); rintro e w7 ⟨⟨r7, rfl⟩, hS7, hB7, hz7, hk7⟩; have H7 := Lib.hid (And.intro hS7 (HI.out.trans hB7)); clear hS7 hB7 hz7 hk7))
      go_ret
      exact ⟨_, _, rfl, H7.out.1, H7.out.2⟩
end Go.Proofs.YtoepbjgldmgaoaaDoor

/- flotillaref08.Sorted: each object is put in from behind, by kind and name. -/
namespace Go.Proofs.YtoepbjgldmgaoaaDoor
open Go.RowKit Go.Proofs.YtoepbjgldmgaoaaDoorW.PrintWords Go.Proofs.YtoepbjgldmgaoaaDoorW.PrintLast
attribute [local go_sem] Go.Proofs.YtoepbjgldmgaoaaDoorW.PrintMore.max_two Go.Proofs.YtoepbjgldmgaoaaDoorW.PrintMore.min_two
def cSO (o p : Ob) : Int := cS o.kn p.kn
theorem cSO_cmp : Wc.IsCmp cSO := cS_cmp.on Ob.kn
theorem below_obj {o p : Ob} {v4 v27 u4 u27 : Value} (ho : ObFits o) (hp : ObFits p) (w : World) :
    Calls Tryd.prog 48 #[.agg (o.cells v4 v27), .agg (p.cells u4 u27)] w fun e w' => e = .returned (.bool (decide (cSO o p < 0))) ∧ Below w.heap.size w w' := below_calls o p v4 v27 u4 u27 ho.1 hp.1 w
def rg14_6_T : Bool × List (List Nat × List Nat) := (true, [([], []), ([0], [0]), ([1], [1]), ([2], [2]), ([2], [2]), ([3, 4, 2], [2, 3, 4]), ([5, 2], [2, 5]), ([2], [2]), ([2], [2]), ([8, 2], [2, 8]), ([7, 9, 2], [2, 7, 9]), ([10, 2], [2, 10]), ([6, 11, 2, 2], [2, 6, 11]), ([2, 12], [2, 12])])
def rg14_6_B : List Nat := [0, 1, 3, 7, 7, 31, 63, 7, 7, 263, 903, 1927, 4095, 8191]
theorem rg14_6_tab : rtab .any (opsOf Tryd.f14 6) = rg14_6_T := by kernel_rfl
theorem rg14_6_bits : waitsOk rg14_6_T.2 rg14_6_B = true := by kernel_rfl
def rg14_9_T : Bool × List (List Nat × List Nat) := (true, [([], []), ([], []), ([0, 1], [0, 1]), ([], []), ([], []), ([3, 4], [3, 4]), ([5], [5]), ([6], [6]), ([7], [7]), ([2, 8, 7], [2, 8]), ([9, 9, 0, 1, 2, 3, 4, 5, 6, 7, 8, 9], [0, 9])])
def rg14_9_B : List Nat := [0, 0, 3, 0, 0, 24, 56, 120, 248, 511, 1023]
theorem rg14_9_tab : rtab .any (opsOf Tryd.f14 9) = rg14_9_T := by kernel_rfl
theorem rg14_9_bits : waitsOk rg14_9_T.2 rg14_9_B = true := by kernel_rfl
set_option maxHeartbeats 8000000 in
set_option maxRecDepth 100000 in
theorem refSorted_calls (A : Option Addr) (c n : Nat) (l : List Ob) (w : World) (hr : kO.C w A l.length l) (hln : l.length = n) (hn : n ≤ 1000000) (hf : ∀ o ∈ l, ObFits o) :
    Calls Tryd.prog 14 #[.slice A n c] w fun e w' => ∃ A' c', e = .returned (.slice A' n c') ∧ n ≤ c' ∧ kO.C w' A' n (sortK l) ∧ Below w.heap.size w w' := by
  have HR := Lib.hid hr
  have HFl := Lib.hid hf
  have HL := Lib.hid (And.intro hln trivial)
  clear hr hln hf
  go_enter Tryd.func14, Tryd.ntmps14
  go_wp2
  go_loopw [3, 4] (fun v5 v6 wr => ∃ i : Nat, i ≤ n ∧ v6 = .int .i64 i ∧ Hid (Kd.R kO 48 wr w.heap.size (fun _ => True) v5 (Srt.isort cSO (l.take i)) ∧ Below w.heap.size w wr)) (fun _ v6 _ => n - (intOf v6).toNat)
  case atStart => exact ⟨0, Nat.zero_le _, rfl, Lib.hid ⟨Kd.R_nil _ _ _ _ _, Below.refl _ _⟩⟩
  case round =>
    obtain ⟨i, hi, rfl, hI⟩ := hrel
    by_cases hit : i < n
    · obtain ⟨o, ho⟩ : ∃ o, l[i]? = some o := ⟨_, List.getElem?_eq_getElem (by have := HL.out.1; omega)⟩
      obtain ⟨ad, v4, v27, rfl, hO⟩ := objAt (Kd.C_below HR.out hI.out.2) i o ho
      have hlk : (i : Int) < (n : Int) := by omega
      have hol := HFl.out o (List.mem_of_getElem? ho)
      have hsn : l.take (i + 1) = l.take i ++ [o] := by rw [List.take_add_one, ho]; rfl
      obtain ⟨acc, hacc⟩ : ∃ acc, acc = Srt.isort cSO (l.take i) := ⟨_, rfl⟩
      have hI1 := hI.out.1
      rw [← hacc] at hI1
      obtain ⟨A5, c5, rfl⟩ := Kd.R_slice hI1
      have hle5 : acc.length ≤ c5 := (Kd.R_reads' hI1).2.1
      have HC := Lib.hid (Kd.R_reads' hI1).2.2
      have HRo := Lib.hid hI1
      have HBo := Lib.hid hI.out.2
      have hal : acc.length ≤ 1000000 := by
        rw [hacc, Srt.isort_length, List.length_take]
        have := HL.out.1
        omega
      have HF : Hid (∀ x ∈ acc, ObFits x) := Lib.hid (fun x hx => by
        rw [hacc, Srt.mem_isort] at hx
        exact HFl.out x (List.mem_of_mem_take hx))
      have HT : Hid (∀ t, t ≤ acc.length ∧ Srt.back (fun a b => decide (cSO a b < 0)) o acc acc.length = t → Srt.isort cSO (l.take (i + 1)) = acc.take t ++ [o] ++ acc.drop t) := Lib.hid (fun t ht => by
        rw [hsn, Srt.isort_snoc, ← hacc]
        have h := Srt.back_ins cSO_cmp o acc (by rw [hacc]; exact Srt.isort_sorted cSO_cmp _) acc.length (Nat.le_refl _) (fun j y hj hy => by
          have := (List.getElem?_eq_some_iff.1 hy).1
          omega)
        rw [ht.2] at h
        rw [← h, List.append_assoc]
        rfl)
      obtain ⟨cs, hcs⟩ : ∃ cs, cs = o.cells v4 v27 := ⟨_, rfl⟩
      have hi1 : Hid ((Tryd.prog.info? 48).map (·.size) = some cs.size) := Lib.hid (by rw [hcs, Ob.cells_size]; kernel_rfl)
      have B1 := hO.cells
      have QC := Lib.hid (fun (W : World) (hW : Below wr.heap.size wr W) => copyObject_calls o v4 v27 W (hO.l4.below hW) (hO.l27.below hW) hol)
      have QLL := Lib.hid (fun (p : Ob) (u4 u27 : Value) (hp : ObFits p) (W : World) => below_obj (v4 := v4) (v27 := v27) (u4 := u4) (u27 := u27) hol hp W)
      rw [← hcs] at B1 QC QLL
      replace B1 := Lib.hid (fun (W : World) (hW : Below wr.heap.size wr W) j u hu => cell_below hW (B1 j u hu))
      clear ho hO hsn hol hcs hI1 hacc hI
      go_wp2
      rename World => wo
      go_loopw [5] (fun v7 wr => ∃ t : Nat, t ≤ acc.length ∧ v7 = .int .i64 t ∧ Hid (Srt.back (fun a b => decide (cSO a b < 0)) o acc acc.length = Srt.back (fun a b => decide (cSO a b < 0)) o acc t ∧ Below wo.heap.size wo wr)) (fun v7 _ => (intOf v7).toNat)
      case atStart => exact ⟨acc.length, Nat.le_refl _, rfl, Lib.hid ⟨rfl, Below.refl _ _⟩⟩
      case round =>
        obtain ⟨t, ht, rfl, hJ⟩ := hrel
        have HB1 : Below wo.heap.size wo wr := hJ.out.2
        replace HB1 := below_drew HB1
        by_cases ht0 : t = 0
        · have HE : Hid (t ≤ acc.length ∧ Srt.back (fun a b => decide (cSO a b < 0)) o acc acc.length = t) := Lib.hid ⟨ht, by rw [hJ.out.1, ht0]; rfl⟩
          have g4 : decide ((0 : Int) < (t : Int)) = false := decide_eq_false (by omega)
          have g5 : decide (0 < t) = false := decide_eq_false (by omega)
          clear hJ ht0
          go_upto_region 6 with (fail)
          refine start_ (n := 14) (S := fun w' => Below wo.heap.size wo w') (ds := []) (bs 14 0) (by kernel_rfl) rfl (by kernel_rfl) HB1 (fun hHeld => ?_)
          refine with_tabW rg14_6_tab rg14_6_bits (fun HT_ HW_ => ?_)
          refine pu 0 (some 15) (bs 14 1) HT_ rfl rfl (by kernel_rfl) (fun _ _ _ _ h => h) ⟨_, .inl ⟨by rfl, fun _ => by go_simp; with_reducible rfl⟩, _, by simp only [Act.put, sA, sB, sC, i64_w, i32_w]; rfl, ?_⟩
          refine pu 1 (some 16) (bs 14 3) HT_ rfl rfl (by kernel_rfl) (fun _ _ _ _ h => h) ⟨_, .inl ⟨by rfl, fun _ => by go_simp; with_reducible rfl⟩, _, by simp only [Act.put, sA, sB, sC, i64_w, i32_w]; rfl, ?_⟩
          refine pu 2 (some 17) (bs 14 7) HT_ rfl rfl (by kernel_rfl) (fun _ _ _ _ h => h) ⟨_, .inl ⟨by rfl, fun _ => by go_simp; with_reducible rfl⟩, _, by simp only [Act.put, sA, sB, sC, i64_w, i32_w]; rfl, ?_⟩
          refine pu 3 (some 18) (bs 14 15) HT_ rfl rfl (by kernel_rfl) (fun _ _ _ _ h => h) ⟨_, .inr ⟨by rfl, rfl⟩, _, by simp only [Act.put, sA, sB, sC, i64_w, i32_w]; rfl, ?_⟩
          refine pu 4 (some 19) (bs 14 31) HT_ rfl rfl (by kernel_rfl) (fun _ _ _ _ h => h) ⟨_, .inr ⟨by rfl, rfl⟩, _, by simp only [Act.put, sA, sB, sC, i64_w, i32_w]; rfl, ?_⟩
          refine pu 5 (some 20) (bs 14 63) HT_ rfl rfl (by kernel_rfl) (fun _ _ _ _ h => h) ⟨_, .inr ⟨by rfl, rfl⟩, _, by simp only [Act.put, sA, sB, sC, i64_w, i32_w]; rfl, ?_⟩
          refine pu 6 (some 21) (bs 14 127) HT_ rfl rfl (by kernel_rfl) (fun _ _ _ _ h => h) ⟨_, .inr ⟨by rfl, rfl⟩, _, by simp only [Act.put, sA, sB, sC, i64_w, i32_w]; rfl, ?_⟩
          refine pu 7 (some 22) (bs 14 255) HT_ rfl rfl (by kernel_rfl) (fun _ _ _ _ h => h) ⟨_, .inr ⟨by rfl, rfl⟩, _, by simp only [Act.put, sA, sB, sC, i64_w, i32_w]; rfl, ?_⟩
          refine pu 8 (some 23) (bs 14 511) HT_ rfl rfl (by kernel_rfl) (fun _ _ _ _ h => h) ⟨_, .inr ⟨by rfl, rfl⟩, _, by simp only [Act.put, sA, sB, sC, i64_w, i32_w]; rfl, ?_⟩
          refine pu 9 (some 24) (bs 14 1023) HT_ rfl rfl (by kernel_rfl) (fun _ _ _ _ h => h) ⟨_, .inr ⟨by rfl, rfl⟩, _, by simp only [Act.put, sA, sB, sC, i64_w, i32_w]; rfl, ?_⟩
          refine pu 10 (some 25) (bs 14 2047) HT_ rfl rfl (by kernel_rfl) (fun _ _ _ _ h => h) ⟨_, .inr ⟨by rfl, rfl⟩, _, by simp only [Act.put, sA, sB, sC, i64_w, i32_w]; rfl, ?_⟩
          refine pu 11 (some 26) (bs 14 4095) HT_ rfl rfl (by kernel_rfl) (fun _ _ _ _ h => h) ⟨_, .inr ⟨by rfl, rfl⟩, _, by simp only [Act.put, sA, sB, sC, i64_w, i32_w]; rfl, ?_⟩
          refine pu 12 (some 27) (bs 14 8191) HT_ rfl rfl (by kernel_rfl) (fun _ _ _ _ h => h) ⟨_, .inr ⟨by rfl, rfl⟩, _, by simp only [Act.put, sA, sB, sC, i64_w, i32_w]; rfl, ?_⟩
          refine pu 13 (some 28) (bs 14 16383) HT_ rfl rfl (by kernel_rfl) (fun _ _ _ _ h => h) ⟨_, .inl ⟨by rfl, fun _ => by go_simp; with_reducible rfl⟩, _, by simp only [Act.put, sA, sB, sC, i64_w, i32_w]; rfl, ?_⟩
          refine done_ (done_of HT_.out (by kernel_rfl)) ?_
          have htl : t ≤ acc.length := ht
          obtain ⟨A9, hcut, hC9⟩ := cut_low A5 acc.length c5 (t) htl hle5
          have hcut2 : ((t : Nat) : Int) ≤ (c5 : Int) := by omega
          have Q9 := Lib.hid (fun (W : World) (hW : Below wo.heap.size wo W) => copyObjects_calls A9 (c5 - t) (acc.length - t) (acc.drop (t)) W (hC9 W acc rfl (Kd.C_below HC.out hW)) List.length_drop (by omega) (fun x hx => HF.out x (List.mem_of_mem_drop hx)))
          clear hC9
          go_wp2_with (first
            | (go_at_call 49; (with_reducible refine (Q9.out _ HB1).mono ?_); rintro e w4 ⟨v8, rfl, hV8, hb4⟩; have hs8 := HB1.size; replace HB1 := belT HB1 hb4; replace hV8 := Lib.hid (And.intro (Kd.R_lower hV8 hs8) HB1); clear hb4 hs8))
          have HB4 := below_drew (Below.refl w4.heap.size w4)
          replace HB1 := Lib.hid HB1
          clear Q9
          refine start_ (n := 11) (S := fun w' => Below w4.heap.size w4 w') (ds := [9]) (bs 11 0) (by kernel_rfl) rfl (by kernel_rfl) HB4 (fun hHeld => ?_)
          refine with_tabW rg14_9_tab rg14_9_bits (fun HT_ HW_ => ?_)
          refine pu 0 (some 35) (bs 11 1) HT_ rfl rfl (by kernel_rfl) (fun _ _ _ _ h => h) ⟨_, .inl ⟨by rfl, fun _ => by go_simp; with_reducible rfl⟩, _, by simp only [Act.put, sA, sB, sC, i64_w, i32_w]; rfl, ?_⟩
          refine pu 1 (some 36) (bs 11 3) HT_ rfl rfl (by kernel_rfl) (fun _ _ _ _ h => h) ⟨_, .inl ⟨by rfl, fun _ => by go_simp; with_reducible rfl⟩, _, by simp only [Act.put, sA, sB, sC, i64_w, i32_w]; rfl, ?_⟩
          refine pu 2 (some 37) (bs 11 7) HT_ rfl rfl (by kernel_rfl) (fun _ _ _ _ h => h) ⟨_, .inl ⟨by rfl, fun _ => by go_simp; with_reducible rfl⟩, _, by simp only [Act.put, sA, sB, sC, i64_w, i32_w]; rfl, ?_⟩
          refine pu 3 (some 38) (bs 11 15) HT_ rfl rfl (by kernel_rfl) (fun _ _ _ _ h => h) ⟨_, .inl ⟨by rfl, fun _ => by go_simp; with_reducible rfl⟩, _, by simp only [Act.put, sA, sB, sC, i64_w, i32_w]; rfl, ?_⟩
          refine pu 4 (some 39) (bs 11 31) HT_ rfl rfl (by kernel_rfl) (fun _ _ _ _ h => h) ⟨_, .inl ⟨by rfl, fun _ => by go_simp; with_reducible rfl⟩, _, by simp only [Act.put, sA, sB, sC, i64_w, i32_w]; rfl, ?_⟩
          refine pu 5 (some 40) (bs 11 63) HT_ rfl rfl (by kernel_rfl) (fun _ _ _ _ h => h) ⟨_, .inl ⟨by rfl, fun _ => by go_simp; with_reducible rfl⟩, _, by simp only [Act.put, sA, sB, sC, i64_w, i32_w]; rfl, ?_⟩
          refine tk 6 (some 41) (bs 11 127) HT_ HW_ rfl rfl (by kernel_rfl) (fun _ _ _ _ h => h) hHeld ⟨_, .inl ⟨by rfl, by rintro w' s0; refine load_any_ (x := .tmp 40) (p := ad.add (i * 32)) ?_ ?_ (B1.out _ (belT HB1.out s0)) Tryd.underlying48 rfl hi1.out <;> rfl⟩, _, by simp only [Act.put, sA, sB, sC, i64_w, i32_w]; rfl, ?_⟩
          refine on1 7 (some 42) (bs 11 255) HT_ rfl rfl (by kernel_rfl) (by decide) (fun K hK => ?_)
          refine goes_ Tryd.func50 (by kernel_rfl) rfl #[.agg cs] (by rfl) rfl rfl (by (try simp only [List.map_toArray, List.map_cons, List.map_nil]); first | done | rfl) ?_
          with_reducible refine (QC.out _ (belT HB1.out HB4)).mono ?_
          rintro e w5 ⟨u4, u27, rfl, HM5, hb⟩
          have hs5 := (belT HB1.out HB4).size
          replace HM5 := Lib.hid (kO.M_mono (fun k hk => hk.2.1) (kO.M_bound (kO.M_lower hs5 HM5)))
          replace HB4 := belT HB4 hb
          have HB5 := Lib.hid (And.intro (belT HB1.out HB4) HB4)
          clear hb hs5
          refine ⟨_, rfl, ?_⟩
          refine hK.out _ _ HB4 (fun hHeld => ?_)
          clear hK K
          refine nm ⟨_, show Act.put _ (some 42) _ = _ by simp only [Act.put, sA, sB, sC, i64_w, i32_w]; rfl, ?_⟩
          refine on1 8 (some 43) (bs 11 511) HT_ rfl rfl (by kernel_rfl) (by decide) (fun K hK => ?_)
          refine build1_ (by rfl) rfl 22 48 (.tmp 42) rfl (o.cells u4 u27) rfl (.agg (Ob.zero.cells (.slice none 0 0) (.slice none 0 0))) 32 312 Tryd.underlying22 infoO (Ob.cells_size _ _ _) (by omega) (by omega) rfl ?_
          refine hK.out _ _ (HB4.alloc HB4.size _) (fun hHeld => ?_)
          clear hK K
          refine nm ⟨_, show Act.put _ (some 43) _ = _ by simp only [Act.put, sA, sB, sC, i64_w, i32_w]; rfl, ?_⟩
          refine la1 9 (some 44) (bs 11 1023) HT_ rfl rfl (by kernel_rfl) (by decide) (fun K hK => ?_)
          refine Kd.R_append_step kO (w0 := w) (W := w5) w.heap.size (by rfl) (.tmp 37) (.tmp 43) 22 48 (.agg (Ob.zero.cells (.slice none 0 0) (.slice none 0 0))) 312 rfl Tryd.underlying22 infoO rfl (by decide) (by omega) (.slice A5 (t) c5) (acc.take (t)) o (o.cells u4 u27).toList (fun _ => True) (fun k => wo.heap.size ≤ k) rfl rfl (kO.M_lower HBo.out.size HM5.out) (fun k hk => ⟨trivial, fun e => by have := Kd.R_lt HRo.out k (by first | exact e.symm | (cases A5 <;> exact e.symm)); omega⟩) (fun _ _ => trivial) (Kd.R_take (Kd.R_below HRo.out HB5.out.1) htl) (belT HBo.out HB5.out.1) (by have := HBo.out.size; have := HB5.out.1.size; omega) (by rw [List.length_take]; omega) ?_
          intro v1 w6 hR6 hB6 hg6 hat6
          refine hK.out _ _ ?_
          clear hK K
          refine nm ⟨_, show Act.put _ (some 44) _ = _ by simp only [Act.put, sA, sB, sC, i64_w, i32_w]; rfl, ?_⟩
          refine pu 10 (some 3) (bs 11 2047) HT_ rfl rfl (by kernel_rfl) (fun _ _ _ _ h => h) ⟨_, .inl ⟨by rfl, fun _ => by go_simp; with_reducible rfl⟩, _, by simp only [Act.put, sA, sB, sC, i64_w, i32_w]; rfl, ?_⟩
          refine done_ (done_of HT_.out (by kernel_rfl)) ?_
          obtain ⟨A8, c8, rfl, hrow⟩ := ref_rows (wo := wo) HRo.out hV8.out.1 HB5.out.2 hg6 HBo.out.size
          replace hrow := Lib.hid hrow
          have hty6 := Kd.R_typed hR6
          replace hty6 := Lib.hid hty6
          replace hR6 := Lib.hid hR6
          replace hB6 := Lib.hid hB6
          have hw6 : Hid (w.heap.size ≤ w6.heap.size) := Lib.hid hB6.out.size
          have hl6 : ((acc.take (t) ++ [o]).length + (acc.drop (t)).length) * 312 ≤ 140737488355328 := by rw [List.length_append, List.length_take, List.length_drop, List.length_singleton]; omega
          clear hg6 hat6 HM5 HB5 hV8 QC B1 hi1 HB1 HB4
          go_wp2_with (first
            | (at_builtin; refine Kd.R_append_rows kO (w0 := w) (Rr := fun x cs => kO.M w6 w.heap.size (fun k => ∃ cells, w6.heap[k]? = some (.cells cells 98 (0, 0))) x cs) w.heap.size rfl (.tmp 45) (.tmp 46) 22 48 (.agg (Ob.zero.cells (.slice none 0 0) (.slice none 0 0))) 312 rfl Tryd.underlying22 infoO rfl (by decide) (by omega) v1 (acc.take (t) ++ [o]) (acc.drop (t)) A8 (acc.drop (t)).length c8 (fun _ => True) (fun k => ∃ cells, w6.heap[k]? = some (.cells cells 98 (0, 0))) rfl rfl hR6.out hrow.out (fun _ _ h => h) (fun k hk => ⟨trivial, fun e => lab_ne_obj hk (hty6.out k e.symm)⟩) (fun _ _ => trivial) hB6.out hw6.out hl6 ?_; intro v2 w7 hR7 hB7 hg7 hat7))
          go_roundw
          case rel => exact ⟨i + 1, by omega, by go_num, Lib.hid ⟨by rw [HT.out _ HE.out]; exact hR7, hB7⟩⟩
          case measure => simp [intOf]; omega
        · obtain ⟨a, ha⟩ : ∃ a, a + 1 = t := ⟨t - 1, by omega⟩
          obtain ⟨p, hp⟩ : ∃ p, acc[a]? = some p := ⟨_, List.getElem?_eq_getElem (by omega)⟩
          obtain ⟨ad5, u4, u27, rfl, hP⟩ := objAt HC.out a p hp
          obtain ⟨ds, hds⟩ : ∃ ds, ds = p.cells u4 u27 := ⟨_, rfl⟩
          have hi2 : Hid ((Tryd.prog.info? 48).map (·.size) = some ds.size) := Lib.hid (by rw [hds, Ob.cells_size]; kernel_rfl)
          have B2 := hP.cells
          have QL := QLL.out p u4 u27 (HF.out p (List.mem_of_getElem? hp))
          rw [← hds] at B2 QL
          obtain ⟨lb, hlb⟩ : ∃ b, b = decide (cSO o p < 0) := ⟨_, rfl⟩
          rw [← hlb] at QL
          replace QL := Lib.hid QL
          have hbk : Srt.back (fun a b => decide (cSO a b < 0)) o acc (a + 1) = if lb = true then Srt.back (fun a b => decide (cSO a b < 0)) o acc a else a + 1 := by
            simp only [Srt.back, hp, hlb]
          rw [ha, ← hJ.out.1] at hbk
          have HJ := Lib.hid hbk
          obtain ⟨z, hz⟩ : ∃ z : Int, z = (t : Int) := ⟨_, rfl⟩
          obtain ⟨z1, hz1⟩ : ∃ z : Int, z = (a : Int) := ⟨_, rfl⟩
          have hw : wrap64 (z - 1) = z1 := by rw [hz, hz1]; unfold wrap64; omega
          have g2 : (0 ≤ z1) = True := eq_true (by omega)
          have g3 : (z1 < (acc.length : Int)) = True := eq_true (by omega)
          have g4 : decide (0 < z) = true := decide_eq_true (by omega)
          have ez1 : z1.toNat = a := by omega
          rw [← ez1] at B2
          rw [← hz]
          replace B2 := Lib.hid (fun (W : World) (hW : Below wo.heap.size wo W) j u hu => cell_below hW (B2 j u hu))
          have HZ := Lib.hid (And.intro hz (And.intro hz1 (And.intro ha ht)))
          clear hP hp hds hlb hbk hz hz1 ez1 ha ht ht0 hJ
          go_upto_region 6 with (fail)
          refine start_ (n := 14) (S := fun w' => Below wo.heap.size wo w') (ds := []) (bs 14 0) (by kernel_rfl) rfl (by kernel_rfl) HB1 (fun hHeld => ?_)
          refine with_tabW rg14_6_tab rg14_6_bits (fun HT_ HW_ => ?_)
          refine pu 0 (some 15) (bs 14 1) HT_ rfl rfl (by kernel_rfl) (fun _ _ _ _ h => h) ⟨_, .inl ⟨by rfl, fun _ => by go_simp; with_reducible rfl⟩, _, by simp only [Act.put, sA, sB, sC, i64_w, i32_w]; rfl, ?_⟩
          refine pu 1 (some 16) (bs 14 3) HT_ rfl rfl (by kernel_rfl) (fun _ _ _ _ h => h) ⟨_, .inl ⟨by rfl, fun _ => by go_simp; with_reducible rfl⟩, _, by simp only [Act.put, sA, sB, sC, i64_w, i32_w]; rfl, ?_⟩
          refine pu 2 (some 17) (bs 14 7) HT_ rfl rfl (by kernel_rfl) (fun _ _ _ _ h => h) ⟨_, .inl ⟨by rfl, fun _ => by go_simp; with_reducible rfl⟩, _, by simp only [Act.put, sA, sB, sC, i64_w, i32_w]; rfl, ?_⟩
          refine pu 3 (some 18) (bs 14 15) HT_ rfl rfl (by kernel_rfl) (fun _ _ _ _ h => h) ⟨_, .inl ⟨by rfl, fun _ => by go_simp; with_reducible rfl⟩, _, by simp only [Act.put, sA, sB, sC, i64_w, i32_w]; rfl, ?_⟩
          refine pu 4 (some 19) (bs 14 31) HT_ rfl rfl (by kernel_rfl) (fun _ _ _ _ h => h) ⟨_, .inl ⟨by rfl, fun _ => by go_simp; with_reducible rfl⟩, _, by simp only [Act.put, sA, sB, sC, i64_w, i32_w]; rfl, ?_⟩
          refine pu 5 (some 20) (bs 14 63) HT_ rfl rfl (by kernel_rfl) (fun _ _ _ _ h => h) ⟨_, .inl ⟨by rfl, fun _ => by go_simp; with_reducible rfl⟩, _, by simp only [Act.put, sA, sB, sC, i64_w, i32_w]; rfl, ?_⟩
          refine pu 7 (some 22) (bs 14 191) HT_ rfl rfl (by kernel_rfl) (fun _ _ _ _ h => h) ⟨_, .inl ⟨by rfl, fun _ => by go_simp; with_reducible rfl⟩, _, by simp only [Act.put, sA, sB, sC, i64_w, i32_w]; rfl, ?_⟩
          refine pu 8 (some 23) (bs 14 447) HT_ rfl rfl (by kernel_rfl) (fun _ _ _ _ h => h) ⟨_, .inl ⟨by rfl, fun _ => by go_simp; with_reducible rfl⟩, _, by simp only [Act.put, sA, sB, sC, i64_w, i32_w]; rfl, ?_⟩
          refine pu 9 (some 24) (bs 14 959) HT_ rfl rfl (by kernel_rfl) (fun _ _ _ _ h => h) ⟨_, .inl ⟨by rfl, fun _ => by go_simp; with_reducible rfl⟩, _, by simp only [Act.put, sA, sB, sC, i64_w, i32_w]; rfl, ?_⟩
          refine pu 10 (some 25) (bs 14 1983) HT_ rfl rfl (by kernel_rfl) (fun _ _ _ _ h => h) ⟨_, .inl ⟨by rfl, fun _ => by go_simp; with_reducible rfl⟩, _, by simp only [Act.put, sA, sB, sC, i64_w, i32_w]; rfl, ?_⟩
          refine tk 6 (some 21) (bs 14 2047) HT_ HW_ rfl rfl (by kernel_rfl) (fun _ _ _ _ h => h) hHeld ⟨_, .inl ⟨by rfl, by rintro w' s0; refine load_any_ (x := .tmp 20) (p := ad.add (i * 32)) ?_ ?_ (B1.out _ s0) Tryd.underlying48 rfl hi1.out <;> rfl⟩, _, by simp only [Act.put, sA, sB, sC, i64_w, i32_w]; rfl, ?_⟩
          refine tk 11 (some 26) (bs 14 4095) HT_ HW_ rfl rfl (by kernel_rfl) (fun _ _ _ _ h => h) hHeld ⟨_, .inl ⟨by rfl, by rintro w' s0; refine load_any_ (x := .tmp 25) (p := ad5.add (z1.toNat * 32)) ?_ ?_ (B2.out _ s0) Tryd.underlying48 rfl hi2.out <;> rfl⟩, _, by simp only [Act.put, sA, sB, sC, i64_w, i32_w]; rfl, ?_⟩
          refine on1 12 (some 27) (bs 14 8191) HT_ rfl rfl (by kernel_rfl) (by decide) (fun K hK => ?_)
          refine goes_ Tryd.func48 (by kernel_rfl) rfl #[.agg cs, .agg ds] (by rfl) rfl rfl (by (try simp only [List.map_toArray, List.map_cons, List.map_nil]); first | done | rfl) ?_
          with_reducible refine (QL.out _).mono ?_
          rintro e w5 ⟨rfl, hb⟩
          replace HB1 := belT HB1 hb
          clear hb
          refine ⟨_, rfl, ?_⟩
          refine hK.out _ _ HB1 (fun hHeld => ?_)
          clear hK K
          refine nm ⟨_, show Act.put _ (some 27) _ = _ by simp only [Act.put, sA, sB, sC, i64_w, i32_w]; rfl, ?_⟩
          refine pu 13 (some 28) (bs 14 16383) HT_ rfl rfl (by kernel_rfl) (fun _ _ _ _ h => h) ⟨_, .inl ⟨by rfl, fun _ => by go_simp; with_reducible rfl⟩, _, by simp only [Act.put, sA, sB, sC, i64_w, i32_w]; rfl, ?_⟩
          refine done_ (done_of HT_.out (by kernel_rfl)) ?_
          clear B2 QL hi2
          cases lb
          · have HE : Hid (t ≤ acc.length ∧ Srt.back (fun a b => decide (cSO a b < 0)) o acc acc.length = t) := Lib.hid ⟨HZ.out.2.2.2, by rw [HJ.out, if_neg (by simp)]⟩
            have htt := HZ.out.2.2.2
            clear hw g2 g3 g4 HJ
            have hz := HZ.out.1
            clear HZ
            subst hz
            have htl : t ≤ acc.length := htt
            obtain ⟨A9, hcut, hC9⟩ := cut_low (some ad5) acc.length c5 (t) htl hle5
            have hcut2 : ((t : Nat) : Int) ≤ (c5 : Int) := by omega
            have Q9 := Lib.hid (fun (W : World) (hW : Below wo.heap.size wo W) => copyObjects_calls A9 (c5 - t) (acc.length - t) (acc.drop (t)) W (hC9 W acc rfl (Kd.C_below HC.out hW)) List.length_drop (by omega) (fun x hx => HF.out x (List.mem_of_mem_drop hx)))
            clear hC9
            go_wp2_with (first
              | (go_at_call 49; (with_reducible refine (Q9.out _ HB1).mono ?_); rintro e w4 ⟨v8, rfl, hV8, hb4⟩; have hs8 := HB1.size; replace HB1 := belT HB1 hb4; replace hV8 := Lib.hid (And.intro (Kd.R_lower hV8 hs8) HB1); clear hb4 hs8))
            have HB4 := below_drew (Below.refl w4.heap.size w4)
            replace HB1 := Lib.hid HB1
            clear Q9
            refine start_ (n := 11) (S := fun w' => Below w4.heap.size w4 w') (ds := [9]) (bs 11 0) (by kernel_rfl) rfl (by kernel_rfl) HB4 (fun hHeld => ?_)
            refine with_tabW rg14_9_tab rg14_9_bits (fun HT_ HW_ => ?_)
            refine pu 0 (some 35) (bs 11 1) HT_ rfl rfl (by kernel_rfl) (fun _ _ _ _ h => h) ⟨_, .inl ⟨by rfl, fun _ => by go_simp; with_reducible rfl⟩, _, by simp only [Act.put, sA, sB, sC, i64_w, i32_w]; rfl, ?_⟩
            refine pu 1 (some 36) (bs 11 3) HT_ rfl rfl (by kernel_rfl) (fun _ _ _ _ h => h) ⟨_, .inl ⟨by rfl, fun _ => by go_simp; with_reducible rfl⟩, _, by simp only [Act.put, sA, sB, sC, i64_w, i32_w]; rfl, ?_⟩
            refine pu 2 (some 37) (bs 11 7) HT_ rfl rfl (by kernel_rfl) (fun _ _ _ _ h => h) ⟨_, .inl ⟨by rfl, fun _ => by go_simp; with_reducible rfl⟩, _, by simp only [Act.put, sA, sB, sC, i64_w, i32_w]; rfl, ?_⟩
            refine pu 3 (some 38) (bs 11 15) HT_ rfl rfl (by kernel_rfl) (fun _ _ _ _ h => h) ⟨_, .inl ⟨by rfl, fun _ => by go_simp; with_reducible rfl⟩, _, by simp only [Act.put, sA, sB, sC, i64_w, i32_w]; rfl, ?_⟩
            refine pu 4 (some 39) (bs 11 31) HT_ rfl rfl (by kernel_rfl) (fun _ _ _ _ h => h) ⟨_, .inl ⟨by rfl, fun _ => by go_simp; with_reducible rfl⟩, _, by simp only [Act.put, sA, sB, sC, i64_w, i32_w]; rfl, ?_⟩
            refine pu 5 (some 40) (bs 11 63) HT_ rfl rfl (by kernel_rfl) (fun _ _ _ _ h => h) ⟨_, .inl ⟨by rfl, fun _ => by go_simp; with_reducible rfl⟩, _, by simp only [Act.put, sA, sB, sC, i64_w, i32_w]; rfl, ?_⟩
            refine tk 6 (some 41) (bs 11 127) HT_ HW_ rfl rfl (by kernel_rfl) (fun _ _ _ _ h => h) hHeld ⟨_, .inl ⟨by rfl, by rintro w' s0; refine load_any_ (x := .tmp 40) (p := ad.add (i * 32)) ?_ ?_ (B1.out _ (belT HB1.out s0)) Tryd.underlying48 rfl hi1.out <;> rfl⟩, _, by simp only [Act.put, sA, sB, sC, i64_w, i32_w]; rfl, ?_⟩
            refine on1 7 (some 42) (bs 11 255) HT_ rfl rfl (by kernel_rfl) (by decide) (fun K hK => ?_)
            refine goes_ Tryd.func50 (by kernel_rfl) rfl #[.agg cs] (by rfl) rfl rfl (by (try simp only [List.map_toArray, List.map_cons, List.map_nil]); first | done | rfl) ?_
            with_reducible refine (QC.out _ (belT HB1.out HB4)).mono ?_
            rintro e w5 ⟨u4, u27, rfl, HM5, hb⟩
            have hs5 := (belT HB1.out HB4).size
            replace HM5 := Lib.hid (kO.M_mono (fun k hk => hk.2.1) (kO.M_bound (kO.M_lower hs5 HM5)))
            replace HB4 := belT HB4 hb
            have HB5 := Lib.hid (And.intro (belT HB1.out HB4) HB4)
            clear hb hs5
            refine ⟨_, rfl, ?_⟩
            refine hK.out _ _ HB4 (fun hHeld => ?_)
            clear hK K
            refine nm ⟨_, show Act.put _ (some 42) _ = _ by simp only [Act.put, sA, sB, sC, i64_w, i32_w]; rfl, ?_⟩
            refine on1 8 (some 43) (bs 11 511) HT_ rfl rfl (by kernel_rfl) (by decide) (fun K hK => ?_)
            refine build1_ (by rfl) rfl 22 48 (.tmp 42) rfl (o.cells u4 u27) rfl (.agg (Ob.zero.cells (.slice none 0 0) (.slice none 0 0))) 32 312 Tryd.underlying22 infoO (Ob.cells_size _ _ _) (by omega) (by omega) rfl ?_
            refine hK.out _ _ (HB4.alloc HB4.size _) (fun hHeld => ?_)
            clear hK K
            refine nm ⟨_, show Act.put _ (some 43) _ = _ by simp only [Act.put, sA, sB, sC, i64_w, i32_w]; rfl, ?_⟩
            refine la1 9 (some 44) (bs 11 1023) HT_ rfl rfl (by kernel_rfl) (by decide) (fun K hK => ?_)
            refine Kd.R_append_step kO (w0 := w) (W := w5) w.heap.size (by rfl) (.tmp 37) (.tmp 43) 22 48 (.agg (Ob.zero.cells (.slice none 0 0) (.slice none 0 0))) 312 rfl Tryd.underlying22 infoO rfl (by decide) (by omega) (.slice (some ad5) (t) c5) (acc.take (t)) o (o.cells u4 u27).toList (fun _ => True) (fun k => wo.heap.size ≤ k) rfl rfl (kO.M_lower HBo.out.size HM5.out) (fun k hk => ⟨trivial, fun e => by have := Kd.R_lt HRo.out k (by first | exact e.symm | (cases A5 <;> exact e.symm)); omega⟩) (fun _ _ => trivial) (Kd.R_take (Kd.R_below HRo.out HB5.out.1) htl) (belT HBo.out HB5.out.1) (by have := HBo.out.size; have := HB5.out.1.size; omega) (by rw [List.length_take]; omega) ?_
            intro v1 w6 hR6 hB6 hg6 hat6
            refine hK.out _ _ ?_
            clear hK K
            refine nm ⟨_, show Act.put _ (some 44) _ = _ by simp only [Act.put, sA, sB, sC, i64_w, i32_w]; rfl, ?_⟩
            refine pu 10 (some 3) (bs 11 2047) HT_ rfl rfl (by kernel_rfl) (fun _ _ _ _ h => h) ⟨_, .inl ⟨by rfl, fun _ => by go_simp; with_reducible rfl⟩, _, by simp only [Act.put, sA, sB, sC, i64_w, i32_w]; rfl, ?_⟩
            refine done_ (done_of HT_.out (by kernel_rfl)) ?_
            obtain ⟨A8, c8, rfl, hrow⟩ := ref_rows (wo := wo) HRo.out hV8.out.1 HB5.out.2 hg6 HBo.out.size
            replace hrow := Lib.hid hrow
            have hty6 := Kd.R_typed hR6
            replace hty6 := Lib.hid hty6
            replace hR6 := Lib.hid hR6
            replace hB6 := Lib.hid hB6
            have hw6 : Hid (w.heap.size ≤ w6.heap.size) := Lib.hid hB6.out.size
            have hl6 : ((acc.take (t) ++ [o]).length + (acc.drop (t)).length) * 312 ≤ 140737488355328 := by rw [List.length_append, List.length_take, List.length_drop, List.length_singleton]; omega
            clear hg6 hat6 HM5 HB5 hV8 QC B1 hi1 HB1 HB4
            go_wp2_with (first
              | (at_builtin; refine Kd.R_append_rows kO (w0 := w) (Rr := fun x cs => kO.M w6 w.heap.size (fun k => ∃ cells, w6.heap[k]? = some (.cells cells 98 (0, 0))) x cs) w.heap.size rfl (.tmp 45) (.tmp 46) 22 48 (.agg (Ob.zero.cells (.slice none 0 0) (.slice none 0 0))) 312 rfl Tryd.underlying22 infoO rfl (by decide) (by omega) v1 (acc.take (t) ++ [o]) (acc.drop (t)) A8 (acc.drop (t)).length c8 (fun _ => True) (fun k => ∃ cells, w6.heap[k]? = some (.cells cells 98 (0, 0))) rfl rfl hR6.out hrow.out (fun _ _ h => h) (fun k hk => ⟨trivial, fun e => lab_ne_obj hk (hty6.out k e.symm)⟩) (fun _ _ => trivial) hB6.out hw6.out hl6 ?_; intro v2 w7 hR7 hB7 hg7 hat7))
            go_roundw
            case rel => exact ⟨i + 1, by omega, by go_num, Lib.hid ⟨by rw [HT.out _ HE.out]; exact hR7, hB7⟩⟩
            case measure => simp [intOf]; omega
          · clear QC QLL
            go_wp2
            go_roundw
            case rel => exact ⟨a, by have := HZ.out.2.2; omega, by rw [hw, HZ.out.2.1], Lib.hid ⟨by rw [HJ.out, if_pos rfl], HB1⟩⟩
            case measure =>
              have h1 := HZ.out
              rw [hw, h1.1, h1.2.1]
              simp [intOf]
              omega
    · obtain rfl : n = i := by omega
      have hI1 := hI.out.1
      rw [List.take_of_length_le (Nat.le_of_eq HL.out.1)] at hI1
      obtain ⟨A5, c5, e5⟩ := Kd.R_slice hI1
      rw [Srt.isort_length, HL.out.1] at e5
      subst e5
      have h3 := Kd.R_reads' hI1
      rw [Srt.isort_length, HL.out.1] at h3
      have HX := Lib.hid (And.intro h3.2.1 (And.intro h3.2.2 hI.out.2))
      clear hI hI1 h3
      go_wp2
      go_ret
      exact ⟨_, _, rfl, HX.out.1, HX.out.2.1, HX.out.2.2⟩
end Go.Proofs.YtoepbjgldmgaoaaDoor

/- ObjectSorted walked. -/
namespace Go.Proofs.YtoepbjgldmgaoaaDoor
open Go.RowKit Go.Proofs.YtoepbjgldmgaoaaDoorW.PrintWords Go.Proofs.YtoepbjgldmgaoaaDoorW.PrintLast
theorem sorted_n {A : Option Addr} {c n : Nat} {l : List Ob} {w : World} (hr : kO.C w A n l) (hln : l.length = n) (hl : n ≤ 1000000) (hf : ∀ o ∈ l, ObFits o) :
    Calls Tryd.prog 13 #[.slice A n c] w fun e w' => ∃ A' c' T, e = .returned (.slice A' n c') ∧ Obs w' w.heap.size A' n c' (sortK l) T ∧ kO.C w' A' n (sortK l) ∧ Below w.heap.size w w' := by
  refine (sorted_calls A c n l w hr hln hl hf).mono ?_
  rintro e w1 ⟨A', c', rfl, hS, hb⟩
  obtain ⟨T, hT⟩ := obs_of_S hS
  have h := (Kd.R_reads' (Kd.S_R hS)).2.2
  rw [show (sortK l).length = n by unfold sortK; rw [Srt.isort_length, hln]] at h
  exact ⟨A', c', T, rfl, hT, h, hb⟩
theorem refS_n {A : Option Addr} {c n : Nat} {l : List Ob} {w : World} (hr : kO.C w A n l) (hln : l.length = n) (hn : n ≤ 1000000) (hf : ∀ o ∈ l, ObFits o) :
    Calls Tryd.prog 14 #[.slice A n c] w fun e w' => ∃ A' c', e = .returned (.slice A' n c') ∧ kO.C w' A' n (sortK l) ∧ Below w.heap.size w w' := by
  refine (refSorted_calls A c n l w (by rw [hln]; exact hr) hln hn hf).mono ?_
  rintro e w1 ⟨A', c', rfl, _, hC, hb⟩
  exact ⟨A', c', rfl, hC, hb⟩
theorem objSortedBig_calls (A : Option Addr) (c n : Nat) (w : World) (hn : 500 < n) :
    Calls Tryd.prog 3 #[.slice A n c] w fun e w' => e = .returned (.bool true) ∧ Below w.heap.size w w' := by
  have hn' : (500 : Int) < (n : Int) := by omega
  go_enter Tryd.func3, Tryd.ntmps3
  go_wp2
  go_ret
  exact ⟨rfl, Below.refl _ _⟩
set_option maxHeartbeats 4000000 in
set_option maxRecDepth 100000 in
theorem objSorted_calls (A : Option Addr) (c n : Nat) (l : List Ob) (w : World) (hr : kO.C w A n l) (hl : l.length = n) (hn : ¬ 500 < n) (hf : ∀ o ∈ l, ObFits o) :
    Calls Tryd.prog 3 #[.slice A n c] w fun e w' => e = .returned (.bool true) ∧ Below w.heap.size w w' := by
  have hk : (sortK l).length = n := by unfold sortK; rw [Srt.isort_length, hl]
  have hfv : ∀ o ∈ sortK l, ObFits o := fun o ho => hf o ((Srt.mem_isort o l).1 ho)
  have H := Lib.hid (And.intro hr (And.intro hl (And.intro (show n ≤ 1000000 by omega) (And.intro hf (And.intro hf (And.intro hk (And.intro (show n ≤ 200000 by omega) hfv)))))))
  have hn' : ¬ (500 : Int) < (n : Int) := by omega
  clear hr hl hf hk hfv
  go_enter Tryd.func3, Tryd.ntmps3
  go_wp2_with (first
    | (go_at_call 12; (with_reducible refine (lentObjects_calls A c n l w (H.out.2.1 ▸ H.out.1) H.out.2.1 H.out.2.2.1 H.out.2.2.2.2.1).mono ?_); rintro e w1 ⟨A1, rfl, hC1, hb1⟩; have H1 := Lib.hid (And.intro hC1 hb1); clear hC1 hb1)
    | (go_at_call 13; (with_reducible refine (sorted_n (w := w1) (kLent_C H1.out.1) H.out.2.1 H.out.2.2.1 H.out.2.2.2.2.1).mono ?_); rintro e w2 ⟨A2, c2, T2, rfl, hO2, hC2, hb2⟩; have H2 := Lib.hid (And.intro hO2 (And.intro hC2 hb2)); clear hO2 hC2 hb2)
    | (go_at_call 13; (with_reducible refine (sorted_n (w := w2) (Kd.C_below (kLent_C H1.out.1) H2.out.2.2) H.out.2.1 H.out.2.2.1 H.out.2.2.2.2.1).mono ?_); rintro e w3 ⟨A3, c3, T3, rfl, hO3, hC3, hb3⟩; have H3 := Lib.hid (And.intro hO3 (And.intro hC3 (And.intro hb3 (belT (belT (belT (Below.refl _ _) H1.out.2) H2.out.2.2) hb3)))); clear hO3 hC3 hb3)
    | (go_at_call 14; (with_reducible refine (refS_n (w := w3) (Kd.C_below H.out.1 H3.out.2.2.2) H.out.2.1 H.out.2.2.1 H.out.2.2.2.1).mono ?_); rintro e w4 ⟨A4, c4, rfl, hC4, hb4⟩; have H4 := Lib.hid (And.intro hC4 hb4); clear hC4 hb4)
    | (go_at_call 15; (with_reducible refine (same_n (w := w4) (Kd.C_below H2.out.2.1 (belT H3.out.2.2.1 H4.out.2)) H4.out.1 H.out.2.2.2.2.2.1 (Nat.le_trans H.out.2.2.2.2.2.2.1 (by decide))).mono ?_); rintro e w5 ⟨rfl, hb5⟩; have H5 := Lib.hid hb5; clear hb5)
    | (go_at_call 15; (with_reducible refine (same_n (w := w5) (Kd.C_below H3.out.2.1 (belT H4.out.2 H5.out)) (Kd.C_below H4.out.1 H5.out) H.out.2.2.2.2.2.1 (Nat.le_trans H.out.2.2.2.2.2.2.1 (by decide))).mono ?_); rintro e w6 ⟨rfl, hb6⟩; have H6 := Lib.hid hb6; clear hb6)
    | (go_at_call 16; have H7 := Lib.hid (two_facts (w7 := (w6.alloc (.cells #[.slice none 0 0, .slice none 0 0, .slice none 0 0, .slice none 0 0, .slice none 0 0, .slice none 0 0, .slice none 0 0, .slice none 0 0, .slice none 0 0, .slice none 0 0, .slice none 0 0, .slice none 0 0] 39))) H2.out.1 H3.out.1 H2.out.2.2 H3.out.2.2.1 (belT (belT H4.out.2 H5.out) H6.out) rfl); have H7a : Hid (Below w6.heap.size w6 (w6.alloc (.cells #[.slice none 0 0, .slice none 0 0, .slice none 0 0, .slice none 0 0, .slice none 0 0, .slice none 0 0, .slice none 0 0, .slice none 0 0, .slice none 0 0, .slice none 0 0, .slice none 0 0, .slice none 0 0] 39))) := Lib.hid (below_alloc (Below.refl _ _) _); (with_reducible refine (book_first (w := (w6.alloc (.cells #[.slice none 0 0, .slice none 0 0, .slice none 0 0, .slice none 0 0, .slice none 0 0, .slice none 0 0, .slice none 0 0, .slice none 0 0, .slice none 0 0, .slice none 0 0, .slice none 0 0, .slice none 0 0] 39))) H7.out.bk H7.out.one H7.out.lt1 H.out.2.2.2.2.2.2.1).mono ?_); rintro e w8 ⟨rfl, ⟨v5, v10, hS8⟩, hb8⟩; have H8 := Lib.hid (And.intro hS8 hb8); clear hS8 hb8)
    | (go_at_call 16; (with_reducible refine (book_more (w := w8) H8.out.1 (H7.out.two.keep H7.out.lt2 H8.out.2) H7.out.lt2 H.out.2.2.2.2.2.2.1 (two_len H7.out.one H.out.2.2.2.2.2.2.1) (by simp)).mono ?_); rintro e w9 ⟨rfl, ⟨v5', v10', hS9⟩, hb9⟩; have H9 := Lib.hid (And.intro hS9 hb9); clear hS9 hb9)
    | (go_at_call 17; (with_reducible refine (apart_two (w := w9) H9.out.1 ((H7.out.one.keep H7.out.lt1 H8.out.2).keep H7.out.lt1 H9.out.2) ((H7.out.two.keep H7.out.lt2 H8.out.2).keep H7.out.lt2 H9.out.2) ⟨H7.out.one.le, Nat.le_refl _⟩ ⟨H7.out.two.le, Nat.le_refl _⟩ H7.out.lt H7.out.le H.out.2.2.2.2.2.2.1 H.out.2.2.2.2.2.2.1 H.out.2.2.2.2.2.2.2 H.out.2.2.2.2.2.2.2 (chain_size H7.out.le H7.out.le2 H8.out.2 H9.out.2 H7.out.bk)).mono ?_); rintro e w10 ⟨rfl, hO⟩; have H10 := Lib.hid (chain_below H2.out.2.2 H3.out.2.2.1 (belT (belT H4.out.2 H5.out) H6.out) H7.out H7a.out H8.out.2 H9.out.2 hO); clear hO)
    | (go_at_call 18; (with_reducible refine (keptObjects_calls A1 A l n c n w10 (Kd.C_below H1.out.1 H10.out) (Kd.C_below H.out.1 (belT H1.out.2 H10.out)) H.out.2.1 H.out.2.2.1 H.out.2.2.2.2.1).mono ?_); rintro e w11 ⟨rfl, hb11⟩; have H11 := Lib.hid (belT (belT H1.out.2 H10.out) hb11); clear hb11))
  go_ret
  exact ⟨rfl, H11.out⟩
theorem objSorted_pure (A : Option Addr) (c : Nat) (l : List Ob) (w : World) (hr : kO.C w A l.length l) (hf : ∀ o ∈ l, ObFits o) :
    Calls Tryd.prog 3 #[.slice A l.length c] w fun e w' => e = .returned (.bool true) ∧ Below w.heap.size w w' := by
  by_cases h : 500 < l.length
  · exact objSortedBig_calls A c l.length w h
  · exact objSorted_calls A c l.length l w hr rfl h hf
end Go.Proofs.YtoepbjgldmgaoaaDoor

/- A start for the witness: the settled world, some variables' cells laid as the row says. -/
namespace Go.Proofs.YtoepbjgldmgaoaaDoor
def flat1 : DataW Unit → List Value
  | .lit (.int k n) => [.int k n]
  | _ => []
def flat2 : DataW Unit → List Value
  | .agg l => l.flatMap fun
    | .agg m => m.flatMap flat1
    | x => flat1 x
  | x => flat1 x
def handleCell (h t : Nat) : List Value := [.iface h (.agg #[.pointer (some ⟨3, t, none⟩)])]
def layAt (heap : Array Obj) (x : Nat × List Value) : Array Obj := heap.modify x.1 fun
  | .cells _ t frozen => .cells x.2.toArray t frozen
  | o => o
noncomputable def laidWith (l : List (Nat × List Value)) (os : Os) : World :=
  { World.holding Tryd.prog os ⟨#[], #[], []⟩ with heap := l.foldl layAt (World.holding Tryd.prog os ⟨#[], #[], []⟩).heap }
end Go.Proofs.YtoepbjgldmgaoaaDoor
