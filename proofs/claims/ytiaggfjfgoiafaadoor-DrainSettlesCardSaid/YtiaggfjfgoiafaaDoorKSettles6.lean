/- Lemmas on which the law stands, part 6: Plan, SetM, Mem, EmpD, DrK1, Wide27, Set, OpenF, Laid. -/
import Derived.Test.YtiaggfjfgoiafaaDoorKSettles4
import Derived.Test.YtiaggfjfgoiafaaDoorKSettles5
import Derived.WalkMore
import Derived.Great.BuildSlice
import Derived.Test.YtiaggfjfgoiafaaDoorCards
import Derived.WalkKit
import Derived.ProofKit
set_option linter.unusedVariables false
set_option linter.unusedSimpArgs false
/- drain.Plan: what it asks for. -/
namespace Go.Proofs.YtiaggfjfgoiafaaDoor
open Go.RowKit Go.Proofs.YtiaggfjfgoiafaaDoorW.PrintWords Go.Proofs.YtiaggfjfgoiafaaDoorW.PrintLast
theorem upd_built (o : Ob) (v19 v22 : Value) : Tryd.prog.built 42 [(0, .int .i64 1), (1, .agg ((cord o).cells v19 v22)), (4, .int .i64 o.version)] = some ((upd o).cells v19 v22) := by kernel_rfl
section
theorem wpList_load1_g {P : Program} {ops : Array Oper} {rest : List Oper} {op : Oper} {a : Act} {w : World} {Q : Exit → Act → World → Prop} (ty : TypeId) (x : Operand) (ho : op.op = .load ty x) (p : Addr) (hgd : op.guard = none) (hx : a.eval x = .pointer (some p)) (u : Value) (d : TypeDesc)
    (hc : w.cell? p = some u) (hu : P.underlying ty = some d) (hd : d.isRow = false) (h : wpList P ops Q rest (a.put op.dst u) w) : wpList P ops Q (op :: rest) a w :=
  wpList_plain hgd fun _ hK => by
    have hagg : (isAgg ty).run P w = .ok false w := by
      unfold isAgg
      rw [Sem.run_bind, run_underlying hu w]
      cases d <;> simp_all [TypeDesc.isRow]
    have hl : (loadVar ty p).run P w = .ok u w := by
      simp [loadVar, Sem.run_bind, hagg, run_load, hc]
    unfold Oper.wp execOp
    simp only [ho, hx, Instr.loadAt, Instr.sureAddr, Sem.run_bind, Sem.run_pure, Result.andThen_ok, hl]
    exact hK _ _ h
theorem wpList_builtL {P : Program} {ops : Array Oper} {rest : List Oper} {o : Oper} {a : Act} {w : World} {Q : Exit → Act → World → Prop} (hg : o.guard = none) (t : TypeId) (ps : List (Nat × Operand)) (ho : o.op = .build t ps.toArray)
    (d : Option Tmp) (hd : o.dst = d) (us : List (Nat × Value)) (hus : ps.map (fun p => (p.1, a.eval p.2)) = us) (cells : Array Value) (hf : P.built t us = some cells)
    (h : wpList P ops Q rest (a.put d (.agg cells)) w) : wpList P ops Q (o :: rest) a w :=
  wpList_buildTo hg t ps.toArray ho d hd cells (by rw [← hf, ← hus]; simp) h
end
def rg15_10_T : Bool × List (List Nat × List Nat) := (true, [([], []), ([0], [0]), ([1], [1]), ([], []), ([3], [3]), ([4, 2], [4]), ([0, 1, 2, 3, 4], []), ([6, 2, 5, 0, 1, 2, 3, 4], [2, 6]), ([0, 1, 2, 3, 4, 5, 6, 7], []), ([8, 5, 7, 0, 1, 2, 3, 4, 5, 6, 7], [5, 8])])
def rg15_10_B : List Nat := [0, 1, 3, 0, 8, 31, 31, 127, 255, 511]
theorem rg15_10_tab : rtab .any (opsOf Tryd.f15 10) = rg15_10_T := by kernel_rfl
theorem rg15_10_bits : waitsOk rg15_10_T.2 rg15_10_B = true := by kernel_rfl
set_option maxHeartbeats 16000000 in
set_option maxRecDepth 100000 in
theorem plan_calls (An Ap : Option Addr) (nn np cn cp : Nat) (v2 v3 : Value) (ns ps : List Ob) (w : World) (h2 : v2.oneCell' = true) (h3 : v3.oneCell' = true) (hn : kO.C w An nn ns) (hp : kO.C w Ap np ps) (ln : nn ≤ 10000) (lp : np ≤ 10000) (fn : ∀ o ∈ ns, ObFits o) (fp : ∀ o ∈ ps, ObFits o) :
    Calls Tryd.prog 15 #[.agg #[.slice An nn cn, .slice Ap np cp, v2, v3]] w fun e w' => ∃ v, e = .returned v ∧ Kd.S kRq 42 w' w.heap.size (fun _ => True) v (planF ns ps) ∧ Below w.heap.size w w' := by
  obtain ⟨ts, hts, hT, hL⟩ := T_of_kO hn
  obtain ⟨qs, hqs, hP, hLP⟩ := T_of_kO hp
  have HLn : Hid (ts.length = nn) := Lib.hid hT.1
  have HTS := Lib.hid (And.intro hts hqs)
  have HL := Lib.hid (And.intro hL (And.intro hP hLP))
  have HFt : Hid (∀ t ∈ ts, ObFits t.1) := Lib.hid (fun t ht => fn t.1 (by rw [← hts]; exact List.mem_map_of_mem ht))
  have HFp := Lib.hid fp
  have HV := Lib.hid (And.intro h2 h3)
  have HLP : Hid (np ≤ 1000000 ∧ qs.length ≤ 10000) := Lib.hid ⟨by omega, by rw [hP.1]; exact lp⟩
  have q0 : (w.alloc (Obj.cells #[.slice An nn cn, .slice Ap np cp, v2, v3] 24)).cell? ⟨w.heap.size, 0, none⟩ = some (.slice An nn cn) := cell_of_row _ _ 0 _ _ _ (heap_alloc_new w _)
  have HF0 : Hid ((w.alloc (Obj.cells #[.slice An nn cn, .slice Ap np cp, v2, v3] 24)).heap[w.heap.size]? = some (.cells #[.slice An nn cn, .slice Ap np cp, v2, v3] 24 (0, 0))) := Lib.hid (heap_alloc_new w _)
  have HB0 := Lib.hid (below_alloc (Below.refl w.heap.size w) (Obj.cells #[.slice An nn cn, .slice Ap np cp, v2, v3] 24))
  have QC := Lib.hid (fun W (hW : Below w.heap.size w W) => cloneT_calls An cn nn ts W (Kd.C_below hT hW) (by omega))
  clear hn hp hts hqs hT hL hP hLP fn fp
  go_enter Tryd.func15, Tryd.ntmps15
  go_wp2
  go_step3
  go_wp2_with (first
    | (go_at_call 28; (with_reducible refine (QC.out _ HB0.out).mono ?_); rintro e w1 ⟨v, rfl, hR1, hb1⟩; obtain ⟨A1, c1, hv⟩ := Kd.R_slice hR1; rw [HLn.out] at hv; subst hv; have QS := Lib.hid (sort_R kT rfl 30 IsObj cNa name1_at cNa_cmp cT hR1 (fun x cs hx hK => kT_is hK (HFt.out x hx)) (fun x y cs ds hx hy hK hK' => kT_cmp hK hK') (by have := HLn.out; omega)); have H1 := Lib.hid hb1; clear hR1 hb1)
    | (go_at_call 29; (with_reducible refine QS.out.mono ?_); rintro e w7 ⟨⟨r7, rfl⟩, hR7, hB7, hz7, hk7⟩; have HM := Lib.hid (mid_of (An := An) HF0.out HB0.out H1.out hB7 hR7 HL.out.1 (fun t ht => (Srt.mem_isort t ts).1 ht) HL.out.2.1 HL.out.2.2); clear hR7 hB7 hz7 hk7))
  have HSS : Hid ((Srt.isort cT ts).map (·.1) = Srt.isort cN ns ∧ (Srt.isort cT ts).length = nn ∧ ∀ t ∈ Srt.isort cT ts, ObFits t.1) := Lib.hid ⟨by rw [cT_map, HTS.out.1], by rw [Srt.isort_length, HLn.out], fun t ht => HFt.out t ((Srt.mem_isort t ts).1 ht)⟩
  generalize hss : Srt.isort cT ts = ss at HM HSS
  have HXX := Lib.hid hss
  clear hss QC QS H1 HF0 HB0 HFt HL q0
  go_step3
  go_wp2
  go_loopw [3, 17] (fun v3 v17 wr => ∃ k : Nat, v17 = .int .i64 k ∧ k ≤ nn ∧ Hid (Kd.S kRq 42 wr w7.heap.size (fun _ => True) v3 (((ss.map (·.1)).take k).flatMap (askN ps)) ∧ Below w7.heap.size w7 wr)) (fun _ v17 _ => nn - (intOf v17).toNat)
  case atStart => exact ⟨0, rfl, Nat.zero_le _, Lib.hid ⟨Kd.S_nil _ _ _ _ _, Below.refl _ _⟩⟩
  case round =>
    obtain ⟨k, rfl, hk, hI⟩ := hrel
    by_cases hlt : k < nn
    · obtain ⟨⟨o, y4, y27⟩, ht⟩ : ∃ t, ss[k]? = some t := ⟨_, List.getElem?_eq_getElem (by have := HSS.out.2.1; omega)⟩
      obtain ⟨ad, rfl, hc1, hO⟩ := tAt (HM.out.below hI.out.2).ns k _ ht
      replace hc1 : (o.cells y4 y27).all (·.oneCell') = true := hc1
      replace hO : ∀ (j : Nat) (u : Value), (o.cells y4 y27)[j]? = some u → wr.cell? ((ad.add (k * 32)).add j) = some u := hO
      obtain ⟨h4, h27⟩ : LabK wr o.labels y4 ∧ LabK wr o.select y27 := (HM.out.below hI.out.2).nl _ (List.mem_of_getElem? ht)
      obtain ⟨A4, c4, rfl, hl4, hr4⟩ := h4
      obtain ⟨A27, c27, rfl, hl27, hr27⟩ := h27
      have hf : ObFits o := HSS.out.2.2 _ (List.mem_of_getElem? ht)
      have hlk : (k : Int) < (nn : Int) := by omega
      have Q4 := Lib.hid (fun W (hW : Below wr.heap.size wr W) => clone_calls A4 c4 o.labels W (Kd.C_below hr4 hW) (Nat.le_trans hf.2.1 (by decide)))
      have Q27 := Lib.hid (fun W (hW : Below wr.heap.size wr W) => clone_calls A27 c27 o.select W (Kd.C_below hr27 hW) (Nat.le_trans hf.2.2 (by decide)))
      have HO := Lib.hid (And.intro hO hc1)
      have hsn := ask_snoc ps (l := ss.map (·.1)) (k := k) (o := o) (by rw [List.getElem?_map, ht]; rfl)
      obtain ⟨b, hb⟩ : ∃ b, b = o.draining := ⟨_, rfl⟩
      obtain ⟨d, hd⟩ : ∃ b, b = o.cordoned := ⟨_, rfl⟩
      have hsz : (((ss.map (·.1)).take k).flatMap (askN ps)).length + 20000 ≤ 200000000 := by
        have h1 := ask_len ps ((ss.map (·.1)).take k)
        rw [List.length_take] at h1
        have h2 : ps.length ≤ 10000 := by rw [← HTS.out.2, List.length_map]; exact HLP.out.2
        have h3 : min k (ss.map (·.1)).length * (1 + ps.length) ≤ 10000 * 10001 := Nat.mul_le_mul (by omega) (by omega)
        omega
      have HE := Lib.hid (And.intro hb (And.intro hd hsn))
      clear ht hl4 hr4 hl27 hr27 hf hO hc1 hsn hb hd
      cases b
      · go_wp2_with (first
          | ((with_reducible refine wpList_load_any rfl 39 (.tmp 19) rfl (ad.add (k * 32)) ?c1 (o.cells (.slice A4 o.labels.length c4) (.slice A27 o.select.length c27)) _ ?c2 Tryd.underlying39 ?c3 ?c4 ?_); (case c1 => rfl); (case c2 => exact HO.out.1); (case c3 => rfl); (case c4 => exact infoO1))
          | ((with_reducible refine wpList_store_blk rfl 39 (.tmp 6) (.tmp 20) rfl wr.heap.size 39 ?c0 (o.cells (.slice A4 o.labels.length c4) (.slice A27 o.select.length c27)) ?c1 ?c2 ?c3 ?c4 ?c5 ?c6 ?_); (case c1 => rfl); (case c2 => rfl); (case c3 => exact heap_alloc_new _ _); (case c4 => exact infoO1); (case c5 => rfl); (case c6 => exact HO.out.2); intro w2 G1 hk1 hb1 hz1; have C8 : w2.cell? ⟨wr.heap.size, 8, none⟩ = some (.bool false) := ((cell_of_row _ _ 8 _ _ _ G1).trans rfl).trans (by rw [HE.out.1]; rfl)))
        have HBW : Below wr.heap.size wr w2 := hb1 _ _ (below_alloc (Below.refl _ _) _) (Nat.le_refl _)
        have hee : askN ps o = [] := by unfold askN; rw [← HE.out.1]; rfl
        have e3 := HE.out.2.2
        rw [hee, List.append_nil] at e3
        go_roundw
        case rel => exact ⟨k + 1, by go_num, by omega, Lib.hid ⟨by rw [e3]; exact Kd.S_below hI.out.1 HBW, belT hI.out.2 HBW⟩⟩
        case measure => simp [intOf]; omega
      · cases d
        · have HSZ : Hid ((((ss.map (·.1)).take k).flatMap (askN ps)).length + 20000 ≤ 200000000) := Lib.hid hsz
          have hlen1 : ((((ss.map (·.1)).take k).flatMap (askN ps)).length + 1) * 416 ≤ 140737488355328 := by omega
          have HLEN1 := Lib.hid hlen1
          clear hlen1
          go_wp2_with (first
            | ((with_reducible refine wpList_load_any rfl 39 (.tmp 19) rfl (ad.add (k * 32)) ?c1 (o.cells (.slice A4 o.labels.length c4) (.slice A27 o.select.length c27)) _ ?c2 Tryd.underlying39 ?c3 ?c4 ?_); (case c1 => rfl); (case c2 => exact HO.out.1); (case c3 => rfl); (case c4 => exact infoO1))
            | ((with_reducible refine wpList_store_blk rfl 39 (.tmp 6) (.tmp 20) rfl wr.heap.size 39 ?c0 (o.cells (.slice A4 o.labels.length c4) (.slice A27 o.select.length c27)) ?c1 ?c2 ?c3 ?c4 ?c5 ?c6 ?_); (case c1 => rfl); (case c2 => rfl); (case c3 => exact heap_alloc_new _ _); (case c4 => exact infoO1); (case c5 => rfl); (case c6 => exact HO.out.2); intro w2 G1 hk1 hb1 hz1; have C8 : w2.cell? ⟨wr.heap.size, 8, none⟩ = some (.bool true) := ((cell_of_row _ _ 8 _ _ _ G1).trans rfl).trans (by rw [HE.out.1]; rfl); have C7 : w2.cell? ⟨wr.heap.size, 7, none⟩ = some (.bool false) := ((cell_of_row _ _ 7 _ _ _ G1).trans rfl).trans (by rw [HE.out.2.1]; rfl); have HB2 := Lib.hid (hb1 _ _ (below_alloc (Below.refl _ _) _) (Nat.le_refl _)); clear hk1 hb1 hz1)
            | ((with_reducible refine wpList_store1 rfl 4 (.tmp 27) (.const (.bool true)) rfl wr.heap.size 7 39 (o.cells (.slice A4 o.labels.length c4) (.slice A27 o.select.length c27)) (.bool true) ?n1 ?n2 ?n3 ?n4 ?n5 ?n6 ?n7 ?_); (case n1 => rfl); (case n2 => rfl); (case n3 => rfl); (case n4 => exact G1); (case n5 => exact (show 7 < 32 by decide)); (case n6 => kernel_rfl); (case n7 => rfl); intro w3 G3 hk3 hb3 hz3))
          rw [cells_cord] at G3
          have HBW : Below wr.heap.size wr w3.drew := (hb3 _ _ HB2.out (Nat.le_refl _)).drew
          obtain ⟨g, hg⟩ : ∃ g, g = wr.heap.size := ⟨_, rfl⟩
          rw [← hg] at G3 ⊢
          have G : w3.drew.heap[g]? = some (.cells ((cord o).cells (.slice A4 o.labels.length c4) (.slice A27 o.select.length c27)) 39 (0, 0)) := G3
          have C4 : w3.drew.cell? ⟨g, 4, none⟩ = some (.slice A4 o.labels.length c4) := (cell_of_row _ _ 4 _ _ _ G).trans rfl
          have C27 : w3.drew.cell? ⟨g, 27, none⟩ = some (.slice A27 o.select.length c27) := (cell_of_row _ _ 27 _ _ _ G).trans rfl
          have HG := Lib.hid hg
          clear hk3 hb3 hz3 G3 G1 C8 C7 HB2 hg
          refine start_ (n := 10) (S := fun w' => w'.heap[g]? = some (.cells ((cord o).cells (.slice A4 o.labels.length c4) (.slice A27 o.select.length c27)) 39 (0, 0)) ∧ w'.cell? ⟨g, 4, none⟩ = some (.slice A4 o.labels.length c4) ∧ w'.cell? ⟨g, 27, none⟩ = some (.slice A27 o.select.length c27)) (ds := [7, 9]) (bs 10 0) (by kernel_rfl) rfl (by kernel_rfl) ⟨G, C4, C27⟩ (fun hHeld => ?_)
          refine with_tabW rg15_10_tab rg15_10_bits (fun HT_ HW_ => ?_)
          refine pu 0 (some 28) (bs 10 1) HT_ rfl rfl (by kernel_rfl) (fun _ _ _ _ h => h) ⟨_, .inl ⟨by rfl, fun _ => by go_simp; with_reducible rfl⟩, _, by simp only [Act.put, sA, sB, sC, i64_w, i32_w]; rfl, ?_⟩
          refine pu 3 (some 31) (bs 10 9) HT_ rfl rfl (by kernel_rfl) (fun _ _ _ _ h => h) ⟨_, .inl ⟨by rfl, fun _ => by go_simp; with_reducible rfl⟩, _, by simp only [Act.put, sA, sB, sC, i64_w, i32_w]; rfl, ?_⟩
          refine tk 1 (some 29) (bs 10 11) HT_ HW_ rfl rfl (by kernel_rfl) (fun _ _ _ _ h => h) hHeld ⟨_, .inl ⟨by rfl, by rintro w' ⟨s0, s1, s2⟩; go_simp; with_reducible rfl⟩, _, by simp only [Act.put, sA, sB, sC, i64_w, i32_w]; rfl, ?_⟩
          refine tk 4 (some 32) (bs 10 27) HT_ HW_ rfl rfl (by kernel_rfl) (fun _ _ _ _ h => h) hHeld ⟨_, .inl ⟨by rfl, by rintro w' ⟨s0, s1, s2⟩; go_simp; with_reducible rfl⟩, _, by simp only [Act.put, sA, sB, sC, i64_w, i32_w]; rfl, ?_⟩
          refine on1 2 (some 30) (bs 10 31) HT_ rfl rfl (by kernel_rfl) (by decide) (fun K hK => ?_)
          refine goes_ Tryd.func32 (by kernel_rfl) rfl #[.slice A4 o.labels.length c4] (by rfl) rfl rfl (by (try simp only [List.map_toArray, List.map_cons, List.map_nil]); first | done | rfl) ?_
          with_reducible refine (Q4.out _ HBW).mono ?_
          rintro e w2 ⟨v19, rfl, H19, hb⟩
          have K19 : ∀ k, v19.ownBlock = some k → g < k := fun k hk => Nat.lt_of_lt_of_le (blkLt G) (Kd.R_base H19 k hk)
          replace G := blkB hb G
          replace C4 := cell_below hb C4
          replace C27 := cell_below hb C27
          have B19 := HBW.size
          replace HBW := belT HBW hb
          clear hb
          refine ⟨_, rfl, ?_⟩
          refine hK.out _ _ ⟨G, C4, C27⟩ (fun hHeld => ?_)
          clear hK K
          refine nm ⟨_, show Act.put _ (some 30) _ = _ by simp only [Act.put, sA, sB, sC, i64_w, i32_w]; rfl, ?_⟩
          refine pu 6 (some 34) (bs 10 95) HT_ rfl rfl (by kernel_rfl) (fun _ _ _ _ h => h) ⟨_, .inl ⟨by rfl, fun _ => by go_simp; with_reducible rfl⟩, _, by simp only [Act.put, sA, sB, sC, i64_w, i32_w]; rfl, ?_⟩
          refine on1 5 (some 33) (bs 10 127) HT_ rfl rfl (by kernel_rfl) (by decide) (fun K hK => ?_)
          refine goes_ Tryd.func32 (by kernel_rfl) rfl #[.slice A27 o.select.length c27] (by rfl) rfl rfl (by (try simp only [List.map_toArray, List.map_cons, List.map_nil]); first | done | rfl) ?_
          with_reducible refine (Q27.out _ HBW).mono ?_
          rintro e w3 ⟨v22, rfl, H22, hb⟩
          have K22 : ∀ k, v22.ownBlock = some k → g < k := fun k hk => Nat.lt_of_lt_of_le (blkLt G) (Kd.R_base H22 k hk)
          have L19 := Kd.R_lt H19
          have L22 := Kd.R_base H22
          have B22 := HBW.size
          replace H19 := Kd.R_below H19 hb
          replace G := blkB hb G
          replace C4 := cell_below hb C4
          replace C27 := cell_below hb C27
          replace HBW := belT HBW hb
          clear hb
          refine ⟨_, rfl, ?_⟩
          refine hK.out _ _ ⟨G, C4, C27⟩ (fun hHeld => ?_)
          clear hK K
          refine nm ⟨_, show Act.put _ (some 33) _ = _ by simp only [Act.put, sA, sB, sC, i64_w, i32_w]; rfl, ?_⟩
          refine la1 7 (none) (bs 10 255) HT_ rfl rfl (by kernel_rfl) (by decide) (fun K hK => ?_)
          refine store1_ (g := g) (i := 4) (x := .tmp 34) (y := .tmp 30) (u := v19) (by rfl) rfl rfl rfl rfl (lab_cells H19) G (by rw [Ob.cells_size]; omega) (by kernel_rfl) (Kd.R_val H19).2 ?_
          intro w4 G4 hk4 hb4
          refine hK.out _ _ ?_
          clear hK K
          refine pu 8 (some 35) (bs 10 511) HT_ rfl rfl (by kernel_rfl) (fun _ _ _ _ h => h) ⟨_, .inl ⟨by rfl, fun _ => by go_simp; with_reducible rfl⟩, _, by simp only [Act.put, sA, sB, sC, i64_w, i32_w]; rfl, ?_⟩
          refine la1 9 (none) (bs 10 1023) HT_ rfl rfl (by kernel_rfl) (by decide) (fun K hK => ?_)
          refine store1_ (g := g) (i := 27) (x := .tmp 35) (y := .tmp 33) (u := v22) (by rfl) rfl rfl rfl rfl (lab_cells H22) G4 (by simp [Ob.cells_size]) (by kernel_rfl) (Kd.R_val H22).2 ?_
          intro w5 G5 hk5 hb5
          refine hK.out _ _ ?_
          clear hK K
          refine done_ (done_of HT_.out (by kernel_rfl)) ?_
          rw [cells_set] at G5
          have hgw := HG.out
          have hw := hI.out.2.size
          have hgle : wr.heap.size ≤ g := by omega
          have HB5 : Below wr.heap.size wr w5 := hb5 _ _ (hb4 _ _ HBW hgle) hgle
          have hst : ∀ k, k ≠ g → w5.heap[k]? = w3.heap[k]? := fun k hk => (hk5 k hk).trans (hk4 k hk)
          have N19 : ∀ k, v19.ownBlock = some k → v22.ownBlock ≠ some k := fun k hk hk' => by
            have := L19 k hk
            have := L22 k hk'
            omega
          have R19 : kL.R 56 w5 w7.heap.size (fun k => some k = v19.ownBlock) v19 o.labels := Kd.R_lower (Kd.R_step (Kd.R_tight rfl H19) (fun k hk _ => hst k (by have := K19 k hk.symm; omega))) (Nat.le_trans hw B19)
          have R22 : kL.R 56 w5 w7.heap.size (fun k => some k = v22.ownBlock) v22 o.select := Kd.R_lower (Kd.R_step (Kd.R_tight rfl H22) (fun k hk _ => hst k (by have := K22 k hk.symm; omega))) (Nat.le_trans hw B22)
          have hM : kRq.M w5 w7.heap.size (fun k => some k = v19.ownBlock ∨ some k = v22.ownBlock) (upd o) ((upd o).cells v19 v22).toList :=
            ⟨v19, v22, rfl, Kd.R_mono R19 (fun k hk => ⟨.inl hk, fun e => N19 k hk.symm e.symm⟩), Kd.R_mono R22 (fun k hk => ⟨.inr hk, fun e => N19 k e.symm hk.symm⟩)⟩
          have hop : ∀ k, (some k = v19.ownBlock ∨ some k = v22.ownBlock) → True ∧ some k ≠ u3.ownBlock := fun k h => ⟨trivial, fun e => by
            have := Kd.S_lt hI.out.1 k e.symm
            rcases h with h | h
            · have := K19 k h.symm; omega
            · have := K22 k h.symm; omega⟩
          have hne : some g ≠ u3.ownBlock := fun e => by
            have := Kd.S_lt hI.out.1 g e.symm
            omega
          have hS5 : Kd.S kRq 42 w5 w7.heap.size (fun k => True ∧ ¬ (some k = v19.ownBlock ∨ some k = v22.ownBlock)) u3 (((ss.map (·.1)).take k).flatMap (askN ps)) :=
            Kd.S_mono (Kd.S_below (Kd.S_bound hI.out.1) HB5) (fun k hk => ⟨trivial, fun e => by
              have h1 := hk.2.2.1
              rcases e with e | e
              · have := K19 k e.symm; omega
              · have := K22 k e.symm; omega⟩)
          have HA := Lib.hid (And.intro hM (And.intro hS5 (And.intro hop (And.intro hne (belT hI.out.2 HB5)))))
          have HG5 := Lib.hid G5
          have E2 : Hid (w5.cell? ⟨g, 2, none⟩ = some (.int .i64 o.version)) := Lib.hid ((cell_of_row _ _ 2 _ _ _ G5).trans rfl)
          have HW5 : Hid (w7.heap.size ≤ w5.heap.size) := Lib.hid (Nat.le_trans hw HB5.size)
          clear hM hS5 hop hne R19 R22 N19 hst HB5 hgle hgw hw G C4 C27 HBW K19 K22 L19 L22 B19 B22 H19 H22 G4 hk4 hb4 G5 hk5 hb5 HO Q4 Q27
          obtain ⟨cc, hcc⟩ : ∃ x, x = (cord o).cells v19 v22 := ⟨_, rfl⟩
          obtain ⟨rl, hrl⟩ : ∃ x, x = ((upd o).cells v19 v22).toList := ⟨_, rfl⟩
          have HBT : Hid (Tryd.prog.built 42 [(0, .int .i64 1), (1, .agg cc), (4, .int .i64 o.version)] = some rl.toArray) := Lib.hid (by rw [hcc, hrl]; exact upd_built o v19 v22)
          have HG6 : Hid (w5.heap[g]? = some (.cells cc 39 (0, 0))) := Lib.hid (by rw [hcc]; exact HG5.out)
          have HCS : Hid ((Tryd.prog.info? 39).map (·.size) = some cc.size) := Lib.hid (by rw [hcc]; exact infoO1)
          have HRS : Hid (rl.toArray.size = 42) := Lib.hid (by rw [hrl]; rfl)
          have HMM : Hid (kRq.M w5 w7.heap.size (fun k => some k = v19.ownBlock ∨ some k = v22.ownBlock) (upd o) rl) := Lib.hid (by rw [hrl]; exact HA.out.1)
          have HC1 : Hid (∀ w6, w5.grownBy w6 u3.ownBlock → w6.cell? ⟨g, 1, none⟩ = some (.string o.name)) := Lib.hid (fun w6 hg6 => (cell_of_row _ _ 1 _ _ _ ((hg6.block g (blkLt HG5.out) HA.out.2.2.2.1).trans HG5.out)).trans rfl)
          clear hcc hrl HG5
          go_wp2_with (first
            | ((with_reducible refine wpList_load_blk rfl 39 (.tmp 6) rfl g 39 ?c1 cc _ ?c2 Tryd.underlying39 ?c3 ?c4 ?_); (case c1 => rfl); (case c2 => exact HG6.out); (case c3 => rfl); (case c4 => exact HCS.out))
            | ((with_reducible refine wpList_build1 rfl 28 42 (.tmp 40) rfl rl.toArray ?d1 (.agg (Rq.zero.cells (.slice none 0 0) (.slice none 0 0))) 42 416 Tryd.underlying28 ?d3 ?d4 (by omega) (by omega) ?d5 ?_); (case d1 => rfl); (case d3 => exact infoRq); (case d4 => exact HRS.out); (case d5 => rfl))
            | ((with_reducible refine wpList_load1_g 3 (.tmp 38) rfl ⟨g, 2, none⟩ rfl ?l1 (.int .i64 o.version) _ E2.out Tryd.underlying3 rfl ?_); (case l1 => rfl); refine wpList_builtL rfl 42 [(0, .const (.int .i64 1)), (1, .tmp 37), (4, .tmp 39)] rfl (some 40) rfl [(0, .int .i64 1), (1, .agg cc), (4, .int .i64 o.version)] rfl rl.toArray HBT.out ?_)
            | (at_builtin; refine Kd.S_append kRq (w0 := w7) (W := w5) w7.heap.size rfl (.tmp 36) (.tmp 41) 28 42 (.agg (Rq.zero.cells (.slice none 0 0) (.slice none 0 0))) 416 rfl Tryd.underlying28 infoRq rfl (by decide) (by decide) u3 ((((ss.map (·.1)).take k).flatMap (askN ps))) (upd o) rl (fun _ => True) (fun k => some k = v19.ownBlock ∨ some k = v22.ownBlock) rfl rfl ?uA ?uB ?uC ?uD ?uE ?uF ?uG ?_; (case uA => exact HMM.out); (case uB => exact HA.out.2.2.1); (case uC => exact fun _ _ => trivial); (case uD => exact HA.out.2.1); (case uE => exact HA.out.2.2.2.2); (case uF => exact HW5.out); (case uG => exact HLEN1.out); intro v1 w6 hR6 hB6 hg6 hat6; have C1 : w6.cell? ⟨g, 1, none⟩ = some (.string o.name) := HC1.out _ hg6; have HW := Lib.hid (And.intro hR6 hB6); clear hR6 hB6 hg6 hat6)
            | ((with_reducible refine wpList_load_blk rfl 24 (.tmp 1) rfl w.heap.size 24 ?f1 #[.slice An nn cn, .slice Ap np cp, v2, v3] _ ?f2 Tryd.underlying24 ?f3 ?f4 ?_); (case f1 => rfl); (case f2 => exact (HM.out.below HW.out.2).fl); (case f3 => rfl); (case f4 => exact infoF1))
            | (go_at_call 33; (with_reducible refine (on_calls (.slice An nn cn) v2 v3 Ap cp np o.name qs w6 rfl HV.out.1 HV.out.2 (HM.out.below HW.out.2).ps HLP.out.1).mono ?_); rintro e wa ⟨v, rfl, hRa, hba⟩; obtain ⟨A5, c5, hv⟩ := Kd.R_slice hRa; obtain ⟨n5, hn5⟩ : ∃ x, x = (onF o.name qs).length := ⟨_, rfl⟩; rw [← hn5] at hv; subst hv; have QV := Lib.hid (vict_at HTS.out.2 hRa (((HM.out.below HW.out.2).pl).below hba) HFp.out HLP.out.2); have Hba := Lib.hid hba; clear hRa hba hn5)
            | (go_at_call 34; (with_reducible refine QV.out.mono ?_); rintro e wb ⟨A6, m, tv, rfl, hv⟩; have HI6 := Lib.hid (inn_start HW.out.1 HW.out.2 Hba.out hv.out.2.2.2 hv.out.2.1 hv.out.2.2.1); have HTV := Lib.hid (And.intro hv.out.1 (And.intro hv.out.2.1.1 (vict_len hv.out.1 HTS.out.2 HLP.out.2))); clear hv QV Hba))
          go_loopw [3, 52] (fun v3 v52 wr => ∃ j : Nat, v52 = .int .i64 j ∧ j ≤ m ∧ Hid (Inn w7 wr A6 m tv v3 ((((ss.map (·.1)).take k).flatMap (askN ps) ++ [upd o]) ++ ((tv.map (·.1)).take j).map evict))) (fun _ v52 _ => m - (intOf v52).toNat)
          case atStart => exact ⟨0, rfl, Nat.zero_le _, Lib.hid (by simpa using HI6.out)⟩
          case round =>
            obtain ⟨j, rfl, hj, hJ⟩ := hrel
            by_cases hjm : j < m
            · obtain ⟨⟨p, z4, z27⟩, ht⟩ : ∃ t, tv[j]? = some t := ⟨_, List.getElem?_eq_getElem (by have := HTV.out.2.1; omega)⟩
              obtain ⟨bd, rfl, hc1, hO⟩ := tAt hJ.out.vs j _ ht
              replace hc1 : (p.cells z4 z27).all (·.oneCell') = true := hc1
              replace hO : ∀ (j' : Nat) (u : Value), (p.cells z4 z27)[j']? = some u → wr.cell? ((bd.add (j * 32)).add j') = some u := hO
              have HP := Lib.hid (And.intro hO hc1)
              have hjl : (j : Int) < (m : Int) := by omega
              have hjm10 : j ≤ 10000 := by have := HTV.out.2; omega
              have htk : ((tv.map (·.1)).take (j + 1)).map evict = ((tv.map (·.1)).take j).map evict ++ [evict p] := by rw [List.take_add_one, List.getElem?_map, ht]; simp
              have HTK := Lib.hid htk
              have HLEN : Hid ((((((ss.map (·.1)).take k).flatMap (askN ps) ++ [upd o]) ++ ((tv.map (·.1)).take j).map evict).length + 1) * 416 ≤ 140737488355328) := Lib.hid (by have h1 := HSZ.out; have h2 := HTV.out.2.2; simp only [List.length_append, List.length_map, List.length_take, List.length_cons, List.length_nil] at h1 ⊢; omega)
              clear ht hc1 hO htk
              go_wp2_with (first
                | ((with_reducible refine wpList_load_any rfl 39 (.tmp 54) rfl (bd.add (j * 32)) ?c1 (p.cells z4 z27) _ ?c2 Tryd.underlying39 ?c3 ?c4 ?_); (case c1 => rfl); (case c2 => exact HP.out.1); (case c3 => rfl); (case c4 => exact infoO1))
                | ((with_reducible refine wpList_store_blk rfl 39 (.tmp 9) (.tmp 55) rfl wr.heap.size 39 ?c0 (p.cells z4 z27) ?c1 ?c2 ?c3 ?c4 ?c5 ?c6 ?_); (case c1 => rfl); (case c2 => rfl); (case c3 => exact heap_alloc_new _ _); (case c4 => exact infoO1); (case c5 => rfl); (case c6 => exact HP.out.2); intro wc Gc hkc hbc hzc; have D1 : wc.cell? ⟨wr.heap.size, 1, none⟩ = some (.string p.name) := (cell_of_row _ _ 1 _ _ _ Gc).trans rfl; have HJ2 := Lib.hid (hJ.out.below (hbc _ _ (below_alloc (Below.refl _ _) _) (Nat.le_refl _))); clear Gc hkc hbc hzc)
                | ((with_reducible refine wpList_build1 rfl 28 42 (.tmp 59) rfl ((evict p).cells (.slice none 0 0) (.slice none 0 0)) ?d1 (.agg (Rq.zero.cells (.slice none 0 0) (.slice none 0 0))) 42 416 Tryd.underlying28 ?d3 ?d4 (by omega) (by omega) ?d5 ?_); (case d1 => rfl); (case d3 => exact infoRq); (case d4 => rfl); (case d5 => rfl))
                | (at_builtin; refine Kd.S_append kRq (w0 := w7) (W := wc) w7.heap.size rfl (.tmp 56) (.tmp 60) 28 42 (.agg (Rq.zero.cells (.slice none 0 0) (.slice none 0 0))) 416 rfl Tryd.underlying28 infoRq rfl (by decide) (by omega) u3 ((((ss.map (·.1)).take k).flatMap (askN ps) ++ [upd o]) ++ ((tv.map (·.1)).take j).map evict) (evict p) ((evict p).cells (.slice none 0 0) (.slice none 0 0)).toList (fun _ => True) (fun _ => False) rfl rfl (evict_M p wc _) (fun _ h => h.elim) (fun _ _ => trivial) (Kd.S_mono HJ2.out.rq (fun _ _ => ⟨trivial, fun h => h⟩)) HJ2.out.bl HJ2.out.bl.size HLEN.out ?_; intro v1 wd hRd hBd hgd hatd))
              go_roundw
              case rel => exact ⟨j + 1, by go_num, by omega, Lib.hid (by rw [HTK.out, ← List.append_assoc]; exact HJ2.out.app hRd hBd hgd hatd hgd.size)⟩
              case measure => simp [intOf]; omega
            · obtain rfl : j = m := by omega
              have hfin : Hid (Kd.S kRq 42 wr w7.heap.size (fun _ => True) u3 (((ss.map (·.1)).take (k + 1)).flatMap (askN ps)) ∧ Below w7.heap.size w7 wr) := Lib.hid (by
                have h1 := hJ.out.rq
                rw [show (tv.map (·.1)).take j = tv.map (·.1) from List.take_of_length_le (by rw [List.length_map, HTV.out.2.1]; exact Nat.le_refl _), HTV.out.1] at h1
                rw [HE.out.2.2]
                have hask : askN ps o = [upd o] ++ (victOn ps o.name).map evict := by unfold askN; rw [← HE.out.1, ← HE.out.2.1]; rfl
                rw [hask, ← List.append_assoc]
                exact ⟨by simpa using h1, hJ.out.bl⟩)
              go_wp2
              go_roundw
              case rel => exact ⟨k + 1, by go_num, by omega, hfin⟩
              case measure => simp [intOf]; omega
        · have HSZ : Hid ((((ss.map (·.1)).take k).flatMap (askN ps)).length + 20000 ≤ 200000000) := Lib.hid hsz
          go_wp2_with (first
            | ((with_reducible refine wpList_load_any rfl 39 (.tmp 19) rfl (ad.add (k * 32)) ?c1 (o.cells (.slice A4 o.labels.length c4) (.slice A27 o.select.length c27)) _ ?c2 Tryd.underlying39 ?c3 ?c4 ?_); (case c1 => rfl); (case c2 => exact HO.out.1); (case c3 => rfl); (case c4 => exact infoO1))
            | ((with_reducible refine wpList_store_blk rfl 39 (.tmp 6) (.tmp 20) rfl wr.heap.size 39 ?c0 (o.cells (.slice A4 o.labels.length c4) (.slice A27 o.select.length c27)) ?c1 ?c2 ?c3 ?c4 ?c5 ?c6 ?_); (case c1 => rfl); (case c2 => rfl); (case c3 => exact heap_alloc_new _ _); (case c4 => exact infoO1); (case c5 => rfl); (case c6 => exact HO.out.2); intro w2 G1 hk1 hb1 hz1; have C8 : w2.cell? ⟨wr.heap.size, 8, none⟩ = some (.bool true) := ((cell_of_row _ _ 8 _ _ _ G1).trans rfl).trans (by rw [HE.out.1]; rfl); have C7 : w2.cell? ⟨wr.heap.size, 7, none⟩ = some (.bool true) := ((cell_of_row _ _ 7 _ _ _ G1).trans rfl).trans (by rw [HE.out.2.1]; rfl); have C1 : w2.cell? ⟨wr.heap.size, 1, none⟩ = some (.string o.name) := (cell_of_row _ _ 1 _ _ _ G1).trans rfl; have HW := Lib.hid (And.intro (Kd.S_below hI.out.1 (hb1 _ _ (below_alloc (Below.refl _ _) _) (Nat.le_refl _))) (belT hI.out.2 (hb1 _ _ (below_alloc (Below.refl _ _) _) (Nat.le_refl _)))); clear hk1 hb1 hz1 G1)
            | ((with_reducible refine wpList_load_blk rfl 24 (.tmp 1) rfl w.heap.size 24 ?f1 #[.slice An nn cn, .slice Ap np cp, v2, v3] _ ?f2 Tryd.underlying24 ?f3 ?f4 ?_); (case f1 => rfl); (case f2 => exact (HM.out.below HW.out.2).fl); (case f3 => rfl); (case f4 => exact infoF1))
            | (go_at_call 33; (with_reducible refine (on_calls (.slice An nn cn) v2 v3 Ap cp np o.name qs w2 rfl HV.out.1 HV.out.2 (HM.out.below HW.out.2).ps HLP.out.1).mono ?_); rintro e wa ⟨v, rfl, hRa, hba⟩; obtain ⟨A5, c5, hv⟩ := Kd.R_slice hRa; obtain ⟨n5, hn5⟩ : ∃ x, x = (onF o.name qs).length := ⟨_, rfl⟩; rw [← hn5] at hv; subst hv; have QV := Lib.hid (vict_at HTS.out.2 hRa (((HM.out.below HW.out.2).pl).below hba) HFp.out HLP.out.2); have Hba := Lib.hid hba; clear hRa hba hn5)
            | (go_at_call 34; (with_reducible refine QV.out.mono ?_); rintro e wb ⟨A6, m, tv, rfl, hv⟩; have HI6 := Lib.hid (inn_start HW.out.1 HW.out.2 Hba.out hv.out.2.2.2 hv.out.2.1 hv.out.2.2.1); have HTV := Lib.hid (And.intro hv.out.1 (And.intro hv.out.2.1.1 (vict_len hv.out.1 HTS.out.2 HLP.out.2))); clear hv QV Hba))
          go_loopw [3, 52] (fun v3 v52 wr => ∃ j : Nat, v52 = .int .i64 j ∧ j ≤ m ∧ Hid (Inn w7 wr A6 m tv v3 (((ss.map (·.1)).take k).flatMap (askN ps) ++ ((tv.map (·.1)).take j).map evict))) (fun _ v52 _ => m - (intOf v52).toNat)
          case atStart => exact ⟨0, rfl, Nat.zero_le _, Lib.hid (by simpa using HI6.out)⟩
          case round =>
            obtain ⟨j, rfl, hj, hJ⟩ := hrel
            by_cases hjm : j < m
            · obtain ⟨⟨p, z4, z27⟩, ht⟩ : ∃ t, tv[j]? = some t := ⟨_, List.getElem?_eq_getElem (by have := HTV.out.2.1; omega)⟩
              obtain ⟨bd, rfl, hc1, hO⟩ := tAt hJ.out.vs j _ ht
              replace hc1 : (p.cells z4 z27).all (·.oneCell') = true := hc1
              replace hO : ∀ (j' : Nat) (u : Value), (p.cells z4 z27)[j']? = some u → wr.cell? ((bd.add (j * 32)).add j') = some u := hO
              have HP := Lib.hid (And.intro hO hc1)
              have hjl : (j : Int) < (m : Int) := by omega
              have hjm10 : j ≤ 10000 := by have := HTV.out.2; omega
              have htk : ((tv.map (·.1)).take (j + 1)).map evict = ((tv.map (·.1)).take j).map evict ++ [evict p] := by rw [List.take_add_one, List.getElem?_map, ht]; simp
              have HTK := Lib.hid htk
              have HLEN : Hid (((((ss.map (·.1)).take k).flatMap (askN ps) ++ ((tv.map (·.1)).take j).map evict).length + 1) * 416 ≤ 140737488355328) := Lib.hid (by have h1 := HSZ.out; have h2 := HTV.out.2.2; simp only [List.length_append, List.length_map, List.length_take, List.length_cons, List.length_nil] at h1 ⊢; omega)
              clear ht hc1 hO htk
              go_wp2_with (first
                | ((with_reducible refine wpList_load_any rfl 39 (.tmp 54) rfl (bd.add (j * 32)) ?c1 (p.cells z4 z27) _ ?c2 Tryd.underlying39 ?c3 ?c4 ?_); (case c1 => rfl); (case c2 => exact HP.out.1); (case c3 => rfl); (case c4 => exact infoO1))
                | ((with_reducible refine wpList_store_blk rfl 39 (.tmp 9) (.tmp 55) rfl wr.heap.size 39 ?c0 (p.cells z4 z27) ?c1 ?c2 ?c3 ?c4 ?c5 ?c6 ?_); (case c1 => rfl); (case c2 => rfl); (case c3 => exact heap_alloc_new _ _); (case c4 => exact infoO1); (case c5 => rfl); (case c6 => exact HP.out.2); intro wc Gc hkc hbc hzc; have D1 : wc.cell? ⟨wr.heap.size, 1, none⟩ = some (.string p.name) := (cell_of_row _ _ 1 _ _ _ Gc).trans rfl; have HJ2 := Lib.hid (hJ.out.below (hbc _ _ (below_alloc (Below.refl _ _) _) (Nat.le_refl _))); clear Gc hkc hbc hzc)
                | ((with_reducible refine wpList_build1 rfl 28 42 (.tmp 59) rfl ((evict p).cells (.slice none 0 0) (.slice none 0 0)) ?d1 (.agg (Rq.zero.cells (.slice none 0 0) (.slice none 0 0))) 42 416 Tryd.underlying28 ?d3 ?d4 (by omega) (by omega) ?d5 ?_); (case d1 => rfl); (case d3 => exact infoRq); (case d4 => rfl); (case d5 => rfl))
                | (at_builtin; refine Kd.S_append kRq (w0 := w7) (W := wc) w7.heap.size rfl (.tmp 56) (.tmp 60) 28 42 (.agg (Rq.zero.cells (.slice none 0 0) (.slice none 0 0))) 416 rfl Tryd.underlying28 infoRq rfl (by decide) (by omega) u3 (((ss.map (·.1)).take k).flatMap (askN ps) ++ ((tv.map (·.1)).take j).map evict) (evict p) ((evict p).cells (.slice none 0 0) (.slice none 0 0)).toList (fun _ => True) (fun _ => False) rfl rfl (evict_M p wc _) (fun _ h => h.elim) (fun _ _ => trivial) (Kd.S_mono HJ2.out.rq (fun _ _ => ⟨trivial, fun h => h⟩)) HJ2.out.bl HJ2.out.bl.size HLEN.out ?_; intro v1 wd hRd hBd hgd hatd))
              go_roundw
              case rel => exact ⟨j + 1, by go_num, by omega, Lib.hid (by rw [HTK.out, ← List.append_assoc]; exact HJ2.out.app hRd hBd hgd hatd hgd.size)⟩
              case measure => simp [intOf]; omega
            · obtain rfl : j = m := by omega
              have hfin : Hid (Kd.S kRq 42 wr w7.heap.size (fun _ => True) u3 (((ss.map (·.1)).take (k + 1)).flatMap (askN ps)) ∧ Below w7.heap.size w7 wr) := Lib.hid (by
                have h1 := hJ.out.rq
                rw [show (tv.map (·.1)).take j = tv.map (·.1) from List.take_of_length_le (by rw [List.length_map, HTV.out.2.1]; exact Nat.le_refl _), HTV.out.1] at h1
                rw [HE.out.2.2]
                have hask : askN ps o = [] ++ (victOn ps o.name).map evict := by unfold askN; rw [← HE.out.1, ← HE.out.2.1]; rfl
                rw [hask, ← List.append_assoc]
                exact ⟨by simpa using h1, hJ.out.bl⟩)
              go_wp2
              go_roundw
              case rel => exact ⟨k + 1, by go_num, by omega, hfin⟩
              case measure => simp [intOf]; omega
    · obtain rfl : k = nn := by omega
      have hR := Kd.S_lower hI.out.1 HM.out.bl.size
      rw [HSS.out.1, List.take_of_length_le (by rw [← HSS.out.1, List.length_map, HSS.out.2.1]; exact Nat.le_refl _)] at hR
      have HR := Lib.hid hR
      have HB := Lib.hid (belT HM.out.bl hI.out.2)
      clear hR
      go_wp2
      try rw [Exit.noGoto_ret]
      go_ret
      exact ⟨_, rfl, HR.out, HB.out⟩
end Go.Proofs.YtiaggfjfgoiafaaDoor

/- DrainSettles: what stands in memory while the requests are carried out. -/
namespace Go.Proofs.YtiaggfjfgoiafaaDoor
open Go.RowKit Go.Proofs.YtiaggfjfgoiafaaDoorW.PrintWords Go.Proofs.YtiaggfjfgoiafaaDoorW.PrintLast
section
variable {P : Program}
theorem wpList_flag {ops : Array Oper} {rest : List Oper} {op : Oper} {a : Act} {W w0 : World} {Q : Exit → Act → World → Prop} (hgd : op.guard = none) (hN : op.dst = none) (t : TypeId) (p x : Operand) (ho : op.op = .store t p x) {ad : Addr} {g n cap base k j : Nat} {ok : Nat → Prop} {xs : List Ob} {o o' : Ob} {u : Value}
    (had : ad = ⟨g, 0, none⟩) (haddr : a.eval p = .pointer (some ⟨(ad.add (k * 32)).block, (ad.add (k * 32)).off + j, none⟩)) (hx : a.eval x = u) (hu : u.cells.toList = [u]) (ht : (P.info? t).map (·.size) = some 1) (h1 : u.oneCell' = true)
    (HO : kO.R 39 W base ok (.slice (some ad) n cap) xs) (hk : xs[k]? = some o) (hj : j < 32) (hset : ∀ v4 v27, (o.cells v4 v27).toList.take j ++ [u] ++ (o.cells v4 v27).toList.drop (j + 1) = (o'.cells v4 v27).toList) (hl : o'.labels = o.labels ∧ o'.select = o.select) (HB : Below base w0 W)
    (h : ∀ w1, kO.R 39 w1 base ok (.slice (some ad) n cap) (xs.set k o') → Below base w0 w1 → W.grownBy w1 (some g) → wpList P ops Q rest a w1) : wpList P ops Q (op :: rest) a W := by
  subst had
  have hlen := (Kd.R_reads' HO).1
  have hkl := (List.getElem?_eq_some_iff.1 hk).1
  obtain ⟨c, hcl, hM, hcc, _⟩ := Kd.R_elem HO Ob.zero (k : Int) (Int.natCast_nonneg _) (by omega)
  have e : xs.getD (k : Int).toNat Ob.zero = o := by rw [Int.toNat_natCast, List.getD_eq_getElem?_getD, hk]; rfl
  rw [e] at hM
  obtain ⟨v4, v27, rfl, h4, h27⟩ := hM
  refine Kd.R_store kO (P := P) (w0 := w0) base hN hgd t p x ho 39 (g := g) (o' := k * 32 + j) (k : Int) j xs o' u [u] (o.cells v4 v27).toList ok (fun k => ok k ∧ k ≠ g) ?_ ?_ hx hu ht (fun q hq => by rw [List.mem_singleton.1 hq]; exact h1) HO (Int.natCast_nonneg _) (by omega) hcl hcc ?_ ?_ (fun k hk => hk) HB ?_
  · rw [haddr, add_at, Nat.zero_add]
  · rw [Int.toNat_natCast]; rfl
  · show j + 1 ≤ 32
    omega
  · refine ⟨v4, v27, hset v4 v27, by rw [hl.1]; exact h4, by rw [hl.2]; exact h27⟩
  · intro w1 hR hB hG
    rw [Int.toNat_natCast] at hR
    exact h w1 hR hB hG
end
theorem row_form {w : World} {base n c k : Nat} {ok : Nat → Prop} {A : Option Addr} {xs : List Ob} {o : Ob} (h : kO.R 39 w base ok (.slice A n c) xs) (hk : xs[k]? = some o) : ∃ ad g, A = some ad ∧ ad = ⟨g, 0, none⟩ ∧ ok g ∧ base ≤ g ∧ g < w.heap.size := by
  have hl := (List.getElem?_eq_some_iff.1 hk).1
  obtain ⟨g, cap, e, h1, h2, _⟩ := Kd.R_form h (by omega)
  injection e with e1 e2 e3
  exact ⟨_, g, e1, rfl, h.1 g (by rw [e1]; rfl), h1, h2⟩
theorem R_cn {w : World} {base n c : Nat} {ok : Nat → Prop} {A : Option Addr} {xs : List Ob} (h : kO.R 39 w base ok (.slice A n c) xs) (hn : xs.length = n) : kO.C w A n xs := by
  have := (Kd.R_reads' h).2.2
  rw [hn] at this
  exact this
theorem at_obj {w : World} {base n c k : Nat} {ok : Nat → Prop} {A : Option Addr} {xs : List Ob} {o : Ob} (h : kO.R 39 w base ok (.slice A n c) xs) (hk : xs[k]? = some o) : ∃ ad g v4 v27, A = some ad ∧ ad = ⟨g, 0, none⟩ ∧ ok g ∧ base ≤ g ∧ g < w.heap.size ∧ ObjAt w ad k o v4 v27 := by
  obtain ⟨ad, g, e, e2, h1, h2, h3⟩ := row_form h hk
  obtain ⟨ad', v4, v27, e', hO⟩ := objAt (Kd.R_reads' h).2.2 k o hk
  rw [e] at e'
  injection e' with e'
  subst e'
  exact ⟨ad, g, v4, v27, e, e2, h1, h2, h3, hO⟩
structure DS (w2 wq : World) (ga gg B m B4 : Nat) (fc : Array Value) (v0 v1 v2 v3 v6 : Value) (ns ps : List Ob) (l P : List Rq) : Prop where
  fl : wq.heap[ga]? = some (.cells fc 24 (0, 0))
  gb : wq.heap[gg]? = some (.cells #[v0, v1, v2, v3] 24 (0, 0))
  r0 : kO.R 39 wq B (fun k => k < m) v0 (ns.map (ndS P))
  r1 : kO.R 39 wq m (fun k => k < gg) v1 (ps.map (pdS P))
  rl : kRq.R 42 wq B4 (fun _ => True) v6 l
  bl : Below B w2 wq
  le : B4 ≤ wq.heap.size
  lga : ga < B
  lm : B ≤ m
  lmg : m ≤ gg
  lgg : gg < B4
section
variable {w2 wq w1 : World} {ga gg B m B4 : Nat} {fc : Array Value} {v0 v1 v2 v3 v6 : Value} {ns ps : List Ob} {l P : List Rq}
theorem DS.below (h : DS w2 wq ga gg B m B4 fc v0 v1 v2 v3 v6 ns ps l P) (hb : Below wq.heap.size wq w1) : DS w2 w1 ga gg B m B4 fc v0 v1 v2 v3 v6 ns ps l P :=
  ⟨blkB hb h.fl, blkB hb h.gb, Kd.R_below h.r0 hb, Kd.R_below h.r1 hb, Kd.R_below h.rl hb, h.bl.trans (hb.mono (by have := h.le; have := h.lm; have := h.lmg; have := h.lgg; omega)), Nat.le_trans h.le hb.size, h.lga, h.lm, h.lmg, h.lgg⟩
theorem DS.node {P' : List Rq} {g : Nat} (h : DS w2 wq ga gg B m B4 fc v0 v1 v2 v3 v6 ns ps l P) (hg : g < m) (hB : B ≤ g) (hR : kO.R 39 w1 B (fun k => k < m) v0 (ns.map (ndS P'))) (hp : ps.map (pdS P') = ps.map (pdS P)) (hb : Below B w2 w1) (hG : wq.grownBy w1 (some g)) : DS w2 w1 ga gg B m B4 fc v0 v1 v2 v3 v6 ns ps l P' := by
  have h1 := h.lmg
  have h2 := h.lgg
  have h3 := h.lga
  have blk : ∀ k, k < wq.heap.size → k ≠ g → w1.heap[k]? = wq.heap[k]? := fun k hk hne => hG.block k hk (fun e => hne (by injection e))
  refine ⟨(blk _ (blkLt h.fl) (by omega)).trans h.fl, (blk _ (blkLt h.gb) (by omega)).trans h.gb, hR, ?_, ?_, hb, Nat.le_trans h.le hG.size, h3, h.lm, h1, h2⟩
  · rw [hp]
    exact Kd.R_mono (Kd.R_move (Kd.R_bound h.r1) (fun k hk => blk k hk.2.2.1 (by have := hk.2.1; omega))) (fun k hk => hk.1)
  · exact Kd.R_mono (Kd.R_move (Kd.R_bound h.rl) (fun k hk => blk k hk.2.2.1 (by have := hk.2.1; omega))) (fun k hk => hk.1)
theorem DS.pod {P' : List Rq} {g : Nat} (h : DS w2 wq ga gg B m B4 fc v0 v1 v2 v3 v6 ns ps l P) (hg : g < gg) (hB : m ≤ g) (hR : kO.R 39 w1 m (fun k => k < gg) v1 (ps.map (pdS P'))) (hp : ns.map (ndS P') = ns.map (ndS P)) (hb : Below m wq w1) (hG : wq.grownBy w1 (some g)) : DS w2 w1 ga gg B m B4 fc v0 v1 v2 v3 v6 ns ps l P' := by
  have h1 := h.lm
  have h2 := h.lgg
  have h3 := h.lga
  have blk : ∀ k, k < wq.heap.size → k ≠ g → w1.heap[k]? = wq.heap[k]? := fun k hk hne => hG.block k hk (fun e => hne (by injection e))
  refine ⟨(blk _ (blkLt h.fl) (by omega)).trans h.fl, (blk _ (blkLt h.gb) (by omega)).trans h.gb, ?_, hR, ?_, h.bl.trans (hb.mono h1), Nat.le_trans h.le hG.size, h3, h1, h.lmg, h2⟩
  · rw [hp]
    exact Kd.R_mono (Kd.R_move (Kd.R_bound h.r0) (fun k hk => blk k hk.2.2.1 (by have := hk.1; omega))) (fun k hk => hk.1)
  · exact Kd.R_mono (Kd.R_move (Kd.R_bound h.rl) (fun k hk => blk k hk.2.2.1 (by have := hk.2.1; omega))) (fun k hk => hk.1)
end
theorem cord_set (o : Ob) (v4 v27 : Value) : (o.cells v4 v27).toList.take 7 ++ [.bool true] ++ (o.cells v4 v27).toList.drop (7 + 1) = ((cord o).cells v4 v27).toList := rfl
theorem end_set (o : Ob) (v4 v27 : Value) : (o.cells v4 v27).toList.take 16 ++ [.bool true] ++ (o.cells v4 v27).toList.drop (16 + 1) = ((endO o).cells v4 v27).toList := rfl
theorem ndS_fits {P : List Rq} {ns : List Ob} (h : ∀ o ∈ ns, ObFits o) : ∀ o ∈ ns.map (ndS P), ObFits o := by
  intro o ho
  obtain ⟨p, hp, rfl⟩ := List.mem_map.1 ho
  have := h p hp
  unfold ndS
  split <;> exact this
theorem pdS_fits {P : List Rq} {ns : List Ob} (h : ∀ o ∈ ns, ObFits o) : ∀ o ∈ ns.map (pdS P), ObFits o := by
  intro o ho
  obtain ⟨p, hp, rfl⟩ := List.mem_map.1 ho
  have := h p hp
  unfold pdS
  split <;> exact this
theorem rq_cells {w : World} {base n c i : Nat} {A : Option Addr} {l : List Rq} {r : Rq} (h : kRq.R 42 w base (fun _ => True) (.slice A n c) l) (hi : l[i]? = some r) : ∃ ad v4 v27, A = some ad ∧ LabK w r.ob.labels v4 ∧ LabK w r.ob.select v27 ∧ w.cell? (ad.add (i * 42)) = some (.int .i64 r.verb) ∧
    (∀ (j : Nat) (u : Value), 0 < j → (r.cells v4 v27)[j]? = some u → w.cell? ⟨(ad.add (i * 42)).block, (ad.add (i * 42)).off + j, none⟩ = some u) ∧ ∀ (j : Nat) (u : Value), (r.ob.cells v4 v27)[j]? = some u → w.cell? ((⟨(ad.add (i * 42)).block, (ad.add (i * 42)).off + 1, none⟩ : Addr).add j) = some u := by
  obtain ⟨ad, v4, v27, e, h4, h27, hc⟩ := rq_at (Kd.R_reads' h).2.2 i r hi
  refine ⟨ad, v4, v27, e, h4, h27, ?_, fun j u hj hu => ?_, fun j u hu => ?_⟩
  · have := hc 0 (.int .i64 r.verb) rfl
    rwa [add_add, Nat.add_zero] at this
  · have := hc j u hu
    rwa [add_add, add_field _ _ _ hj] at this
  · have := hc (1 + j) u (rq_ob r v4 v27 j u hu)
    rw [← add_field _ _ _ (by decide), add_add, Nat.add_assoc]
    rwa [add_add] at this
theorem infoB1 : (Tryd.prog.info? 4).map (·.size) = some 1 := by kernel_rfl
structure Lf (w7 wr : World) (gl b8 : Nat) (vB v1 : Value) (l : List Ot) : Prop where
  bk : wr.heap[gl]? = some (.cells #[vB, v1, .slice none 0 0, .slice none 0 0] 24 (0, 0))
  r : kT.R 39 wr b8 (fun _ => True) v1 l
  bl : Below w7.heap.size w7 wr
  eq : gl = w7.heap.size
  lt : gl < b8
  le : b8 ≤ wr.heap.size
theorem Lf.next {w7 wr w6 w9 : World} {gl b8 : Nat} {vB v1 v2 : Value} {l l2 : List Ot} (h : Lf w7 wr gl b8 vB v1 l) (hR : kT.R 39 w6 b8 (fun _ => True) v2 l2) (hB : Below b8 wr w6) (hG : w9.heap[gl]? = some (.cells #[vB, v2, .slice none 0 0, .slice none 0 0] 24 (0, 0))) (hk : ∀ k, k ≠ gl → w9.heap[k]? = w6.heap[k]?) (hb : ∀ B w0, Below B w0 w6 → B ≤ gl → Below B w0 w9) (hs : w6.heap.size ≤ w9.heap.size) : Lf w7 w9 gl b8 vB v2 l2 := by
  have e := h.eq
  have lt := h.lt
  have h7 : Below w7.heap.size w7 w6 := h.bl.trans (hB.mono (by omega))
  refine ⟨hG, ?_, hb _ _ h7 (by omega), e, lt, Nat.le_trans h.le (Nat.le_trans hB.size hs)⟩
  exact Kd.R_mono (Kd.R_move (Kd.R_bound hR) (fun k hk2 => hk k (by have := hk2.2.1; omega))) (fun k hk2 => hk2.1)
theorem ds_start {w wb w3 w4 w5 : World} {gg m : Nat} {fc : Array Value} {v0 v1 v2 v3 v6 : Value} {ns ps : List Ob} {l : List Rq} (hA : wb.heap[w.heap.size]? = some (.cells fc 24 (0, 0))) (hS0 : kO.R 39 w3 wb.heap.size (fun k => k < m) v0 ns) (hT1 : kO.R 39 w3 m (fun _ => True) v1 ps) (hm1 : wb.heap.size ≤ m) (hm2 : m ≤ w3.heap.size)
    (hb3 : Below wb.heap.size wb w3) (hg : gg = w3.heap.size) (G4 : w4.heap[gg]? = some (.cells #[v0, v1, v2, v3] 24 (0, 0))) (hb4 : Below w3.heap.size w3 w4) (hb5 : Below w4.heap.size w4 w5) (hR6 : kRq.R 42 w5 w4.heap.size (fun _ => True) v6 l) :
    DS wb w5 w.heap.size gg wb.heap.size m w4.heap.size fc v0 v1 v2 v3 v6 ns ps l [] := by
  subst hg
  have h35 := belT hb4 hb5
  exact ⟨blkB (belT hb3 h35) hA, blkB hb5 G4, by rw [ndS_nil]; exact Kd.R_below hS0 h35, by rw [pdS_nil]; exact Kd.R_below (Kd.R_mono (Kd.R_bound hT1) (fun k hk => hk.2.2.1)) h35, hR6, belT hb3 h35, hb5.size, blkLt hA, hm1, hm2, blkLt G4⟩
theorem slice_form {w : World} {base n : Nat} {ok : Nat → Prop} {v : Value} {xs : List Ob} (h : kO.R 39 w base ok v xs) (hn : xs.length = n) : ∃ A c, v = .slice A n c := by
  obtain ⟨A, c, e⟩ := Kd.R_slice h
  exact ⟨A, c, by rw [e, hn]⟩
end Go.Proofs.YtiaggfjfgoiafaaDoor

/- Blocks that a closed call has laid, each with what it holds; lists of objects and of requests without lists within. -/
namespace Go.Proofs.YtiaggfjfgoiafaaDoor
open Go.RowKit Go.Proofs.YtiaggfjfgoiafaaDoorW.PrintWords Go.Proofs.YtiaggfjfgoiafaaDoorW.PrintLast
structure Mem (w0 w : World) (L : List (Nat × Array Value × TypeId)) : Prop where
  at_ : ∀ x ∈ L, w.heap[x.1]? = some (.cells x.2.1 x.2.2 (0, 0))
  nd : (L.map (·.1)).Nodup
  bel : Below w0.heap.size w0 w
  low : ∀ x ∈ L, w0.heap.size ≤ x.1
theorem Mem.nil (w : World) : Mem w w [] := ⟨fun _ h => (List.not_mem_nil h).elim, List.nodup_nil, Below.refl _ _, fun _ h => (List.not_mem_nil h).elim⟩
theorem Mem.below {w0 w w1 : World} {L : List (Nat × Array Value × TypeId)} (h : Mem w0 w L) (hb : Below w.heap.size w w1) : Mem w0 w1 L := ⟨fun x hx => blkB hb (h.at_ x hx), h.nd, belT h.bel hb, h.low⟩
theorem Mem.get {w0 w : World} {L : List (Nat × Array Value × TypeId)} (h : Mem w0 w L) (i : Nat) {g : Nat} {c : Array Value} {t : TypeId} (hi : L[i]? = some (g, c, t)) : w.heap[g]? = some (.cells c t (0, 0)) := h.at_ _ (List.mem_of_getElem? hi)
theorem Mem.new {w0 w w1 : World} {L : List (Nat × Array Value × TypeId)} {c : Array Value} {t : TypeId} (h : Mem w0 w L) (hb : Below w.heap.size w w1) (hn : w1.heap[w.heap.size]? = some (.cells c t (0, 0))) : Mem w0 w1 (L ++ [(w.heap.size, c, t)]) := by
  refine ⟨fun x hx => ?_, ?_, belT h.bel hb, fun x hx => ?_⟩
  · rcases List.mem_append.1 hx with hx | hx
    · exact blkB hb (h.at_ x hx)
    · rw [List.mem_singleton.1 hx]; exact hn
  · rw [List.map_append, List.nodup_append]
    refine ⟨h.nd, by simp, fun a ha b hb' e => ?_⟩
    obtain ⟨x, hx, rfl⟩ := List.mem_map.1 ha
    have := blkLt (h.at_ x hx)
    simp only [List.map_cons, List.map_nil, List.mem_singleton] at hb'
    omega
  · rcases List.mem_append.1 hx with hx | hx
    · exact h.low x hx
    · rw [List.mem_singleton.1 hx]; exact h.bel.size
theorem Mem.alloc {w0 w : World} {L : List (Nat × Array Value × TypeId)} (h : Mem w0 w L) (c : Array Value) (t : TypeId) : Mem w0 (w.alloc (.cells c t)) (L ++ [(w.heap.size, c, t)]) := h.new (below_alloc (Below.refl _ _) _) (heap_alloc_new w _)
theorem Mem.store {w0 w w1 : World} {L : List (Nat × Array Value × TypeId)} (h : Mem w0 w L) (i : Nat) {g : Nat} {c c' : Array Value} {t : TypeId} (hi : L[i]? = some (g, c, t)) (G : w1.heap[g]? = some (.cells c' t (0, 0))) (hk : ∀ k, k ≠ g → w1.heap[k]? = w.heap[k]?) (hb : ∀ B w2, Below B w2 w → B ≤ g → Below B w2 w1) : Mem w0 w1 (L.set i (g, c', t)) := by
  have hm : (L.set i (g, c', t)).map (·.1) = L.map (·.1) := by
    rw [List.map_set]
    apply List.ext_getElem?
    intro j
    rw [List.getElem?_set]
    by_cases e : i = j
    · subst e
      have hl := (List.getElem?_eq_some_iff.1 hi).1
      rw [if_pos rfl, if_pos (by simpa using hl), List.getElem?_map, hi]
      rfl
    · rw [if_neg e]
  refine ⟨fun x hx => ?_, by rw [hm]; exact h.nd, hb _ _ h.bel (h.low _ (List.mem_of_getElem? hi)), fun x hx => ?_⟩
  · obtain ⟨j, hj⟩ := List.mem_iff_getElem?.1 hx
    rw [List.getElem?_set] at hj
    by_cases e : i = j
    · rw [if_pos e] at hj
      split at hj
      · injection hj with hj
        rw [← hj]
        exact G
      · cases hj
    · rw [if_neg e] at hj
      have hne : x.1 ≠ g := fun eq => by
        have h1 : (L.map (·.1))[i]? = some g := by rw [List.getElem?_map, hi]; rfl
        have h2 : (L.map (·.1))[j]? = some g := by rw [List.getElem?_map, hj, ← eq]; rfl
        exact e ((List.getElem?_inj (List.getElem?_eq_some_iff.1 h1).1 h.nd).1 (h1.trans h2.symm))
      exact (hk _ hne).trans (h.at_ x (List.mem_of_getElem? hj))
  · obtain ⟨j, hj⟩ := List.mem_iff_getElem?.1 hx
    have h1 : (L.map (·.1))[j]? = some x.1 := by rw [← hm, List.getElem?_map, hj]; rfl
    rw [List.getElem?_map] at h1
    obtain ⟨y, hy, e⟩ := Option.map_eq_some_iff.1 h1
    rw [← e]
    exact h.low y (List.mem_of_getElem? hy)
theorem Mem.made {w0 w w1 : World} {L : List (Nat × Array Value × TypeId)} {z c : Array Value} {t : TypeId} (h : Mem w0 w L) (G : w1.heap[w.heap.size]? = some (.cells c t (0, 0))) (hb : ∀ B w2, Below B w2 (w.alloc (.cells z t)) → B ≤ w.heap.size → Below B w2 w1) : Mem w0 w1 (L ++ [(w.heap.size, c, t)]) :=
  h.new (hb _ _ (below_alloc (Below.refl _ _) _) (Nat.le_refl _)) G
def Ob.b0 (o : Ob) : Array Value := o.cells (.slice none 0 0) (.slice none 0 0)
theorem b0_size (o : Ob) : o.b0.size = 32 := rfl
theorem b0_one (o : Ob) : o.b0.all (·.oneCell') = true := Ob.cells_one o rfl rfl
theorem info_b0 (o : Ob) : (Tryd.prog.info? 39).map (·.size) = some o.b0.size := infoO1
def Rq.b0 (o : Rq) : Array Value := o.cells (.slice none 0 0) (.slice none 0 0)
theorem rb0_size (o : Rq) : o.b0.size = 42 := rfl
theorem flatB_at (m : Nat) : ∀ (css : List (Array Value)) (_ : ∀ cs ∈ css, cs.size = m) (j : Nat) (cs : Array Value) (_ : css[j]? = some cs) (i : Nat) (u : Value), cs[i]? = some u → (css.flatMap Array.toList)[j * m + i]? = some u
  | [], _, j, cs, h, _, _, _ => by simp at h
  | c :: css, hs, 0, cs, h, i, u, hu => by
    obtain rfl : c = cs := by simpa using h
    have hi : i < c.size := (Array.getElem?_eq_some_iff.1 hu).1
    rw [List.flatMap_cons, Nat.zero_mul, Nat.zero_add, List.getElem?_append_left (by simpa using hi)]
    simpa using hu
  | c :: css, hs, j + 1, cs, h, i, u, hu => by
    have hc : c.toList.length = m := by simpa using hs c (by simp)
    have := flatB_at m css (fun x hx => hs x (List.mem_cons_of_mem _ hx)) j cs (by simpa using h) i u hu
    rw [List.flatMap_cons, List.getElem?_append_right (by rw [hc, Nat.succ_mul]; omega), hc, show (j + 1) * m + i - m = j * m + i by rw [Nat.succ_mul]; omega]
    exact this
def flatO (l : List Ob) : Array Value := ((l.map Ob.b0).flatMap Array.toList).toArray
def flatR (l : List Rq) : Array Value := ((l.map Rq.b0).flatMap Array.toList).toArray
theorem C_flatO {w : World} {g n : Nat} {t : TypeId} {l : List Ob} (hg : w.heap[g]? = some (.cells (flatO l) t (0, 0))) (hn : l.length = n) (hl : n ≤ 1000000) (h0 : ∀ o ∈ l, o.labels = [] ∧ o.select = []) : kO.C w (some ⟨g, 0, none⟩) n l := by
  subst hn
  refine ⟨rfl, by omega, fun _ => ⟨_, rfl, fun j o hj => ⟨o.b0.toList, by rw [Array.length_toList, b0_size]; rfl, ?_, fun i u hu => ?_⟩⟩⟩
  · obtain ⟨e1, e2⟩ := h0 o (List.mem_of_getElem? hj)
    exact ⟨.slice none 0 0, .slice none 0 0, rfl, ⟨none, 0, by rw [e1]; rfl, by rw [e1]; exact Nat.le_refl _, by rw [e1]; exact Kd.C_nil _ _⟩, ⟨none, 0, by rw [e2]; rfl, by rw [e2]; exact Nat.le_refl _, by rw [e2]; exact Kd.C_nil _ _⟩⟩
  · rw [add_at, Nat.zero_add, cell_of_row w g _ _ t _ hg]
    have : ((l.map Ob.b0).flatMap Array.toList)[j * kO.sz + i]? = some u := flatB_at 32 (l.map Ob.b0) (fun cs hc => by obtain ⟨o', _, rfl⟩ := List.mem_map.1 hc; exact b0_size o') j o.b0 (by rw [List.getElem?_map, hj]; rfl) i u (by simpa using hu)
    simpa [flatO] using this
theorem C_flatR {w : World} {g n : Nat} {t : TypeId} {l : List Rq} (hg : w.heap[g]? = some (.cells (flatR l) t (0, 0))) (hn : l.length = n) (hl : n ≤ 1000000) (h0 : ∀ o ∈ l, o.ob.labels = [] ∧ o.ob.select = []) : kRq.C w (some ⟨g, 0, none⟩) n l := by
  subst hn
  refine ⟨rfl, by omega, fun _ => ⟨_, rfl, fun j o hj => ⟨o.b0.toList, by rw [Array.length_toList, rb0_size]; rfl, ?_, fun i u hu => ?_⟩⟩⟩
  · obtain ⟨e1, e2⟩ := h0 o (List.mem_of_getElem? hj)
    exact ⟨.slice none 0 0, .slice none 0 0, rfl, ⟨none, 0, by rw [e1]; rfl, by rw [e1]; exact Nat.le_refl _, by rw [e1]; exact Kd.C_nil _ _⟩, ⟨none, 0, by rw [e2]; rfl, by rw [e2]; exact Nat.le_refl _, by rw [e2]; exact Kd.C_nil _ _⟩⟩
  · rw [add_at, Nat.zero_add, cell_of_row w g _ _ t _ hg]
    have : ((l.map Rq.b0).flatMap Array.toList)[j * kRq.sz + i]? = some u := flatB_at 42 (l.map Rq.b0) (fun cs hc => by obtain ⟨o', _, rfl⟩ := List.mem_map.1 hc; exact rb0_size o') j o.b0 (by rw [List.getElem?_map, hj]; rfl) i u (by simpa using hu)
    simpa [flatR] using this
theorem sameReqs_n {A B : Option Addr} {l m : List Rq} {n c d : Nat} {w : World} (hr : kRq.C w A n l) (hs : kRq.C w B n m) (hn : n ≤ 1000000) :
    Calls Tryd.prog 7 #[.slice A n c, .slice B n d] w fun e w' => e = .returned (.bool (decide (l = m))) ∧ Below w.heap.size w w' := by
  have h1 := hr.1
  have h2 := hs.1
  have h := sameReqs_calls A B l m c d w (by rw [h1]; exact hr) (by rw [h2]; exact hs) (by rw [h1]; exact hn)
  rw [h1, h2] at h
  exact h
theorem S_form_n {w : World} {base n : Nat} {v : Value} {xs : List Rq} (h : Kd.S kRq 42 w base (fun _ => True) v xs) (hn : xs.length = n) : ∃ A c, v = .slice A n c ∧ kRq.C w A n xs := by
  obtain ⟨A, c, rfl⟩ := Kd.S_slice h
  have h3 := (Kd.S_reads' h).2.2
  rw [hn] at h3 ⊢
  exact ⟨A, c, rfl, h3⟩
end Go.Proofs.YtiaggfjfgoiafaaDoor

/- drain.Empty: are there pods on a node? -/
namespace Go.Proofs.YtiaggfjfgoiafaaDoor
open Go.RowKit Go.Proofs.YtiaggfjfgoiafaaDoorW.PrintWords Go.Proofs.YtiaggfjfgoiafaaDoorW.PrintLast
def emptyB (ps : List Ob) (s : ByteArray) : Bool := ((vOn ps s).length : Int) == 0
theorem onF_len (s : ByteArray) (qs : List Ot) : (onF s qs).length = (vOn (qs.map (·.1)) s).length := by rw [← onF_map, List.length_map]
theorem emptyD_calls (v0 v2 v3 : Value) (A : Option Addr) (c n : Nat) (s : ByteArray) (ps : List Ob) (w : World) (h0 : v0.oneCell' = true) (h2 : v2.oneCell' = true) (h3 : v3.oneCell' = true) (hr : kO.C w A n ps) (hl : n ≤ 1000000) :
    Calls Tryd.prog 18 #[.agg #[v0, .slice A n c, v2, v3], .string s] w fun e w' => e = .returned (.bool (emptyB ps s)) ∧ Below w.heap.size w w' := by
  obtain ⟨qs, hqs, hP, _⟩ := T_of_kO hr
  have HB0 := Lib.hid (below_alloc (Below.refl w.heap.size w) (Obj.cells #[v0, .slice A n c, v2, v3] 24))
  have HF0 : Hid ((w.alloc (Obj.cells #[v0, .slice A n c, v2, v3] 24)).heap[w.heap.size]? = some (.cells #[v0, .slice A n c, v2, v3] 24 (0, 0))) := Lib.hid (heap_alloc_new w _)
  have Q := Lib.hid (fun W (hW : Below w.heap.size w W) => on_calls v0 v2 v3 A c n s qs W h0 h2 h3 (Kd.C_below hP hW) hl)
  have HE : Hid (emptyB ps s = (((onF s qs).length : Int) == 0)) := Lib.hid (by rw [onF_len, hqs]; rfl)
  rw [HE.out]
  clear hqs hP h0 h2 h3 hr HE
  obtain ⟨k, hk⟩ : ∃ k, k = (onF s qs).length := ⟨_, rfl⟩
  rw [← hk]
  have HK := Lib.hid hk
  clear hk
  go_enter Tryd.func18, Tryd.ntmps18
  go_wp2_with (first
    | ((with_reducible refine wpList_load_blk rfl 24 (.tmp 2) rfl w.heap.size 24 ?f1 #[v0, .slice A n c, v2, v3] _ ?f2 Tryd.underlying24 ?f3 ?f4 ?_); (case f1 => rfl); (case f2 => exact HF0.out); (case f3 => rfl); (case f4 => exact infoF1))
    | (go_at_call 33; (with_reducible refine (Q.out _ HB0.out).mono ?_); rintro e w1 ⟨v, rfl, hR, hb⟩; obtain ⟨A5, c5, hv⟩ := Kd.R_slice hR; rw [← HK.out] at hv; subst hv; have HB := Lib.hid (belT HB0.out hb); clear hR hb))
  go_ret
  exact ⟨rfl, HB.out⟩
end Go.Proofs.YtiaggfjfgoiafaaDoor

/- Chapter 27: a pod on a node; what each statement asks first. -/
namespace Go.Proofs.YtiaggfjfgoiafaaDoor
open Go.RowKit Go.Proofs.YtiaggfjfgoiafaaDoorW.PrintWords Go.Proofs.YtiaggfjfgoiafaaDoorW.PrintLast
def podO (a b : ByteArray) : Ob := { Ob.zero with kind := 1, name := a, node := b, phase := 1 }
theorem flatO_one (o : Ob) : flatO [o] = o.b0 := by simp [flatO]
theorem flatR_one (o : Rq) : flatR [o] = o.b0 := by simp [flatR]
abbrev qA : ByteArray := ⟨#[97]⟩
abbrev qN1 : ByteArray := ⟨#[110, 49]⟩
abbrev qN2 : ByteArray := ⟨#[110, 50]⟩
def kN1 : Ob := { Ob.zero with name := qN1, cordoned := true, draining := true }
theorem pod_built (a b : ByteArray) : Tryd.prog.built 39 [(0, .int .i64 1), (1, .string a), (12, .string b), (13, .int .i64 1)] = some (podO a b).b0 := by kernel_rfl
theorem wplan : planF [kN1] [podO qA qN1] = [evict (podO qA qN1)] := by kernel_rfl
theorem wemp1 : emptyB [podO qA qN1] qN1 = false := by kernel_rfl
theorem wemp2 : emptyB [podO qA qN1] qN2 = true := by kernel_rfl
theorem podFits (a b : ByteArray) (h : a.size ≤ 100) : ObFits (podO a b) := ⟨by show a.size ≤ _; omega, Nat.zero_le _, Nat.zero_le _⟩
theorem infoF5 : (Tryd.prog.info? 24).map (·.size) = some 4 := by kernel_rfl
attribute [local irreducible] Ob.b0 Rq.b0 flatO flatR
set_option maxHeartbeats 1000000 in
set_option maxRecDepth 100000 in
theorem pod_calls (a b : ByteArray) (w : World) : Calls Tryd.prog 26 #[.string a, .string b] w fun e w' => e = .returned (.agg (podO a b).b0) ∧ Below w.heap.size w w' := by
  have HBU := Lib.hid (pod_built a b)
  go_enter Tryd.func26, Tryd.ntmps26
  go_wp2_with (first
    | ((with_reducible refine gate_ (.build 39 #[(0, .const (.int .i64 1)), (1, .tmp 5), (12, .tmp 6), (13, .const (.int .i64 1))]) rfl ?_); refine wpList_builtL rfl 39 [(0, .const (.int .i64 1)), (1, .tmp 5), (12, .tmp 6), (13, .const (.int .i64 1))] rfl (some 7) rfl [(0, .int .i64 1), (1, .string a), (12, .string b), (13, .int .i64 1)] rfl (podO a b).b0 HBU.out ?_)
    | ((with_reducible refine wpList_store_blk rfl 39 (.tmp 4) (.tmp 7) rfl w.heap.size 39 ?c0 (podO a b).b0 ?c1 ?c2 ?c3 ?c4 ?c5 ?c6 ?_); (case c1 => rfl); (case c2 => rfl); (case c3 => exact heap_alloc_new _ _); (case c4 => exact info_b0 _); (case c5 => exact Eq.trans (b := 32) rfl (b0_size _).symm); (case c6 => exact b0_one _); intro w1 G hk hb hz))
  refine bodyPost_ret (v := .agg (podO a b).b0) (results_cell_row (p := 4) (ty := 39) rfl _ _ w.heap.size 39 (podO a b).b0 (0, 0) _ (by rfl) G Tryd.underlying39 rfl (info_b0 _)) rfl ?_
  exact ⟨rfl, hb _ _ (below_alloc (Below.refl _ _) _) (Nat.le_refl _)⟩
set_option maxHeartbeats 4000000 in
set_option maxRecDepth 100000 in
theorem works27_calls (w : World) : Calls Tryd.prog 11 #[] w fun e w' => e = .returned (.bool true) ∧ Below w.heap.size w w' := by
  have M0 := Lib.hid (Mem.nil w)
  have HF1 : Hid (∀ o ∈ [kN1], ObFits o) := Lib.hid (fun o ho => by rw [List.mem_singleton.1 ho]; exact ⟨by decide, by decide, by decide⟩)
  have HF2 : Hid (∀ o ∈ [podO qA qN1], ObFits o) := Lib.hid (fun o ho => by rw [List.mem_singleton.1 ho]; exact podFits _ _ (by decide))
  go_enter Tryd.func11, Tryd.ntmps11
  go_wp2_with (first
    | ((with_reducible refine wpList_pure (op := ⟨some 2, _, _, _, _, _⟩) rfl (.agg kN1.b0) ?ry1 ?_); (case ry1 => first | kernel_rfl | (go_simp; rfl)))
    | ((with_reducible refine wpList_build1 (op := ⟨some 3, _, _, _, _, _⟩) rfl 22 39 _ rfl (kN1.b0) ?b0y2 ((.agg (Ob.zero.cells (.slice none 0 0) (.slice none 0 0)))) 32 312 Tryd.underlying22 ?b1y2 ?b2y2 (by omega) (by omega) ?b3y2 ?_); (case b0y2 => rfl); (case b1y2 => exact infoO); (case b2y2 => exact b0_size _); (case b3y2 => rfl); obtain ⟨gy2, hgy2⟩ : ∃ g, g = w.heap.size := ⟨_, rfl⟩; rw [← hgy2]; obtain ⟨X1, hX1⟩ : ∃ x, x = w.alloc (.cells (kN1.b0) 39) := ⟨_, rfl⟩; rw [← hX1]; have M1 : Hid (Mem w X1 [(gy2, flatO [kN1], 39)]) := Lib.hid (by rw [hX1, hgy2]; rw [flatO_one kN1]; exact M0.out.alloc _ _); clear M0; clear hX1 hgy2)
    | (go_at_call 26; (with_reducible refine (pod_calls qA qN1 X1).mono ?_); rintro e X2 ⟨rfl, hb⟩; have M2 : Hid (Mem w X2 [(gy2, flatO [kN1], 39)]) := Lib.hid (M1.out.below hb); clear M1; clear hb)
    | ((with_reducible refine wpList_build1 (op := ⟨some 5, _, _, _, _, _⟩) rfl 22 39 _ rfl ((podO qA qN1).b0) ?b0y3 ((.agg (Ob.zero.cells (.slice none 0 0) (.slice none 0 0)))) 32 312 Tryd.underlying22 ?b1y3 ?b2y3 (by omega) (by omega) ?b3y3 ?_); (case b0y3 => rfl); (case b1y3 => exact infoO); (case b2y3 => exact b0_size _); (case b3y3 => rfl); obtain ⟨gy3, hgy3⟩ : ∃ g, g = X2.heap.size := ⟨_, rfl⟩; rw [← hgy3]; obtain ⟨X3, hX3⟩ : ∃ x, x = X2.alloc (.cells ((podO qA qN1).b0) 39) := ⟨_, rfl⟩; rw [← hX3]; have M3 : Hid (Mem w X3 [(gy2, flatO [kN1], 39), (gy3, flatO [podO qA qN1], 39)]) := Lib.hid (by rw [hX3, hgy3]; rw [flatO_one (podO qA qN1)]; exact M2.out.alloc _ _); clear M2; clear hX3 hgy3)
    | ((with_reducible refine wpList_pure (op := ⟨some 6, _, _, _, _, _⟩) rfl (.agg #[.slice (some ⟨gy2, 0, none⟩) 1 1, .slice (some ⟨gy3, 0, none⟩) 1 1, .slice none 0 0, .slice none 0 0]) ?ry4 ?_); (case ry4 => first | kernel_rfl | (go_simp; rfl)))
    | ((with_reducible refine wpList_store_blk rfl 24 (.tmp 1) (.tmp 6) rfl X3.heap.size 24 ?c0y5 (#[.slice (some ⟨gy2, 0, none⟩) 1 1, .slice (some ⟨gy3, 0, none⟩) 1 1, .slice none 0 0, .slice none 0 0]) ?c1y5 ?c2y5 ?c3y5 ?c4y5 ?c5y5 ?c6y5 ?_); (case c1y5 => rfl); (case c2y5 => rfl); (case c3y5 => exact heap_alloc_new _ _); (case c4y5 => exact infoF5); (case c5y5 => exact rfl); (case c6y5 => exact by simp [Value.oneCell']); intro X4 G hk hb hz; obtain ⟨gy5, hgy5⟩ : ∃ g, g = X3.heap.size := ⟨_, rfl⟩; rw [← hgy5]; have M4 : Hid (Mem w X4 [(gy2, flatO [kN1], 39), (gy3, flatO [podO qA qN1], 39), (gy5, #[.slice (some ⟨gy2, 0, none⟩) 1 1, .slice (some ⟨gy3, 0, none⟩) 1 1, .slice none 0 0, .slice none 0 0], 24)]) := Lib.hid (by rw [hgy5]; exact M3.out.made G hb); clear M3; clear G hk hb hz hgy5)
    | ((with_reducible refine wpList_load_blk_w (op := ⟨some 7, _, _, _, _, _⟩) 24 (.tmp 1) rfl gy5 24 ?l0y6 ?l1y6 (#[.slice (some ⟨gy2, 0, none⟩) 1 1, .slice (some ⟨gy3, 0, none⟩) 1 1, .slice none 0 0, .slice none 0 0]) _ ?l2y6 Tryd.underlying24 ?l3y6 ?l4y6 ?_); (case l0y6 => rfl); (case l1y6 => rfl); (case l2y6 => exact M4.out.get 2 rfl); (case l3y6 => rfl); (case l4y6 => exact infoF5))
    | (go_at_call 15; (with_reducible refine ((plan_calls (some ⟨gy2, 0, none⟩) (some ⟨gy3, 0, none⟩) 1 1 1 1 _ _ [kN1] [podO qA qN1] X4 rfl rfl (C_flatO (M4.out.get 0 rfl) rfl (by decide) (by simp [kN1, Ob.zero])) (C_flatO (M4.out.get 1 rfl) rfl (by decide) (by simp [podO, Ob.zero])) (by decide) (by decide) HF1.out HF2.out)).mono ?_); rintro e X5 ⟨v8, rfl, hS8, hb⟩; rw [wplan] at hS8; obtain ⟨A8, c8, rfl, hC8⟩ := S_form_n (n := 1) hS8 rfl; have HS8 := Lib.hid hC8; clear hS8 hC8; have M5 : Hid (Mem w X5 [(gy2, flatO [kN1], 39), (gy3, flatO [podO qA qN1], 39), (gy5, #[.slice (some ⟨gy2, 0, none⟩) 1 1, .slice (some ⟨gy3, 0, none⟩) 1 1, .slice none 0 0, .slice none 0 0], 24)]) := Lib.hid (M4.out.below hb); clear M4; clear hb)
    | ((with_reducible refine wpList_pure (op := ⟨some 9, _, _, _, _, _⟩) rfl (.agg (evict (podO qA qN1)).b0) ?ry7 ?_); (case ry7 => first | kernel_rfl | (go_simp; rfl)))
    | ((with_reducible refine wpList_build1 (op := ⟨some 10, _, _, _, _, _⟩) rfl 28 42 _ rfl ((evict (podO qA qN1)).b0) ?b0y8 ((.agg (Rq.zero.cells (.slice none 0 0) (.slice none 0 0)))) 42 416 Tryd.underlying28 ?b1y8 ?b2y8 (by omega) (by omega) ?b3y8 ?_); (case b0y8 => rfl); (case b1y8 => exact infoRq); (case b2y8 => exact rb0_size _); (case b3y8 => rfl); obtain ⟨gy8, hgy8⟩ : ∃ g, g = X5.heap.size := ⟨_, rfl⟩; rw [← hgy8]; obtain ⟨X6, hX6⟩ : ∃ x, x = X5.alloc (.cells ((evict (podO qA qN1)).b0) 42) := ⟨_, rfl⟩; rw [← hX6]; have M6 : Hid (Mem w X6 [(gy2, flatO [kN1], 39), (gy3, flatO [podO qA qN1], 39), (gy5, #[.slice (some ⟨gy2, 0, none⟩) 1 1, .slice (some ⟨gy3, 0, none⟩) 1 1, .slice none 0 0, .slice none 0 0], 24), (gy8, flatR [evict (podO qA qN1)], 42)]) := Lib.hid (by rw [hX6, hgy8]; rw [flatR_one (evict (podO qA qN1))]; exact M5.out.alloc _ _); clear M5; replace HS8 := Lib.hid (Kd.C_below HS8.out (show Below X5.heap.size X5 X6 by rw [hX6]; exact below_alloc (Below.refl _ _) _)); clear hX6 hgy8)
    | (go_at_call 7; (with_reducible refine ((sameReqs_n (A := A8) (B := some ⟨gy8, 0, none⟩) (l := [evict (podO qA qN1)]) (m := [evict (podO qA qN1)]) (n := 1) (c := c8) (d := 1) (w := X6) HS8.out (C_flatR (M6.out.get 3 rfl) rfl (by decide) (by simp [evict, Rq.zero, Ob.zero])) (by decide))).mono ?_); rintro e X7 ⟨he, hb⟩; rw [decide_eq_true rfl] at he; subst he; have M7 : Hid (Mem w X7 [(gy2, flatO [kN1], 39), (gy3, flatO [podO qA qN1], 39), (gy5, #[.slice (some ⟨gy2, 0, none⟩) 1 1, .slice (some ⟨gy3, 0, none⟩) 1 1, .slice none 0 0, .slice none 0 0], 24), (gy8, flatR [evict (podO qA qN1)], 42)]) := Lib.hid (M6.out.below hb); clear M6; clear hb)
    | ((with_reducible refine wpList_load_blk_w (op := ⟨some 13, _, _, _, _, _⟩) 24 (.tmp 1) rfl gy5 24 ?l0y9 ?l1y9 (#[.slice (some ⟨gy2, 0, none⟩) 1 1, .slice (some ⟨gy3, 0, none⟩) 1 1, .slice none 0 0, .slice none 0 0]) _ ?l2y9 Tryd.underlying24 ?l3y9 ?l4y9 ?_); (case l0y9 => rfl); (case l1y9 => rfl); (case l2y9 => exact M7.out.get 2 rfl); (case l3y9 => rfl); (case l4y9 => exact infoF5))
    | (go_at_call 18; (with_reducible refine ((emptyD_calls _ _ _ (some ⟨gy3, 0, none⟩) 1 1 qN1 [podO qA qN1] X7 rfl rfl rfl (C_flatO (M7.out.get 1 rfl) rfl (by decide) (by simp [podO, Ob.zero])) (by decide))).mono ?_); rintro e X8 ⟨he, hb⟩; rw [wemp1] at he; subst he; have M8 : Hid (Mem w X8 [(gy2, flatO [kN1], 39), (gy3, flatO [podO qA qN1], 39), (gy5, #[.slice (some ⟨gy2, 0, none⟩) 1 1, .slice (some ⟨gy3, 0, none⟩) 1 1, .slice none 0 0, .slice none 0 0], 24), (gy8, flatR [evict (podO qA qN1)], 42)]) := Lib.hid (M7.out.below hb); clear M7; clear hb)
    | ((with_reducible refine wpList_load_blk_w (op := ⟨some 18, _, _, _, _, _⟩) 24 (.tmp 1) rfl gy5 24 ?l0y10 ?l1y10 (#[.slice (some ⟨gy2, 0, none⟩) 1 1, .slice (some ⟨gy3, 0, none⟩) 1 1, .slice none 0 0, .slice none 0 0]) _ ?l2y10 Tryd.underlying24 ?l3y10 ?l4y10 ?_); (case l0y10 => rfl); (case l1y10 => rfl); (case l2y10 => exact M8.out.get 2 rfl); (case l3y10 => rfl); (case l4y10 => exact infoF5))
    | (go_at_call 18; (with_reducible refine ((emptyD_calls _ _ _ (some ⟨gy3, 0, none⟩) 1 1 qN2 [podO qA qN1] X8 rfl rfl rfl (C_flatO (M8.out.get 1 rfl) rfl (by decide) (by simp [podO, Ob.zero])) (by decide))).mono ?_); rintro e X9 ⟨he, hb⟩; rw [wemp2] at he; subst he; have M9 : Hid (Mem w X9 [(gy2, flatO [kN1], 39), (gy3, flatO [podO qA qN1], 39), (gy5, #[.slice (some ⟨gy2, 0, none⟩) 1 1, .slice (some ⟨gy3, 0, none⟩) 1 1, .slice none 0 0, .slice none 0 0], 24), (gy8, flatR [evict (podO qA qN1)], 42)]) := Lib.hid (M8.out.below hb); clear M8; clear hb))
  go_ret
  exact ⟨rfl, M9.out.bel⟩
end Go.Proofs.YtiaggfjfgoiafaaDoor

/- flotillalaw27.wide: where it answers false, there are no more nodes and pods than the statement speaks of. -/
namespace Go.Proofs.YtiaggfjfgoiafaaDoor
open Go.RowKit Go.Proofs.YtiaggfjfgoiafaaDoorW.PrintWords Go.Proofs.YtiaggfjfgoiafaaDoorW.PrintLast
def WideP (n0 n1 : Nat) (w : World) (e : Ending) (w' : World) : Prop := ∃ b : Bool, e = .returned (.bool b) ∧ (b = false → n0 ≤ 100 ∧ n1 ≤ 200) ∧ Below w.heap.size w w'
set_option maxHeartbeats 2000000 in
set_option maxRecDepth 100000 in
theorem wide_calls (v2 v3 : Value) (A0 A1 : Option Addr) (c0 c1 n0 n1 : Nat) (l0 l1 : List Ob) (w : World) (h0 : kO.C w A0 n0 l0) (h1 : kO.C w A1 n1 l1) :
    Calls Tryd.prog 12 #[.agg #[.slice A0 n0 c0, .slice A1 n1 c1, v2, v3]] w (WideP n0 n1 w) := by
  obtain ⟨W0, hW0⟩ : ∃ x, x = w.alloc (Obj.cells #[.slice A0 n0 c0, .slice A1 n1 c1, v2, v3] 24) := ⟨_, rfl⟩
  have hn0 : W0.heap[w.heap.size]? = some (.cells #[.slice A0 n0 c0, .slice A1 n1 c1, v2, v3] 24 (0, 0)) := by rw [hW0]; exact heap_alloc_new w _
  have q0 : W0.cell? ⟨w.heap.size, 0, none⟩ = some (.slice A0 n0 c0) := cell_of_row _ _ 0 _ _ _ hn0
  have q1 : W0.cell? ⟨w.heap.size, 1, none⟩ = some (.slice A1 n1 c1) := cell_of_row _ _ 1 _ _ _ hn0
  have HB0 : Hid (Below w.heap.size w W0) := Lib.hid (by rw [hW0]; exact below_alloc (Below.refl w.heap.size w) _)
  have H0 := Lib.hid (And.intro (Kd.C_below h0 HB0.out) (Kd.C_below h1 HB0.out))
  clear h0 h1 hn0
  replace hW0 := Lib.hid hW0
  by_cases ha : 100 < n0
  · have g0 : ((100 : Int) < (n0 : Int)) := by omega
    go_enter Tryd.func12, Tryd.ntmps12
    go_wp2_with (first
      | ((with_reducible refine gate_ (.load 22 (.tmp 5)) rfl ?_); rw [← hW0.out]; clear hW0; (with_reducible refine wpList_load1_w 22 (.tmp 5) rfl ⟨w.heap.size, 0, none⟩ ?la ?lb (.slice A0 n0 c0) _ ?lc Tryd.underlying22 rfl ?_); (case la => rfl); (case lb => rfl); (case lc => exact q0)))
    go_ret
    exact ⟨true, rfl, (fun h => by cases h), HB0.out⟩
  · by_cases hb : 200 < n1
    · have g0 : ¬ ((100 : Int) < (n0 : Int)) := by omega
      have g1 : ((200 : Int) < (n1 : Int)) := by omega
      go_enter Tryd.func12, Tryd.ntmps12
      go_wp2_with (first
        | ((with_reducible refine gate_ (.load 22 (.tmp 5)) rfl ?_); rw [← hW0.out]; clear hW0; (with_reducible refine wpList_load1_w 22 (.tmp 5) rfl ⟨w.heap.size, 0, none⟩ ?la ?lb (.slice A0 n0 c0) _ ?lc Tryd.underlying22 rfl ?_); (case la => rfl); (case lb => rfl); (case lc => exact q0)))
      go_ret
      exact ⟨true, rfl, (fun h => by cases h), HB0.out⟩
    · have g0 : ¬ ((100 : Int) < (n0 : Int)) := by omega
      have g1 : ¬ ((200 : Int) < (n1 : Int)) := by omega
      have HN : Hid (n0 ≤ 100 ∧ n1 ≤ 200) := Lib.hid ⟨by omega, by omega⟩
      go_enter Tryd.func12, Tryd.ntmps12
      go_wp2_with (first
        | ((with_reducible refine gate_ (.load 22 (.tmp 5)) rfl ?_); rw [← hW0.out]; clear hW0; (with_reducible refine wpList_load1_w 22 (.tmp 5) rfl ⟨w.heap.size, 0, none⟩ ?la ?lb (.slice A0 n0 c0) _ ?lc Tryd.underlying22 rfl ?_); (case la => rfl); (case lb => rfl); (case lc => exact q0)))
      go_loop [3] (fun v3 => ∃ k : Nat, k ≤ n0 ∧ v3 = .int .i64 k) (fun v3 => n0 - (intOf v3).toNat)
      case atStart => exact ⟨0, Nat.zero_le _, rfl⟩
      case round =>
        obtain ⟨k, hk, rfl⟩ := hrel
        by_cases hkn : k < n0
        · obtain ⟨o, ho⟩ : ∃ o, l0[k]? = some o := ⟨_, List.getElem?_eq_getElem (by have := H0.out.1.1; omega)⟩
          obtain ⟨ad, v4, v27, hA, hO⟩ := objAt H0.out.1 k o ho
          subst hA
          have d1 := hO.field 1 (by decide) (u := .string o.name) rfl
          have hlk : (k : Int) < (n0 : Int) := by omega
          obtain ⟨nm, hnm⟩ : ∃ s, s = o.name := ⟨_, rfl⟩
          rw [← hnm] at d1
          clear hO ho hnm
          by_cases hs : 1000 < nm.size
          · have g3 : ((1000 : Int) < (nm.size : Int)) := by omega
            go_wp2
            go_ret
            exact ⟨true, rfl, (fun h => by cases h), HB0.out⟩
          · have g3 : ¬ ((1000 : Int) < (nm.size : Int)) := by omega
            go_wp2
            go_round
            case rel => exact ⟨k + 1, by omega, by go_num⟩
            case measure => simp [intOf]; omega
        · obtain rfl : k = n0 := by omega
          go_wp2
          go_loop [4] (fun v4 => ∃ k : Nat, k ≤ n1 ∧ v4 = .int .i64 k) (fun v4 => n1 - (intOf v4).toNat)
          case atStart => exact ⟨0, Nat.zero_le _, rfl⟩
          case round =>
            obtain ⟨j, hj, rfl⟩ := hrel
            by_cases hjn : j < n1
            · obtain ⟨o, ho⟩ : ∃ o, l1[j]? = some o := ⟨_, List.getElem?_eq_getElem (by have := H0.out.2.1; omega)⟩
              obtain ⟨ad, v4, v27, hA, hO⟩ := objAt H0.out.2 j o ho
              subst hA
              have d1 := hO.field 1 (by decide) (u := .string o.name) rfl
              have hlk : (j : Int) < (n1 : Int) := by omega
              obtain ⟨nm, hnm⟩ : ∃ s, s = o.name := ⟨_, rfl⟩
              rw [← hnm] at d1
              clear hO ho hnm
              by_cases hs : 1000 < nm.size
              · have g3 : ((1000 : Int) < (nm.size : Int)) := by omega
                go_wp2
                go_ret
                exact ⟨true, rfl, (fun h => by cases h), HB0.out⟩
              · have g3 : ¬ ((1000 : Int) < (nm.size : Int)) := by omega
                go_wp2
                go_round
                case rel => exact ⟨j + 1, by omega, by go_num⟩
                case measure => simp [intOf]; omega
            · obtain rfl : j = n1 := by omega
              go_wp2
              go_ret
              exact ⟨false, rfl, fun _ => HN.out, HB0.out⟩
end Go.Proofs.YtiaggfjfgoiafaaDoor

/- DrainSettles walked. -/
namespace Go.Proofs.YtiaggfjfgoiafaaDoor
open Go.RowKit Go.Proofs.YtiaggfjfgoiafaaDoorW.PrintWords Go.Proofs.YtiaggfjfgoiafaaDoorW.PrintLast
def rg4_8_T : Bool × List (List Nat × List Nat) := (true, [([], []), ([0], [0]), ([], []), ([2], [2]), ([], []), ([3, 4], [3, 4]), ([5], [5]), ([6], [6]), ([1, 7], [1, 7]), ([], []), ([8, 9], [8, 9])])
def rg4_8_B : List Nat := [0, 1, 0, 4, 0, 28, 60, 124, 255, 0, 1023]
theorem rg4_8_tab : rtab .any (opsOf Tryd.f4 8) = rg4_8_T := by kernel_rfl
theorem rg4_8_bits : waitsOk rg4_8_T.2 rg4_8_B = true := by kernel_rfl
def rg4_13_T : Bool × List (List Nat × List Nat) := (true, [([], []), ([0], [0]), ([], []), ([2], [2]), ([], []), ([3, 4], [3, 4]), ([5], [5]), ([6], [6]), ([1, 7], [1, 7]), ([], []), ([8, 9], [8, 9])])
def rg4_13_B : List Nat := [0, 1, 0, 4, 0, 28, 60, 124, 255, 0, 1023]
theorem rg4_13_tab : rtab .any (opsOf Tryd.f4 13) = rg4_13_T := by kernel_rfl
theorem rg4_13_bits : waitsOk rg4_13_T.2 rg4_13_B = true := by kernel_rfl
def rg4_21_T : Bool × List (List Nat × List Nat) := (true, [([], []), ([0], [0]), ([], []), ([], []), ([2, 3], [2, 3]), ([4], [4]), ([5], [5]), ([6], [6]), ([1, 7], [1, 7]), ([8, 8, 0, 1, 2, 3, 4, 5, 6, 7, 8], [8])])
def rg4_21_B : List Nat := [0, 1, 0, 0, 12, 28, 60, 124, 255, 511]
theorem rg4_21_tab : rtab .any (opsOf Tryd.f4 21) = rg4_21_T := by kernel_rfl
theorem rg4_21_bits : waitsOk rg4_21_T.2 rg4_21_B = true := by kernel_rfl
def rg4_22_T : Bool × List (List Nat × List Nat) := (true, [([], []), ([0], [0]), ([1], [1]), ([2], [2]), ([3, 2], [2, 3]), ([2], [2]), ([4, 5, 2], [2, 4, 5]), ([6, 2], [2, 6]), ([7, 2], [2, 7]), ([2, 8], [2, 8]), ([9, 2], [9]), ([10], [10]), ([11, 10], [10, 11]), ([10], [10]), ([12, 13, 10], [10, 12, 13]), ([14, 10], [10, 14]), ([15, 10], [10, 15]), ([16, 10], [10, 16]), ([10, 17], [10, 17]), ([18, 10], [18]), ([19], [19]), ([19], [19]), ([20, 21, 19], [19, 20, 21]), ([22, 19], [19, 22]), ([23, 19], [19, 23]), ([19], [19]), ([25, 19], [19, 25]), ([19], [19]), ([26, 27, 19], [19, 26, 27]), ([28, 19], [19, 28]), ([29, 19], [19, 29]), ([24, 30, 19], [19, 24, 30]), ([19, 31], [19, 31])])
def rg4_22_B : List Nat := [0, 1, 3, 7, 15, 7, 63, 127, 255, 511, 1023, 2047, 4095, 2047, 16383, 32767, 65535, 131071, 262143, 524287, 1048575, 1048575, 4194303, 8388607, 16777215, 1048575, 34603007, 1048575, 235929599, 504365055, 1041235967, 2147483647, 4294967295]
theorem rg4_22_tab : rtab .any (opsOf Tryd.f4 22) = rg4_22_T := by kernel_rfl
theorem rg4_22_bits : waitsOk rg4_22_T.2 rg4_22_B = true := by kernel_rfl
def rg4_25_T : Bool × List (List Nat × List Nat) := (true, [([], []), ([0], [0]), ([], []), ([1, 2], [1, 2]), ([3], [3]), ([], []), ([], []), ([5, 6], [5, 6]), ([7], [7]), ([8], [8]), ([4, 9], [4, 9]), ([10], [10])])
def rg4_25_B : List Nat := [0, 1, 0, 7, 15, 0, 0, 96, 224, 480, 1023, 2047]
theorem rg4_25_tab : rtab .any (opsOf Tryd.f4 25) = rg4_25_T := by kernel_rfl
theorem rg4_25_bits : waitsOk rg4_25_T.2 rg4_25_B = true := by kernel_rfl
def rg4_27_T : Bool × List (List Nat × List Nat) := (true, [([], []), ([0], [0]), ([], []), ([], []), ([2, 3], [2, 3]), ([4], [4]), ([5], [5]), ([1, 6], [1, 6]), ([7, 7, 0, 1, 2, 3, 4, 5, 6, 7], [7])])
def rg4_27_B : List Nat := [0, 1, 0, 0, 12, 28, 60, 127, 255]
theorem rg4_27_tab : rtab .any (opsOf Tryd.f4 27) = rg4_27_T := by kernel_rfl
theorem rg4_27_bits : waitsOk rg4_27_T.2 rg4_27_B = true := by kernel_rfl
def rg4_28_T : Bool × List (List Nat × List Nat) := (true, [([], []), ([], []), ([0, 1], [0, 1]), ([2], [2]), ([3], [3]), ([4], [4]), ([5], [5]), ([6], [6]), ([7, 6], [6, 7]), ([6, 8], [6, 8]), ([9, 6], [9]), ([10], [10]), ([11, 10], [10, 11]), ([10], [10]), ([12, 13, 10], [10, 12, 13]), ([14, 10], [10, 14]), ([15, 10], [10, 15]), ([10, 16], [10, 16]), ([17, 10], [17]), ([18], [18]), ([18], [18]), ([20, 18], [18, 20]), ([18], [18]), ([21, 22, 18], [18, 21, 22]), ([23, 18], [18, 23]), ([24, 18], [18, 24]), ([19, 25, 18, 18], [18, 19, 25]), ([26, 18], [18, 26]), ([18, 27], [18, 27])])
def rg4_28_B : List Nat := [0, 0, 3, 7, 15, 31, 63, 127, 255, 511, 1023, 2047, 4095, 2047, 16383, 32767, 65535, 131071, 262143, 524287, 524287, 1572863, 524287, 7864319, 16252927, 33030143, 67108863, 134217727, 268435455]
theorem rg4_28_tab : rtab .any (opsOf Tryd.f4 28) = rg4_28_T := by kernel_rfl
theorem rg4_28_bits : waitsOk rg4_28_T.2 rg4_28_B = true := by kernel_rfl
def rg4_39_T : Bool × List (List Nat × List Nat) := (true, [([], []), ([0], [0]), ([], []), ([2], [2]), ([], []), ([3, 4], [3, 4]), ([5], [5]), ([6], [6]), ([1, 7], [1, 7]), ([0, 1, 2, 3, 4, 5, 6, 7, 8], []), ([9, 8, 8, 0, 1, 2, 3, 4, 5, 6, 7, 8], [8, 9])])
def rg4_39_B : List Nat := [0, 1, 0, 4, 0, 28, 60, 124, 255, 511, 1023]
theorem rg4_39_tab : rtab .any (opsOf Tryd.f4 39) = rg4_39_T := by kernel_rfl
theorem rg4_39_bits : waitsOk rg4_39_T.2 rg4_39_B = true := by kernel_rfl
set_option maxHeartbeats 32000000 in
set_option maxRecDepth 100000 in
theorem drainSettles_calls (f : F4) (w : World) (h : F4.At kO w f) (hok : F4.Ok f) :
    Calls Tryd.prog 4 #[.agg f.v] w fun e w' => e = .returned (.bool true) ∧ Below w.heap.size w w' := by
  have hcf := fun W (hW : Below w.heap.size w W) => copyFleet_calls f W (h.below hW) hok
  obtain ⟨A0, A1, A2, A3, n0, n1, n2, n3, c0, c1, c2, c3, ns, ps, l2, l3⟩ := f
  have QCF : Hid (∀ W, Below w.heap.size w W → Calls Tryd.prog 14 #[.agg #[.slice A0 n0 c0, .slice A1 n1 c1, .slice A2 n2 c2, .slice A3 n3 c3]] W fun e w' => ∃ v0 v1 v2 v3, e = .returned (.agg #[v0, v1, v2, v3]) ∧ (kO.R 39 w' W.heap.size (fun _ => True) v0 ns ∧ kO.R 39 w' W.heap.size (fun _ => True) v1 ps ∧ kO.R 39 w' W.heap.size (fun _ => True) v2 l2 ∧ kO.R 39 w' W.heap.size (fun _ => True) v3 l3) ∧ (∃ m, kO.R 39 w' W.heap.size (fun k => k < m) v0 ns ∧ kO.R 39 w' m (fun _ => True) v1 ps ∧ W.heap.size ≤ m ∧ m ≤ w'.heap.size) ∧ Below W.heap.size W w') := Lib.hid hcf
  have HC : Hid (kO.C w A0 n0 ns ∧ kO.C w A1 n1 ps) := Lib.hid ⟨h.a0, h.a1⟩
  have HF : Hid ((∀ o ∈ ns, ObFits o) ∧ (∀ o ∈ ps, ObFits o)) := Lib.hid ⟨fun o ho => (hok.f0 o ho).1, fun o ho => (hok.f1 o ho).1⟩
  have QWd := Lib.hid (fun W (hW : Below w.heap.size w W) => wide_calls (.slice A2 n2 c2) (.slice A3 n3 c3) A0 A1 c0 c1 n0 n1 ns ps W (Kd.C_below h.a0 hW) (Kd.C_below h.a1 hW))
  have HB0 := Lib.hid (below_alloc (Below.refl w.heap.size w) (Obj.cells #[.slice A0 n0 c0, .slice A1 n1 c1, .slice A2 n2 c2, .slice A3 n3 c3] 24))
  have HA0 : Hid ((w.alloc (Obj.cells #[.slice A0 n0 c0, .slice A1 n1 c1, .slice A2 n2 c2, .slice A3 n3 c3] 24)).heap[w.heap.size]? = some (.cells #[.slice A0 n0 c0, .slice A1 n1 c1, .slice A2 n2 c2, .slice A3 n3 c3] 24 (0, 0))) := Lib.hid (heap_alloc_new w _)
  clear h hok hcf
  simp only [F4.v]
  go_enter Tryd.func4, Tryd.ntmps4
  go_wp2_with (first
    | (go_at_call 11; (with_reducible refine (works27_calls _).mono ?_); rintro e w1 ⟨rfl, hb⟩; have HA1 := Lib.hid (blkB hb HA0.out); have HB1 := Lib.hid (belT HB0.out hb); clear hb)
    | ((with_reducible refine wpList_load_blk (op := ⟨some 16, _, _, _, _, _⟩) rfl 24 (.tmp 1) rfl w.heap.size 24 ?a1 #[.slice A0 n0 c0, .slice A1 n1 c1, .slice A2 n2 c2, .slice A3 n3 c3] _ ?a2 Tryd.underlying24 ?a3 ?a4 ?_); (case a1 => rfl); (case a2 => exact HA1.out); (case a3 => rfl); (case a4 => exact infoF4))
    | (go_at_call 12; (with_reducible refine (QWd.out _ HB1.out).mono ?_); rintro e w2 ⟨b, rfl, hbd, hb2⟩; have HA2 := Lib.hid (blkB hb2 HA1.out); have HB2 := Lib.hid (belT HB1.out hb2); have HBD := Lib.hid hbd; clear hbd hb2; cases b))
  · have HN : Hid (n0 ≤ 100 ∧ n1 ≤ 200) := Lib.hid (HBD.out (by trivial))
    have hn0 : n0 ≤ 100 := HN.out.1
    have hn1 : n1 ≤ 200 := HN.out.2
    go_loopw [3] (fun vx wr => ∃ k : Nat, k ≤ n0 ∧ vx = .int .i64 k ∧ Hid ((∀ (i : Nat) (o : Ob), i < k → ns[i]? = some o → findI ns o.name = (i : Int)) ∧ Below w2.heap.size w2 wr)) (fun vx _ => n0 - (intOf vx).toNat)
    case atStart => exact ⟨0, Nat.zero_le _, rfl, Lib.hid ⟨fun i o h => absurd h (Nat.not_lt_zero i), Below.refl _ _⟩⟩
    case round =>
      obtain ⟨k, hk, rfl, hI⟩ := hrel
      rename World => wra
      have e1c : wra.cell? ⟨w.heap.size, 0, none⟩ = some (.slice A0 n0 c0) := (cell_of_row _ _ 0 _ _ _ (blkB (hI.out.2) HA2.out)).trans rfl
      by_cases hkn : k < n0
      · have hC := Kd.C_below HC.out.1 (belT (HB2.out) (hI.out.2))
        obtain ⟨o, ho⟩ : ∃ o, ns[k]? = some o := ⟨_, List.getElem?_eq_getElem (by have := HC.out.1.1; omega)⟩
        obtain ⟨ad, v4, v27, hA, hO⟩ := objAt hC k o ho
        subst hA
        obtain ⟨nq, hnq⟩ : ∃ s, s = o.name := ⟨_, rfl⟩
        obtain ⟨z, hz⟩ : ∃ z, z = findI ns nq := ⟨_, rfl⟩
        have QF := Lib.hid (fun W (hW : Below wra.heap.size wra W) => find_calls (some ad) c0 n0 ns nq W (Kd.C_below hC hW) (by have := HN.out; omega))
        rw [← hz] at QF
        have HB : Below wra.heap.size wra wra.drew := below_drew (Below.refl _ _)
        have E1 : wra.drew.cell? ⟨w.heap.size, 0, none⟩ = some (.slice (some ad) n0 c0) := (cell_of_row _ _ 0 _ _ _ (blkB (hI.out.2) HA2.out)).trans rfl
        have E2 : wra.drew.cell? ⟨(ad.add (k * 32)).block, (ad.add (k * 32)).off + 1, none⟩ = some (.string nq) := hO.field 1 (by decide) (u := .string nq) (by rw [hnq]; rfl)
        have hlk : (k : Int) < (n0 : Int) := by omega
        have HX := Lib.hid (And.intro ho (And.intro hnq hz))
        clear ho hO hnq hz hC
        by_cases hzk : z = (k : Int)
        · have g3 : (z != (k : Int)) = false := by simp [hzk]
          go_upto_region 8 with (fail)
          refine start_ (n := 11) (S := fun w' => Below wra.heap.size wra w' ∧ w'.cell? ⟨w.heap.size, 0, none⟩ = some (.slice (some ad) n0 c0) ∧ w'.cell? ⟨(ad.add (k * 32)).block, (ad.add (k * 32)).off + 1, none⟩ = some (.string nq)) (ds := []) (bs 11 0) (by kernel_rfl) rfl (by kernel_rfl) ⟨HB, E1, E2⟩ (fun hHeld => ?_)
          refine with_tabW rg4_8_tab rg4_8_bits (fun HT_ HW_ => ?_)
          refine pu 0 (some 25) (bs 11 1) HT_ rfl rfl (by kernel_rfl) (fun _ _ _ _ h => h) ⟨_, .inl ⟨by rfl, fun _ => by go_simp; with_reducible rfl⟩, _, by simp only [Act.put, sA, sB, sC, i64_w, i32_w]; rfl, ?_⟩
          refine pu 2 (some 27) (bs 11 5) HT_ rfl rfl (by kernel_rfl) (fun _ _ _ _ h => h) ⟨_, .inl ⟨by rfl, fun _ => by go_simp; with_reducible rfl⟩, _, by simp only [Act.put, sA, sB, sC, i64_w, i32_w]; rfl, ?_⟩
          refine pu 4 (some 29) (bs 11 21) HT_ rfl rfl (by kernel_rfl) (fun _ _ _ _ h => h) ⟨_, .inl ⟨by rfl, fun _ => by go_simp; with_reducible rfl⟩, _, by simp only [Act.put, sA, sB, sC, i64_w, i32_w]; rfl, ?_⟩
          refine pu 9 (some 34) (bs 11 533) HT_ rfl rfl (by kernel_rfl) (fun _ _ _ _ h => h) ⟨_, .inl ⟨by rfl, fun _ => by go_simp; with_reducible rfl⟩, _, by simp only [Act.put, sA, sB, sC, i64_w, i32_w]; rfl, ?_⟩
          refine tk 1 (some 26) (bs 11 535) HT_ HW_ rfl rfl (by kernel_rfl) (fun _ _ _ _ h => h) hHeld ⟨_, .inl ⟨by rfl, by rintro w' ⟨s0, s1, s2⟩; go_simp; with_reducible rfl⟩, _, by simp only [Act.put, sA, sB, sC, i64_w, i32_w]; rfl, ?_⟩
          refine tk 3 (some 28) (bs 11 543) HT_ HW_ rfl rfl (by kernel_rfl) (fun _ _ _ _ h => h) hHeld ⟨_, .inl ⟨by rfl, by rintro w' ⟨s0, s1, s2⟩; go_simp; with_reducible rfl⟩, _, by simp only [Act.put, sA, sB, sC, i64_w, i32_w]; rfl, ?_⟩
          refine pu 5 (some 30) (bs 11 575) HT_ rfl rfl (by kernel_rfl) (fun _ _ _ _ h => h) ⟨_, .inl ⟨by rfl, fun _ => by go_simp; with_reducible rfl⟩, _, by simp only [Act.put, sA, sB, sC, i64_w, i32_w]; rfl, ?_⟩
          refine pu 6 (some 31) (bs 11 639) HT_ rfl rfl (by kernel_rfl) (fun _ _ _ _ h => h) ⟨_, .inl ⟨by rfl, fun _ => by go_simp; with_reducible rfl⟩, _, by simp only [Act.put, sA, sB, sC, i64_w, i32_w]; rfl, ?_⟩
          refine tk 7 (some 32) (bs 11 767) HT_ HW_ rfl rfl (by kernel_rfl) (fun _ _ _ _ h => h) hHeld ⟨_, .inl ⟨by rfl, by rintro w' ⟨s0, s1, s2⟩; go_simp; with_reducible rfl⟩, _, by simp only [Act.put, sA, sB, sC, i64_w, i32_w]; rfl, ?_⟩
          refine on1 8 (some 33) (bs 11 1023) HT_ rfl rfl (by kernel_rfl) (by decide) (fun K hK => ?_)
          refine goes_ Tryd.func13 (by kernel_rfl) rfl #[.slice (some ad) n0 c0, .string nq] (by rfl) rfl rfl (by (try simp only [List.map_toArray, List.map_cons, List.map_nil]); first | done | rfl) ?_
          with_reducible refine (QF.out _ HB).mono ?_
          rintro e w5 ⟨rfl, hb⟩
          replace HB := belT HB hb
          replace E1 := cell_below hb E1
          replace E2 := cell_below hb E2
          clear hb
          refine ⟨_, rfl, ?_⟩
          refine hK.out _ _ ⟨HB, E1, E2⟩ (fun hHeld => ?_)
          clear hK K
          refine nm ⟨_, show Act.put _ (some 33) _ = _ by simp only [Act.put, sA, sB, sC, i64_w, i32_w]; rfl, ?_⟩
          refine pu 10 (some 35) (bs 11 2047) HT_ rfl rfl (by kernel_rfl) (fun _ _ _ _ h => h) ⟨_, .inl ⟨by rfl, fun _ => by go_simp; with_reducible rfl⟩, _, by simp only [Act.put, sA, sB, sC, i64_w, i32_w]; rfl, ?_⟩
          refine done_ (done_of HT_.out (by kernel_rfl)) ?_
          have HXk := Lib.hid hzk
          clear hzk E1 E2 QF
          go_wp2
          go_roundw
          case rel => exact ⟨k + 1, by omega, by go_num, Lib.hid ⟨fun i o' hi ho' => by
            rcases Nat.lt_succ_iff_lt_or_eq.1 hi with h | rfl
            · exact hI.out.1 i o' h ho'
            · rw [HX.out.1] at ho'
              injection ho' with e
              rw [← e, ← HX.out.2.1, ← HX.out.2.2]
              exact HXk.out, belT hI.out.2 HB⟩⟩
          case measure => simp [intOf]; omega
        · have g3 : (z != (k : Int)) = true := by simp [hzk]
          go_upto_region 8 with (fail)
          refine start_ (n := 11) (S := fun w' => Below wra.heap.size wra w' ∧ w'.cell? ⟨w.heap.size, 0, none⟩ = some (.slice (some ad) n0 c0) ∧ w'.cell? ⟨(ad.add (k * 32)).block, (ad.add (k * 32)).off + 1, none⟩ = some (.string nq)) (ds := []) (bs 11 0) (by kernel_rfl) rfl (by kernel_rfl) ⟨HB, E1, E2⟩ (fun hHeld => ?_)
          refine with_tabW rg4_8_tab rg4_8_bits (fun HT_ HW_ => ?_)
          refine pu 0 (some 25) (bs 11 1) HT_ rfl rfl (by kernel_rfl) (fun _ _ _ _ h => h) ⟨_, .inl ⟨by rfl, fun _ => by go_simp; with_reducible rfl⟩, _, by simp only [Act.put, sA, sB, sC, i64_w, i32_w]; rfl, ?_⟩
          refine pu 2 (some 27) (bs 11 5) HT_ rfl rfl (by kernel_rfl) (fun _ _ _ _ h => h) ⟨_, .inl ⟨by rfl, fun _ => by go_simp; with_reducible rfl⟩, _, by simp only [Act.put, sA, sB, sC, i64_w, i32_w]; rfl, ?_⟩
          refine pu 4 (some 29) (bs 11 21) HT_ rfl rfl (by kernel_rfl) (fun _ _ _ _ h => h) ⟨_, .inl ⟨by rfl, fun _ => by go_simp; with_reducible rfl⟩, _, by simp only [Act.put, sA, sB, sC, i64_w, i32_w]; rfl, ?_⟩
          refine pu 9 (some 34) (bs 11 533) HT_ rfl rfl (by kernel_rfl) (fun _ _ _ _ h => h) ⟨_, .inl ⟨by rfl, fun _ => by go_simp; with_reducible rfl⟩, _, by simp only [Act.put, sA, sB, sC, i64_w, i32_w]; rfl, ?_⟩
          refine tk 1 (some 26) (bs 11 535) HT_ HW_ rfl rfl (by kernel_rfl) (fun _ _ _ _ h => h) hHeld ⟨_, .inl ⟨by rfl, by rintro w' ⟨s0, s1, s2⟩; go_simp; with_reducible rfl⟩, _, by simp only [Act.put, sA, sB, sC, i64_w, i32_w]; rfl, ?_⟩
          refine tk 3 (some 28) (bs 11 543) HT_ HW_ rfl rfl (by kernel_rfl) (fun _ _ _ _ h => h) hHeld ⟨_, .inl ⟨by rfl, by rintro w' ⟨s0, s1, s2⟩; go_simp; with_reducible rfl⟩, _, by simp only [Act.put, sA, sB, sC, i64_w, i32_w]; rfl, ?_⟩
          refine pu 5 (some 30) (bs 11 575) HT_ rfl rfl (by kernel_rfl) (fun _ _ _ _ h => h) ⟨_, .inl ⟨by rfl, fun _ => by go_simp; with_reducible rfl⟩, _, by simp only [Act.put, sA, sB, sC, i64_w, i32_w]; rfl, ?_⟩
          refine pu 6 (some 31) (bs 11 639) HT_ rfl rfl (by kernel_rfl) (fun _ _ _ _ h => h) ⟨_, .inl ⟨by rfl, fun _ => by go_simp; with_reducible rfl⟩, _, by simp only [Act.put, sA, sB, sC, i64_w, i32_w]; rfl, ?_⟩
          refine tk 7 (some 32) (bs 11 767) HT_ HW_ rfl rfl (by kernel_rfl) (fun _ _ _ _ h => h) hHeld ⟨_, .inl ⟨by rfl, by rintro w' ⟨s0, s1, s2⟩; go_simp; with_reducible rfl⟩, _, by simp only [Act.put, sA, sB, sC, i64_w, i32_w]; rfl, ?_⟩
          refine on1 8 (some 33) (bs 11 1023) HT_ rfl rfl (by kernel_rfl) (by decide) (fun K hK => ?_)
          refine goes_ Tryd.func13 (by kernel_rfl) rfl #[.slice (some ad) n0 c0, .string nq] (by rfl) rfl rfl (by (try simp only [List.map_toArray, List.map_cons, List.map_nil]); first | done | rfl) ?_
          with_reducible refine (QF.out _ HB).mono ?_
          rintro e w5 ⟨rfl, hb⟩
          replace HB := belT HB hb
          replace E1 := cell_below hb E1
          replace E2 := cell_below hb E2
          clear hb
          refine ⟨_, rfl, ?_⟩
          refine hK.out _ _ ⟨HB, E1, E2⟩ (fun hHeld => ?_)
          clear hK K
          refine nm ⟨_, show Act.put _ (some 33) _ = _ by simp only [Act.put, sA, sB, sC, i64_w, i32_w]; rfl, ?_⟩
          refine pu 10 (some 35) (bs 11 2047) HT_ rfl rfl (by kernel_rfl) (fun _ _ _ _ h => h) ⟨_, .inl ⟨by rfl, fun _ => by go_simp; with_reducible rfl⟩, _, by simp only [Act.put, sA, sB, sC, i64_w, i32_w]; rfl, ?_⟩
          refine done_ (done_of HT_.out (by kernel_rfl)) ?_
          clear hzk E1 E2 QF
          go_wp2
          go_ret
          exact ⟨rfl, belT HB2.out (belT (hI.out.2) HB)⟩
      · obtain rfl : n0 = k := by omega
        have HNm : Hid (Names ns) := Lib.hid (names_of_find (fun i o hi => hI.out.1 i o (by have h1 := (List.getElem?_eq_some_iff.1 hi).1; have h2 := HC.out.1.1; omega) hi))
        have HL1 := Lib.hid hI.out.2
        have HNn := HNm
        clear HNm hI
        go_wp2
        clear e1c
        go_loopw [4] (fun vx wr => ∃ k : Nat, k ≤ n1 ∧ vx = .int .i64 k ∧ Hid ((∀ (i : Nat) (o : Ob), i < k → ps[i]? = some o → findI ps o.name = (i : Int)) ∧ Below wra.heap.size wra wr)) (fun vx _ => n1 - (intOf vx).toNat)
        case atStart => exact ⟨0, Nat.zero_le _, rfl, Lib.hid ⟨fun i o h => absurd h (Nat.not_lt_zero i), Below.refl _ _⟩⟩
        case round =>
          obtain ⟨k, hk, rfl, hI⟩ := hrel
          rename World => wrb
          have e1c : wrb.cell? ⟨w.heap.size, 1, none⟩ = some (.slice A1 n1 c1) := (cell_of_row _ _ 1 _ _ _ (blkB (belT HL1.out hI.out.2) HA2.out)).trans rfl
          by_cases hkn : k < n1
          · have hC := Kd.C_below HC.out.2 (belT (HB2.out) (belT HL1.out hI.out.2))
            obtain ⟨o, ho⟩ : ∃ o, ps[k]? = some o := ⟨_, List.getElem?_eq_getElem (by have := HC.out.2.1; omega)⟩
            obtain ⟨ad, v4, v27, hA, hO⟩ := objAt hC k o ho
            subst hA
            obtain ⟨nq, hnq⟩ : ∃ s, s = o.name := ⟨_, rfl⟩
            obtain ⟨z, hz⟩ : ∃ z, z = findI ps nq := ⟨_, rfl⟩
            have QF := Lib.hid (fun W (hW : Below wrb.heap.size wrb W) => find_calls (some ad) c1 n1 ps nq W (Kd.C_below hC hW) (by have := HN.out; omega))
            rw [← hz] at QF
            have HB : Below wrb.heap.size wrb wrb.drew := below_drew (Below.refl _ _)
            have E1 : wrb.drew.cell? ⟨w.heap.size, 1, none⟩ = some (.slice (some ad) n1 c1) := (cell_of_row _ _ 1 _ _ _ (blkB (belT HL1.out hI.out.2) HA2.out)).trans rfl
            have E2 : wrb.drew.cell? ⟨(ad.add (k * 32)).block, (ad.add (k * 32)).off + 1, none⟩ = some (.string nq) := hO.field 1 (by decide) (u := .string nq) (by rw [hnq]; rfl)
            have hlk : (k : Int) < (n1 : Int) := by omega
            have HX := Lib.hid (And.intro ho (And.intro hnq hz))
            clear ho hO hnq hz hC
            by_cases hzk : z = (k : Int)
            · have g3 : (z != (k : Int)) = false := by simp [hzk]
              go_upto_region 13 with (fail)
              refine start_ (n := 11) (S := fun w' => Below wrb.heap.size wrb w' ∧ w'.cell? ⟨w.heap.size, 1, none⟩ = some (.slice (some ad) n1 c1) ∧ w'.cell? ⟨(ad.add (k * 32)).block, (ad.add (k * 32)).off + 1, none⟩ = some (.string nq)) (ds := []) (bs 11 0) (by kernel_rfl) rfl (by kernel_rfl) ⟨HB, E1, E2⟩ (fun hHeld => ?_)
              refine with_tabW rg4_13_tab rg4_13_bits (fun HT_ HW_ => ?_)
              refine pu 0 (some 43) (bs 11 1) HT_ rfl rfl (by kernel_rfl) (fun _ _ _ _ h => h) ⟨_, .inl ⟨by rfl, fun _ => by go_simp; with_reducible rfl⟩, _, by simp only [Act.put, sA, sB, sC, i64_w, i32_w]; rfl, ?_⟩
              refine pu 2 (some 45) (bs 11 5) HT_ rfl rfl (by kernel_rfl) (fun _ _ _ _ h => h) ⟨_, .inl ⟨by rfl, fun _ => by go_simp; with_reducible rfl⟩, _, by simp only [Act.put, sA, sB, sC, i64_w, i32_w]; rfl, ?_⟩
              refine pu 4 (some 47) (bs 11 21) HT_ rfl rfl (by kernel_rfl) (fun _ _ _ _ h => h) ⟨_, .inl ⟨by rfl, fun _ => by go_simp; with_reducible rfl⟩, _, by simp only [Act.put, sA, sB, sC, i64_w, i32_w]; rfl, ?_⟩
              refine pu 9 (some 52) (bs 11 533) HT_ rfl rfl (by kernel_rfl) (fun _ _ _ _ h => h) ⟨_, .inl ⟨by rfl, fun _ => by go_simp; with_reducible rfl⟩, _, by simp only [Act.put, sA, sB, sC, i64_w, i32_w]; rfl, ?_⟩
              refine tk 1 (some 44) (bs 11 535) HT_ HW_ rfl rfl (by kernel_rfl) (fun _ _ _ _ h => h) hHeld ⟨_, .inl ⟨by rfl, by rintro w' ⟨s0, s1, s2⟩; go_simp; with_reducible rfl⟩, _, by simp only [Act.put, sA, sB, sC, i64_w, i32_w]; rfl, ?_⟩
              refine tk 3 (some 46) (bs 11 543) HT_ HW_ rfl rfl (by kernel_rfl) (fun _ _ _ _ h => h) hHeld ⟨_, .inl ⟨by rfl, by rintro w' ⟨s0, s1, s2⟩; go_simp; with_reducible rfl⟩, _, by simp only [Act.put, sA, sB, sC, i64_w, i32_w]; rfl, ?_⟩
              refine pu 5 (some 48) (bs 11 575) HT_ rfl rfl (by kernel_rfl) (fun _ _ _ _ h => h) ⟨_, .inl ⟨by rfl, fun _ => by go_simp; with_reducible rfl⟩, _, by simp only [Act.put, sA, sB, sC, i64_w, i32_w]; rfl, ?_⟩
              refine pu 6 (some 49) (bs 11 639) HT_ rfl rfl (by kernel_rfl) (fun _ _ _ _ h => h) ⟨_, .inl ⟨by rfl, fun _ => by go_simp; with_reducible rfl⟩, _, by simp only [Act.put, sA, sB, sC, i64_w, i32_w]; rfl, ?_⟩
              refine tk 7 (some 50) (bs 11 767) HT_ HW_ rfl rfl (by kernel_rfl) (fun _ _ _ _ h => h) hHeld ⟨_, .inl ⟨by rfl, by rintro w' ⟨s0, s1, s2⟩; go_simp; with_reducible rfl⟩, _, by simp only [Act.put, sA, sB, sC, i64_w, i32_w]; rfl, ?_⟩
              refine on1 8 (some 51) (bs 11 1023) HT_ rfl rfl (by kernel_rfl) (by decide) (fun K hK => ?_)
              refine goes_ Tryd.func13 (by kernel_rfl) rfl #[.slice (some ad) n1 c1, .string nq] (by rfl) rfl rfl (by (try simp only [List.map_toArray, List.map_cons, List.map_nil]); first | done | rfl) ?_
              with_reducible refine (QF.out _ HB).mono ?_
              rintro e w5 ⟨rfl, hb⟩
              replace HB := belT HB hb
              replace E1 := cell_below hb E1
              replace E2 := cell_below hb E2
              clear hb
              refine ⟨_, rfl, ?_⟩
              refine hK.out _ _ ⟨HB, E1, E2⟩ (fun hHeld => ?_)
              clear hK K
              refine nm ⟨_, show Act.put _ (some 51) _ = _ by simp only [Act.put, sA, sB, sC, i64_w, i32_w]; rfl, ?_⟩
              refine pu 10 (some 53) (bs 11 2047) HT_ rfl rfl (by kernel_rfl) (fun _ _ _ _ h => h) ⟨_, .inl ⟨by rfl, fun _ => by go_simp; with_reducible rfl⟩, _, by simp only [Act.put, sA, sB, sC, i64_w, i32_w]; rfl, ?_⟩
              refine done_ (done_of HT_.out (by kernel_rfl)) ?_
              have HXk := Lib.hid hzk
              clear hzk E1 E2 QF
              go_wp2
              go_roundw
              case rel => exact ⟨k + 1, by omega, by go_num, Lib.hid ⟨fun i o' hi ho' => by
                rcases Nat.lt_succ_iff_lt_or_eq.1 hi with h | rfl
                · exact hI.out.1 i o' h ho'
                · rw [HX.out.1] at ho'
                  injection ho' with e
                  rw [← e, ← HX.out.2.1, ← HX.out.2.2]
                  exact HXk.out, belT hI.out.2 HB⟩⟩
              case measure => simp [intOf]; omega
            · have g3 : (z != (k : Int)) = true := by simp [hzk]
              go_upto_region 13 with (fail)
              refine start_ (n := 11) (S := fun w' => Below wrb.heap.size wrb w' ∧ w'.cell? ⟨w.heap.size, 1, none⟩ = some (.slice (some ad) n1 c1) ∧ w'.cell? ⟨(ad.add (k * 32)).block, (ad.add (k * 32)).off + 1, none⟩ = some (.string nq)) (ds := []) (bs 11 0) (by kernel_rfl) rfl (by kernel_rfl) ⟨HB, E1, E2⟩ (fun hHeld => ?_)
              refine with_tabW rg4_13_tab rg4_13_bits (fun HT_ HW_ => ?_)
              refine pu 0 (some 43) (bs 11 1) HT_ rfl rfl (by kernel_rfl) (fun _ _ _ _ h => h) ⟨_, .inl ⟨by rfl, fun _ => by go_simp; with_reducible rfl⟩, _, by simp only [Act.put, sA, sB, sC, i64_w, i32_w]; rfl, ?_⟩
              refine pu 2 (some 45) (bs 11 5) HT_ rfl rfl (by kernel_rfl) (fun _ _ _ _ h => h) ⟨_, .inl ⟨by rfl, fun _ => by go_simp; with_reducible rfl⟩, _, by simp only [Act.put, sA, sB, sC, i64_w, i32_w]; rfl, ?_⟩
              refine pu 4 (some 47) (bs 11 21) HT_ rfl rfl (by kernel_rfl) (fun _ _ _ _ h => h) ⟨_, .inl ⟨by rfl, fun _ => by go_simp; with_reducible rfl⟩, _, by simp only [Act.put, sA, sB, sC, i64_w, i32_w]; rfl, ?_⟩
              refine pu 9 (some 52) (bs 11 533) HT_ rfl rfl (by kernel_rfl) (fun _ _ _ _ h => h) ⟨_, .inl ⟨by rfl, fun _ => by go_simp; with_reducible rfl⟩, _, by simp only [Act.put, sA, sB, sC, i64_w, i32_w]; rfl, ?_⟩
              refine tk 1 (some 44) (bs 11 535) HT_ HW_ rfl rfl (by kernel_rfl) (fun _ _ _ _ h => h) hHeld ⟨_, .inl ⟨by rfl, by rintro w' ⟨s0, s1, s2⟩; go_simp; with_reducible rfl⟩, _, by simp only [Act.put, sA, sB, sC, i64_w, i32_w]; rfl, ?_⟩
              refine tk 3 (some 46) (bs 11 543) HT_ HW_ rfl rfl (by kernel_rfl) (fun _ _ _ _ h => h) hHeld ⟨_, .inl ⟨by rfl, by rintro w' ⟨s0, s1, s2⟩; go_simp; with_reducible rfl⟩, _, by simp only [Act.put, sA, sB, sC, i64_w, i32_w]; rfl, ?_⟩
              refine pu 5 (some 48) (bs 11 575) HT_ rfl rfl (by kernel_rfl) (fun _ _ _ _ h => h) ⟨_, .inl ⟨by rfl, fun _ => by go_simp; with_reducible rfl⟩, _, by simp only [Act.put, sA, sB, sC, i64_w, i32_w]; rfl, ?_⟩
              refine pu 6 (some 49) (bs 11 639) HT_ rfl rfl (by kernel_rfl) (fun _ _ _ _ h => h) ⟨_, .inl ⟨by rfl, fun _ => by go_simp; with_reducible rfl⟩, _, by simp only [Act.put, sA, sB, sC, i64_w, i32_w]; rfl, ?_⟩
              refine tk 7 (some 50) (bs 11 767) HT_ HW_ rfl rfl (by kernel_rfl) (fun _ _ _ _ h => h) hHeld ⟨_, .inl ⟨by rfl, by rintro w' ⟨s0, s1, s2⟩; go_simp; with_reducible rfl⟩, _, by simp only [Act.put, sA, sB, sC, i64_w, i32_w]; rfl, ?_⟩
              refine on1 8 (some 51) (bs 11 1023) HT_ rfl rfl (by kernel_rfl) (by decide) (fun K hK => ?_)
              refine goes_ Tryd.func13 (by kernel_rfl) rfl #[.slice (some ad) n1 c1, .string nq] (by rfl) rfl rfl (by (try simp only [List.map_toArray, List.map_cons, List.map_nil]); first | done | rfl) ?_
              with_reducible refine (QF.out _ HB).mono ?_
              rintro e w5 ⟨rfl, hb⟩
              replace HB := belT HB hb
              replace E1 := cell_below hb E1
              replace E2 := cell_below hb E2
              clear hb
              refine ⟨_, rfl, ?_⟩
              refine hK.out _ _ ⟨HB, E1, E2⟩ (fun hHeld => ?_)
              clear hK K
              refine nm ⟨_, show Act.put _ (some 51) _ = _ by simp only [Act.put, sA, sB, sC, i64_w, i32_w]; rfl, ?_⟩
              refine pu 10 (some 53) (bs 11 2047) HT_ rfl rfl (by kernel_rfl) (fun _ _ _ _ h => h) ⟨_, .inl ⟨by rfl, fun _ => by go_simp; with_reducible rfl⟩, _, by simp only [Act.put, sA, sB, sC, i64_w, i32_w]; rfl, ?_⟩
              refine done_ (done_of HT_.out (by kernel_rfl)) ?_
              clear hzk E1 E2 QF
              go_wp2
              go_ret
              exact ⟨rfl, belT HB2.out (belT (belT HL1.out hI.out.2) HB)⟩
          · obtain rfl : n1 = k := by omega
            have HNm : Hid (Names ps) := Lib.hid (names_of_find (fun i o hi => hI.out.1 i o (by have h1 := (List.getElem?_eq_some_iff.1 hi).1; have h2 := HC.out.2.1; omega) hi))
            have HL2 := Lib.hid (belT HL1.out hI.out.2)
            have HNp := HNm
            clear HNm hI
            go_wp2_with (first
              | ((with_reducible refine wpList_load_blk (op := ⟨some 54, _, _, _, _, _⟩) rfl 24 (.tmp 1) rfl w.heap.size 24 ?ba1 #[.slice A0 n0 c0, .slice A1 n1 c1, .slice A2 n2 c2, .slice A3 n3 c3] _ ?ba2 Tryd.underlying24 ?ba3 ?ba4 ?_); (case ba1 => rfl); (case ba2 => exact blkB HL2.out HA2.out); (case ba3 => rfl); (case ba4 => exact infoF4))
              | (go_at_call 14; (with_reducible refine (QCF.out _ (belT HB2.out HL2.out)).mono ?_); rintro e w3 ⟨v0, v1, v2, v3, rfl, ⟨hR0, hR1, hR2, hR3⟩, ⟨m, hS0, hT1, hm1, hm2⟩, hb3⟩; obtain ⟨B0, d0, rfl⟩ := slice_form hR0 HC.out.1.1; obtain ⟨B1, d1, rfl⟩ := slice_form hR1 HC.out.2.1; obtain ⟨B2, d2, rfl⟩ := slice_form (n := l2.length) hR2 rfl; obtain ⟨B3, d3, rfl⟩ := slice_form (n := l3.length) hR3 rfl; have HCP := Lib.hid (And.intro hS0 (And.intro hT1 (And.intro hm1 (And.intro hm2 hb3)))); clear hR0 hR1 hR2 hR3 hS0 hT1 hm1 hm2 hb3)
              | ((with_reducible refine wpList_store_blk rfl 24 (.tmp 5) (.tmp 55) rfl w3.heap.size 24 #[.slice none 0 0, .slice none 0 0, .slice none 0 0, .slice none 0 0] #[.slice B0 n0 d0, .slice B1 n1 d1, .slice B2 l2.length d2, .slice B3 l3.length d3] ?s1 ?s2 ?s3 ?s4 ?s5 ?s6 ?_); (case s1 => rfl); (case s2 => rfl); (case s3 => exact heap_alloc_new _ _); (case s4 => exact infoF4); (case s5 => rfl); (case s6 => simp [Value.oneCell']); intro w4 G4 hk4 hb4 hz4; have hb34 := hb4 _ _ (below_alloc (Below.refl w3.heap.size w3) _) (Nat.le_refl _); obtain ⟨gg, hgg⟩ : ∃ g, g = w3.heap.size := ⟨_, rfl⟩; rw [← hgg] at G4 ⊢; have HG4 := Lib.hid (And.intro hgg (And.intro G4 hb34)); clear G4 hk4 hb4 hz4 hb34 hgg)
              | ((with_reducible refine wpList_load_blk (op := ⟨some 56, _, _, _, _, _⟩) rfl 24 (.tmp 1) rfl w.heap.size 24 ?ca1 #[.slice A0 n0 c0, .slice A1 n1 c1, .slice A2 n2 c2, .slice A3 n3 c3] _ ?ca2 Tryd.underlying24 ?ca3 ?ca4 ?_); (case ca1 => rfl); (case ca2 => exact blkB (belT HL2.out (belT HCP.out.2.2.2.2 HG4.out.2.2)) HA2.out); (case ca3 => rfl); (case ca4 => exact infoF4))
              | (go_at_call 15; (with_reducible refine (plan_calls A0 A1 n0 n1 c0 c1 _ _ ns ps w4 rfl rfl (Kd.C_below HC.out.1 (belT HB2.out (belT HL2.out (belT HCP.out.2.2.2.2 HG4.out.2.2)))) (Kd.C_below HC.out.2 (belT HB2.out (belT HL2.out (belT HCP.out.2.2.2.2 HG4.out.2.2)))) (by omega) (by omega) HF.out.1 HF.out.2).mono ?_); rintro e w5 ⟨v6, rfl, hS6, hb5⟩; obtain ⟨A6, c6, e6⟩ := Kd.S_slice hS6; obtain ⟨pl, hpl⟩ : ∃ x, x = planF ns ps := ⟨_, rfl⟩; obtain ⟨kp, hkp⟩ : ∃ x, x = pl.length := ⟨_, rfl⟩; rw [← hpl] at e6 hS6; rw [← hkp] at e6; subst e6; have HD0 := Lib.hid (ds_start (blkB HL2.out HA2.out) HCP.out.1 HCP.out.2.1 HCP.out.2.2.1 HCP.out.2.2.2.1 HCP.out.2.2.2.2 HG4.out.1 HG4.out.2.1 HG4.out.2.2 hb5 (Kd.S_R hS6)); have HP := Lib.hid (And.intro hpl hkp); clear hS6 hb5 hpl hkp))
            obtain ⟨B4, hB4⟩ : ∃ x, x = w4.heap.size := ⟨_, rfl⟩
            rw [← hB4] at HD0
            obtain ⟨ga, hga⟩ : ∃ x, x = w.heap.size := ⟨_, rfl⟩
            rw [← hga] at HD0 ⊢
            have HGA := Lib.hid hga
            have hkpl : Hid (kp ≤ 100000) := Lib.hid (by
              have h1 := ask_len ps (Srt.isort cN ns)
              rw [Srt.isort_length] at h1
              have h2 := HC.out.1.1
              have h3 := HC.out.2.1
              have h4 : ns.length * (1 + ps.length) ≤ 100 * 201 := Nat.mul_le_mul (by omega) (by omega)
              rw [HP.out.2, HP.out.1]
              unfold planF
              omega)
            have hkp1 := hkpl.out
            clear hB4 hga e1c HG4 HCP
            go_loopw [7] (fun vx wr => ∃ i : Nat, i ≤ kp ∧ vx = .int .i64 i ∧ Hid (DS wrb wr ga gg wrb.heap.size m B4 #[.slice A0 n0 c0, .slice A1 n1 c1, .slice A2 n2 c2, .slice A3 n3 c3] (.slice B0 n0 d0) (.slice B1 n1 d1) (.slice B2 l2.length d2) (.slice B3 l3.length d3) (.slice A6 kp c6) ns ps pl (pl.take i))) (fun vx _ => kp - (intOf vx).toNat)
            case atStart => exact ⟨0, Nat.zero_le _, rfl, Lib.hid (by rw [List.take_zero]; exact HD0.out)⟩
            case round =>
              obtain ⟨i, hi, rfl, hI⟩ := hrel
              rename World => wrc
              by_cases hik : i < kp
              · obtain ⟨r, hr⟩ : ∃ r, pl[i]? = some r := ⟨_, List.getElem?_eq_getElem (by have := HP.out.2; omega)⟩
                obtain ⟨adq, q4, q27, eq6, hq4, hq27, hqv, hqf, hqo⟩ := rq_cells hI.out.rl hr
                subst eq6
                have hlk : (i : Int) < (kp : Int) := by omega
                obtain ⟨o, hom, hdr, hk2⟩ := mem_plan.1 (show r ∈ planF ns ps from by rw [← HP.out.1]; exact List.mem_of_getElem? hr)
                rcases hk2 with ⟨hco, rfl⟩ | ⟨p, hpm, hpn, hpe, rfl⟩
                · obtain ⟨k, hk⟩ := List.mem_iff_getElem?.1 hom
                  obtain ⟨hs1, hs2, hs3⟩ := step_upd HNn.out HNp.out (by rw [← HP.out.1]; exact hr) hk
                  rw [← HP.out.1] at hs1 hs2 hs3
                  have hfi : findI (ns.map (ndS (pl.take i))) o.name = (k : Int) := (findI_map (ndS_name _) _).trans (findI_at HNn.out hk)
                  obtain ⟨ad0, g0, x4, x27, eB0, had0, hg0m, hg0B, hg0s, hO⟩ := at_obj hI.out.r0 hs1
                  subst eB0
                  have hkn : k < n0 := by have h1 := (List.getElem?_eq_some_iff.1 hk).1; have h2 := HC.out.1.1; omega
                  have hkl : (k : Int) < (n0 : Int) := by omega
                  have hk0 : ((k : Int) < 0) = False := by simp
                  obtain ⟨nq, hnq⟩ : ∃ s, s = o.name := ⟨_, rfl⟩
                  rw [← hnq] at hfi
                  have QF := Lib.hid (fun W (hW : Below wrc.heap.size wrc W) => find_calls (some ad0) d0 n0 (ns.map (ndS (pl.take i))) nq W (Kd.C_below (R_cn hI.out.r0 (by rw [List.length_map]; exact HC.out.1.1)) hW) (by omega))
                  rw [hfi] at QF
                  have E0 : wrc.cell? (adq.add (i * 42)) = some (.int .i64 1) := hqv
                  have HB : Below wrc.heap.size wrc wrc.drew := below_drew (Below.refl _ _)
                  have E1 : wrc.drew.cell? ⟨gg, 0, none⟩ = some (.slice (some ad0) n0 d0) := (cell_of_row _ _ 0 _ _ _ hI.out.gb).trans rfl
                  have E2 : wrc.drew.cell? ⟨(adq.add (i * 42)).block, (adq.add (i * 42)).off + 1 + 1, none⟩ = some (.string nq) := hqo 1 (.string nq) (by rw [hnq]; rfl)
                  have HO := Lib.hid (And.intro hO (And.intro hq4 (And.intro hq27 (And.intro hqf hqo))))
                  have HS := Lib.hid (And.intro hs1 (And.intro hs2 (And.intro hs3 (And.intro hco (And.intro hdr (And.intro hnq (And.intro had0 (And.intro hg0m (And.intro hg0B hg0s)))))))))
                  have HR := Lib.hid (And.intro hr hk)
                  clear hO hq4 hq27 hqf hqo hs1 hs2 hs3 hco hdr hnq had0 hg0m hg0B hg0s hfi hqv hr hk hom
                  go_upto_region 21 with (fail)
                  refine start_ (n := 10) (S := fun w' => Below wrc.heap.size wrc w' ∧ w'.cell? ⟨gg, 0, none⟩ = some (.slice (some ad0) n0 d0) ∧ w'.cell? ⟨(adq.add (i * 42)).block, (adq.add (i * 42)).off + 1 + 1, none⟩ = some (.string nq)) (ds := []) (bs 10 0) (by kernel_rfl) rfl (by kernel_rfl) ⟨HB, E1, E2⟩ (fun hHeld => ?_)
                  refine with_tabW rg4_21_tab rg4_21_bits (fun HT_ HW_ => ?_)
                  refine pu 0 (some 70) (bs 10 1) HT_ rfl rfl (by kernel_rfl) (fun _ _ _ _ h => h) ⟨_, .inl ⟨by rfl, fun _ => by go_simp; with_reducible rfl⟩, _, by simp only [Act.put, sA, sB, sC, i64_w, i32_w]; rfl, ?_⟩
                  refine pu 2 (some 72) (bs 10 5) HT_ rfl rfl (by kernel_rfl) (fun _ _ _ _ h => h) ⟨_, .inl ⟨by rfl, fun _ => by go_simp; with_reducible rfl⟩, _, by simp only [Act.put, sA, sB, sC, i64_w, i32_w]; rfl, ?_⟩
                  refine pu 3 (some 73) (bs 10 13) HT_ rfl rfl (by kernel_rfl) (fun _ _ _ _ h => h) ⟨_, .inl ⟨by rfl, fun _ => by go_simp; with_reducible rfl⟩, _, by simp only [Act.put, sA, sB, sC, i64_w, i32_w]; rfl, ?_⟩
                  refine pu 4 (some 74) (bs 10 29) HT_ rfl rfl (by kernel_rfl) (fun _ _ _ _ h => h) ⟨_, .inl ⟨by rfl, fun _ => by go_simp; with_reducible rfl⟩, _, by simp only [Act.put, sA, sB, sC, i64_w, i32_w]; rfl, ?_⟩
                  refine pu 5 (some 75) (bs 10 61) HT_ rfl rfl (by kernel_rfl) (fun _ _ _ _ h => h) ⟨_, .inl ⟨by rfl, fun _ => by go_simp; with_reducible rfl⟩, _, by simp only [Act.put, sA, sB, sC, i64_w, i32_w]; rfl, ?_⟩
                  refine pu 6 (some 76) (bs 10 125) HT_ rfl rfl (by kernel_rfl) (fun _ _ _ _ h => h) ⟨_, .inl ⟨by rfl, fun _ => by go_simp; with_reducible rfl⟩, _, by simp only [Act.put, sA, sB, sC, i64_w, i32_w]; rfl, ?_⟩
                  refine tk 1 (some 71) (bs 10 127) HT_ HW_ rfl rfl (by kernel_rfl) (fun _ _ _ _ h => h) hHeld ⟨_, .inl ⟨by rfl, by rintro w' ⟨s0, s1, s2⟩; go_simp; with_reducible rfl⟩, _, by simp only [Act.put, sA, sB, sC, i64_w, i32_w]; rfl, ?_⟩
                  refine tk 7 (some 77) (bs 10 255) HT_ HW_ rfl rfl (by kernel_rfl) (fun _ _ _ _ h => h) hHeld ⟨_, .inl ⟨by rfl, by rintro w' ⟨s0, s1, s2⟩; go_simp; with_reducible rfl⟩, _, by simp only [Act.put, sA, sB, sC, i64_w, i32_w]; rfl, ?_⟩
                  refine on1 8 (some 78) (bs 10 511) HT_ rfl rfl (by kernel_rfl) (by decide) (fun K hK => ?_)
                  refine goes_ Tryd.func13 (by kernel_rfl) rfl #[.slice (some ad0) n0 d0, .string nq] (by rfl) rfl rfl (by (try simp only [List.map_toArray, List.map_cons, List.map_nil]); first | done | rfl) ?_
                  with_reducible refine (QF.out _ HB).mono ?_
                  rintro e w7 ⟨rfl, hb⟩
                  replace HB := belT HB hb
                  replace E1 := cell_below hb E1
                  replace E2 := cell_below hb E2
                  clear hb
                  refine ⟨_, rfl, ?_⟩
                  refine hK.out _ _ ⟨HB, E1, E2⟩ (fun hHeld => ?_)
                  clear hK K
                  refine nm ⟨_, show Act.put _ (some 78) _ = _ by simp only [Act.put, sA, sB, sC, i64_w, i32_w]; rfl, ?_⟩
                  refine pu 9 (some 8) (bs 10 1023) HT_ rfl rfl (by kernel_rfl) (fun _ _ _ _ h => h) ⟨_, .inl ⟨by rfl, fun _ => by go_simp; with_reducible rfl⟩, _, by simp only [Act.put, sA, sB, sC, i64_w, i32_w]; rfl, ?_⟩
                  refine done_ (done_of HT_.out (by kernel_rfl)) ?_
                  have hD := Lib.hid (hI.out.below HB)
                  have f7 : w7.cell? ⟨(ad0.add (k * 32)).block, (ad0.add (k * 32)).off + 7, none⟩ = some (.bool false) := (HO.out.1.below HB).field 7 (by decide) (by rw [← HS.out.2.2.2.1]; rfl)
                  have f8 : w7.cell? ⟨(ad0.add (k * 32)).block, (ad0.add (k * 32)).off + 8, none⟩ = some (.bool true) := (HO.out.1.below HB).field 8 (by decide) (by rw [← HS.out.2.2.2.2.1]; rfl)
                  have f2 : w7.cell? ⟨(ad0.add (k * 32)).block, (ad0.add (k * 32)).off + 2, none⟩ = some (.int .i64 o.version) := (HO.out.1.below HB).field 2 (by decide) rfl
                  have q35 : w7.cell? ⟨(adq.add (i * 42)).block, (adq.add (i * 42)).off + 35, none⟩ = some (.int .i64 o.version) := cell_below HB (HO.out.2.2.2.1 35 _ (by decide) rfl)
                  clear hHeld E2 QF
                  have HB7 : Below w7.heap.size w7 w7.drew := below_drew (Below.refl _ _)
                  replace E1 := cell_below HB7 E1
                  replace f7 := cell_below HB7 f7
                  replace f8 := cell_below HB7 f8
                  replace f2 := cell_below HB7 f2
                  replace q35 := cell_below HB7 q35
                  go_upto_region 22 with (fail)
                  refine start_ (n := 33) (S := fun w' => Below w7.heap.size w7 w' ∧ w'.cell? ⟨gg, 0, none⟩ = some (.slice (some ad0) n0 d0) ∧ w'.cell? ⟨(ad0.add (k * 32)).block, (ad0.add (k * 32)).off + 7, none⟩ = some (.bool false) ∧ w'.cell? ⟨(ad0.add (k * 32)).block, (ad0.add (k * 32)).off + 8, none⟩ = some (.bool true) ∧ w'.cell? ⟨(ad0.add (k * 32)).block, (ad0.add (k * 32)).off + 2, none⟩ = some (.int .i64 o.version) ∧ w'.cell? ⟨(adq.add (i * 42)).block, (adq.add (i * 42)).off + 35, none⟩ = some (.int .i64 o.version)) (ds := []) (bs 33 0) (by kernel_rfl) rfl (by kernel_rfl) ⟨HB7, E1, f7, f8, f2, q35⟩ (fun hHeld => ?_)
                  refine with_tabW rg4_22_tab rg4_22_bits (fun HT_ HW_ => ?_)
                  refine pu 0 (some 79) (bs 33 1) HT_ rfl rfl (by kernel_rfl) (fun _ _ _ _ h => h) ⟨_, .inl ⟨by rfl, fun _ => by go_simp; with_reducible rfl⟩, _, by simp only [Act.put, sA, sB, sC, i64_w, i32_w]; rfl, ?_⟩
                  refine pu 1 (some 80) (bs 33 3) HT_ rfl rfl (by kernel_rfl) (fun _ _ _ _ h => h) ⟨_, .inl ⟨by rfl, fun _ => by go_simp; with_reducible rfl⟩, _, by simp only [Act.put, sA, sB, sC, i64_w, i32_w]; rfl, ?_⟩
                  refine pu 2 (some 81) (bs 33 7) HT_ rfl rfl (by kernel_rfl) (fun _ _ _ _ h => h) ⟨_, .inl ⟨by rfl, fun _ => by go_simp; with_reducible rfl⟩, _, by simp only [Act.put, sA, sB, sC, i64_w, i32_w]; rfl, ?_⟩
                  refine pu 3 (some 82) (bs 33 15) HT_ rfl rfl (by kernel_rfl) (fun _ _ _ _ h => h) ⟨_, .inl ⟨by rfl, fun _ => by go_simp; with_reducible rfl⟩, _, by simp only [Act.put, sA, sB, sC, i64_w, i32_w]; rfl, ?_⟩
                  refine pu 5 (some 84) (bs 33 47) HT_ rfl rfl (by kernel_rfl) (fun _ _ _ _ h => h) ⟨_, .inl ⟨by rfl, fun _ => by go_simp; with_reducible rfl⟩, _, by simp only [Act.put, sA, sB, sC, i64_w, i32_w]; rfl, ?_⟩
                  refine tk 4 (some 83) (bs 33 63) HT_ HW_ rfl rfl (by kernel_rfl) (fun _ _ _ _ h => h) hHeld ⟨_, .inl ⟨by rfl, by rintro w' ⟨s0, s1, s2, s3, s4, s5⟩; go_simp; with_reducible rfl⟩, _, by simp only [Act.put, sA, sB, sC, i64_w, i32_w]; rfl, ?_⟩
                  refine pu 6 (some 85) (bs 33 127) HT_ rfl rfl (by kernel_rfl) (fun _ _ _ _ h => h) ⟨_, .inl ⟨by rfl, fun _ => by go_simp; with_reducible rfl⟩, _, by simp only [Act.put, sA, sB, sC, i64_w, i32_w]; rfl, ?_⟩
                  refine pu 7 (some 86) (bs 33 255) HT_ rfl rfl (by kernel_rfl) (fun _ _ _ _ h => h) ⟨_, .inl ⟨by rfl, fun _ => by go_simp; with_reducible rfl⟩, _, by simp only [Act.put, sA, sB, sC, i64_w, i32_w]; rfl, ?_⟩
                  refine tk 8 (some 87) (bs 33 511) HT_ HW_ rfl rfl (by kernel_rfl) (fun _ _ _ _ h => h) hHeld ⟨_, .inl ⟨by rfl, by rintro w' ⟨s0, s1, s2, s3, s4, s5⟩; go_simp; with_reducible rfl⟩, _, by simp only [Act.put, sA, sB, sC, i64_w, i32_w]; rfl, ?_⟩
                  refine pu 9 (some 88) (bs 33 1023) HT_ rfl rfl (by kernel_rfl) (fun _ _ _ _ h => h) ⟨_, .inl ⟨by rfl, fun _ => by go_simp; with_reducible rfl⟩, _, by simp only [Act.put, sA, sB, sC, i64_w, i32_w]; rfl, ?_⟩
                  refine pu 10 (some 89) (bs 33 2047) HT_ rfl rfl (by kernel_rfl) (fun _ _ _ _ h => h) ⟨_, .inl ⟨by rfl, fun _ => by go_simp; with_reducible rfl⟩, _, by simp only [Act.put, sA, sB, sC, i64_w, i32_w]; rfl, ?_⟩
                  refine pu 11 (some 90) (bs 33 4095) HT_ rfl rfl (by kernel_rfl) (fun _ _ _ _ h => h) ⟨_, .inl ⟨by rfl, fun _ => by go_simp; with_reducible rfl⟩, _, by simp only [Act.put, sA, sB, sC, i64_w, i32_w]; rfl, ?_⟩
                  refine pu 13 (some 92) (bs 33 12287) HT_ rfl rfl (by kernel_rfl) (fun _ _ _ _ h => h) ⟨_, .inl ⟨by rfl, fun _ => by go_simp; with_reducible rfl⟩, _, by simp only [Act.put, sA, sB, sC, i64_w, i32_w]; rfl, ?_⟩
                  refine tk 12 (some 91) (bs 33 16383) HT_ HW_ rfl rfl (by kernel_rfl) (fun _ _ _ _ h => h) hHeld ⟨_, .inl ⟨by rfl, by rintro w' ⟨s0, s1, s2, s3, s4, s5⟩; go_simp; with_reducible rfl⟩, _, by simp only [Act.put, sA, sB, sC, i64_w, i32_w]; rfl, ?_⟩
                  refine pu 14 (some 93) (bs 33 32767) HT_ rfl rfl (by kernel_rfl) (fun _ _ _ _ h => h) ⟨_, .inl ⟨by rfl, fun _ => by go_simp; with_reducible rfl⟩, _, by simp only [Act.put, sA, sB, sC, i64_w, i32_w]; rfl, ?_⟩
                  refine pu 15 (some 94) (bs 33 65535) HT_ rfl rfl (by kernel_rfl) (fun _ _ _ _ h => h) ⟨_, .inl ⟨by rfl, fun _ => by go_simp; with_reducible rfl⟩, _, by simp only [Act.put, sA, sB, sC, i64_w, i32_w]; rfl, ?_⟩
                  refine tk 16 (some 95) (bs 33 131071) HT_ HW_ rfl rfl (by kernel_rfl) (fun _ _ _ _ h => h) hHeld ⟨_, .inl ⟨by rfl, by rintro w' ⟨s0, s1, s2, s3, s4, s5⟩; go_simp; with_reducible rfl⟩, _, by simp only [Act.put, sA, sB, sC, i64_w, i32_w]; rfl, ?_⟩
                  refine pu 17 (some 96) (bs 33 262143) HT_ rfl rfl (by kernel_rfl) (fun _ _ _ _ h => h) ⟨_, .inl ⟨by rfl, fun _ => by go_simp; with_reducible rfl⟩, _, by simp only [Act.put, sA, sB, sC, i64_w, i32_w]; rfl, ?_⟩
                  refine pu 18 (some 97) (bs 33 524287) HT_ rfl rfl (by kernel_rfl) (fun _ _ _ _ h => h) ⟨_, .inl ⟨by rfl, fun _ => by go_simp; with_reducible rfl⟩, _, by simp only [Act.put, sA, sB, sC, i64_w, i32_w]; rfl, ?_⟩
                  refine pu 19 (some 98) (bs 33 1048575) HT_ rfl rfl (by kernel_rfl) (fun _ _ _ _ h => h) ⟨_, .inl ⟨by rfl, fun _ => by go_simp; with_reducible rfl⟩, _, by simp only [Act.put, sA, sB, sC, i64_w, i32_w]; rfl, ?_⟩
                  refine pu 20 (some 99) (bs 33 2097151) HT_ rfl rfl (by kernel_rfl) (fun _ _ _ _ h => h) ⟨_, .inl ⟨by rfl, fun _ => by go_simp; with_reducible rfl⟩, _, by simp only [Act.put, sA, sB, sC, i64_w, i32_w]; rfl, ?_⟩
                  refine pu 21 (some 100) (bs 33 4194303) HT_ rfl rfl (by kernel_rfl) (fun _ _ _ _ h => h) ⟨_, .inl ⟨by rfl, fun _ => by go_simp; with_reducible rfl⟩, _, by simp only [Act.put, sA, sB, sC, i64_w, i32_w]; rfl, ?_⟩
                  refine pu 22 (some 101) (bs 33 8388607) HT_ rfl rfl (by kernel_rfl) (fun _ _ _ _ h => h) ⟨_, .inl ⟨by rfl, fun _ => by go_simp; with_reducible rfl⟩, _, by simp only [Act.put, sA, sB, sC, i64_w, i32_w]; rfl, ?_⟩
                  refine pu 23 (some 102) (bs 33 16777215) HT_ rfl rfl (by kernel_rfl) (fun _ _ _ _ h => h) ⟨_, .inl ⟨by rfl, fun _ => by go_simp; with_reducible rfl⟩, _, by simp only [Act.put, sA, sB, sC, i64_w, i32_w]; rfl, ?_⟩
                  refine pu 25 (some 104) (bs 33 50331647) HT_ rfl rfl (by kernel_rfl) (fun _ _ _ _ h => h) ⟨_, .inl ⟨by rfl, fun _ => by go_simp; with_reducible rfl⟩, _, by simp only [Act.put, sA, sB, sC, i64_w, i32_w]; rfl, ?_⟩
                  refine pu 27 (some 106) (bs 33 184549375) HT_ rfl rfl (by kernel_rfl) (fun _ _ _ _ h => h) ⟨_, .inl ⟨by rfl, fun _ => by go_simp; with_reducible rfl⟩, _, by simp only [Act.put, sA, sB, sC, i64_w, i32_w]; rfl, ?_⟩
                  refine tk 24 (some 103) (bs 33 201326591) HT_ HW_ rfl rfl (by kernel_rfl) (fun _ _ _ _ h => h) hHeld ⟨_, .inl ⟨by rfl, by rintro w' ⟨s0, s1, s2, s3, s4, s5⟩; go_simp; with_reducible rfl⟩, _, by simp only [Act.put, sA, sB, sC, i64_w, i32_w]; rfl, ?_⟩
                  refine tk 26 (some 105) (bs 33 268435455) HT_ HW_ rfl rfl (by kernel_rfl) (fun _ _ _ _ h => h) hHeld ⟨_, .inl ⟨by rfl, by rintro w' ⟨s0, s1, s2, s3, s4, s5⟩; go_simp; with_reducible rfl⟩, _, by simp only [Act.put, sA, sB, sC, i64_w, i32_w]; rfl, ?_⟩
                  refine pu 28 (some 107) (bs 33 536870911) HT_ rfl rfl (by kernel_rfl) (fun _ _ _ _ h => h) ⟨_, .inl ⟨by rfl, fun _ => by go_simp; with_reducible rfl⟩, _, by simp only [Act.put, sA, sB, sC, i64_w, i32_w]; rfl, ?_⟩
                  refine pu 29 (some 108) (bs 33 1073741823) HT_ rfl rfl (by kernel_rfl) (fun _ _ _ _ h => h) ⟨_, .inl ⟨by rfl, fun _ => by go_simp; with_reducible rfl⟩, _, by simp only [Act.put, sA, sB, sC, i64_w, i32_w]; rfl, ?_⟩
                  refine tk 30 (some 109) (bs 33 2147483647) HT_ HW_ rfl rfl (by kernel_rfl) (fun _ _ _ _ h => h) hHeld ⟨_, .inl ⟨by rfl, by rintro w' ⟨s0, s1, s2, s3, s4, s5⟩; go_simp; with_reducible rfl⟩, _, by simp only [Act.put, sA, sB, sC, i64_w, i32_w]; rfl, ?_⟩
                  refine pu 31 (some 110) (bs 33 4294967295) HT_ rfl rfl (by kernel_rfl) (fun _ _ _ _ h => h) ⟨_, .inl ⟨by rfl, fun _ => by go_simp; with_reducible rfl⟩, _, by simp only [Act.put, sA, sB, sC, i64_w, i32_w]; rfl, ?_⟩
                  refine pu 32 (some 111) (bs 33 8589934591) HT_ rfl rfl (by kernel_rfl) (fun _ _ _ _ h => h) ⟨_, .inl ⟨by rfl, fun _ => by go_simp; with_reducible rfl⟩, _, by simp only [Act.put, sA, sB, sC, i64_w, i32_w]; rfl, ?_⟩
                  refine done_ (done_of HT_.out (by kernel_rfl)) ?_
                  have hD2 := Lib.hid (hD.out.below HB7)
                  clear hD f7 f8 f2 q35 HB
                  go_upto_region 25 with (first
                    | ((with_reducible refine wpList_flag rfl rfl 4 (.tmp 116) (.const (.bool true)) rfl (ad := ad0) (g := g0) (n := n0) (cap := d0) (base := wrb.heap.size) (k := k) (j := 7) (ok := fun k => k < m) (xs := ns.map (ndS (pl.take i))) (o := o) (o' := cord o) (u := .bool true) (w0 := wrb) ?t1 ?t2 ?t3 ?t4 ?t5 ?t6 ?t7 ?t8 ?t9 ?t10 ?t11 ?t12 ?_); (case t1 => exact HS.out.2.2.2.2.2.2.1); (case t2 => rfl); (case t3 => rfl); (case t4 => rfl); (case t5 => exact infoB1); (case t6 => rfl); (case t7 => exact hD2.out.r0); (case t8 => exact HS.out.1); (case t9 => decide); (case t10 => exact cord_set o); (case t11 => exact ⟨rfl, rfl⟩); (case t12 => exact hD2.out.bl); intro w8 R8 b8 G8; have hD8 := Lib.hid (hD2.out.node (P' := pl.take (i + 1)) HS.out.2.2.2.2.2.2.2.1 HS.out.2.2.2.2.2.2.2.2.1 (by rw [HS.out.2.1]; exact R8) HS.out.2.2.1 b8 G8); clear R8 b8 G8))
                  have hk8 : (ns.map (ndS (pl.take (i + 1))))[k]? = some (cord o) := by rw [HS.out.2.1, List.getElem?_set_self (List.getElem?_eq_some_iff.1 HS.out.1).1]
                  obtain ⟨ad8, g8, y4, y27, ea, _, _, _, _, hO8⟩ := at_obj hD8.out.r0 hk8
                  injection ea with ea
                  subst ea
                  obtain ⟨adr, z4, z27, er, hz4, hz27, hzv, hzf, hzo⟩ := rq_cells hD8.out.rl HR.out.1
                  injection er with er
                  subst er
                  obtain ⟨cs, hcs⟩ : ∃ cs, cs = (cord o).cells y4 y27 := ⟨_, rfl⟩
                  obtain ⟨ds, hds⟩ : ∃ ds, ds = (cord o).cells z4 z27 := ⟨_, rfl⟩
                  have hi1 : Hid ((Tryd.prog.info? 39).map (·.size) = some cs.size) := Lib.hid (by rw [hcs, Ob.cells_size]; kernel_rfl)
                  have hi2 : Hid ((Tryd.prog.info? 39).map (·.size) = some ds.size) := Lib.hid (by rw [hds, Ob.cells_size]; kernel_rfl)
                  have B1c := hO8.cells
                  have B2c : ∀ (j : Nat) (u : Value), ((cord o).cells z4 z27)[j]? = some u → w8.cell? ((⟨(adq.add (i * 42)).block, (adq.add (i * 42)).off + 1, none⟩ : Addr).add j) = some u := hzo
                  rw [← hcs] at B1c
                  rw [← hds] at B2c
                  have esame : sameB (cord o) (cord o) = true := (sameB_iff _ _).2 rfl
                  have QS := Lib.hid (fun (W : World) (hW : Below w8.heap.size w8 W) => sameObject_calls (cord o) (cord o) y4 y27 z4 z27 W (hO8.l4.below hW) (hO8.l27.below hW) (hz4.below hW) (hz27.below hW))
                  rw [esame, ← hcs, ← hds] at QS
                  replace B1c := Lib.hid (fun (W : World) (hW : Below w8.heap.size w8 W) j u hu => cell_below hW (B1c j u hu))
                  replace B2c := Lib.hid (fun (W : World) (hW : Below w8.heap.size w8 W) j u hu => cell_below hW (B2c j u hu))
                  have HB8 : Below w8.heap.size w8 w8.drew := below_drew (Below.refl _ _)
                  have E8 : w8.drew.cell? ⟨gg, 0, none⟩ = some (.slice (some ad0) n0 d0) := (cell_of_row _ _ 0 _ _ _ hD8.out.gb).trans rfl
                  clear E1 hcs hds hO8 hz4 hz27 hzv hzf hzo hk8 esame hD2 HB7
                  refine start_ (n := 12) (S := fun w' => Below w8.heap.size w8 w' ∧ w'.cell? ⟨gg, 0, none⟩ = some (.slice (some ad0) n0 d0)) (ds := []) (bs 12 0) (by kernel_rfl) rfl (by kernel_rfl) ⟨HB8, E8⟩ (fun hHeld => ?_)
                  refine with_tabW rg4_25_tab rg4_25_bits (fun HT_ HW_ => ?_)
                  refine pu 0 (some 117) (bs 12 1) HT_ rfl rfl (by kernel_rfl) (fun _ _ _ _ h => h) ⟨_, .inl ⟨by rfl, fun _ => by go_simp; with_reducible rfl⟩, _, by simp only [Act.put, sA, sB, sC, i64_w, i32_w]; rfl, ?_⟩
                  refine pu 2 (some 119) (bs 12 5) HT_ rfl rfl (by kernel_rfl) (fun _ _ _ _ h => h) ⟨_, .inl ⟨by rfl, fun _ => by go_simp; with_reducible rfl⟩, _, by simp only [Act.put, sA, sB, sC, i64_w, i32_w]; rfl, ?_⟩
                  refine pu 5 (some 122) (bs 12 37) HT_ rfl rfl (by kernel_rfl) (fun _ _ _ _ h => h) ⟨_, .inl ⟨by rfl, fun _ => by go_simp; with_reducible rfl⟩, _, by simp only [Act.put, sA, sB, sC, i64_w, i32_w]; rfl, ?_⟩
                  refine pu 6 (some 123) (bs 12 101) HT_ rfl rfl (by kernel_rfl) (fun _ _ _ _ h => h) ⟨_, .inl ⟨by rfl, fun _ => by go_simp; with_reducible rfl⟩, _, by simp only [Act.put, sA, sB, sC, i64_w, i32_w]; rfl, ?_⟩
                  refine pu 7 (some 124) (bs 12 229) HT_ rfl rfl (by kernel_rfl) (fun _ _ _ _ h => h) ⟨_, .inl ⟨by rfl, fun _ => by go_simp; with_reducible rfl⟩, _, by simp only [Act.put, sA, sB, sC, i64_w, i32_w]; rfl, ?_⟩
                  refine pu 8 (some 125) (bs 12 485) HT_ rfl rfl (by kernel_rfl) (fun _ _ _ _ h => h) ⟨_, .inl ⟨by rfl, fun _ => by go_simp; with_reducible rfl⟩, _, by simp only [Act.put, sA, sB, sC, i64_w, i32_w]; rfl, ?_⟩
                  refine tk 1 (some 118) (bs 12 487) HT_ HW_ rfl rfl (by kernel_rfl) (fun _ _ _ _ h => h) hHeld ⟨_, .inl ⟨by rfl, by rintro w' ⟨s0, s1⟩; go_simp; with_reducible rfl⟩, _, by simp only [Act.put, sA, sB, sC, i64_w, i32_w]; rfl, ?_⟩
                  refine pu 3 (some 120) (bs 12 495) HT_ rfl rfl (by kernel_rfl) (fun _ _ _ _ h => h) ⟨_, .inl ⟨by rfl, fun _ => by go_simp; with_reducible rfl⟩, _, by simp only [Act.put, sA, sB, sC, i64_w, i32_w]; rfl, ?_⟩
                  refine tk 4 (some 121) (bs 12 511) HT_ HW_ rfl rfl (by kernel_rfl) (fun _ _ _ _ h => h) hHeld ⟨_, .inl ⟨by rfl, by rintro w' ⟨s0, s1⟩; refine load_any_ (x := .tmp 120) (p := ad0.add (k * 32)) ?_ ?_ (B1c.out _ s0) Tryd.underlying39 rfl hi1.out <;> first | rfl | (go_simp; done) | (go_simp; with_reducible rfl)⟩, _, by simp only [Act.put, sA, sB, sC, i64_w, i32_w]; rfl, ?_⟩
                  refine tk 9 (some 126) (bs 12 1023) HT_ HW_ rfl rfl (by kernel_rfl) (fun _ _ _ _ h => h) hHeld ⟨_, .inl ⟨by rfl, by rintro w' ⟨s0, s1⟩; refine load_any_ (x := .tmp 125) (p := ⟨(adq.add (i * 42)).block, (adq.add (i * 42)).off + 1, none⟩) ?_ ?_ (B2c.out _ s0) Tryd.underlying39 rfl hi2.out <;> first | rfl | (go_simp; done) | (go_simp; with_reducible rfl)⟩, _, by simp only [Act.put, sA, sB, sC, i64_w, i32_w]; rfl, ?_⟩
                  refine on1 10 (some 127) (bs 12 2047) HT_ rfl rfl (by kernel_rfl) (by decide) (fun K hK => ?_)
                  refine goes_ Tryd.func16 (by kernel_rfl) rfl #[.agg cs, .agg ds] (by rfl) rfl rfl (by (try simp only [List.map_toArray, List.map_cons, List.map_nil]); first | done | rfl) ?_
                  with_reducible refine (QS.out _ HB8).mono ?_
                  rintro e w9 ⟨rfl, hb⟩
                  replace HB8 := belT HB8 hb
                  replace E8 := cell_below hb E8
                  clear hb
                  refine ⟨_, rfl, ?_⟩
                  refine hK.out _ _ ⟨HB8, E8⟩ (fun hHeld => ?_)
                  clear hK K
                  refine nm ⟨_, show Act.put _ (some 127) _ = _ by simp only [Act.put, sA, sB, sC, i64_w, i32_w]; rfl, ?_⟩
                  refine pu 11 (some 128) (bs 12 4095) HT_ rfl rfl (by kernel_rfl) (fun _ _ _ _ h => h) ⟨_, .inl ⟨by rfl, fun _ => by go_simp; with_reducible rfl⟩, _, by simp only [Act.put, sA, sB, sC, i64_w, i32_w]; rfl, ?_⟩
                  refine done_ (done_of HT_.out (by kernel_rfl)) ?_
                  clear hHeld E8 B1c B2c QS
                  go_wp2
                  go_roundw
                  case rel => exact ⟨i + 1, by omega, by go_num, Lib.hid (hD8.out.below HB8)⟩
                  case measure => simp [intOf]; omega
                · obtain ⟨k, hk⟩ := List.mem_iff_getElem?.1 hpm
                  obtain ⟨hs1, hs2, hs3⟩ := step_evict HNn.out HNp.out (by rw [← HP.out.1]; exact hr) hk
                  rw [← HP.out.1] at hs1 hs2 hs3
                  have hfi : findI (ps.map (pdS (pl.take i))) p.name = (k : Int) := (findI_map (pdS_name _) _).trans (findI_at HNp.out hk)
                  obtain ⟨kn, on, hkn1, hkn2, hkn3, _⟩ := evict_drains HNn.out HNp.out hpm (by rw [← HP.out.1]; exact List.mem_of_getElem? hr)
                  obtain ⟨ad1, g1, x4, x27, eB1, had1, hg1m, hg1B, hg1s, hO⟩ := at_obj hI.out.r1 hs1
                  subst eB1
                  have hkn : k < n1 := by have h1 := (List.getElem?_eq_some_iff.1 hk).1; have h2 := HC.out.2.1; omega
                  have hkl : (k : Int) < (n1 : Int) := by omega
                  have hk0 : ((k : Int) < 0) = False := by simp
                  obtain ⟨nq, hnq⟩ : ∃ s, s = p.name := ⟨_, rfl⟩
                  obtain ⟨nd, hnd⟩ : ∃ s, s = p.node := ⟨_, rfl⟩
                  rw [← hnq] at hfi
                  rw [← hnd] at hkn2
                  have QF := Lib.hid (fun W (hW : Below wrc.heap.size wrc W) => find_calls (some ad1) d1 n1 (ps.map (pdS (pl.take i))) nq W (Kd.C_below (R_cn hI.out.r1 (by rw [List.length_map]; exact HC.out.2.1)) hW) (by omega))
                  rw [hfi] at QF
                  have QD := Lib.hid (fun W (hW : Below wrc.heap.size wrc W) => drains_calls (.slice A1 n1 c1) (.slice A2 n2 c2) (.slice A3 n3 c3) A0 c0 n0 kn ns nd on W (Kd.C_below HC.out.1 (belT HB2.out (belT HL2.out (belT hI.out.bl hW)))) (by omega) hkn1 hkn2 hkn3)
                  have E0 : wrc.cell? (adq.add (i * 42)) = some (.int .i64 6) := hqv
                  have HB : Below wrc.heap.size wrc wrc.drew := below_drew (Below.refl _ _)
                  have E1 : wrc.drew.cell? ⟨gg, 1, none⟩ = some (.slice (some ad1) n1 d1) := (cell_of_row _ _ 1 _ _ _ hI.out.gb).trans rfl
                  have E2 : wrc.drew.cell? ⟨(adq.add (i * 42)).block, (adq.add (i * 42)).off + 34, none⟩ = some (.string nq) := hqf 34 (.string nq) (by decide) (by rw [hnq]; rfl)
                  have HO := Lib.hid (And.intro hO E0)
                  have HS := Lib.hid (And.intro hs1 (And.intro hs2 (And.intro hs3 (And.intro hpe (And.intro hnd (And.intro had1 (And.intro hg1m hg1B)))))))
                  clear hO hq4 hq27 hqf hqo hs1 hs2 hs3 hpe hpn hdr hnq hnd had1 hg1m hg1B hg1s hfi hqv hr hk hom hpm hkn1 hkn2 hkn3
                  go_upto_region 27 with (fail)
                  refine start_ (n := 9) (S := fun w' => Below wrc.heap.size wrc w' ∧ w'.cell? ⟨gg, 1, none⟩ = some (.slice (some ad1) n1 d1) ∧ w'.cell? ⟨(adq.add (i * 42)).block, (adq.add (i * 42)).off + 34, none⟩ = some (.string nq)) (ds := []) (bs 9 0) (by kernel_rfl) rfl (by kernel_rfl) ⟨HB, E1, E2⟩ (fun hHeld => ?_)
                  refine with_tabW rg4_27_tab rg4_27_bits (fun HT_ HW_ => ?_)
                  refine pu 0 (some 129) (bs 9 1) HT_ rfl rfl (by kernel_rfl) (fun _ _ _ _ h => h) ⟨_, .inl ⟨by rfl, fun _ => by go_simp; with_reducible rfl⟩, _, by simp only [Act.put, sA, sB, sC, i64_w, i32_w]; rfl, ?_⟩
                  refine pu 2 (some 131) (bs 9 5) HT_ rfl rfl (by kernel_rfl) (fun _ _ _ _ h => h) ⟨_, .inl ⟨by rfl, fun _ => by go_simp; with_reducible rfl⟩, _, by simp only [Act.put, sA, sB, sC, i64_w, i32_w]; rfl, ?_⟩
                  refine pu 3 (some 132) (bs 9 13) HT_ rfl rfl (by kernel_rfl) (fun _ _ _ _ h => h) ⟨_, .inl ⟨by rfl, fun _ => by go_simp; with_reducible rfl⟩, _, by simp only [Act.put, sA, sB, sC, i64_w, i32_w]; rfl, ?_⟩
                  refine pu 4 (some 133) (bs 9 29) HT_ rfl rfl (by kernel_rfl) (fun _ _ _ _ h => h) ⟨_, .inl ⟨by rfl, fun _ => by go_simp; with_reducible rfl⟩, _, by simp only [Act.put, sA, sB, sC, i64_w, i32_w]; rfl, ?_⟩
                  refine pu 5 (some 134) (bs 9 61) HT_ rfl rfl (by kernel_rfl) (fun _ _ _ _ h => h) ⟨_, .inl ⟨by rfl, fun _ => by go_simp; with_reducible rfl⟩, _, by simp only [Act.put, sA, sB, sC, i64_w, i32_w]; rfl, ?_⟩
                  refine tk 1 (some 130) (bs 9 63) HT_ HW_ rfl rfl (by kernel_rfl) (fun _ _ _ _ h => h) hHeld ⟨_, .inl ⟨by rfl, by rintro w' ⟨s0, s1, s2⟩; go_simp; with_reducible rfl⟩, _, by simp only [Act.put, sA, sB, sC, i64_w, i32_w]; rfl, ?_⟩
                  refine tk 6 (some 135) (bs 9 127) HT_ HW_ rfl rfl (by kernel_rfl) (fun _ _ _ _ h => h) hHeld ⟨_, .inl ⟨by rfl, by rintro w' ⟨s0, s1, s2⟩; go_simp; with_reducible rfl⟩, _, by simp only [Act.put, sA, sB, sC, i64_w, i32_w]; rfl, ?_⟩
                  refine on1 7 (some 136) (bs 9 255) HT_ rfl rfl (by kernel_rfl) (by decide) (fun K hK => ?_)
                  refine goes_ Tryd.func13 (by kernel_rfl) rfl #[.slice (some ad1) n1 d1, .string nq] (by rfl) rfl rfl (by (try simp only [List.map_toArray, List.map_cons, List.map_nil]); first | done | rfl) ?_
                  with_reducible refine (QF.out _ HB).mono ?_
                  rintro e w7 ⟨rfl, hb⟩
                  replace HB := belT HB hb
                  replace E1 := cell_below hb E1
                  replace E2 := cell_below hb E2
                  clear hb
                  refine ⟨_, rfl, ?_⟩
                  refine hK.out _ _ ⟨HB, E1, E2⟩ (fun hHeld => ?_)
                  clear hK K
                  refine nm ⟨_, show Act.put _ (some 136) _ = _ by simp only [Act.put, sA, sB, sC, i64_w, i32_w]; rfl, ?_⟩
                  refine pu 8 (some 9) (bs 9 511) HT_ rfl rfl (by kernel_rfl) (fun _ _ _ _ h => h) ⟨_, .inl ⟨by rfl, fun _ => by go_simp; with_reducible rfl⟩, _, by simp only [Act.put, sA, sB, sC, i64_w, i32_w]; rfl, ?_⟩
                  refine done_ (done_of HT_.out (by kernel_rfl)) ?_
                  have hD := Lib.hid (hI.out.below HB)
                  have HB7 := belT HB (below_drew (Below.refl w7.heap.size w7))
                  have HB8 : Below w7.heap.size w7 w7.drew := below_drew (Below.refl _ _)
                  replace E1 := cell_below HB8 E1
                  have E6 := cell_below HB7 HO.out.2
                  have f16 : w7.drew.cell? ⟨(ad1.add (k * 32)).block, (ad1.add (k * 32)).off + 16, none⟩ = some (.bool false) := (HO.out.1.below HB7).field 16 (by decide) (by rw [← HS.out.2.2.2.1]; rfl)
                  have f13 : w7.drew.cell? ⟨(ad1.add (k * 32)).block, (ad1.add (k * 32)).off + 13, none⟩ = some (.string nd) := (HO.out.1.below HB7).field 13 (by decide) (by rw [HS.out.2.2.2.2.1]; rfl)
                  have fla : w7.drew.heap[ga]? = some (.cells #[.slice A0 n0 c0, .slice A1 n1 c1, .slice A2 n2 c2, .slice A3 n3 c3] 24 (0, 0)) := blkB HB8 hD.out.fl
                  clear hHeld E2 QF E0
                  go_upto_region 28 with (fail)
                  refine start_ (n := 29) (S := fun w' => Below wrc.heap.size wrc w' ∧ w'.cell? ⟨gg, 1, none⟩ = some (.slice (some ad1) n1 d1) ∧ w'.cell? (adq.add (i * 42)) = some (.int .i64 6) ∧ w'.cell? ⟨(ad1.add (k * 32)).block, (ad1.add (k * 32)).off + 16, none⟩ = some (.bool false) ∧ w'.cell? ⟨(ad1.add (k * 32)).block, (ad1.add (k * 32)).off + 13, none⟩ = some (.string nd) ∧ w'.heap[ga]? = some (.cells #[.slice A0 n0 c0, .slice A1 n1 c1, .slice A2 n2 c2, .slice A3 n3 c3] 24 (0, 0))) (ds := []) (bs 29 0) (by kernel_rfl) rfl (by kernel_rfl) ⟨HB7, E1, E6, f16, f13, fla⟩ (fun hHeld => ?_)
                  refine with_tabW rg4_28_tab rg4_28_bits (fun HT_ HW_ => ?_)
                  refine pu 0 (some 137) (bs 29 1) HT_ rfl rfl (by kernel_rfl) (fun _ _ _ _ h => h) ⟨_, .inl ⟨by rfl, fun _ => by go_simp; with_reducible rfl⟩, _, by simp only [Act.put, sA, sB, sC, i64_w, i32_w]; rfl, ?_⟩
                  refine pu 1 (some 138) (bs 29 3) HT_ rfl rfl (by kernel_rfl) (fun _ _ _ _ h => h) ⟨_, .inl ⟨by rfl, fun _ => by go_simp; with_reducible rfl⟩, _, by simp only [Act.put, sA, sB, sC, i64_w, i32_w]; rfl, ?_⟩
                  refine pu 2 (some 139) (bs 29 7) HT_ rfl rfl (by kernel_rfl) (fun _ _ _ _ h => h) ⟨_, .inl ⟨by rfl, fun _ => by go_simp; with_reducible rfl⟩, _, by simp only [Act.put, sA, sB, sC, i64_w, i32_w]; rfl, ?_⟩
                  refine pu 3 (some 140) (bs 29 15) HT_ rfl rfl (by kernel_rfl) (fun _ _ _ _ h => h) ⟨_, .inl ⟨by rfl, fun _ => by go_simp; with_reducible rfl⟩, _, by simp only [Act.put, sA, sB, sC, i64_w, i32_w]; rfl, ?_⟩
                  refine tk 4 (some 141) (bs 29 31) HT_ HW_ rfl rfl (by kernel_rfl) (fun _ _ _ _ h => h) hHeld ⟨_, .inl ⟨by rfl, by rintro w' ⟨s0, s1, s2, s3, s4, s5⟩; go_simp; with_reducible rfl⟩, _, by simp only [Act.put, sA, sB, sC, i64_w, i32_w]; rfl, ?_⟩
                  refine pu 5 (some 142) (bs 29 63) HT_ rfl rfl (by kernel_rfl) (fun _ _ _ _ h => h) ⟨_, .inl ⟨by rfl, fun _ => by go_simp; with_reducible rfl⟩, _, by simp only [Act.put, sA, sB, sC, i64_w, i32_w]; rfl, ?_⟩
                  refine pu 6 (some 143) (bs 29 127) HT_ rfl rfl (by kernel_rfl) (fun _ _ _ _ h => h) ⟨_, .inl ⟨by rfl, fun _ => by go_simp; with_reducible rfl⟩, _, by simp only [Act.put, sA, sB, sC, i64_w, i32_w]; rfl, ?_⟩
                  refine pu 7 (some 144) (bs 29 255) HT_ rfl rfl (by kernel_rfl) (fun _ _ _ _ h => h) ⟨_, .inl ⟨by rfl, fun _ => by go_simp; with_reducible rfl⟩, _, by simp only [Act.put, sA, sB, sC, i64_w, i32_w]; rfl, ?_⟩
                  refine pu 8 (some 145) (bs 29 511) HT_ rfl rfl (by kernel_rfl) (fun _ _ _ _ h => h) ⟨_, .inl ⟨by rfl, fun _ => by go_simp; with_reducible rfl⟩, _, by simp only [Act.put, sA, sB, sC, i64_w, i32_w]; rfl, ?_⟩
                  refine pu 9 (some 146) (bs 29 1023) HT_ rfl rfl (by kernel_rfl) (fun _ _ _ _ h => h) ⟨_, .inl ⟨by rfl, fun _ => by go_simp; with_reducible rfl⟩, _, by simp only [Act.put, sA, sB, sC, i64_w, i32_w]; rfl, ?_⟩
                  refine pu 10 (some 147) (bs 29 2047) HT_ rfl rfl (by kernel_rfl) (fun _ _ _ _ h => h) ⟨_, .inl ⟨by rfl, fun _ => by go_simp; with_reducible rfl⟩, _, by simp only [Act.put, sA, sB, sC, i64_w, i32_w]; rfl, ?_⟩
                  refine pu 11 (some 148) (bs 29 4095) HT_ rfl rfl (by kernel_rfl) (fun _ _ _ _ h => h) ⟨_, .inl ⟨by rfl, fun _ => by go_simp; with_reducible rfl⟩, _, by simp only [Act.put, sA, sB, sC, i64_w, i32_w]; rfl, ?_⟩
                  refine pu 13 (some 150) (bs 29 12287) HT_ rfl rfl (by kernel_rfl) (fun _ _ _ _ h => h) ⟨_, .inl ⟨by rfl, fun _ => by go_simp; with_reducible rfl⟩, _, by simp only [Act.put, sA, sB, sC, i64_w, i32_w]; rfl, ?_⟩
                  refine tk 12 (some 149) (bs 29 16383) HT_ HW_ rfl rfl (by kernel_rfl) (fun _ _ _ _ h => h) hHeld ⟨_, .inl ⟨by rfl, by rintro w' ⟨s0, s1, s2, s3, s4, s5⟩; go_simp; with_reducible rfl⟩, _, by simp only [Act.put, sA, sB, sC, i64_w, i32_w]; rfl, ?_⟩
                  refine pu 14 (some 151) (bs 29 32767) HT_ rfl rfl (by kernel_rfl) (fun _ _ _ _ h => h) ⟨_, .inl ⟨by rfl, fun _ => by go_simp; with_reducible rfl⟩, _, by simp only [Act.put, sA, sB, sC, i64_w, i32_w]; rfl, ?_⟩
                  refine pu 15 (some 152) (bs 29 65535) HT_ rfl rfl (by kernel_rfl) (fun _ _ _ _ h => h) ⟨_, .inl ⟨by rfl, fun _ => by go_simp; with_reducible rfl⟩, _, by simp only [Act.put, sA, sB, sC, i64_w, i32_w]; rfl, ?_⟩
                  refine tk 16 (some 153) (bs 29 131071) HT_ HW_ rfl rfl (by kernel_rfl) (fun _ _ _ _ h => h) hHeld ⟨_, .inl ⟨by rfl, by rintro w' ⟨s0, s1, s2, s3, s4, s5⟩; go_simp; with_reducible rfl⟩, _, by simp only [Act.put, sA, sB, sC, i64_w, i32_w]; rfl, ?_⟩
                  refine pu 17 (some 154) (bs 29 262143) HT_ rfl rfl (by kernel_rfl) (fun _ _ _ _ h => h) ⟨_, .inl ⟨by rfl, fun _ => by go_simp; with_reducible rfl⟩, _, by simp only [Act.put, sA, sB, sC, i64_w, i32_w]; rfl, ?_⟩
                  refine pu 18 (some 155) (bs 29 524287) HT_ rfl rfl (by kernel_rfl) (fun _ _ _ _ h => h) ⟨_, .inl ⟨by rfl, fun _ => by go_simp; with_reducible rfl⟩, _, by simp only [Act.put, sA, sB, sC, i64_w, i32_w]; rfl, ?_⟩
                  refine pu 20 (some 157) (bs 29 1572863) HT_ rfl rfl (by kernel_rfl) (fun _ _ _ _ h => h) ⟨_, .inl ⟨by rfl, fun _ => by go_simp; with_reducible rfl⟩, _, by simp only [Act.put, sA, sB, sC, i64_w, i32_w]; rfl, ?_⟩
                  refine pu 22 (some 159) (bs 29 5767167) HT_ rfl rfl (by kernel_rfl) (fun _ _ _ _ h => h) ⟨_, .inl ⟨by rfl, fun _ => by go_simp; with_reducible rfl⟩, _, by simp only [Act.put, sA, sB, sC, i64_w, i32_w]; rfl, ?_⟩
                  refine tk 19 (some 156) (bs 29 6291455) HT_ HW_ rfl rfl (by kernel_rfl) (fun _ _ _ _ h => h) hHeld ⟨_, .inl ⟨by rfl, by rintro w' ⟨s0, s1, s2, s3, s4, s5⟩; refine load_row (x := .tmp 1) ?_ ?_ s5 Tryd.underlying24 rfl infoF4 <;> first | rfl | (go_simp; done) | (go_simp; with_reducible rfl)⟩, _, by simp only [Act.put, sA, sB, sC, i64_w, i32_w]; rfl, ?_⟩
                  refine tk 21 (some 158) (bs 29 8388607) HT_ HW_ rfl rfl (by kernel_rfl) (fun _ _ _ _ h => h) hHeld ⟨_, .inl ⟨by rfl, by rintro w' ⟨s0, s1, s2, s3, s4, s5⟩; go_simp; with_reducible rfl⟩, _, by simp only [Act.put, sA, sB, sC, i64_w, i32_w]; rfl, ?_⟩
                  refine pu 23 (some 160) (bs 29 16777215) HT_ rfl rfl (by kernel_rfl) (fun _ _ _ _ h => h) ⟨_, .inl ⟨by rfl, fun _ => by go_simp; with_reducible rfl⟩, _, by simp only [Act.put, sA, sB, sC, i64_w, i32_w]; rfl, ?_⟩
                  refine pu 24 (some 161) (bs 29 33554431) HT_ rfl rfl (by kernel_rfl) (fun _ _ _ _ h => h) ⟨_, .inl ⟨by rfl, fun _ => by go_simp; with_reducible rfl⟩, _, by simp only [Act.put, sA, sB, sC, i64_w, i32_w]; rfl, ?_⟩
                  refine tk 25 (some 162) (bs 29 67108863) HT_ HW_ rfl rfl (by kernel_rfl) (fun _ _ _ _ h => h) hHeld ⟨_, .inl ⟨by rfl, by rintro w' ⟨s0, s1, s2, s3, s4, s5⟩; go_simp; with_reducible rfl⟩, _, by simp only [Act.put, sA, sB, sC, i64_w, i32_w]; rfl, ?_⟩
                  refine on1 26 (some 163) (bs 29 134217727) HT_ rfl rfl (by kernel_rfl) (by decide) (fun K hK => ?_)
                  refine goes_ Tryd.func17 (by kernel_rfl) rfl #[.agg #[.slice A0 n0 c0, .slice A1 n1 c1, .slice A2 n2 c2, .slice A3 n3 c3], .string nd] (by rfl) rfl rfl (by (try simp only [List.map_toArray, List.map_cons, List.map_nil]); first | done | rfl) ?_
                  with_reducible refine (QD.out _ HB7).mono ?_
                  rintro e w8 ⟨rfl, hb⟩
                  replace HB7 := belT HB7 hb
                  replace E1 := cell_below hb E1
                  replace E6 := cell_below hb E6
                  replace f16 := cell_below hb f16
                  replace f13 := cell_below hb f13
                  replace fla := blkB hb fla
                  clear hb
                  refine ⟨_, rfl, ?_⟩
                  refine hK.out _ _ ⟨HB7, E1, E6, f16, f13, fla⟩ (fun hHeld => ?_)
                  clear hK K
                  refine nm ⟨_, show Act.put _ (some 163) _ = _ by simp only [Act.put, sA, sB, sC, i64_w, i32_w]; rfl, ?_⟩
                  refine pu 27 (some 164) (bs 29 268435455) HT_ rfl rfl (by kernel_rfl) (fun _ _ _ _ h => h) ⟨_, .inl ⟨by rfl, fun _ => by go_simp; with_reducible rfl⟩, _, by simp only [Act.put, sA, sB, sC, i64_w, i32_w]; rfl, ?_⟩
                  refine pu 28 (some 165) (bs 29 536870911) HT_ rfl rfl (by kernel_rfl) (fun _ _ _ _ h => h) ⟨_, .inl ⟨by rfl, fun _ => by go_simp; with_reducible rfl⟩, _, by simp only [Act.put, sA, sB, sC, i64_w, i32_w]; rfl, ?_⟩
                  refine done_ (done_of HT_.out (by kernel_rfl)) ?_
                  have hD2 := Lib.hid (hI.out.below HB7)
                  clear hD f16 f13 fla E6 HB HB8 hHeld
                  go_wp2_with (first
                    | ((with_reducible refine wpList_flag rfl rfl 4 (.tmp 170) (.const (.bool true)) rfl (ad := ad1) (g := g1) (n := n1) (cap := d1) (base := m) (k := k) (j := 16) (ok := fun k => k < gg) (xs := ps.map (pdS (pl.take i))) (o := p) (o' := endO p) (u := .bool true) (w0 := w8) ?t1 ?t2 ?t3 ?t4 ?t5 ?t6 ?t7 ?t8 ?t9 ?t10 ?t11 ?t12 ?_); (case t1 => exact HS.out.2.2.2.2.2.1); (case t2 => rfl); (case t3 => rfl); (case t4 => rfl); (case t5 => exact infoB1); (case t6 => rfl); (case t7 => exact hD2.out.r1); (case t8 => exact HS.out.1); (case t9 => decide); (case t10 => exact end_set p); (case t11 => exact ⟨rfl, rfl⟩); (case t12 => exact Below.refl _ _); intro w9 R9 b9 G9; have hD9 := Lib.hid (hD2.out.pod (P' := pl.take (i + 1)) HS.out.2.2.2.2.2.2.1 HS.out.2.2.2.2.2.2.2 (by rw [HS.out.2.1]; exact R9) HS.out.2.2.1 b9 G9); clear R9 b9 G9))
                  go_roundw
                  case rel => exact ⟨i + 1, by omega, by go_num, hD9⟩
                  case measure => simp [intOf]; omega
              · obtain rfl : kp = i := by omega
                have epl : pl.take kp = pl := by rw [HP.out.2, List.take_length]
                have hD : Hid (DS wrb wrc ga gg wrb.heap.size m B4 #[.slice A0 n0 c0, .slice A1 n1 c1, .slice A2 n2 c2, .slice A3 n3 c3] (.slice B0 n0 d0) (.slice B1 n1 d1) (.slice B2 l2.length d2) (.slice B3 l3.length d3) (.slice A6 kp c6) ns ps pl pl) := Lib.hid (by have h := hI.out; rw [epl] at h; exact h)
                clear epl hI
                obtain ⟨nn, hnn⟩ : ∃ x, x = ns.map (ndS pl) := ⟨_, rfl⟩
                obtain ⟨pp, hpp⟩ : ∃ x, x = ps.map (pdS pl) := ⟨_, rfl⟩
                have h0 : planF nn pp = [] := by rw [hnn, hpp, HP.out.1]; exact end_plan ns ps
                have fn0 : ∀ o ∈ nn, ObFits o := by rw [hnn]; exact ndS_fits HF.out.1
                have fp0 : ∀ o ∈ pp, ObFits o := by rw [hpp]; exact pdS_fits HF.out.2
                have ln0 : nn.length = n0 := by rw [hnn, List.length_map]; exact HC.out.1.1
                have lp0 : pp.length = n1 := by rw [hpp, List.length_map]; exact HC.out.2.1
                have HN2 : Hid (kO.C wrc B0 n0 nn ∧ kO.C wrc B1 n1 pp) := Lib.hid ⟨R_cn (by rw [hnn]; exact hD.out.r0) ln0, R_cn (by rw [hpp]; exact hD.out.r1) lp0⟩
                have QP := Lib.hid (fun W (hW : Below wrc.heap.size wrc W) => plan_calls B0 B1 n0 n1 d0 d1 (.slice B2 l2.length d2) (.slice B3 l3.length d3) nn pp W rfl rfl (Kd.C_below HN2.out.1 hW) (Kd.C_below HN2.out.2 hW) (by omega) (by omega) fn0 fp0)
                rw [h0] at QP
                have HX2 := Lib.hid (And.intro hnn (And.intro hpp (And.intro ln0 lp0)))
                clear hnn hpp h0 fn0 fp0 ln0 lp0
                go_wp2_with (first
                  | ((with_reducible refine wpList_load_blk (op := ⟨some 171, _, _, _, _, _⟩) rfl 24 (.tmp 5) rfl gg 24 ?da1 #[.slice B0 n0 d0, .slice B1 n1 d1, .slice B2 l2.length d2, .slice B3 l3.length d3] _ ?da2 Tryd.underlying24 ?da3 ?da4 ?_); (case da1 => rfl); (case da2 => exact hD.out.gb); (case da3 => rfl); (case da4 => exact infoF4))
                  | (go_at_call 15; (with_reducible refine (QP.out _ (Below.refl _ _)).mono ?_); rintro e w7 ⟨v7, rfl, hS7, hb7⟩; obtain ⟨A7, c7, e7⟩ := Kd.S_slice hS7; simp only [List.length_nil] at e7; subst e7; have HB7 := Lib.hid hb7; have EA : (w7.alloc (.cells #[.slice none 0 0, .slice none 0 0, .slice none 0 0, .slice none 0 0] 24)).cell? ⟨gg, 0, none⟩ = some (.slice B0 n0 d0) := (cell_of_row _ _ 0 _ _ _ (blkB (below_alloc (Below.refl w7.heap.size w7) _) (blkB hb7 hD.out.gb))).trans rfl; clear hS7 hb7)
                  | ((with_reducible refine wpList_store1 rfl 22 (.tmp 177) (.tmp 176) rfl w7.heap.size 0 24 #[.slice none 0 0, .slice none 0 0, .slice none 0 0, .slice none 0 0] (.slice B0 n0 d0) ?s1 ?s2 ?s3 ?s4 ?s5 ?s6 ?s7 ?_); (case s1 => rfl); (case s2 => rfl); (case s3 => rfl); (case s4 => exact heap_alloc_new _ _); (case s5 => decide); (case s6 => kernel_rfl); (case s7 => rfl); intro w8 G8 hk8 hb8 hz8; have HL8 := Lib.hid (And.intro (show w8.heap[w7.heap.size]? = some (.cells #[.slice B0 n0 d0, .slice none 0 0, .slice none 0 0, .slice none 0 0] 24 (0, 0)) from G8) (hb8 _ _ (below_alloc (Below.refl w7.heap.size w7) _) (Nat.le_refl _))); clear G8 hk8 hb8 hz8 EA))
                obtain ⟨gl, hgl⟩ : ∃ x, x = w7.heap.size := ⟨_, rfl⟩
                rw [← hgl]
                have HG := Lib.hid hgl
                clear hgl
                obtain ⟨qs, hqs, hqT, hqL⟩ := T_of_kO HN2.out.2
                have hql : qs.length = n1 := hqT.1
                have HQ := Lib.hid (And.intro hqs (And.intro (Kd.C_below hqT HB7.out) (And.intro (hqL.below HB7.out) hql)))
                have HGB : Hid (w7.heap[gg]? = some (.cells #[.slice B0 n0 d0, .slice B1 n1 d1, .slice B2 l2.length d2, .slice B3 l3.length d3] 24 (0, 0))) := Lib.hid (blkB HB7.out hD.out.gb)
                obtain ⟨b8, hb8⟩ : ∃ x, x = w8.heap.size := ⟨_, rfl⟩
                have HL0 : Hid (Lf w7 w8 gl b8 (.slice B0 n0 d0) (.slice none 0 0) ((qs.take 0).filter (fun t => !t.1.ending))) := Lib.hid ⟨by rw [HG.out]; exact HL8.out.1, Kd.R_nil _ _ _ _ _, HL8.out.2, HG.out, by rw [HG.out, hb8]; exact blkLt HL8.out.1, Nat.le_of_eq hb8⟩
                clear hqs hqT hqL hb8 HL8
                go_loopw [11] (fun vx wr => ∃ (i : Nat) (v1 : Value), i ≤ n1 ∧ vx = .int .i64 i ∧ Hid (Lf w7 wr gl b8 (.slice B0 n0 d0) v1 ((qs.take i).filter (fun t => !t.1.ending)))) (fun vx _ => n1 - (intOf vx).toNat)
                case atStart => exact ⟨0, _, Nat.zero_le _, rfl, HL0⟩
                case round =>
                  obtain ⟨i, v1, hi, rfl, hI⟩ := hrel
                  rename World => wrd
                  have EG : wrd.cell? ⟨gg, 1, none⟩ = some (.slice B1 n1 d1) := (cell_of_row _ _ 1 _ _ _ (blkB hI.out.bl HGB.out)).trans rfl
                  by_cases hin : i < n1
                  · obtain ⟨t, ht⟩ : ∃ t, qs[i]? = some t := ⟨_, List.getElem?_eq_getElem (by omega)⟩
                    obtain ⟨ad1, e1, hc1, hO⟩ := tAt (Kd.C_below HQ.out.2.1 hI.out.bl) i t ht
                    subst e1
                    have hil : (i : Int) < (n1 : Int) := by omega
                    obtain ⟨en, hen⟩ : ∃ b, b = t.1.ending := ⟨_, rfl⟩
                    have hsn : (qs.take (i + 1)).filter (fun t => !t.1.ending) = (qs.take i).filter (fun t => !t.1.ending) ++ (if en then [] else [t]) := by
                      rw [List.take_add_one, ht, List.filter_append, hen]
                      cases h : t.1.ending <;> simp [h]
                    have F16 : wrd.cell? ⟨(ad1.add (i * 32)).block, (ad1.add (i * 32)).off + 16, none⟩ = some (.bool en) := by
                      have := hO 16 (.bool en) (by rw [hen]; rfl)
                      rwa [add_add, add_field _ _ _ (by decide)] at this
                    have hlen : (((qs.take i).filter (fun t => !t.1.ending)).length + 1) * 312 ≤ 140737488355328 := by
                      have h1 : ((qs.take i).filter (fun t => !t.1.ending)).length ≤ (qs.take i).length := List.length_filter_le _ _
                      rw [List.length_take] at h1
                      omega
                    obtain ⟨lq, hlq⟩ : ∃ x, x = (qs.take i).filter (fun t => !t.1.ending) := ⟨_, rfl⟩
                    rw [← hlq] at hsn hlen
                    have hI2 : Hid (Lf w7 wrd gl b8 (.slice B0 n0 d0) v1 lq) := Lib.hid (by rw [hlq]; exact hI.out)
                    clear hI hlq
                    obtain ⟨cs, hcs⟩ : ∃ cs, cs = Ot.cs t := ⟨_, rfl⟩
                    have hM : Hid (∀ W : World, kT.M W b8 (fun _ => False) t cs.toList) := Lib.hid (fun W => ⟨by rw [hcs], hc1⟩)
                    rw [← hcs] at hc1 hO
                    have HO := Lib.hid (fun (W : World) (hW : Below wrd.heap.size wrd W) j u hu => cell_below hW (hO j u hu))
                    have hi1 : Hid ((Tryd.prog.info? 39).map (·.size) = some cs.size) := Lib.hid (by rw [hcs, Ot.cs_size]; kernel_rfl)
                    have hi2 : Hid (cs.size = 32) := Lib.hid (by rw [hcs, Ot.cs_size])
                    clear hen ht hO hcs hc1
                    cases en
                    · rw [if_neg (by decide)] at hsn
                      have HS := Lib.hid (And.intro hsn hlen)
                      clear hsn hlen
                      have HBd : Below wrd.heap.size wrd wrd.drew := below_drew (Below.refl _ _)
                      have EGd := cell_below HBd EG
                      have EL : wrd.drew.cell? ⟨gl, 1, none⟩ = some v1 := (cell_of_row _ _ 1 _ _ _ hI2.out.bk).trans rfl
                      go_upto_region 39 with (fail)
                      refine start_ (n := 11) (S := fun w' => Below wrd.heap.size wrd w' ∧ w'.cell? ⟨gg, 1, none⟩ = some (.slice (some ad1) n1 d1) ∧ w'.cell? ⟨gl, 1, none⟩ = some v1) (ds := [8, 10]) (bs 11 0) (by kernel_rfl) rfl (by kernel_rfl) ⟨HBd, EGd, EL⟩ (fun hHeld => ?_)
                      refine with_tabW rg4_39_tab rg4_39_bits (fun HT_ HW_ => ?_)
                      refine pu 0 (some 192) (bs 11 1) HT_ rfl rfl (by kernel_rfl) (fun _ _ _ _ h => h) ⟨_, .inl ⟨by rfl, fun _ => by go_simp; with_reducible rfl⟩, _, by simp only [Act.put, sA, sB, sC, i64_w, i32_w]; rfl, ?_⟩
                      refine pu 2 (some 194) (bs 11 5) HT_ rfl rfl (by kernel_rfl) (fun _ _ _ _ h => h) ⟨_, .inl ⟨by rfl, fun _ => by go_simp; with_reducible rfl⟩, _, by simp only [Act.put, sA, sB, sC, i64_w, i32_w]; rfl, ?_⟩
                      refine pu 4 (some 196) (bs 11 21) HT_ rfl rfl (by kernel_rfl) (fun _ _ _ _ h => h) ⟨_, .inl ⟨by rfl, fun _ => by go_simp; with_reducible rfl⟩, _, by simp only [Act.put, sA, sB, sC, i64_w, i32_w]; rfl, ?_⟩
                      refine tk 1 (some 193) (bs 11 23) HT_ HW_ rfl rfl (by kernel_rfl) (fun _ _ _ _ h => h) hHeld ⟨_, .inl ⟨by rfl, by rintro w' ⟨s0, s1, s2⟩; go_simp; with_reducible rfl⟩, _, by simp only [Act.put, sA, sB, sC, i64_w, i32_w]; rfl, ?_⟩
                      refine tk 3 (some 195) (bs 11 31) HT_ HW_ rfl rfl (by kernel_rfl) (fun _ _ _ _ h => h) hHeld ⟨_, .inl ⟨by rfl, by rintro w' ⟨s0, s1, s2⟩; go_simp; with_reducible rfl⟩, _, by simp only [Act.put, sA, sB, sC, i64_w, i32_w]; rfl, ?_⟩
                      refine pu 5 (some 197) (bs 11 63) HT_ rfl rfl (by kernel_rfl) (fun _ _ _ _ h => h) ⟨_, .inl ⟨by rfl, fun _ => by go_simp; with_reducible rfl⟩, _, by simp only [Act.put, sA, sB, sC, i64_w, i32_w]; rfl, ?_⟩
                      refine tk 6 (some 198) (bs 11 127) HT_ HW_ rfl rfl (by kernel_rfl) (fun _ _ _ _ h => h) hHeld ⟨_, .inl ⟨by rfl, by rintro w' ⟨s0, s1, s2⟩; refine load_any_ (x := .tmp 197) (p := ad1.add (i * 32)) ?_ ?_ (HO.out _ s0) Tryd.underlying39 rfl hi1.out <;> first | rfl | (go_simp; done) | (go_simp; with_reducible rfl)⟩, _, by simp only [Act.put, sA, sB, sC, i64_w, i32_w]; rfl, ?_⟩
                      refine on1 7 (some 199) (bs 11 255) HT_ rfl rfl (by kernel_rfl) (by decide) (fun K hK => ?_)
                      refine build1_ (by rfl) rfl 22 39 (.tmp 198) rfl cs (by first | rfl | (go_simp; done) | (go_simp; with_reducible rfl)) (.agg (Ob.zero.cells (.slice none 0 0) (.slice none 0 0))) 32 312 Tryd.underlying22 infoO hi2.out (by omega) (by omega) rfl ?_
                      refine hK.out _ _ ⟨HBd.alloc HBd.size _, cell_below (below_alloc (Below.refl _ _) _) EGd, cell_below (below_alloc (Below.refl _ _) _) EL⟩ (fun hHeld => ?_)
                      clear hK K
                      refine nm ⟨_, show Act.put _ (some 199) _ = _ by simp only [Act.put, sA, sB, sC, i64_w, i32_w]; rfl, ?_⟩
                      refine la1 8 (some 200) (bs 11 511) HT_ rfl rfl (by kernel_rfl) (by decide) (fun K hK => ?_)
                      refine Kd.R_append_step kT (w0 := wrd) (W := wrd.drew) b8 (by rfl) (.tmp 193) (.tmp 199) 22 39 (.agg (Ob.zero.cells (.slice none 0 0) (.slice none 0 0))) 312 rfl Tryd.underlying22 infoO rfl (by decide) (by omega) v1 lq t cs.toList (fun _ => True) (fun _ => False) (by first | rfl | (go_simp; done) | (go_simp; with_reducible rfl)) (by first | rfl | (go_simp; done) | (go_simp; with_reducible rfl)) (hM.out _) (fun _ h => h.elim) (fun _ _ => trivial) (Kd.R_below hI2.out.r HBd) (HBd.mono hI2.out.le) (Nat.le_trans hI2.out.le HBd.size) HS.out.2 ?_
                      intro v2 w9 hR9 hB9 hg9 hat9
                      have hv9 : v2.cells = #[v2] ∧ v2.oneCell' = true := (by obtain ⟨A9, c9, e9⟩ := Kd.R_slice hR9; rw [e9]; exact ⟨rfl, rfl⟩)
                      have HA9 := Lib.hid (And.intro hR9 (And.intro hB9 (And.intro hv9 ((hB9.block _ hI2.out.lt).trans hI2.out.bk))))
                      clear hR9 hB9 hg9 hat9 hv9
                      refine hK.out _ _ ?_
                      clear hK K
                      refine nm ⟨_, show Act.put _ (some 200) _ = _ by simp only [Act.put, sA, sB, sC, i64_w, i32_w]; rfl, ?_⟩
                      refine pu 9 (some 201) (bs 11 1023) HT_ rfl rfl (by kernel_rfl) (fun _ _ _ _ h => h) ⟨_, .inl ⟨by rfl, fun _ => by go_simp; with_reducible rfl⟩, _, by simp only [Act.put, sA, sB, sC, i64_w, i32_w]; rfl, ?_⟩
                      refine la1 10 (none) (bs 11 2047) HT_ rfl rfl (by kernel_rfl) (by decide) (fun K hK => ?_)
                      refine store1_ (g := gl) (i := 1) (x := .tmp 201) (y := .tmp 200) (u := v2) (by rfl) rfl rfl (by first | rfl | (go_simp; done) | (go_simp; with_reducible rfl)) (by first | rfl | (go_simp; done) | (go_simp; with_reducible rfl)) HA9.out.2.2.1.1 HA9.out.2.2.2 (show 1 < 4 by decide) (by kernel_rfl) HA9.out.2.2.1.2 ?_
                      intro w10 G10 hk10 hb10
                      refine hK.out _ _ ?_
                      clear hK K
                      refine done_ (done_of HT_.out (by kernel_rfl)) ?_
                      have H10 := Lib.hid (hI2.out.next HA9.out.1 HA9.out.2.1 G10 hk10 hb10 (hb10 gl w9 (Below.refl _ _) (Nat.le_refl _)).size)
                      clear G10 hk10 hb10
                      go_wp2
                      go_roundw
                      case rel => exact ⟨i + 1, v2, by omega, by go_num, by rw [HS.out.1]; exact H10⟩
                      case measure => simp [intOf]; omega
                    · rw [if_pos rfl, List.append_nil] at hsn
                      go_wp2
                      go_roundw
                      case rel => exact ⟨i + 1, v1, by omega, by go_num, by rw [hsn]; exact hI2⟩
                      case measure => simp [intOf]; omega
                  · obtain rfl : n1 = i := by omega
                    have hIe : Hid (Lf w7 wrd gl b8 (.slice B0 n0 d0) v1 (qs.filter (fun t => !t.1.ending))) := Lib.hid (by have h := hI.out; rw [List.take_of_length_le (by omega)] at h; exact h)
                    obtain ⟨lf, hlf⟩ : ∃ x, x = qs.filter (fun t => !t.1.ending) := ⟨_, rfl⟩
                    rw [← hlf] at hIe
                    obtain ⟨A9, c9, e9⟩ := Kd.R_slice hIe.out.r
                    obtain ⟨nf, hnf⟩ : ∃ x, x = lf.length := ⟨_, rfl⟩
                    rw [← hnf] at e9
                    subst e9
                    have hnf2 : nf ≤ 200 := by
                      have h1 : (qs.filter (fun t => !t.1.ending)).length ≤ qs.length := List.length_filter_le _ _
                      rw [hnf, hlf]
                      omega
                    have hCf : kT.C wrd A9 nf lf := by
                      have := (Kd.R_reads' hIe.out.r).2.2
                      rw [← hnf] at this
                      exact this
                    have hCo : Hid (kO.C wrd A9 nf (pp.filter (fun p => !p.ending))) := Lib.hid (by
                      have h1 := kO_of_T hCf (fun t ht => (HQ.out.2.2.1.below hIe.out.bl) t (List.mem_filter.1 (by rw [hlf] at ht; exact ht)).1)
                      rw [hlf, show (qs.filter (fun t => !t.1.ending)).map (·.1) = pp.filter (fun p => !p.ending) from by rw [← HQ.out.1, List.filter_map]; rfl] at h1
                      exact h1)
                    have HE := Lib.hid (fun (o' : Ob) (ho : o' ∈ nn) (hd : o'.draining = true) => (show o'.cordoned = true ∧ vOn (pp.filter (fun p => !p.ending)) o'.name = [] from by
                      rw [HX2.out.1] at ho
                      obtain ⟨o0, ho0, rfl⟩ := List.mem_map.1 ho
                      rw [ndS_drain] at hd
                      rw [HX2.out.2.1, HP.out.1]
                      exact ⟨end_node ho0 hd, end_left ho0 hd⟩))
                    have QE := Lib.hid (fun (s : ByteArray) (hs : vOn (pp.filter (fun p => !p.ending)) s = []) (W : World) (hW : Below wrd.heap.size wrd W) => (show Calls Tryd.prog 18 #[.agg #[.slice B0 n0 d0, .slice A9 nf c9, .slice none 0 0, .slice none 0 0], .string s] W fun e w' => e = .returned (.bool true) ∧ Below W.heap.size W w' from by
                      have h := emptyD_calls (.slice B0 n0 d0) (.slice none 0 0) (.slice none 0 0) A9 c9 nf s (pp.filter (fun p => !p.ending)) W rfl rfl rfl (Kd.C_below hCo.out hW) (by omega)
                      rw [show emptyB (pp.filter (fun p => !p.ending)) s = true from by unfold emptyB; rw [hs]; rfl] at h
                      exact h))
                    have HBK := Lib.hid (And.intro hIe.out.bk hIe.out.bl)
                    have hln : nn.length = n0 := HX2.out.2.2.1
                    clear hI hIe hCf hlf hnf
                    go_wp2
                    clear EG
                    go_loopw [12] (fun vx wr => ∃ k : Nat, k ≤ n0 ∧ vx = .int .i64 k ∧ Hid (Below wrd.heap.size wrd wr)) (fun vx _ => n0 - (intOf vx).toNat)
                    case atStart => exact ⟨0, Nat.zero_le _, rfl, Lib.hid (Below.refl _ _)⟩
                    case round =>
                      obtain ⟨k, hk, rfl, hI⟩ := hrel
                      rename World => wre
                      have EL : wre.cell? ⟨gl, 0, none⟩ = some (.slice B0 n0 d0) := (cell_of_row _ _ 0 _ _ _ (blkB hI.out HBK.out.1)).trans rfl
                      by_cases hkn : k < n0
                      · obtain ⟨o, ho⟩ : ∃ o, nn[k]? = some o := ⟨_, List.getElem?_eq_getElem (by omega)⟩
                        obtain ⟨ad0, x4, x27, e0, hO⟩ := objAt (Kd.C_below HN2.out.1 (belT HB7.out (belT HBK.out.2 hI.out))) k o ho
                        subst e0
                        have hkl : (k : Int) < (n0 : Int) := by omega
                        have hen := HE.out o (List.mem_of_getElem? ho)
                        obtain ⟨cs, hcs⟩ : ∃ cs, cs = o.cells x4 x27 := ⟨_, rfl⟩
                        obtain ⟨dr, hdr⟩ : ∃ x, x = o.draining := ⟨_, rfl⟩
                        obtain ⟨nq, hnq⟩ : ∃ x, x = o.name := ⟨_, rfl⟩
                        rw [← hdr, ← hnq] at hen
                        have HO := Lib.hid (And.intro (show cs.all (·.oneCell') = true from by rw [hcs]; exact Ob.cells_one o hO.l4.one hO.l27.one) (And.intro (show cs.size = 32 from by rw [hcs]; rfl) (And.intro (show ∀ (j : Nat) (u : Value), cs[j]? = some u → wre.cell? ((ad0.add (k * 32)).add j) = some u from by rw [hcs]; exact hO.cells) (And.intro (show cs[8]? = some (.bool dr) from by rw [hcs, hdr]; rfl) (And.intro (show cs[1]? = some (.string nq) from by rw [hcs, hnq]; rfl) (show dr = true → cs[7]? = some (.bool true) from fun h => by rw [← (hen h).1, hcs]; rfl))))))
                        have hi1 : Hid ((Tryd.prog.info? 39).map (·.size) = some cs.size) := Lib.hid (by rw [HO.out.2.1]; kernel_rfl)
                        have hen2 := Lib.hid (fun h => (hen h).2)
                        clear hO hcs hdr hnq hen ho
                        cases dr
                        · go_wp2_with (first
                            | ((with_reducible refine wpList_load_any rfl 39 (.tmp 212) rfl (ad0.add (k * 32)) ?l1 cs _ ?l2 Tryd.underlying39 ?l3 ?l4 ?_); (case l1 => rfl); (case l2 => exact HO.out.2.2.1); (case l3 => rfl); (case l4 => exact hi1.out))
                            | ((with_reducible refine wpList_store_blk rfl 39 (.tmp 13) (.tmp 213) rfl wre.heap.size 39 (Ob.zero.cells (.slice none 0 0) (.slice none 0 0)) cs ?s1 ?s2 ?s3 ?s4 ?s5 ?s6 ?_); (case s1 => rfl); (case s2 => rfl); (case s3 => exact heap_alloc_new _ _); (case s4 => exact hi1.out); (case s5 => rw [HO.out.2.1]; rfl); (case s6 => exact HO.out.1); intro w10 G10 hk10 hb10 hz10; obtain ⟨gx, hgx⟩ : ∃ g, g = wre.heap.size := ⟨_, rfl⟩; rw [← hgx] at G10 ⊢; have HB10 := Lib.hid (hb10 _ _ (below_alloc (Below.refl wre.heap.size wre) _) (Nat.le_refl _)); have C8 := (cell_of_row _ _ 8 _ _ _ G10).trans HO.out.2.2.2.1; clear G10 hk10 hb10 hz10 hgx))
                          go_roundw
                          case rel => exact ⟨k + 1, by omega, by go_num, Lib.hid (belT hI.out HB10.out)⟩
                          case measure => simp [intOf]; omega
                        · go_wp2_with (first
                            | ((with_reducible refine wpList_load_any rfl 39 (.tmp 212) rfl (ad0.add (k * 32)) ?l1 cs _ ?l2 Tryd.underlying39 ?l3 ?l4 ?_); (case l1 => rfl); (case l2 => exact HO.out.2.2.1); (case l3 => rfl); (case l4 => exact hi1.out))
                            | ((with_reducible refine wpList_store_blk rfl 39 (.tmp 13) (.tmp 213) rfl wre.heap.size 39 (Ob.zero.cells (.slice none 0 0) (.slice none 0 0)) cs ?s1 ?s2 ?s3 ?s4 ?s5 ?s6 ?_); (case s1 => rfl); (case s2 => rfl); (case s3 => exact heap_alloc_new _ _); (case s4 => exact hi1.out); (case s5 => rw [HO.out.2.1]; rfl); (case s6 => exact HO.out.1); intro w10 G10 hk10 hb10 hz10; obtain ⟨gx, hgx⟩ : ∃ g, g = wre.heap.size := ⟨_, rfl⟩; rw [← hgx] at G10 ⊢; have HB10 := Lib.hid (hb10 _ _ (below_alloc (Below.refl wre.heap.size wre) _) (Nat.le_refl _)); have C8 := (cell_of_row _ _ 8 _ _ _ G10).trans HO.out.2.2.2.1; have C7 := (cell_of_row _ _ 7 _ _ _ G10).trans (HO.out.2.2.2.2.2 rfl); have C1 := (cell_of_row _ _ 1 _ _ _ G10).trans HO.out.2.2.2.2.1; clear G10 hk10 hb10 hz10 hgx)
                            | ((with_reducible refine wpList_load_blk_w (op := ⟨some 221, _, _, _, _, _⟩) 24 (.tmp 10) rfl gl 24 ?m0 ?m1 #[.slice (some ad0) n0 d0, .slice A9 nf c9, .slice none 0 0, .slice none 0 0] _ ?m2 Tryd.underlying24 ?m3 ?m4 ?_); (case m0 => rfl); (case m1 => rfl); (case m2 => exact blkB (belT hI.out HB10.out) HBK.out.1); (case m3 => rfl); (case m4 => exact infoF4))
                            | (go_at_call 18; (with_reducible refine (QE.out nq (hen2.out rfl) _ (belT hI.out HB10.out)).mono ?_); rintro e w11 ⟨rfl, hb⟩; have HB11 := Lib.hid (belT HB10.out hb); clear hb))
                          go_roundw
                          case rel => exact ⟨k + 1, by omega, by go_num, Lib.hid (belT hI.out HB11.out)⟩
                          case measure => simp [intOf]; omega
                      · obtain rfl : n0 = k := by omega
                        go_wp2
                        go_ret
                        exact ⟨rfl, belT HB2.out (belT HL2.out (belT hD.out.bl (belT HB7.out (belT HBK.out.2 hI.out))))⟩
  · go_ret
    exact ⟨rfl, HB2.out⟩
end Go.Proofs.YtiaggfjfgoiafaaDoor

/- Fleets that are arguments, opened. -/
namespace Go.Proofs.YtiaggfjfgoiafaaDoor
set_option maxRecDepth 100000
open Go.ChangeShapes Go.WideShapes Go.RowKit Go.Proofs.YtiaggfjfgoiafaaDoorW.PrintWords
section
variable {H : Type} {enc : TypeId × Value → H} {W : World} {base : Nat} {spare : Nat → Bool} {held : Bool}
set_option maxRecDepth 100000 in
theorem open_fleet {fuel : Nat} {cs : List Value} {x : DataW H × List MemPlace} (hw : ∀ n ∈ x.1.weights Tryd.prog 24, n ≤ reachBytes) (h : DataW.trod enc Tryd.prog W base spare held fuel 24 cs = some x) :
    ∃ f : F4, cs = f.v.toList ∧ F4.At kO W f ∧ F4.Ok f := by
  have hu := Tryd.underlying24
  obtain ⟨xs, m, _, hx, hlen, hl, hfd⟩ := DataW.trod_struct hu h
  rw [show Tryd.prog.cellsOf 24 = 4 by kernel_rfl] at hlen
  have hwd : ∀ (j : Nat) (t : TypeId) (y : DataW H × List MemPlace), xs[j]? = some y → (Program.underlying Tryd.prog 24).elim none (fun d => match d with | .struct fs => (fs.toList.map (·.type))[j]? | _ => none) = some t → ∀ n ∈ y.1.weights Tryd.prog t, n ≤ reachBytes := fun j t y hy ht n hn => hw n (by
    rw [hx]
    unfold DataW.weights
    rw [hu] at ht ⊢
    exact DataW.weights_mem_each (j := j) (t := t) (d := y.1) ht (by simp [hy]) n hn)
  rw [hu] at hwd
  have c5 : Tryd.prog.cellsOf 22 = 1 := by kernel_rfl
  have ex : ∀ j, j < 4 → ∃ y, xs[j]? = some y := fun j hj => ⟨_, List.getElem?_eq_getElem (by rw [hl]; exact hj)⟩
  have one : ∀ j, j < 4 → ∃ A c l, (cs.drop j).take 1 = [.slice A l.length c] ∧ l.length ≤ c ∧ kO.C W A l.length l ∧ (∀ o ∈ l, ObFits o ∧ ObInts o) ∧ l.length * 312 ≤ 140737488351232 := by
    intro j hj
    have f0 : DataW.trod enc Tryd.prog W base spare held m 22 ((cs.drop j).take (Tryd.prog.cellsOf 22)) = xs[j]? := by
      match j, hj with
      | 0, _ => exact hfd 0 _ rfl
      | 1, _ => exact hfd 1 _ rfl
      | 2, _ => exact hfd 2 _ rfl
      | 3, _ => exact hfd 3 _ rfl
    rw [c5] at f0
    obtain ⟨y, e⟩ := ex j hj
    rw [e] at f0
    have w0 : ∀ n ∈ y.1.weights Tryd.prog 22, n ≤ reachBytes := by
      match j, hj, e with
      | 0, _, e => exact hwd 0 22 y e rfl
      | 1, _, e => exact hwd 1 22 y e rfl
      | 2, _, e => exact hwd 2 22 y e rfl
      | 3, _, e => exact hwd 3 22 y e rfl
    exact open_objs w0 f0
  obtain ⟨A0, c0, l0, e0, _, h0, g0, z0⟩ := one 0 (by omega)
  obtain ⟨A1, c1, l1, e1, _, h1, g1, z1⟩ := one 1 (by omega)
  obtain ⟨A2, c2, l2, e2, _, h2, g2, z2⟩ := one 2 (by omega)
  obtain ⟨A3, c3, l3, e3, _, h3, g3, z3⟩ := one 3 (by omega)
  obtain ⟨x0, x1, x2, x3, rfl⟩ : ∃ a b c d, cs = [a, b, c, d] := by
    match cs, hlen with
    | [x0, x1, x2, x3], _ => exact ⟨x0, x1, x2, x3, rfl⟩
  simp only [List.drop_succ_cons, List.drop_zero, List.take_succ_cons, List.take_zero, List.cons.injEq, and_true] at e0 e1 e2 e3
  subst e0 e1 e2 e3
  exact ⟨⟨A0, A1, A2, A3, l0.length, l1.length, l2.length, l3.length, c0, c1, c2, c3, l0, l1, l2, l3⟩, rfl, ⟨h0, h1, h2, h3⟩, ⟨by simp only; omega, by simp only; omega, by simp only; omega, by simp only; omega, g0, g1, g2, g3⟩⟩
set_option maxRecDepth 100000 in
theorem open_fleetV {r : Reach} {b0 : Nat} {v : Value} {d : DataW H} {ps : List MemPlace} (hval : Value.okWide Tryd.prog W r b0 24 v) (hw : ∀ n ∈ d.weights Tryd.prog 24, n ≤ reachBytes) (h : DataW.Trod enc Tryd.prog W base spare held 24 v d ps) :
    ∃ f : F4, v = .agg f.v ∧ F4.At kO W f ∧ F4.Ok f := by
  obtain ⟨cs, rfl, _⟩ := okWide_agg Tryd.underlying24 hval
  obtain ⟨fuel, hf⟩ := h
  obtain ⟨f, e, h1, h2⟩ := open_fleet (x := (d, ps)) hw hf
  have e' : cs.toList = f.v.toList := e
  exact ⟨f, by rw [Array.toList_inj.1 e'], h1, h2⟩
end
end Go.Proofs.YtiaggfjfgoiafaaDoor

/- A start for the witness: the settled world, some variables' cells laid as the row says. -/
namespace Go.Proofs.YtiaggfjfgoiafaaDoor
def flat1 : DataW Unit → List Value
  | .lit (.int k n) => [.int k n]
  | _ => []
def flat2 : DataW Unit → List Value
  | .agg l => l.flatMap fun
    | .agg m => m.flatMap flat1
    | x => flat1 x
  | x => flat1 x
def handleCell (h t : Nat) : List Value := [.iface h (.agg #[.pointer (some ⟨3, t, none⟩)])]
def layAt (heap : Array Obj) (x : Nat × List Value) : Array Obj := heap.modify x.1 fun
  | .cells _ t frozen => .cells x.2.toArray t frozen
  | o => o
noncomputable def laidWith (l : List (Nat × List Value)) (os : Os) : World :=
  { World.holding Tryd.prog os ⟨#[], #[], []⟩ with heap := l.foldl layAt (World.holding Tryd.prog os ⟨#[], #[], []⟩).heap }
end Go.Proofs.YtiaggfjfgoiafaaDoor
