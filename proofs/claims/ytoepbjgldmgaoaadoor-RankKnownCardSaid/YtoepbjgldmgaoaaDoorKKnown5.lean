/- Lemmas on which the law stands, part 5: ApLA, Book, BookO, BookS, ApO, ApOW, NilB, Order, First, OpenPod, OpenObj, RefV, BookA, Obs, Two, KeptO, Chosen, Told. -/
import Derived.Test.YtoepbjgldmgaoaaDoorKKnown3
import Derived.Test.YtoepbjgldmgaoaaDoorKKnown4
import Derived.Handy
import Derived.SizedLaws
import Derived.ChangeArms
import Derived.WideShapes
import Derived.OpenShut
import Derived.Deep.SlicePairs
import Derived.ChangeSame
set_option linter.unusedVariables false
set_option linter.unusedSimpArgs false
/- ApartLabels walked: lists of labels, each of its own, are written over and appended to, and hold what was written. -/
namespace Go.Proofs.YtoepbjgldmgaoaaDoor
open Go.RowKit Go.Proofs.YtoepbjgldmgaoaaDoorW.PrintWords Go.Proofs.YtoepbjgldmgaoaaDoorW.PrintLast
structure RowV (w : World) (ad : Addr) (V : List Value) : Prop where
  cells : ∀ k v, V[k]? = some v → w.cell? (ad.add k) = some v
  here : ad.block < w.heap.size
  out : ¬ inV V ad.block
theorem RowV.only {w w' : World} {ad : Addr} {V : List Value} (h : RowV w ad V) (hb : OnlyB (inV V) w w') : RowV w' ad V :=
  ⟨fun k v hv => (cell_same (w := w) (w' := w') (a := ad.add k) (by rw [add_block]; exact hb.block _ h.here h.out)).trans (h.cells k v hv), Nat.lt_of_lt_of_le h.here hb.size, h.out⟩
theorem labK_R {w : World} {base : Nat} {ok : Nat → Prop} {v : Value} {l : List Lab} (h : kL.R 98 w base ok v l) : LabK w l v := LabK.of_R h
theorem set_mark (k i : Nat) (l : List Lab) (hi : i < l.length) : (marksK k i ++ l.drop i).set i (markK k i) = marksK k (i + 1) ++ l.drop (i + 1) := by
  rw [List.set_append_right _ _ (by rw [marksK_length]; exact Nat.le_refl _), marksK_length, Nat.sub_self, List.drop_eq_getElem_cons hi, List.set_cons_zero, marksK_succ, List.append_assoc]
  rfl
section
variable {P : Program}
theorem wpList_buildOne {ops : Array Oper} {rest : List Oper} {op : Oper} {a : Act} {w : World} {Q : Exit → Act → World → Prop} (hgd : op.guard = none) (t e : TypeId) (x : Operand) (ho : op.op = .buildSlice t 1 #[(0, x)]) (v : Value) (hx : a.eval x = v) (hv : v.cells = #[v])
    (z : Value) (bytes : Nat) (hu : P.underlying t = some (.slice e)) (hinfo : (P.info? e).map (fun i => (i.zero, i.size, i.bytes)) = some (some z, 1, bytes))
    (h : wpList P ops Q rest (a.put op.dst (.slice (some ⟨w.heap.size, 0, none⟩) 1 1)) (w.alloc (.cells #[v] e))) : wpList P ops Q (op :: rest) a w := by
  obtain ⟨i0, hi, hzz⟩ := Option.map_eq_some_iff.1 hinfo
  simp only [Prod.mk.injEq] at hzz
  obtain ⟨hz0, hz1, hz2⟩ := hzz
  refine wpList_buildSlice hgd t e 1 #[(0, x)] ho #[v] i0 z hu hi hz0 (by rw [hz1]; omega) (by rw [hz1]; omega) ?_ h
  have hf := Great.fill_whole (s := 1) Nat.one_pos [v] ((Array.range (1 * i0.size)).map (z.cells[· % z.cells.size]!)) (fun q hq => by rw [List.mem_singleton.1 hq, hv]; rfl) (by simp [hz1])
  rw [hz1] at hf ⊢
  simpa [hx, hv] using hf
end
theorem infoLs : (Tryd.prog.info? 43).map (fun i => (i.zero, i.size, i.bytes)) = some (some (.slice none 0 0), 1, 24) := by kernel_rfl
theorem rawSome {W : World} {A : Option Addr} {n k : Nat} {G : List Value} {u : Value} (h : (Kd.raw 1).C W A n (G.map fun u => [u])) (hu : G[k]? = some u) : ∃ ad, A = some ad := by
  have hk : k < G.length := (List.getElem?_eq_some_iff.1 hu).1
  have hn := h.1
  rw [List.length_map] at hn
  obtain ⟨ad, e, _⟩ := h.2.2 (by omega)
  exact ⟨ad, e⟩
theorem rawCell {W : World} {ad : Addr} {n k : Nat} {G : List Value} {u : Value} (h : (Kd.raw 1).C W (some ad) n (G.map fun u => [u])) (hu : G[k]? = some u) : W.cell? (ad.add k) = some u := by
  have hk : k < G.length := (List.getElem?_eq_some_iff.1 hu).1
  have hn := h.1
  rw [List.length_map] at hn
  obtain ⟨ad', e, hc⟩ := h.2.2 (by omega)
  obtain rfl := Option.some.inj e
  obtain ⟨cs, _, h2, h3⟩ := hc k [u] (by rw [List.getElem?_map, hu]; rfl)
  have h4 := h3 0 u (by rw [h2.1]; rfl)
  have hsz : (Kd.raw 1).sz = 1 := rfl
  rw [hsz] at h4
  simpa using h4
def rg59_7_T : Bool × List (List Nat × List Nat) := (true, [([], []), ([], []), ([0, 1], [0, 1]), ([2], [2]), ([], []), ([], []), ([], []), ([5, 6], [5, 6]), ([3, 4, 0, 1, 2, 3, 4, 5, 6, 7], [3, 4]), ([8, 7, 7, 0, 1, 2, 3, 4, 5, 6, 7], [7, 8])])
def rg59_7_B : List Nat := [0, 0, 3, 7, 0, 0, 0, 96, 255, 511]
theorem rg59_7_tab : rtab .any (opsOf Tryd.f59 7) = rg59_7_T := by kernel_rfl
theorem rg59_7_bits : waitsOk rg59_7_T.2 rg59_7_B = true := by kernel_rfl
set_option maxHeartbeats 4000000 in
set_option maxRecDepth 100000 in
theorem apartLabels_calls (ad : Addr) (cap N : Nat) (V : List Value) (LS : Nat → List Lab) (w : World) (base : Nat) (hVN : V.length = N) (hN : N ≤ 1000000) (hbase : base ≤ w.heap.size) (hrow : RowV w ad V) (hB : Bk w base V LS) (ha : ApartV V) (hlen : ∀ k, k < N → (LS k).length ≤ 4398046510976) :
    Calls Tryd.prog 59 #[.slice (some ad) N cap] w fun e w' => e = .returned (.bool true) ∧ OnlyB (inV V) w w' := by
  have HRow := Lib.hid hrow
  have HBk := Lib.hid hB
  have HA := Lib.hid ha
  have HL := Lib.hid (And.intro hVN hlen)
  clear hrow hB ha hVN hlen
  go_enter Tryd.func59, Tryd.ntmps59
  go_wp2
  go_loopw [3] (fun v3 wr => ∃ k : Nat, k ≤ N ∧ v3 = .int .i64 k ∧ Hid (Bk wr base V (fun j => if j < k then marksK j (LS j).length else LS j) ∧ OnlyB (inV V) w wr)) (fun v3 _ => N - (intOf v3).toNat)
  case atStart => exact ⟨0, Nat.zero_le _, rfl, Lib.hid ⟨HBk.out.congr (fun k _ => by rw [if_neg (by omega)]), OnlyB.refl _ _⟩⟩
  case round =>
    obtain ⟨k, hk, rfl, hI⟩ := hrel
    by_cases hkn : k < N
    · obtain ⟨v, hv⟩ : ∃ v, V[k]? = some v := ⟨_, List.getElem?_eq_getElem (by have := HL.out.1; omega)⟩
      have hr := hI.out.1.row k v hv
      rw [if_neg (Nat.lt_irrefl k)] at hr
      obtain ⟨Ak, ck, rfl⟩ := Kd.R_slice hr
      obtain ⟨n, hn⟩ : ∃ n, n = (LS k).length := ⟨_, rfl⟩
      have hnb : n ≤ 4398046510976 := by rw [hn]; exact HL.out.2 k hkn
      rw [← hn] at hv hr
      have hlk : (k : Int) < (N : Int) := by omega
      have HV := Lib.hid (And.intro hv hn)
      clear hv hr hn
      go_wp2
      rename World => wo
      go_loopw [4] (fun v4 wr => ∃ i : Nat, i ≤ n ∧ v4 = .int .i64 i ∧ Hid (Bk wr base V (fun j => if j < k then marksK j (LS j).length else if j = k then marksK k i ++ (LS k).drop i else LS j) ∧ OnlyB (inV V) w wr)) (fun v4 _ => n - (intOf v4).toNat)
      case atStart => exact ⟨0, Nat.zero_le _, rfl, Lib.hid ⟨hI.out.1.congr (fun j _ => by
        by_cases h1 : j < k
        · rw [if_pos h1, if_pos h1]
        · rw [if_neg h1, if_neg h1]
          by_cases h2 : j = k
          · subst h2; rw [if_pos rfl]; rfl
          · rw [if_neg h2]), hI.out.2⟩⟩
      case round =>
        obtain ⟨i, hi, rfl, hJ⟩ := hrel
        have q1 := (HRow.out.only hJ.out.2).cells k _ HV.out.1
        by_cases hin : i < n
        · have hr := hJ.out.1.row k _ HV.out.1
          rw [if_neg (Nat.lt_irrefl k), if_pos rfl] at hr
          have hxl : (marksK k i ++ (LS k).drop i).length = n := by rw [List.length_append, marksK_length, List.length_drop, ← HV.out.2]; omega
          obtain ⟨g, cap', e, _, _, _⟩ := Kd.R_form hr (by omega)
          rw [hxl] at e
          injection e with e1 _ e3
          subst e1
          subst e3
          obtain ⟨s0, s1, hm⟩ : ∃ s0 s1, markK k i = ⟨s0, s1⟩ := ⟨_, _, rfl⟩
          have QM := fun W => markK_calls k i W
          rw [hm] at QM
          replace QM := Lib.hid QM
          have HRk := Lib.hid hr
          have HM := Lib.hid (And.intro hm (show i < (LS k).length by rw [← HV.out.2]; exact hin))
          have HRw := Lib.hid (HRow.out.only hJ.out.2)
          have HB1 := below_drew (Below.refl wr.heap.size wr)
          have hini : (i : Int) < (n : Int) := by omega
          clear hr hxl hm
          go_upto_region 7 with (fail)
          refine start_ (n := 10) (S := fun w' => Below wr.heap.size wr w' ∧ w'.cell? (ad.add k) = some (.slice (some ⟨g, 0, none⟩) n ck)) (ds := [9]) (bs 10 0) (by kernel_rfl) rfl (by kernel_rfl) ⟨HB1, (HRw.out.only (OnlyB.of_below HB1)).cells k _ HV.out.1⟩ (fun hHeld => ?_)
          refine with_tabW rg59_7_tab rg59_7_bits (fun HT_ HW_ => ?_)
          refine pu 0 (some 27) (bs 10 1) HT_ rfl rfl (by kernel_rfl) (fun _ _ _ _ h => h) ⟨_, .inl ⟨by rfl, fun _ => by go_simp; with_reducible rfl⟩, _, by simp only [Act.put, sA, sB, sC, i64_w, i32_w]; rfl, ?_⟩
          refine pu 1 (some 28) (bs 10 3) HT_ rfl rfl (by kernel_rfl) (fun _ _ _ _ h => h) ⟨_, .inl ⟨by rfl, fun _ => by go_simp; with_reducible rfl⟩, _, by simp only [Act.put, sA, sB, sC, i64_w, i32_w]; rfl, ?_⟩
          refine pu 2 (some 29) (bs 10 7) HT_ rfl rfl (by kernel_rfl) (fun _ _ _ _ h => h) ⟨_, .inl ⟨by rfl, fun _ => by go_simp; with_reducible rfl⟩, _, by simp only [Act.put, sA, sB, sC, i64_w, i32_w]; rfl, ?_⟩
          refine pu 4 (some 31) (bs 10 23) HT_ rfl rfl (by kernel_rfl) (fun _ _ _ _ h => h) ⟨_, .inl ⟨by rfl, fun _ => by go_simp; with_reducible rfl⟩, _, by simp only [Act.put, sA, sB, sC, i64_w, i32_w]; rfl, ?_⟩
          refine pu 5 (some 32) (bs 10 55) HT_ rfl rfl (by kernel_rfl) (fun _ _ _ _ h => h) ⟨_, .inl ⟨by rfl, fun _ => by go_simp; with_reducible rfl⟩, _, by simp only [Act.put, sA, sB, sC, i64_w, i32_w]; rfl, ?_⟩
          refine pu 6 (some 33) (bs 10 119) HT_ rfl rfl (by kernel_rfl) (fun _ _ _ _ h => h) ⟨_, .inl ⟨by rfl, fun _ => by go_simp; with_reducible rfl⟩, _, by simp only [Act.put, sA, sB, sC, i64_w, i32_w]; rfl, ?_⟩
          refine tk 3 (some 30) (bs 10 127) HT_ HW_ rfl rfl (by kernel_rfl) (fun _ _ _ _ h => h) hHeld ⟨_, .inl ⟨by rfl, by rintro w' ⟨s0, s1⟩; go_simp; with_reducible rfl⟩, _, by simp only [Act.put, sA, sB, sC, i64_w, i32_w]; rfl, ?_⟩
          refine on1 7 (some 34) (bs 10 255) HT_ rfl rfl (by kernel_rfl) (by decide) (fun K hK => ?_)
          refine goes_ Tryd.func93 (by kernel_rfl) rfl #[.int .i64 k, .int .i64 i] (by rfl) rfl rfl (by (try simp only [List.map_toArray, List.map_cons, List.map_nil]); first | done | rfl) ?_
          with_reducible refine (QM.out _).mono ?_
          rintro e w5 ⟨rfl, hb⟩
          replace HB1 := belT HB1 hb
          clear hb
          refine ⟨_, rfl, ?_⟩
          refine hK.out _ _ ⟨HB1, (HRw.out.only (OnlyB.of_below HB1)).cells k _ HV.out.1⟩ (fun hHeld => ?_)
          clear hK K
          refine nm ⟨_, show Act.put _ (some 34) _ = _ by simp only [Act.put, sA, sB, sC, i64_w, i32_w]; rfl, ?_⟩
          refine pu 8 (some 35) (bs 10 511) HT_ rfl rfl (by kernel_rfl) (fun _ _ _ _ h => h) ⟨_, .inl ⟨by rfl, fun _ => by go_simp; with_reducible rfl⟩, _, by simp only [Act.put, sA, sB, sC, i64_w, i32_w]; rfl, ?_⟩
          refine la1 9 (none) (bs 10 1023) HT_ rfl rfl (by kernel_rfl) (by decide) (fun K hK => ?_)
          refine storeLab_ (i := i) (p := .tmp 35) (x := .tmp 34) (by kernel_rfl) (by rfl) rfl rfl rfl rfl (Kd.R_below HRk.out HB1) hin ?_
          intro w6 hR6 hg6
          refine hK.out _ _ ?_
          clear hK K
          refine done_ (done_of HT_.out (by kernel_rfl)) ?_
          have hJ1 := hJ.out.1
          have hBk6 : Bk w6 base V (fun j => if j < k then marksK j (LS j).length else if j = k then marksK k (i + 1) ++ (LS k).drop (i + 1) else LS j) := ((hJ1.below HB1).turn HA.out HV.out.1 hg6 hR6).congr (fun j _ => by
            by_cases h2 : j = k
            · subst h2
              rw [if_pos rfl, if_neg (Nat.lt_irrefl _), if_pos rfl, ← HM.out.1]
              exact set_mark _ _ _ HM.out.2
            · simp only [h2, if_false])
          have hO6 : OnlyB (inV V) w w6 := hJ.out.2.trans ((OnlyB.of_below HB1).trans (OnlyB.of_grown hg6 (fun b hb => ⟨_, List.mem_of_getElem? HV.out.1, hb⟩)))
          replace hBk6 := Lib.hid (And.intro hBk6 hO6)
          clear hJ1 hO6 hR6 hg6 HB1 HRk HRw
          go_wp2
          go_roundw
          case rel => exact ⟨i + 1, by omega, by go_num, hBk6⟩
          case measure => simp [intOf]; omega
        · obtain rfl : n = i := by omega
          go_wp2
          go_roundw
          case rel =>
            refine ⟨k + 1, by omega, by go_num, Lib.hid ⟨hJ.out.1.congr (fun j _ => ?_), hJ.out.2⟩⟩
            by_cases h1 : j < k
            · rw [if_pos h1, if_pos (by omega)]
            · rw [if_neg h1]
              by_cases h2 : j = k
              · subst h2
                rw [if_pos rfl, if_pos (Nat.lt_succ_self _), HV.out.2, List.drop_length, List.append_nil]
              · rw [if_neg h2, if_neg (by omega)]
          case measure => simp [intOf]; omega
    · obtain rfl : N = k := by omega
      have hBm : Bk wr base V (fun j => marksK j (LS j).length) := hI.out.1.congr (fun j hj => by rw [if_pos (by have := HL.out.1; omega)])
      have HBm := Lib.hid (And.intro hBm (And.intro hI.out.2 (HRow.out.only hI.out.2)))
      clear hBm hI
      have hVlt : ∀ x ∈ V, ∀ b, x.ownBlock = some b → b < wr.heap.size := fun x hx b hb => by
        obtain ⟨j, hj⟩ := List.mem_iff_getElem?.1 hx
        exact Kd.R_lt (HBm.out.1.row j x hj) b hb
      replace hVlt := Lib.hid hVlt
      have hww : w.heap.size ≤ wr.heap.size := HBm.out.2.1.size
      rename World => wa
      go_wp2
      go_loopw [5, 6] (fun v5 v6 wr => ∃ k : Nat, k ≤ N ∧ v6 = .int .i64 k ∧ ∃ G : List Value, G.length = k ∧ Hid (BI w wa wr base V G (fun j => (LS j).length) v5 k ∧ wa.heap.size ≤ wr.heap.size)) (fun _ v6 _ => N - (intOf v6).toNat)
      case atStart => exact ⟨0, Nat.zero_le _, rfl, [], rfl, Lib.hid ⟨⟨fun j v hv => labK_R (HBm.out.1.row j v hv), fun j v _ hv => HBm.out.1.row j v hv, ⟨fun j u hu => by simp at hu, fun j u v hu => by simp at hu⟩, Kd.R_nil _ _ _ _ _, HBm.out.2.1⟩, Nat.le_refl _⟩⟩
      case round =>
        obtain ⟨k, hk, rfl, G, hG, hI⟩ := hrel
        by_cases hkn : k < N
        · obtain ⟨v, hv⟩ : ∃ v, V[k]? = some v := ⟨_, List.getElem?_eq_getElem (by have := HL.out.1; omega)⟩
          have hr := hI.out.1.todo k v (Nat.le_refl _) hv
          obtain ⟨Ak, ck, rfl⟩ := Kd.R_slice hr
          rw [marksK_length] at hr hv
          obtain ⟨n, hn⟩ : ∃ n, n = (LS k).length := ⟨_, rfl⟩
          have hnb : n ≤ 4398046510976 := by rw [hn]; exact HL.out.2 k hkn
          rw [← hn] at hv hr
          have hlk : (k : Int) < (N : Int) := by omega
          have q1 := (HRow.out.only hI.out.1.only).cells k _ hv
          have hv0 : Hid (∀ (ad : Addr) (c : Nat), Value.slice Ak n ck = .slice (some ad) n c → ad.off = 0 ∧ ad = ⟨ad.block, 0, none⟩) := Lib.hid (fun ad c e => by
            injection e with e1 _ _
            subst e1
            obtain ⟨g, e⟩ := Kd.R_head hr
            rw [e]
            exact ⟨rfl, rfl⟩)
          have HV := Lib.hid (And.intro hv hn)
          have HRk := Lib.hid hr
          clear hv hr hn
          go_wp2
          rename World => wo
          go_loopw [7, 8] (fun v7 v8 wr => ∃ j : Nat, j ≤ 64 ∧ v8 = .int .i64 j ∧ Hid (BI w wa wr base V G (fun j => (LS j).length) u5 (k + 1) ∧ wo.heap.size ≤ wr.heap.size ∧ kL.R 98 wr base (fun _ => True) v7 (marksK k (n + j)) ∧ ∀ b, v7.ownBlock = some b → (Value.slice Ak n ck).ownBlock = some b ∨ wo.heap.size ≤ b)) (fun _ v8 _ => 64 - (intOf v8).toNat)
          case atStart => exact ⟨0, by omega, rfl, Lib.hid ⟨⟨hI.out.1.rd, fun j v hm hv => hI.out.1.todo j v (by omega) hv, hI.out.1.gs, hI.out.1.row, hI.out.1.only⟩, Nat.le_refl _, Kd.R_mono HRk.out (fun _ _ => trivial), fun b hb => .inl hb⟩⟩
          case round =>
            obtain ⟨j, hj, rfl, hJ⟩ := hrel
            have q1 := (HRow.out.only hJ.out.1.only).cells k _ HV.out.1
            by_cases hj64 : j < 64
            · have g4 : decide ((j : Int) < 64) = true := decide_eq_true (by omega)
              have hw : wrap64 ((n : Int) + (j : Int)) = (n : Int) + (j : Int) := by unfold wrap64; omega
              obtain ⟨s0, s1, hm⟩ : ∃ s0 s1, markK k (n + j) = ⟨s0, s1⟩ := ⟨_, _, rfl⟩
              have QM := fun W => markK_calls k (n + j) W
              rw [hm, Int.natCast_add] at QM
              replace QM := Lib.hid QM
              have HM := Lib.hid hm
              clear hm
              go_wp2_with (first
                | (go_at_call 93; (with_reducible refine (QM.out _).mono ?_); rintro e w1 ⟨rfl, hb1⟩; have HJ1 := Lib.hid (And.intro (hJ.out.1.below hb1) (And.intro (Kd.R_below hJ.out.2.2.1 hb1) hb1.size)); have hb1s : Hid (base ≤ w1.heap.size) := Lib.hid (by have := hb1.size; have := hJ.out.2.1; have := hI.out.2; omega); clear hb1)
                | ((with_reducible refine wpList_build1 rfl 43 98 (.tmp 59) rfl #[.string s0, .string s1] ?d1 ?d2 2 32 Tryd.underlying43 ?d3 ?d4 (by omega) (by omega) ?d5 ?_); (case d1 => rfl); (case d3 => exact infoL); (case d4 => rfl); (case d5 => rfl))
                | (at_builtin; refine R_append_keep kL (w0 := w1) (W := w1) base rfl (.tmp 50) (.tmp 60) 43 98 (.agg #[(.string ⟨#[]⟩), (.string ⟨#[]⟩)]) 32 rfl Tryd.underlying43 infoL rfl (by decide) (by omega) u7 (marksK k (n + j)) ⟨s0, s1⟩ [.string s0, .string s1] (fun _ => True) (fun _ => False) rfl rfl (QLb.k98_mkM _ _ _ _) (fun _ h => h.elim) (fun _ _ => trivial) HJ1.out.2.1 (Below.refl _ _) hb1s.out (by rw [marksK_length]; omega) ?_; intro v1 w6 hR6 hB6 hg6 hat6 hkeep6))
              have hst := BI.step HJ1.out.1 hI.out.1.gs hG HA.out HV.out.1 hVlt.out hww (by have := hI.out.2; omega) (by have := HJ1.out.2.2; have := hJ.out.2.1; omega) (by rw [← HV.out.2]; exact hv0.out) hJ.out.2.2.2 HJ1.out.2.1 (by rw [marksK_length, ← HV.out.2]; omega) hg6 hkeep6
              rw [← HM.out, ← marksK_succ] at hR6
              have hsz6 : wo.heap.size ≤ w6.heap.size := by have := hg6.size; have := HJ1.out.2.2; have := hJ.out.2.1; omega
              have how6 : ∀ b, v1.ownBlock = some b → (Value.slice Ak n ck).ownBlock = some b ∨ wo.heap.size ≤ b := fun b hb => by
                rcases hat6 with e | ⟨b', e, hle⟩
                · exact hJ.out.2.2.2 b (by rw [← e]; exact hb)
                · rw [e] at hb
                  injection hb with hb
                  have := HJ1.out.2.2
                  have := hJ.out.2.1
                  exact .inr (by omega)
              replace hst := Lib.hid (And.intro hst (And.intro hsz6 (And.intro hR6 how6)))
              clear hR6 hB6 hg6 hat6 hkeep6 hsz6 how6
              go_wp2
              go_roundw
              case rel => exact ⟨j + 1, by omega, by go_num, hst⟩
              case measure => simp [intOf]; omega
            · obtain rfl : j = 64 := by omega
              have hR7 := hJ.out.2.2.1
              obtain ⟨A7, c7, e7⟩ := Kd.R_slice hR7
              have hc7 : u7.cells = #[u7] := by rw [e7]; rfl
              have ho7 : u7.oneCell' = true := by rw [e7]; rfl
              rw [HV.out.2] at hR7
              have hwaW : wa.heap.size ≤ wr.heap.size := Nat.le_trans hI.out.2 hJ.out.2.1
              have hGl : ((G.map fun u => [u]).length + 1) * 24 ≤ 140737488355328 := by rw [List.length_map]; omega
              have H7 := Lib.hid (And.intro hR7 (And.intro hc7 (And.intro ho7 (And.intro hwaW hGl))))
              clear hR7 e7 hc7 ho7 hwaW hGl
              go_wp2_with (first
                | ((with_reducible refine wpList_buildOne rfl 31 43 (.tmp 63) rfl u7 ?o1 ?o2 (.slice none 0 0) 24 Tryd.underlying31 ?o3 ?_); (case o1 => rfl); (case o2 => exact H7.out.2.1); (case o3 => exact infoLs))
                | (at_builtin; refine Kd.R_append (Kd.raw 1) (w0 := wr) (W := wr) wa.heap.size rfl (.tmp 62) (.tmp 64) 31 43 (.slice none 0 0) 24 rfl Tryd.underlying31 infoLs rfl (by decide) (by omega) u5 (G.map fun u => [u]) [u7] [u7] (fun _ => True) (fun _ => False) rfl rfl ⟨rfl, rfl, fun q hq => by rw [List.mem_singleton.1 hq]; exact H7.out.2.2.1⟩ (fun _ h => h.elim) (fun _ _ => trivial) hJ.out.1.row ?oB H7.out.2.2.2.1 H7.out.2.2.2.2 ?_; (case oB => exact ⟨rfl, rfl, rfl, Nat.le_refl _, fun _ _ => rfl⟩); intro v1 w6 hR6 hB6 hg6 hat6; have hnx := BI.next hJ.out.1 hG HV.out.1 hI.out.2 hJ.out.2.2.2 H7.out.1 hVlt.out H7.out.2.2.2.1 hR6 hg6 hww; replace hnx := Lib.hid (And.intro hnx (Nat.le_trans H7.out.2.2.2.1 hg6.size)); clear hR6 hB6 hg6 hat6))
              go_roundw
              case rel => exact ⟨k + 1, by omega, by go_num, G ++ [u7], by rw [List.length_append, hG]; rfl, hnx⟩
              case measure => simp [intOf]; omega
        · obtain rfl : N = k := by omega
          obtain ⟨A5, c5, e5⟩ := Kd.R_slice hI.out.1.row
          rw [List.length_map, hG] at e5
          have hrow := hI.out.1.row
          rw [e5] at hrow
          have hC5 := (Kd.R_reads' hrow).2.2
          rw [List.length_map, hG] at hC5
          have HC := Lib.hid (And.intro hC5 (And.intro hI.out.1.rd (And.intro hI.out.1.gs (And.intro hI.out.1.only (HRow.out.only hI.out.1.only)))))
          clear hrow hC5 hI
          subst e5
          rename World => wb
          go_wp2
          go_loopw [9] (fun v9 wr => ∃ k : Nat, k ≤ N ∧ v9 = .int .i64 k ∧ Hid (Below wb.heap.size wb wr)) (fun v9 _ => N - (intOf v9).toNat)
          case atStart => exact ⟨0, Nat.zero_le _, rfl, Lib.hid (Below.refl _ _)⟩
          case round =>
            obtain ⟨k, hk, rfl, hB⟩ := hrel
            by_cases hkn : k < N
            · obtain ⟨v, hv⟩ : ∃ v, V[k]? = some v := ⟨_, List.getElem?_eq_getElem (by have := HL.out.1; omega)⟩
              obtain ⟨u, hu⟩ : ∃ u, G[k]? = some u := ⟨_, List.getElem?_eq_getElem (by omega)⟩
              obtain ⟨gd, rfl⟩ := rawSome HC.out.1 hu
              obtain ⟨Ak, ck, rfl, hck, hCk⟩ := HC.out.2.1 k v hv
              have hr := HC.out.2.2.1.row k u hu
              obtain ⟨Bk, dk, rfl⟩ := Kd.R_slice hr
              have hDk := (Kd.R_reads' hr).2.2
              obtain ⟨n, hn⟩ : ∃ n, n = (LS k).length := ⟨_, rfl⟩
              have hnb : n ≤ 4398046510976 := by rw [hn]; exact HL.out.2 k hkn
              simp only [marksK_length, ← hn] at hv hu hCk hDk
              have hlk : (k : Int) < (N : Int) := by omega
              have HV := Lib.hid (And.intro hv (And.intro hu (And.intro hCk hDk)))
              clear hv hu hCk hDk hck hr hn
              go_wp2
              rename World => wo
              go_loopw [10] (fun v10 wr => ∃ i : Nat, i ≤ n + 64 ∧ v10 = .int .i64 i ∧ Hid (Below wb.heap.size wb wr)) (fun v10 _ => n + 64 - (intOf v10).toNat)
              case atStart => exact ⟨0, Nat.zero_le _, rfl, hB⟩
              case round =>
                obtain ⟨i, hi, rfl, hJ⟩ := hrel
                have HRr := Lib.hid (HC.out.2.2.2.2.only (OnlyB.of_below hJ.out))
                have HG : Hid ((Kd.raw 1).C wr (some gd) N (G.map fun u => [u])) := Lib.hid (Kd.C_below HC.out.1 hJ.out)
                have s1 := HRr.out.cells k _ HV.out.1
                have s2 := rawCell HG.out HV.out.2.1
                by_cases hin : i < n + 64
                · obtain ⟨s0, s1', hm⟩ : ∃ s0 s1, markK k i = ⟨s0, s1⟩ := ⟨_, _, rfl⟩
                  have QM := fun W => markK_calls k i W
                  rw [hm] at QM
                  replace QM := Lib.hid QM
                  have hini : (i : Int) < (n : Int) + 64 := by omega
                  have hD0 : Hid (kL.C wr Bk (n + 64) (marksK k (n + 64))) := Lib.hid (Kd.C_below HV.out.2.2.2 hJ.out)
                  have hE0 : Hid (kL.C wr Ak n (marksK k n)) := Lib.hid (Kd.C_below HV.out.2.2.1 hJ.out)
                  obtain ⟨bk, rfl⟩ : ∃ b, Bk = some b := by obtain ⟨x, e, _⟩ := hD0.out.2.2 (by omega); exact ⟨x, e⟩
                  have hp0 : Hid ((marksK k (n + 64))[i]? = some ⟨s0, s1'⟩) := Lib.hid (by rw [marksK_at _ _ _ hin, hm])
                  by_cases hl1 : i < n
                  · have hp1 : Hid ((marksK k n)[i]? = some ⟨s0, s1'⟩) := Lib.hid (by rw [marksK_at _ _ _ hl1, hm])
                    have hli : (i : Int) < (n : Int) := by omega
                    obtain ⟨ak, rfl⟩ : ∃ b, Ak = some b := by obtain ⟨x, e, _⟩ := hE0.out.2.2 (by omega); exact ⟨x, e⟩
                    clear hm
                    go_wp2_with (go_at_call 93; (with_reducible refine (QM.out _).mono ?_); rintro e w1 ⟨rfl, hb1⟩; have p1 := fun X => (HRr.out.only (OnlyB.of_below (below_alloc hb1 X))).cells k _ HV.out.1; have p2 := fun X => rawCell (Kd.C_below HG.out (below_alloc hb1 X)) HV.out.2.1; have q0 := fun X => (labAt (Kd.C_below hD0.out (below_alloc hb1 X)) hp0.out).1; have q1 := fun X => (labAt (Kd.C_below hD0.out (below_alloc hb1 X)) hp0.out).2; have r0 := fun X => (labAt (Kd.C_below hE0.out (below_alloc hb1 X)) hp1.out).1; have r1 := fun X => (labAt (Kd.C_below hE0.out (below_alloc hb1 X)) hp1.out).2)
                    go_quiet (fail)
                    go_wp2
                    go_roundw
                    case rel => exact ⟨i + 1, by omega, by go_num, Lib.hid (hJ.out.trans ((pw_below_drewN (below_alloc hb1 _) _).mono hJ.out.size))⟩
                    case measure => simp [intOf]; omega
                  · have hd : decide ((i : Int) < (n : Int)) = false := decide_eq_false (by omega)
                    clear hm
                    go_wp2_with (go_at_call 93; (with_reducible refine (QM.out _).mono ?_); rintro e w1 ⟨rfl, hb1⟩; have p1 := fun X => (HRr.out.only (OnlyB.of_below (below_alloc hb1 X))).cells k _ HV.out.1; have p2 := fun X => rawCell (Kd.C_below HG.out (below_alloc hb1 X)) HV.out.2.1; have q0 := fun X => (labAt (Kd.C_below hD0.out (below_alloc hb1 X)) hp0.out).1; have q1 := fun X => (labAt (Kd.C_below hD0.out (below_alloc hb1 X)) hp0.out).2)
                    go_quiet (fail)
                    go_wp2
                    go_roundw
                    case rel => exact ⟨i + 1, by omega, by go_num, Lib.hid (hJ.out.trans ((pw_below_drewN (below_alloc hb1 _) _).mono hJ.out.size))⟩
                    case measure => simp [intOf]; omega
                · obtain rfl : i = n + 64 := by omega
                  go_wp2
                  go_roundw
                  case rel => exact ⟨k + 1, by omega, by go_num, hJ⟩
                  case measure => simp [intOf]; omega
            · obtain rfl : N = k := by omega
              go_wp2
              go_ret
              exact ⟨rfl, HC.out.2.2.2.1.trans (OnlyB.of_below hB.out)⟩
end Go.Proofs.YtoepbjgldmgaoaaDoor

/- A Book: lists that it was handed, kept in rows. -/
namespace Go.Proofs.YtoepbjgldmgaoaaDoor
open Go.RowKit Go.Proofs.YtoepbjgldmgaoaaDoorW.PrintWords Go.Proofs.YtoepbjgldmgaoaaDoorW.PrintLast
def nilV : Value := .slice none 0 0
def bookC (v5 v10 : Value) : Array Value := #[nilV, nilV, nilV, nilV, nilV, v5, nilV, nilV, nilV, nilV, v10, nilV]
structure BookS (w : World) (base b : Nat) (VL VO : List Value) (v5 v10 : Value) : Prop where
  heap : w.heap[b]? = some (.cells (bookC v5 v10) 39 (0, 0))
  old : base ≤ b
  labs : (Kd.raw 1).R 43 w base (fun _ => True) v5 (VL.map fun u => [u])
  objs : (Kd.raw 1).R 22 w base (fun _ => True) v10 (VO.map fun u => [u])
theorem grown_one {w w1 : World} {b : Nat} (hb : Below 0 w w1) (hk : ∀ k, k ≠ b → w1.heap[k]? = w.heap[k]?) : w.grownBy w1 (some b) := ⟨hb.os, hb.tape, hb.output, hb.size, fun k _ hn => hk k (fun e => hn (by rw [e]))⟩
theorem BookS.stored {w w1 w2 : World} {base b : Nat} {VL VO : List Value} {v5 v5' v10 u : Value} (h : BookS w base b VL VO v5 v10) (hg : w.grownBy w1 v5.ownBlock) (hR : (Kd.raw 1).R 43 w1 base (fun _ => True) v5' (VL.map (fun u => [u]) ++ [[u]]))
    (hh : w2.heap[b]? = some (.cells ((bookC v5 v10).setIfInBounds 5 v5') 39 (0, 0))) (hg2 : w1.grownBy w2 (some b)) : BookS w2 base b (VL ++ [u]) VO v5' v10 := by
  have hty := Kd.R_typed h.labs
  have hne : some b ≠ v5.ownBlock := fun e => by
    obtain ⟨c, hc⟩ := hty b e.symm
    rw [h.heap] at hc
    injection hc with hc
    injection hc with _ hc
    exact absurd hc (by decide)
  have hb1 : w1.heap[b]? = some (.cells (bookC v5 v10) 39 (0, 0)) := (hg.block b (blkLt h.heap) hne).trans h.heap
  have ht1 : ∀ k, (Value.slice (some ⟨b, 0, none⟩) 0 0).ownBlock = some k → ∃ cells, w1.heap[k]? = some (Obj.cells cells 39) := fun k hk => by
    obtain rfl : b = k := by simpa [Value.ownBlock] using hk
    exact ⟨_, hb1⟩
  refine ⟨hh, h.old, ?_, ?_⟩
  · rw [List.map_append]
    exact Kd.R_over' (v := .slice (some ⟨b, 0, none⟩) 0 0) hR ht1 (fun q hq => by
      rcases List.mem_cons.1 hq with rfl | hq
      · decide
      · cases hq) hg2
  · exact Kd.R_over' (v := .slice (some ⟨b, 0, none⟩) 0 0) (Kd.R_over' h.objs hty (fun q hq => by
      rcases List.mem_cons.1 hq with rfl | hq
      · decide
      · cases hq) hg) ht1 (fun q hq => by
      rcases List.mem_cons.1 hq with rfl | hq
      · decide
      · cases hq) hg2
theorem BookS.kept {w w1 : World} {base b : Nat} {VL VO : List Value} {v5 v10 : Value} (h : BookS w base b VL VO v5 v10) (hg : w.grownBy w1 v5.ownBlock) : w1.heap[b]? = some (.cells (bookC v5 v10) 39 (0, 0)) := by
  have hne : some b ≠ v5.ownBlock := fun e => by
    obtain ⟨c, hc⟩ := Kd.R_typed h.labs b e.symm
    rw [h.heap] at hc
    injection hc with hc
    injection hc with _ hc
    exact absurd hc (by decide)
  exact (hg.block b (blkLt h.heap) hne).trans h.heap
theorem BookS.below {w w1 : World} {base b : Nat} {VL VO : List Value} {v5 v10 : Value} (h : BookS w base b VL VO v5 v10) (hb : Below w.heap.size w w1) : BookS w1 base b VL VO v5 v10 :=
  ⟨(hb.block b (blkLt h.heap)).trans h.heap, h.old, Kd.R_below h.labs hb, Kd.R_below h.objs hb⟩
set_option maxHeartbeats 1600000 in
set_option maxRecDepth 100000 in
theorem bookLabels_calls (b base : Nat) (u v5 v10 : Value) (hu : u.cells = #[u]) (hu1 : u.oneCell' = true) (w : World) (VL VO : List Value) (h : BookS w base b VL VO v5 v10) (hn : (VL.length + 1) * 24 ≤ 140737488355328) (hbase : base ≤ w.heap.size) :
    Calls Tryd.prog 87 #[.pointer (some ⟨b, 0, none⟩), u] w fun e w' => e = .returned undef ∧ (∃ v5', BookS w' base b (VL ++ [u]) VO v5' v10) ∧ Below base w w' ∧ ∀ k, k < w.heap.size → k ≠ b → some k ≠ v5.ownBlock → w'.heap[k]? = w.heap[k]? := by
  have hc : w.cell? ⟨b, 5, none⟩ = some v5 := by rw [cell_of_row w b 5 _ _ _ h.heap]; rfl
  have H := Lib.hid h
  have HU := Lib.hid (And.intro hu (And.intro hu1 (And.intro hbase (show ((VL.map fun u => [u]).length + 1) * 24 ≤ 140737488355328 by rw [List.length_map]; exact hn))))
  clear h hu hu1
  go_enter Tryd.func87, Tryd.ntmps87
  go_wp2_with (first
    | ((with_reducible refine wpList_buildOne rfl 31 43 (.tmp 9) rfl u ?o1 ?o2 (.slice none 0 0) 24 Tryd.underlying31 ?o3 ?_); (case o1 => rfl); (case o2 => exact HU.out.1); (case o3 => exact infoLs))
    | (at_builtin; refine Kd.R_append (Kd.raw 1) (w0 := w) (W := w) base rfl (.tmp 8) (.tmp 10) 31 43 (.slice none 0 0) 24 rfl Tryd.underlying31 infoLs rfl (by decide) (by omega) v5 (VL.map fun u => [u]) [u] [u] (fun _ => True) (fun _ => False) rfl rfl ⟨rfl, rfl, fun q hq => by rw [List.mem_singleton.1 hq]; exact HU.out.2.1⟩ (fun _ h => h.elim) (fun _ _ => trivial) H.out.labs (Below.refl _ _) HU.out.2.2.1 HU.out.2.2.2 ?_; intro v1 w6 hR6 hB6 hg6 hat6; obtain ⟨A6, c6, e6⟩ := Kd.R_slice hR6; have hc6 : v1.cells = #[v1] := (by subst e6; rfl); have ho6 : v1.oneCell' = true := (by subst e6; rfl); have HA6 := Lib.hid (And.intro hc6 (And.intro ho6 (And.intro hR6 (And.intro hB6 hg6)))); clear hR6 hB6 hg6 hat6 e6 hc6 ho6)
    | ((with_reducible refine wpList_store1 rfl 31 (.tmp 13) (.tmp 11) rfl b 5 39 (bookC v5 v10) v1 ?q1 ?q2 ?q3 ?q4 ?q5 ?q6 ?q7 ?_); (case q1 => rfl); (case q2 => rfl); (case q3 => exact HA6.out.1); (case q4 => exact BookS.kept H.out HA6.out.2.2.2.2); (case q5 => exact (show 5 < 12 by decide)); (case q6 => kernel_rfl); (case q7 => exact HA6.out.2.1); intro w7 hh7 hk7 hb7 hz7; have hg7 : w6.grownBy w7 (some b) := grown_one (hb7 0 w6 (Below.refl _ _) (Nat.zero_le _)) hk7; have hS := BookS.stored H.out HA6.out.2.2.2.2 HA6.out.2.2.1 hh7 hg7; have hB7 := hb7 base w HA6.out.2.2.2.1 H.out.old; have hK7 : ∀ k, k < w.heap.size → k ≠ b → some k ≠ v5.ownBlock → w7.heap[k]? = w.heap[k]? := (fun k h1 h2 h3 => (hk7 k h2).trans (HA6.out.2.2.2.2.block k h1 h3))))
  go_end0
  exact ⟨rfl, ⟨_, hS⟩, hB7, hK7⟩
end Go.Proofs.YtoepbjgldmgaoaaDoor

/- Book.Object walked. -/
namespace Go.Proofs.YtoepbjgldmgaoaaDoor
open Go.RowKit Go.Proofs.YtoepbjgldmgaoaaDoorW.PrintWords Go.Proofs.YtoepbjgldmgaoaaDoorW.PrintLast
set_option maxHeartbeats 1600000 in
set_option maxRecDepth 100000 in
theorem bookObject_calls (b base : Nat) (o : Ob) (u4 u27 v5 v10 : Value) (h4 : u4.cells = #[u4] ∧ u4.oneCell' = true) (h27 : u27.cells = #[u27] ∧ u27.oneCell' = true) (w : World) (VL VO : List Value) (h : BookS w base b VL VO v5 v10) (hn : (VL.length + 2) * 24 ≤ 140737488355328) (hbase : base ≤ w.heap.size) :
    Calls Tryd.prog 51 #[.pointer (some ⟨b, 0, none⟩), .agg (o.cells u4 u27)] w fun e w' => e = .returned undef ∧ (∃ v5', BookS w' base b (VL ++ [u4] ++ [u27]) VO v5' v10) ∧ Below base w w' := by
  have H := Lib.hid h
  have HU := Lib.hid (And.intro h4 (And.intro h27 hbase))
  clear h h4 h27
  have HB1 := Lib.hid (H.out.below (w1 := w.alloc (.cells (o.cells u4 u27) 48)) (below_alloc (Below.refl _ _) _))
  go_enter Tryd.func51, Tryd.ntmps51
  go_wp2_with (first
    | ((with_reducible refine wpList_boxTo rfl 48 (.tmp 1) rfl _ ?b1 w.heap.size ?b2 (o.cells u4 u27) ?b3 ?_); (case b1 => rfl); (case b2 => rfl); (case b3 => rfl))
    | ((with_reducible refine wpList_load1_w 43 (.tmp 5) rfl ⟨w.heap.size, 4, none⟩ ?c1 ?c2 u4 _ ?c3 Tryd.underlying43 rfl ?_); (case c1 => rfl); (case c2 => rfl); (case c3 => rw [cell_of_row _ _ 4 _ _ _ (heap_alloc_new w _)]; rfl))
    | (go_at_call 87; (with_reducible refine (bookLabels_calls b base u4 v5 v10 HU.out.1.1 HU.out.1.2 _ VL VO HB1.out (by omega) (by have := HU.out.2.2; simp; omega)).mono ?_); rintro e w1 ⟨rfl, ⟨v5', hS1⟩, hb1, hk1⟩; have hx1 : w1.heap[w.heap.size]? = some (.cells (o.cells u4 u27) 48 (0, 0)) := (hk1 _ (by simp) (fun e => by have := blkLt H.out.heap; omega) (fun e => by have := Kd.R_lt H.out.labs _ e.symm; omega)).trans (heap_alloc_new w _); have HS1 := Lib.hid (And.intro hS1 (And.intro hb1 hx1)); clear hS1 hb1 hk1 hx1)
    | ((with_reducible refine wpList_load1_w 43 (.tmp 9) rfl ⟨w.heap.size, 27, none⟩ ?f1 ?f2 u27 _ ?f3 Tryd.underlying43 rfl ?_); (case f1 => rfl); (case f2 => rfl); (case f3 => rw [cell_of_row _ _ 27 _ _ _ HS1.out.2.2]; rfl))
    | (go_at_call 87; (with_reducible refine (bookLabels_calls b base u27 v5' v10 HU.out.2.1.1 HU.out.2.1.2 _ (VL ++ [u4]) VO HS1.out.1 (by rw [List.length_append, List.length_singleton]; omega) (by have := HU.out.2.2; have := HS1.out.2.1.size; simp at this; omega)).mono ?_); rintro e w2 ⟨rfl, ⟨v5'', hS2⟩, hb2, hk2⟩))
  go_end0
  exact ⟨rfl, ⟨_, hS2⟩, ((Below.refl base w).alloc HU.out.2.2 _ |>.trans HS1.out.2.1).trans hb2⟩
end Go.Proofs.YtoepbjgldmgaoaaDoor

/- Book.Objects walked: the list itself, and the lists within. -/
namespace Go.Proofs.YtoepbjgldmgaoaaDoor
open Go.RowKit Go.Proofs.YtoepbjgldmgaoaaDoorW.PrintWords Go.Proofs.YtoepbjgldmgaoaaDoorW.PrintLast
theorem infoOs : (Tryd.prog.info? 22).map (fun i => (i.zero, i.size, i.bytes)) = some (some (.slice none 0 0), 1, 24) := by kernel_rfl
theorem BookS.ne10 {w : World} {base b : Nat} {VL VO : List Value} {v5 v10 : Value} (h : BookS w base b VL VO v5 v10) : some b ≠ v10.ownBlock := fun e => by
  obtain ⟨c, hc⟩ := Kd.R_typed h.objs b e.symm
  rw [h.heap] at hc
  injection hc with hc
  injection hc with _ hc
  exact absurd hc (by decide)
theorem BookS.kept10 {w w1 : World} {base b : Nat} {VL VO : List Value} {v5 v10 : Value} (h : BookS w base b VL VO v5 v10) (hg : w.grownBy w1 v10.ownBlock) : w1.heap[b]? = some (.cells (bookC v5 v10) 39 (0, 0)) :=
  (hg.block b (blkLt h.heap) h.ne10).trans h.heap
theorem BookS.stored10 {w w1 w2 : World} {base b : Nat} {VL VO : List Value} {v5 v10 v10' u : Value} (h : BookS w base b VL VO v5 v10) (hg : w.grownBy w1 v10.ownBlock) (hR : (Kd.raw 1).R 22 w1 base (fun _ => True) v10' (VO.map (fun u => [u]) ++ [[u]]))
    (hh : w2.heap[b]? = some (.cells ((bookC v5 v10).setIfInBounds 10 v10') 39 (0, 0))) (hg2 : w1.grownBy w2 (some b)) : BookS w2 base b VL (VO ++ [u]) v5 v10' := by
  have hty := Kd.R_typed h.objs
  have hb1 := h.kept10 hg
  have ht1 : ∀ k, (Value.slice (some ⟨b, 0, none⟩) 0 0).ownBlock = some k → ∃ cells, w1.heap[k]? = some (Obj.cells cells 39) := fun k hk => by
    obtain rfl : b = k := by simpa [Value.ownBlock] using hk
    exact ⟨_, hb1⟩
  refine ⟨hh, h.old, ?_, ?_⟩
  · exact Kd.R_over' (v := .slice (some ⟨b, 0, none⟩) 0 0) (Kd.R_over' h.labs hty (fun q hq => by
      rcases List.mem_cons.1 hq with rfl | hq
      · decide
      · cases hq) hg) ht1 (fun q hq => by
      rcases List.mem_cons.1 hq with rfl | hq
      · decide
      · cases hq) hg2
  · rw [List.map_append]
    exact Kd.R_over' (v := .slice (some ⟨b, 0, none⟩) 0 0) hR ht1 (fun q hq => by
      rcases List.mem_cons.1 hq with rfl | hq
      · decide
      · cases hq) hg2
def labsOf (T : List (Ob × Value × Value)) : List Value := T.flatMap fun t => [t.2.1, t.2.2]
theorem labsOf_take {T : List (Ob × Value × Value)} {k : Nat} {o : Ob} {u4 u27 : Value} (h : T[k]? = some (o, u4, u27)) : labsOf (T.take (k + 1)) = labsOf (T.take k) ++ [u4] ++ [u27] := by
  have hk := (List.getElem?_eq_some_iff.1 h).1
  have e := (List.getElem?_eq_some_iff.1 h).2
  rw [List.take_succ_eq_append_getElem hk, e]
  simp [labsOf]
theorem labsOf_len (T : List (Ob × Value × Value)) : (labsOf T).length = 2 * T.length := by
  induction T with
  | nil => rfl
  | cons t r ih =>
    have e : labsOf (t :: r) = [t.2.1, t.2.2] ++ labsOf r := rfl
    have e2 : (t :: r).length = r.length + 1 := rfl
    have e3 : [t.2.1, t.2.2].length = 2 := rfl
    rw [e, List.length_append, ih, e2, e3]
    omega
theorem book_len {T : List (Ob × Value × Value)} {VL : List Value} {k n : Nat} (hT : T.length = n) (h : (VL.length + 2 * n + 2) * 24 ≤ 140737488355328) : ((VL ++ labsOf (T.take k)).length + 2) * 24 ≤ 140737488355328 := by
  rw [List.length_append, labsOf_len, List.length_take]
  have h1 : min k T.length ≤ n := by rw [← hT]; exact Nat.min_le_right _ _
  exact Nat.le_trans (Nat.mul_le_mul_right 24 (Nat.add_le_add_right (Nat.add_le_add_left (Nat.mul_le_mul_left 2 h1) _) 2)) h
structure TabAt (w : World) (A : Option Addr) (T : List (Ob × Value × Value)) : Prop where
  at_ : ∀ (i : Nat) o u4 u27, T[i]? = some (o, u4, u27) → ∃ ad, A = some ad ∧ ∀ (j : Nat) (u : Value), (o.cells u4 u27)[j]? = some u → w.cell? (ad.add (i * 32 + j)) = some u
  one : ∀ t ∈ T, (t.2.1.cells = #[t.2.1] ∧ t.2.1.oneCell' = true) ∧ (t.2.2.cells = #[t.2.2] ∧ t.2.2.oneCell' = true)
theorem TabAt.below {w w1 : World} {A : Option Addr} {T : List (Ob × Value × Value)} {base : Nat} (h : TabAt w A T) (hA : ∀ ad, A = some ad → ad.block < base) (hb : Below base w w1) : TabAt w1 A T :=
  ⟨fun i o u4 u27 hi => by
    obtain ⟨ad, e, hc⟩ := h.at_ i o u4 u27 hi
    refine ⟨ad, e, fun j u hu => ?_⟩
    exact (cell_same (w := w) (w' := w1) (a := ad.add (i * 32 + j)) (by rw [add_block]; exact hb.block _ (hA ad e))).trans (hc j u hu), h.one⟩
set_option maxHeartbeats 1600000 in
set_option maxRecDepth 100000 in
theorem bookObjects_calls (b base : Nat) (A : Option Addr) (n c : Nat) (T : List (Ob × Value × Value)) (v5 v10 : Value) (w : World) (VL VO : List Value) (hTn : T.length = n) (hT : TabAt w A T) (hA : ∀ ad, A = some ad → ad.block < base) (h : BookS w base b VL VO v5 v10)
    (hn : (VL.length + 2 * n + 2) * 24 ≤ 140737488355328) (hm : (VO.length + 1) * 24 ≤ 140737488355328) (hbase : base ≤ w.heap.size) :
    Calls Tryd.prog 16 #[.pointer (some ⟨b, 0, none⟩), .slice A n c] w fun e w' => e = .returned undef ∧ (∃ v5' v10', BookS w' base b (VL ++ labsOf T) (VO ++ [.slice A n c]) v5' v10') ∧ Below base w w' := by
  have hc : w.cell? ⟨b, 10, none⟩ = some v10 := by rw [cell_of_row w b 10 _ _ _ h.heap]; rfl
  have H := Lib.hid h
  have HT := Lib.hid (And.intro hTn (And.intro hT (And.intro hA (And.intro hbase (show ((VO.map fun u => [u]).length + 1) * 24 ≤ 140737488355328 by rw [List.length_map]; exact hm)))))
  obtain ⟨v, hv⟩ : ∃ v, v = Value.slice A n c := ⟨_, rfl⟩
  have HV := Lib.hid hv
  clear h hTn hT hA hv
  go_enter Tryd.func16, Tryd.ntmps16
  go_wp2_with (first
    | ((with_reducible refine wpList_buildOne rfl 36 22 (.tmp 10) rfl (.slice A n c) ?o1 ?o2 (.slice none 0 0) 24 Tryd.underlying36 ?o3 ?_); (case o1 => rfl); (case o2 => rfl); (case o3 => exact infoOs))
    | (at_builtin; refine Kd.R_append (Kd.raw 1) (w0 := w) (W := w) base rfl (.tmp 9) (.tmp 11) 36 22 (.slice none 0 0) 24 rfl Tryd.underlying36 infoOs rfl (by decide) (by omega) v10 (VO.map fun u => [u]) [.slice A n c] [.slice A n c] (fun _ => True) (fun _ => False) rfl rfl ⟨rfl, rfl, fun q hq => by rw [List.mem_singleton.1 hq]; rfl⟩ (fun _ h => h.elim) (fun _ _ => trivial) H.out.objs (Below.refl _ _) HT.out.2.2.2.1 HT.out.2.2.2.2 ?_; intro v1 w6 hR6 hB6 hg6 hat6; obtain ⟨A6, c6, e6⟩ := Kd.R_slice hR6; have hc6 : v1.cells = #[v1] := (by subst e6; rfl); have ho6 : v1.oneCell' = true := (by subst e6; rfl); have HA6 := Lib.hid (And.intro hc6 (And.intro ho6 (And.intro hR6 (And.intro hB6 hg6)))); clear hR6 hB6 hg6 hat6 e6 hc6 ho6)
    | ((with_reducible refine wpList_store1 rfl 36 (.tmp 14) (.tmp 12) rfl b 10 39 (bookC v5 v10) v1 ?q1 ?q2 ?q3 ?q4 ?q5 ?q6 ?q7 ?_); (case q1 => rfl); (case q2 => rfl); (case q3 => exact HA6.out.1); (case q4 => exact BookS.kept10 H.out HA6.out.2.2.2.2); (case q5 => exact (show 10 < 12 by decide)); (case q6 => kernel_rfl); (case q7 => exact HA6.out.2.1); intro w7 hh7 hk7 hb7 hz7; have hg7 : w6.grownBy w7 (some b) := grown_one (hb7 0 w6 (Below.refl _ _) (Nat.zero_le _)) hk7; have hS := BookS.stored10 H.out HA6.out.2.2.2.2 HA6.out.2.2.1 hh7 hg7; have hB7 := hb7 base w HA6.out.2.2.2.1 H.out.old; replace HA7 := Lib.hid (And.intro hS hB7); clear hS hB7 hg7 hb7 hz7))
  go_loopw [4] (fun v4 wr => ∃ k : Nat, k ≤ n ∧ v4 = .int .i64 k ∧ ∃ v5', Hid (BookS wr base b (VL ++ labsOf (T.take k)) (VO ++ [.slice A n c]) v5' v1 ∧ Below base w wr)) (fun v4 _ => n - (intOf v4).toNat)
  case atStart => exact ⟨0, Nat.zero_le _, rfl, v5, Lib.hid ⟨by simpa [labsOf] using HA7.out.1, HA7.out.2⟩⟩
  case round =>
    obtain ⟨k, hk, rfl, v5', hI⟩ := hrel
    by_cases hkn : k < n
    · obtain ⟨⟨o, u4, u27⟩, ht⟩ : ∃ t, T[k]? = some t := ⟨_, List.getElem?_eq_getElem (by have := HT.out.1; omega)⟩
      obtain ⟨ad, rfl, hcells⟩ := (HT.out.2.1.below HT.out.2.2.1 hI.out.2).at_ k o u4 u27 ht
      have hone := HT.out.2.1.one _ (List.mem_of_getElem? ht)
      have hlen : ((VL ++ labsOf (T.take k)).length + 2) * 24 ≤ 140737488355328 := book_len HT.out.1 hn
      have hszr : base ≤ wr.heap.size := Nat.le_trans HT.out.2.2.2.1 hI.out.2.size
      have hlk : (k : Int) < (n : Int) := by omega
      have HC := Lib.hid (And.intro hcells (And.intro hone (And.intro hlen (And.intro hszr ht))))
      clear hcells hone hlen hszr ht
      go_wp2_with (first
        | ((with_reducible refine wpList_load_any_w ?g0 48 (.tmp 24) rfl (ad.add (k * 32)) ?g1 (o.cells u4 u27) _ ?g2 Tryd.underlying48 rfl ?g3 ?_); (case g0 => rfl); (case g1 => rfl); (case g2 => intro j u hu; rw [add_add]; exact HC.out.1 j u hu); (case g3 => exact infoO1))
        | (go_at_call 51; (with_reducible refine (bookObject_calls b base o u4 u27 v5' v1 HC.out.2.1.1 HC.out.2.1.2 _ (VL ++ labsOf (T.take k)) (VO ++ [.slice (some ad) n c]) hI.out.1 HC.out.2.2.1 HC.out.2.2.2.1).mono ?_); rintro e w2 ⟨rfl, ⟨v5'', hS2⟩, hb2⟩; rw [List.append_assoc, List.append_assoc, ← List.append_assoc (labsOf (T.take k)), ← labsOf_take HC.out.2.2.2.2] at hS2; have HS2 := Lib.hid (And.intro hS2 (hI.out.2.trans hb2)); clear hS2 hb2))
      go_roundw
      case rel => exact ⟨k + 1, by omega, by go_num, v5'', HS2⟩
      case measure => simp [intOf]; omega
    · obtain rfl : n = k := by omega
      have hfin := hI.out
      rw [List.take_of_length_le (Nat.le_of_eq HT.out.1)] at hfin
      replace hfin := Lib.hid hfin
      go_wp2
      go_end0
      exact ⟨rfl, ⟨_, _, hfin.out.1⟩, hfin.out.2⟩
end Go.Proofs.YtoepbjgldmgaoaaDoor

/- apartObjects, plainly: lists of objects, each of its own block; two cells of each object are marked. -/
namespace Go.Proofs.YtoepbjgldmgaoaaDoor
open Go.RowKit Go.Proofs.YtoepbjgldmgaoaaDoorW.PrintWords Go.Proofs.YtoepbjgldmgaoaaDoorW.PrintLast
def mkB (n i : Nat) : Int := if i < n then (i : Int) else 1000 + ((i : Int) - (n : Int))
def mF : Nat := 18446744073709551616
inductive OV (w : World) (k m : Nat) : Value → Prop
  | nil : OV w k m (.slice none 0 0)
  | one (b n c : Nat) (cur : Array Value) (hn : n ≤ c) (hx : c ≤ 9223372036854775807) (hh : w.heap[b]? = some (.cells cur 48 (0, 0))) (hs : c * 32 ≤ cur.size)
      (hm : ∀ i, i < m → i < c → i < n + 64 → cur[i * 32 + 2]? = some (.int .i64 (-7 - (k : Int))) ∧ cur[i * 32 + 3]? = some (.int .i64 (mkB n i))) : OV w k m (.slice (some ⟨b, 0, none⟩) n c)
theorem OV.fin {w : World} {k m m' : Nat} {b n c : Nat} (h : OV w k m (.slice (some ⟨b, 0, none⟩) n c)) (hl : c ≤ m ∨ n + 64 ≤ m) : OV w k m' (.slice (some ⟨b, 0, none⟩) n c) := by
  cases h with
  | one _ _ _ cur hn hx hh hs hm => exact .one b n c cur hn hx hh hs (fun i _ hc h6 => hm i (by omega) hc h6)
theorem OV.keep {w w1 : World} {k m : Nat} {v : Value} (h : OV w k m v) (hb : ∀ b, v.ownBlock = some b → b < w.heap.size → w1.heap[b]? = w.heap[b]?) : OV w1 k m v := by
  cases h with
  | nil => exact .nil
  | one b n c cur hn hx hh hs hm => exact .one b n c cur hn hx ((hb b rfl (blkLt hh)).trans hh) hs hm
theorem OV.below {w w1 : World} {k m : Nat} {v : Value} (h : OV w k m v) (hb : Below w.heap.size w w1) : OV w1 k m v := h.keep fun b _ hl => hb.block b hl
theorem OV.open_ {w : World} {k m b n c : Nat} (h : OV w k m (.slice (some ⟨b, 0, none⟩) n c)) : ∃ cur : Array Value, n ≤ c ∧ c ≤ 9223372036854775807 ∧ w.heap[b]? = some (.cells cur 48 (0, 0)) ∧ c * 32 ≤ cur.size ∧
    ∀ i, i < m → i < c → i < n + 64 → cur[i * 32 + 2]? = some (.int .i64 (-7 - (k : Int))) ∧ cur[i * 32 + 3]? = some (.int .i64 (mkB n i)) := by
  cases h with
  | one _ _ _ cur hn hx hh hs hm => exact ⟨cur, hn, hx, hh, hs, hm⟩
theorem OV.step {w w1 : World} {k i : Nat} {b n c : Nat} (h : OV w k i (.slice (some ⟨b, 0, none⟩) n c)) (hi : i < c) {cur : Array Value} (hc : w.heap[b]? = some (.cells cur 48 (0, 0)))
    (h1 : w1.heap[b]? = some (.cells ((cur.setIfInBounds (i * 32 + 2) (.int .i64 (-7 - (k : Int)))).setIfInBounds (i * 32 + 3) (.int .i64 (mkB n i))) 48 (0, 0))) : OV w1 k (i + 1) (.slice (some ⟨b, 0, none⟩) n c) := by
  cases h with
  | one _ _ _ cur' hn hx hh hs hm =>
    rw [hc] at hh
    injection hh with hh
    injection hh with hh
    subst hh
    refine .one b n c _ hn hx h1 (by simpa using hs) (fun j hj hjc hj6 => ?_)
    have hsz : j * 32 + 3 < cur.size := by omega
    by_cases e : j = i
    · subst e
      refine ⟨?_, ?_⟩
      · rw [Array.getElem?_setIfInBounds_ne (by omega), Array.getElem?_setIfInBounds_self_of_lt (by omega)]
      · rw [Array.getElem?_setIfInBounds_self_of_lt (by simpa using hsz)]
    · obtain ⟨p, q⟩ := hm j (by omega) hjc hj6
      refine ⟨?_, ?_⟩
      · rw [Array.getElem?_setIfInBounds_ne (by omega), Array.getElem?_setIfInBounds_ne (by omega)]
        exact p
      · rw [Array.getElem?_setIfInBounds_ne (by omega), Array.getElem?_setIfInBounds_ne (by omega)]
        exact q
structure OVs (w : World) (V : List Value) (m : Nat → Nat) : Prop where
  row : ∀ k v, V[k]? = some v → OV w k (m k) v
theorem OVs.below {w w1 : World} {V : List Value} {m : Nat → Nat} (h : OVs w V m) (hb : Below w.heap.size w w1) : OVs w1 V m := ⟨fun k v hv => (h.row k v hv).below hb⟩
theorem OVs.congr {w : World} {V : List Value} {m m' : Nat → Nat} (h : OVs w V m) (e : ∀ k, m k = m' k) : OVs w V m' := ⟨fun k v hv => by rw [← e k]; exact h.row k v hv⟩
theorem OVs.turn {w w1 : World} {V : List Value} {k m0 i : Nat} (h : OVs w V (fun j => if j < k then mF else if j = k then m0 else 0)) (ha : ApartV V) {v : Value} (hk : V[k]? = some v) (hb : ∀ b, v.ownBlock ≠ some b → w1.heap[b]? = w.heap[b]?) (hR : OV w1 k i v) :
    OVs w1 V (fun j => if j < k then mF else if j = k then i else 0) := by
  refine ⟨fun j u hu => ?_⟩
  by_cases hj : j = k
  · subst hj
    rw [hk] at hu
    obtain rfl := Option.some.inj hu
    simpa using hR
  · have h0 := (h.row j u hu).keep (w1 := w1) fun b hb1 hl => hb b (fun e => ha j k u v hj hu hk b hb1 e)
    simpa only [hj, if_false] using h0
theorem OVs.start {w : World} {V : List Value} {k : Nat} (h : OVs w V (fun j => if j < k then mF else 0)) : OVs w V (fun j => if j < k then mF else if j = k then 0 else 0) := h.congr fun j => by simp
theorem OVs.next {w : World} {V : List Value} {k m0 : Nat} (h : OVs w V (fun j => if j < k then mF else if j = k then m0 else 0)) {v : Value} (hk : V[k]? = some v) (hR : OV w k mF v) : OVs w V (fun j => if j < k + 1 then mF else 0) := by
  refine ⟨fun j u hu => ?_⟩
  by_cases hj : j = k
  · subst hj
    rw [hk] at hu
    obtain rfl := Option.some.inj hu
    simpa using hR
  · have h0 := h.row j u hu
    have e : (j < k + 1) = (j < k) := by simp; omega
    simpa only [e, hj, if_false] using h0
theorem OnlyB.stored {G : Nat → Prop} {w w1 : World} {b : Nat} (hk : ∀ k, k ≠ b → w1.heap[k]? = w.heap[k]?) (hb : ∀ B w0, Below B w0 w → B ≤ b → Below B w0 w1) (hG : G b) : OnlyB G w w1 := by
  have h0 := hb 0 w (Below.refl _ _) (Nat.zero_le _)
  exact ⟨h0.os, h0.tape, h0.output, h0.size, fun k _ hn => hk k (fun e => hn (e ▸ hG))⟩
theorem cut_spare (b n c : Nat) (hn : n ≤ c) :
    ∃ A' : Option Addr, (∀ W : World, (Instr.slice 22 (.slice (some ⟨b, 0, none⟩) n c) (some (.int .i64 (n : Int))) (some (.int .i64 (c : Int))) none).run Tryd.prog W = .ok (.slice A' (c - n) (c - n)) W) ∧ (0 < c - n → A' = some ⟨b, n * 32, none⟩) := by
  have ht := Tryd.underlying22
  obtain ⟨i0, hi, hzz⟩ := Option.map_eq_some_iff.1 infoO
  simp only [Prod.mk.injEq] at hzz
  obtain ⟨_, hz1, _⟩ := hzz
  refine ⟨if c = n then some ⟨b, 0, none⟩ else some ⟨b, n * 32, none⟩, fun W => ?_, fun h => by rw [if_neg (by omega)]⟩
  have hel : Tryd.prog.elem 22 = 48 := by simp [Program.elem, ht]
  have hu : Tryd.prog.underlying 22 = some (.slice (Tryd.prog.elem 22)) := by rw [hel]; exact ht
  rw [run_slice_lh W 22 (some ⟨b, 0, none⟩) n c hu .i64 .i64 (n : Int) (c : Int) (Int.natCast_nonneg _) (by omega) (by omega), hel]
  simp [sizeOf, typeInfo, hi, hz1, sliced, Result.andThen, add_at]
end Go.Proofs.YtoepbjgldmgaoaaDoor

/- apartObjects walked: lists of objects, each of its own block, are marked, their spare room too, and hold the marks. -/
namespace Go.Proofs.YtoepbjgldmgaoaaDoor
open Go.RowKit Go.Proofs.YtoepbjgldmgaoaaDoorW.PrintWords Go.Proofs.YtoepbjgldmgaoaaDoorW.PrintLast
theorem zero_apartObjects (A : Option Addr) (c : Nat) (w : World) : Calls Tryd.prog 52 #[.slice A 0 c] w fun e w' => e = .returned (.bool true) ∧ w' = w := by
  go_enter Tryd.func52, Tryd.ntmps52
  go_wp2
  go_rounds 1
  go_rounds 1
  go_ret
  exact ⟨rfl, rfl⟩
set_option maxHeartbeats 4000000 in
set_option maxRecDepth 100000 in
theorem apartObjects_calls (ad : Addr) (cap N : Nat) (V : List Value) (w : World) (hVN : V.length = N) (hN : N ≤ 1000000) (hrow : RowV w ad V) (hB : OVs w V (fun _ => 0)) (ha : ApartV V) :
    Calls Tryd.prog 52 #[.slice (some ad) N cap] w fun e w' => e = .returned (.bool true) ∧ OnlyB (inV V) w w' := by
  have HRow := Lib.hid hrow
  have HBk := Lib.hid hB
  have HA := Lib.hid ha
  have HL := Lib.hid hVN
  clear hrow hB ha hVN
  go_enter Tryd.func52, Tryd.ntmps52
  go_wp2
  go_loopw [3] (fun v3 wr => ∃ k : Nat, k ≤ N ∧ v3 = .int .i64 k ∧ Hid (OVs wr V (fun j => if j < k then mF else 0) ∧ OnlyB (inV V) w wr)) (fun v3 _ => N - (intOf v3).toNat)
  case atStart => exact ⟨0, Nat.zero_le _, rfl, Lib.hid ⟨HBk.out.congr (fun k => by rw [if_neg (by omega)]), OnlyB.refl _ _⟩⟩
  case round =>
    obtain ⟨k, hk, rfl, hI⟩ := hrel
    by_cases hkn : k < N
    · obtain ⟨v, hv⟩ : ∃ v, V[k]? = some v := ⟨_, List.getElem?_eq_getElem (by have := HL.out; omega)⟩
      have hr := hI.out.1.row k v hv
      rw [if_neg (Nat.lt_irrefl k)] at hr
      have hlk : (k : Int) < (N : Int) := by omega
      have q1 := (HRow.out.only hI.out.2).cells k _ hv
      have hz7 : wrap64 (-7 - (k : Int)) = -7 - (k : Int) := by unfold wrap64; omega
      have HV := Lib.hid hv
      cases hr with
      | nil =>
        have hnx : Hid (OVs wr V (fun j => if j < k + 1 then mF else 0) ∧ OnlyB (inV V) w wr) := Lib.hid ⟨hI.out.1.start.next hv .nil, hI.out.2⟩
        clear hv
        go_wp2
        go_rounds 1
        go_rounds 1
        go_roundw
        case rel => exact ⟨k + 1, by omega, by go_num, hnx⟩
        case measure => simp [intOf]; omega
      | one b n c cur hn hx hh hs hm =>
        have HK := Lib.hid (And.intro hn hx)
        clear hh hs hm hv cur
        have hst := Lib.hid (And.intro hI.out.1.start hI.out.2)
        go_wp2
        rename World => wo
        go_loopw [4] (fun v4 wr => ∃ i : Nat, i ≤ n ∧ v4 = .int .i64 i ∧ Hid (OVs wr V (fun j => if j < k then mF else if j = k then i else 0) ∧ OnlyB (inV V) w wr)) (fun v4 _ => n - (intOf v4).toNat)
        case atStart => exact ⟨0, Nat.zero_le _, rfl, hst⟩
        case round =>
          obtain ⟨i, hi, rfl, hJ⟩ := hrel
          have q1 := (HRow.out.only hJ.out.2).cells k _ HV.out
          by_cases hin : i < n
          · have hr := hJ.out.1.row k _ HV.out
            rw [if_neg (Nat.lt_irrefl k), if_pos rfl] at hr
            obtain ⟨cur, _, _, hh, hs, _⟩ := hr.open_
            have HC := Lib.hid (And.intro hh (And.intro hs hr))
            have hini : (i : Int) < (n : Int) := by omega
            have hbb : inV V b := ⟨_, List.mem_of_getElem? HV.out, rfl⟩
            clear hh hs hr
            go_wp2_with (first
              | ((with_reducible refine wpList_store1 rfl 3 (.tmp 36) (.tmp 34) rfl b (i * 32 + 2) 48 cur (.int .i64 (-7 - (k : Int))) ?q1 ?q2 ?q3 ?q4 ?q5 ?q6 ?q7 ?_); (case q1 => rfl); (case q2 => rfl); (case q3 => rfl); (case q4 => exact HC.out.1); (case q5 => (have := HC.out.2.1; have := HK.out.1; omega)); (case q6 => kernel_rfl); (case q7 => rfl); intro w6 hh6 hk6 hb6 hz6; have HO6 := Lib.hid (And.intro hh6 (And.intro hk6 (hJ.out.2.trans (OnlyB.stored hk6 hb6 hbb)))); have q2 := (HRow.out.only HO6.out.2.2).cells k _ HV.out; clear hh6 hk6 hb6 hz6)
              | ((with_reducible refine wpList_store1 rfl 3 (.tmp 44) (.tmp 42) rfl b (i * 32 + 3) 48 (cur.setIfInBounds (i * 32 + 2) (.int .i64 (-7 - (k : Int)))) (.int .i64 (i : Int)) ?r1 ?r2 ?r3 ?r4 ?r5 ?r6 ?r7 ?_); (case r1 => rfl); (case r2 => rfl); (case r3 => rfl); (case r4 => exact HO6.out.1); (case r5 => (rw [Array.size_setIfInBounds]; have := HC.out.2.1; have := HK.out.1; omega)); (case r6 => kernel_rfl); (case r7 => rfl); intro w7 hh7 hk7 hb7 hz7; have hst7 : Hid (OVs w7 V (fun j => if j < k then mF else if j = k then i + 1 else 0) ∧ OnlyB (inV V) w w7) := Lib.hid ⟨hJ.out.1.turn HA.out HV.out (fun g hg => (hk7 g (fun e => hg (by rw [e]; rfl))).trans (HO6.out.2.1 g (fun e => hg (by rw [e]; rfl)))) (OV.step HC.out.2.2 (by have := HK.out.1; omega) HC.out.1 (by rw [hh7, mkB, if_pos hin])), HO6.out.2.2.trans (OnlyB.stored hk7 hb7 hbb)⟩; clear hh7 hk7 hb7 hz7))
            go_roundw
            case rel => exact ⟨i + 1, by omega, by go_num, hst7⟩
            case measure => simp [intOf]; omega
          · obtain rfl : n = i := by omega
            obtain ⟨A6, hcut, hA6⟩ := cut_spare b n c HK.out.1
            have hA6 := Lib.hid hA6
            have hcn : (n : Int) ≤ (c : Int) := by have := HK.out.1; omega
            go_wp2
            rename World => wo2
            go_loopw [7] (fun v7 wr => ∃ i : Nat, i ≤ c - n ∧ i ≤ 64 ∧ v7 = .int .i64 i ∧ Hid (OVs wr V (fun j => if j < k then mF else if j = k then n + i else 0) ∧ OnlyB (inV V) w wr)) (fun v7 _ => c - n - (intOf v7).toNat)
            case atStart => exact ⟨0, Nat.zero_le _, Nat.zero_le _, rfl, hJ⟩
            case round =>
              obtain ⟨i, hi, hi6, rfl, hJ⟩ := hrel
              by_cases hin : i < c - n
              · by_cases hi64 : i < 64
                · have hr := hJ.out.1.row k _ HV.out
                  rw [if_neg (Nat.lt_irrefl k), if_pos rfl] at hr
                  obtain ⟨cur, _, _, hh, hs, _⟩ := hr.open_
                  obtain rfl := hA6.out (by omega)
                  have HC := Lib.hid (And.intro hh (And.intro hs hr))
                  have hini : (i : Int) < ((c - n : Nat) : Int) := by omega
                  have hi64' : (i : Int) < 64 := by omega
                  have hwi : wrap64 (1000 + (i : Int)) = 1000 + (i : Int) := by unfold wrap64; omega
                  have hbb : inV V b := ⟨_, List.mem_of_getElem? HV.out, rfl⟩
                  clear hh hs hr
                  go_wp2_with (first
                    | ((with_reducible refine wpList_store1 rfl 3 (.tmp 70) (.tmp 68) rfl b (n * 32 + i * 32 + 2) 48 cur (.int .i64 (-7 - (k : Int))) ?q1 ?q2 ?q3 ?q4 ?q5 ?q6 ?q7 ?_); (case q1 => rfl); (case q2 => rfl); (case q3 => rfl); (case q4 => exact HC.out.1); (case q5 => (have := HC.out.2.1; have := HK.out.1; omega)); (case q6 => kernel_rfl); (case q7 => rfl); intro w6 hh6 hk6 hb6 hz6; have HO6 := Lib.hid (And.intro hh6 (And.intro hk6 (hJ.out.2.trans (OnlyB.stored hk6 hb6 hbb)))); clear hh6 hk6 hb6 hz6)
                    | ((with_reducible refine wpList_store1 rfl 3 (.tmp 76) (.tmp 74) rfl b (n * 32 + i * 32 + 3) 48 (cur.setIfInBounds (n * 32 + i * 32 + 2) (.int .i64 (-7 - (k : Int)))) (.int .i64 (1000 + (i : Int))) ?r1 ?r2 ?r3 ?r4 ?r5 ?r6 ?r7 ?_); (case r1 => rfl); (case r2 => rfl); (case r3 => rfl); (case r4 => exact HO6.out.1); (case r5 => (rw [Array.size_setIfInBounds]; have := HC.out.2.1; have := HK.out.1; omega)); (case r6 => kernel_rfl); (case r7 => rfl); intro w7 hh7 hk7 hb7 hz7; have hst7 : Hid (OVs w7 V (fun j => if j < k then mF else if j = k then n + (i + 1) else 0) ∧ OnlyB (inV V) w w7) := Lib.hid ⟨hJ.out.1.turn HA.out HV.out (fun g hg => (hk7 g (fun e => hg (by rw [e]; rfl))).trans (HO6.out.2.1 g (fun e => hg (by rw [e]; rfl)))) (OV.step (i := n + i) HC.out.2.2 (by omega) HC.out.1 (by rw [hh7, mkB, if_neg (by omega), Nat.add_mul, show 1000 + (((n + i : Nat) : Int) - (n : Int)) = 1000 + (i : Int) by omega])), HO6.out.2.2.trans (OnlyB.stored hk7 hb7 hbb)⟩; clear hh7 hk7 hb7 hz7))
                  go_roundw
                  case rel => exact ⟨i + 1, by omega, by omega, by go_num, hst7⟩
                  case measure => simp [intOf]; omega
                · obtain rfl : i = 64 := by omega
                  have hnx : Hid (OVs wr V (fun j => if j < k + 1 then mF else 0) ∧ OnlyB (inV V) w wr) := Lib.hid ⟨hJ.out.1.next HV.out (by
                    have hr := hJ.out.1.row k _ HV.out
                    rw [if_neg (Nat.lt_irrefl k), if_pos rfl] at hr
                    exact hr.fin (.inr (Nat.le_refl _))), hJ.out.2⟩
                  have hini : (64 : Int) < ((c - n : Nat) : Int) := by omega
                  go_wp2
                  go_roundw
                  case rel => exact ⟨k + 1, by omega, by go_num, hnx⟩
                  case measure => simp [intOf]; omega
              · have hic : i = c - n := by omega
                subst hic
                have hnx : Hid (OVs wr V (fun j => if j < k + 1 then mF else 0) ∧ OnlyB (inV V) w wr) := Lib.hid ⟨hJ.out.1.next HV.out (by
                    have hr := hJ.out.1.row k _ HV.out
                    rw [if_neg (Nat.lt_irrefl k), if_pos rfl] at hr
                    exact hr.fin (.inl (by have := HK.out.1; omega))), hJ.out.2⟩
                go_wp2
                go_roundw
                case rel => exact ⟨k + 1, by omega, by go_num, hnx⟩
                case measure => simp [intOf]; omega
    · obtain rfl : N = k := by omega
      have HF := Lib.hid (And.intro hI.out.1 (And.intro hI.out.2 (HRow.out.only hI.out.2)))
      clear hI
      rename World => wa
      go_wp2
      go_loopw [8] (fun v8 wr => ∃ k : Nat, k ≤ N ∧ v8 = .int .i64 k ∧ wr = wa) (fun v8 _ => N - (intOf v8).toNat)
      case atStart => exact ⟨0, Nat.zero_le _, rfl, rfl⟩
      case round =>
        obtain ⟨k, hk, rfl, rfl⟩ := hrel
        by_cases hkn : k < N
        · obtain ⟨v, hv⟩ : ∃ v, V[k]? = some v := ⟨_, List.getElem?_eq_getElem (by have := HL.out; omega)⟩
          have hr := HF.out.1.row k v hv
          rw [if_pos hkn] at hr
          have hlk : (k : Int) < (N : Int) := by omega
          have q1 := HF.out.2.2.cells k _ hv
          have hz7 : wrap64 (-7 - (k : Int)) = -7 - (k : Int) := by unfold wrap64; omega
          have HV := Lib.hid hv
          cases hr with
          | nil =>
            clear hv
            go_wp2
            go_rounds 1
            go_rounds 1
            go_roundw
            case rel => exact ⟨k + 1, by omega, by go_num, by first | rfl | trivial⟩
            case measure => simp [intOf]; omega
          | one b n c cur hn hx hh hs hm =>
            have HK := Lib.hid (And.intro hn hx)
            have HC : Hid (∀ i, i < c → i < n + 64 → wr.cell? ⟨b, i * 32 + 2, none⟩ = some (.int .i64 (-7 - (k : Int))) ∧ wr.cell? ⟨b, i * 32 + 3, none⟩ = some (.int .i64 (mkB n i))) := Lib.hid fun i hi h6 => by
              have hm' := hm i (by show i < 18446744073709551616; omega) hi h6
              rw [cell_of_row _ b _ cur _ _ hh, cell_of_row _ b _ cur _ _ hh]
              exact hm'
            clear hh hs hm hv cur
            go_wp2
            rename World => wo
            go_loopw [9] (fun v9 wr => ∃ i : Nat, i ≤ n ∧ v9 = .int .i64 i ∧ wr = wo) (fun v9 _ => n - (intOf v9).toNat)
            case atStart => exact ⟨0, Nat.zero_le _, rfl, rfl⟩
            case round =>
              obtain ⟨i, hi, rfl, rfl⟩ := hrel
              by_cases hin : i < n
              · obtain ⟨c1, c2⟩ := HC.out i (by have := HK.out.1; omega) (by omega)
                rw [mkB, if_pos hin] at c2
                have hini : (i : Int) < (n : Int) := by omega
                go_wp2
                go_roundw
                case rel => exact ⟨i + 1, by omega, by go_num, by first | rfl | trivial⟩
                case measure => simp [intOf]; omega
              · obtain rfl : n = i := by omega
                obtain ⟨A6, hcut, hA6⟩ := cut_spare b n c HK.out.1
                have hA6 := Lib.hid hA6
                have hcn : (n : Int) ≤ (c : Int) := by have := HK.out.1; omega
                go_wp2
                rename World => wo2
                go_loopw [12] (fun v12 wr => ∃ i : Nat, i ≤ c - n ∧ i ≤ 64 ∧ v12 = .int .i64 i ∧ wr = wo2) (fun v12 _ => c - n - (intOf v12).toNat)
                case atStart => exact ⟨0, Nat.zero_le _, Nat.zero_le _, rfl, rfl⟩
                case round =>
                  obtain ⟨i, hi, hi6, rfl, rfl⟩ := hrel
                  by_cases hin : i < c - n
                  · by_cases hi64 : i < 64
                    · obtain ⟨c1, c2⟩ := HC.out (n + i) (by omega) (by omega)
                      obtain rfl := hA6.out (by omega)
                      rw [mkB, if_neg (by omega), show 1000 + (((n + i : Nat) : Int) - (n : Int)) = 1000 + (i : Int) by omega, Nat.add_mul] at c2
                      rw [Nat.add_mul] at c1
                      have hini : (i : Int) < ((c - n : Nat) : Int) := by omega
                      have hi64' : (i : Int) < 64 := by omega
                      have hwi : wrap64 (1000 + (i : Int)) = 1000 + (i : Int) := by unfold wrap64; omega
                      go_wp2
                      go_roundw
                      case rel => exact ⟨i + 1, by omega, by omega, by go_num, by first | rfl | trivial⟩
                      case measure => simp [intOf]; omega
                    · obtain rfl : i = 64 := by omega
                      have hini : (64 : Int) < ((c - n : Nat) : Int) := by omega
                      go_wp2
                      go_roundw
                      case rel => exact ⟨k + 1, by omega, by go_num, by first | rfl | trivial⟩
                      case measure => simp [intOf]; omega
                  · have hic : i = c - n := by omega
                    subst hic
                    go_wp2
                    go_roundw
                    case rel => exact ⟨k + 1, by omega, by go_num, by first | rfl | trivial⟩
                    case measure => simp [intOf]; omega
        · obtain rfl : N = k := by omega
          go_wp2
          go_ret
          exact ⟨rfl, HF.out.2.1⟩
end Go.Proofs.YtoepbjgldmgaoaaDoor

/- The book's other lists are empty: no round of any loop. -/
namespace Go.Proofs.YtoepbjgldmgaoaaDoor
set_option maxRecDepth 100000
open Go.RowKit Go.Proofs.YtoepbjgldmgaoaaDoorW.PrintWords Go.Proofs.YtoepbjgldmgaoaaDoorW.PrintLast
theorem nil_apartOps (w : World) : Calls Tryd.prog 53 #[.slice none 0 0] w fun e w' => e = .returned (.bool true) ∧ w' = w := by
  go_enter Tryd.func53, Tryd.ntmps53
  go_wp2
  go_rounds 1
  go_rounds 1
  go_ret
  exact ⟨rfl, rfl⟩
theorem nil_ApartBytes (w : World) : Calls Tryd.prog 54 #[.slice none 0 0] w fun e w' => e = .returned (.bool true) ∧ w' = w := by
  go_enter Tryd.func54, Tryd.ntmps54
  go_wp2
  go_rounds 1
  go_rounds 1
  go_rounds 1
  go_ret
  exact ⟨rfl, rfl⟩
theorem nil_ApartTexts (w : World) : Calls Tryd.prog 55 #[.slice none 0 0] w fun e w' => e = .returned (.bool true) ∧ w' = w := by
  go_enter Tryd.func55, Tryd.ntmps55
  go_wp2
  go_rounds 1
  go_rounds 1
  go_rounds 1
  go_ret
  exact ⟨rfl, rfl⟩
theorem nil_ApartInts (w : World) : Calls Tryd.prog 56 #[.slice none 0 0] w fun e w' => e = .returned (.bool true) ∧ w' = w := by
  go_enter Tryd.func56, Tryd.ntmps56
  go_wp2
  go_rounds 1
  go_rounds 1
  go_rounds 1
  go_ret
  exact ⟨rfl, rfl⟩
theorem nil_ApartNumbers (w : World) : Calls Tryd.prog 57 #[.slice none 0 0] w fun e w' => e = .returned (.bool true) ∧ w' = w := by
  go_enter Tryd.func57, Tryd.ntmps57
  go_wp2
  go_rounds 1
  go_rounds 1
  go_rounds 1
  go_ret
  exact ⟨rfl, rfl⟩
theorem nil_ApartBools (w : World) : Calls Tryd.prog 58 #[.slice none 0 0] w fun e w' => e = .returned (.bool true) ∧ w' = w := by
  go_enter Tryd.func58, Tryd.ntmps58
  go_wp2
  go_rounds 1
  go_rounds 1
  go_rounds 1
  go_ret
  exact ⟨rfl, rfl⟩
theorem nil_ApartKeys (w : World) : Calls Tryd.prog 60 #[.slice none 0 0] w fun e w' => e = .returned (.bool true) ∧ w' = w := by
  go_enter Tryd.func60, Tryd.ntmps60
  go_wp2
  go_rounds 1
  go_rounds 1
  go_rounds 1
  go_ret
  exact ⟨rfl, rfl⟩
theorem nil_ApartConds (w : World) : Calls Tryd.prog 61 #[.slice none 0 0] w fun e w' => e = .returned (.bool true) ∧ w' = w := by
  go_enter Tryd.func61, Tryd.ntmps61
  go_wp2
  go_rounds 1
  go_rounds 1
  go_rounds 1
  go_ret
  exact ⟨rfl, rfl⟩
theorem nil_ApartAmounts (w : World) : Calls Tryd.prog 62 #[.slice none 0 0] w fun e w' => e = .returned (.bool true) ∧ w' = w := by
  go_enter Tryd.func62, Tryd.ntmps62
  go_wp2
  go_rounds 1
  go_rounds 1
  go_rounds 1
  go_ret
  exact ⟨rfl, rfl⟩
theorem nil_ApartProbes (w : World) : Calls Tryd.prog 63 #[.slice none 0 0] w fun e w' => e = .returned (.bool true) ∧ w' = w := by
  go_enter Tryd.func63, Tryd.ntmps63
  go_wp2
  go_rounds 1
  go_rounds 1
  go_rounds 1
  go_ret
  exact ⟨rfl, rfl⟩
end Go.Proofs.YtoepbjgldmgaoaaDoor

/- RankOrder walked: which pods end first is an order. -/
namespace Go.Proofs.YtoepbjgldmgaoaaDoor
open Go.RowKit Go.Proofs.YtoepbjgldmgaoaaDoorW.PrintWords Go.Proofs.YtoepbjgldmgaoaaDoorW.PrintLast
abbrev LessIs (x y : Array Value) (b : Bool) : Prop := ∀ w : World, Calls Tryd.prog 19 #[.agg x, .agg y] w fun e w' => e = .returned (.bool b) ∧ Below w.heap.size w w'
theorem heap_alloc3_new (w : World) (o1 o2 o3 : Obj) : (((w.alloc o1).alloc o2).alloc o3).heap[w.heap.size + 2]? = some o3 := by
  have := heap_alloc_new ((w.alloc o1).alloc o2) o3
  simpa using this
def rg6_6_T : Bool × List (List Nat × List Nat) := (true, [([], []), ([0], [0]), ([1], [1]), ([2], [2]), ([2], [2]), ([3, 4, 2, 2], [2, 3, 4]), ([2], [2]), ([2], [2]), ([6, 7, 5, 2], [2, 6, 7]), ([5, 8, 2], [2, 5, 8]), ([9, 8, 2], [2, 9]), ([10], [10]), ([10], [10]), ([11, 12, 10, 10], [10, 11, 12]), ([10], [10]), ([10], [10]), ([14, 15, 13, 10], [10, 14, 15]), ([13, 16, 10], [10, 13, 16]), ([10, 17, 2], [2, 10, 17]), ([2, 18], [2, 18]), ([19, 16, 0, 1, 2, 3, 4, 5, 6, 7, 8, 9, 10, 11, 12, 13, 14, 15, 16, 17, 18, 19], [19])])
def rg6_6_B : List Nat := [0, 1, 3, 7, 7, 31, 7, 7, 255, 511, 1023, 2047, 2047, 8191, 2047, 2047, 65535, 131071, 262143, 524287, 1048575]
theorem rg6_6_tab : rtab .any (opsOf Tryd.f6 6) = rg6_6_T := by kernel_rfl
theorem rg6_6_bits : waitsOk rg6_6_T.2 rg6_6_B = true := by kernel_rfl
set_option maxHeartbeats 4000000 in
set_option maxRecDepth 100000 in
theorem order1 (x y : Bool) (cs ds es : Array Value) (HI1 : Hid ((Tryd.prog.info? 48).map (·.size) = some cs.size)) (HI2 : Hid ((Tryd.prog.info? 48).map (·.size) = some ds.size)) (HI3 : Hid ((Tryd.prog.info? 48).map (·.size) = some es.size)) (QAA : Hid (LessIs cs cs false)) (QAB : Hid (LessIs cs ds true)) (QBA : Hid (LessIs ds cs false)) (QBC : Hid (LessIs ds es true)) (QAC : Hid (LessIs cs es true)) (QCA : Hid (LessIs es cs x)) (QCB : Hid (LessIs es ds y)) (w : World) :
    Calls Tryd.prog 6 #[.agg cs, .agg ds, .agg es] w fun e w' => e = .returned (.bool true) ∧ Below w.heap.size w w' := by
      go_enter Tryd.func6, Tryd.ntmps6
      go_wp2_with (first
    | (go_at_call 23; (have HW : Hid (Below w.heap.size w (((w.alloc (Obj.cells cs 48)).alloc (Obj.cells ds 48)).alloc (Obj.cells es 48))) := Lib.hid (Go.Joins.below_alloc3 w _ _ _)); (have B1 : (((w.alloc (Obj.cells cs 48)).alloc (Obj.cells ds 48)).alloc (Obj.cells es 48)).heap[w.heap.size]? = some (.cells cs 48 (0, 0)) := (heap_alloc_old _ _ (by simp; omega)).trans ((heap_alloc_old _ _ (by simp)).trans (heap_alloc_new w _))); (have B2 : (((w.alloc (Obj.cells cs 48)).alloc (Obj.cells ds 48)).alloc (Obj.cells es 48)).heap[w.heap.size + 1]? = some (.cells ds 48 (0, 0)) := (heap_alloc_old _ _ (by simp)).trans (heap_alloc2_new w _ _)); (have B3 : (((w.alloc (Obj.cells cs 48)).alloc (Obj.cells ds 48)).alloc (Obj.cells es 48)).heap[w.heap.size + 2]? = some (.cells es 48 (0, 0)) := heap_alloc3_new w _ _ _); (generalize (((w.alloc (Obj.cells cs 48)).alloc (Obj.cells ds 48)).alloc (Obj.cells es 48)) = W0 at HW B1 B2 B3 ⊢); obtain ⟨ga, hga⟩ : ∃ x, x = w.heap.size := ⟨_, rfl⟩; obtain ⟨gb, hgb⟩ : ∃ x, x = w.heap.size + 1 := ⟨_, rfl⟩; obtain ⟨gc, hgc⟩ : ∃ x, x = w.heap.size + 2 := ⟨_, rfl⟩; rw [← hgc] at B3 ⊢; rw [← hgb] at B2 ⊢; rw [← hga] at B1 ⊢; clear hga hgb hgc; have HB : Below W0.heap.size W0 W0 := Below.refl _ _; (with_reducible refine (works_calls _).mono ?_); rintro e w1 ⟨rfl, hb⟩; replace B1 := blkB hb B1; replace B2 := blkB hb B2; replace B3 := blkB hb B3; replace HB := belT HB hb; clear hb)
    | ((with_reducible refine wpList_load_blk_w 48 (.tmp 3) rfl ga 48 ?l0 ?l1 cs _ ?l2 Tryd.underlying48 ?l3 ?l4 ?_); (case l0 => rfl); (case l1 => rfl); (case l2 => exact B1); (case l3 => rfl); (case l4 => exact HI1.out))
    | ((with_reducible refine wpList_load_blk_w 48 (.tmp 4) rfl gb 48 ?l0 ?l1 ds _ ?l2 Tryd.underlying48 ?l3 ?l4 ?_); (case l0 => rfl); (case l1 => rfl); (case l2 => exact B2); (case l3 => rfl); (case l4 => exact HI2.out))
    | ((with_reducible refine wpList_load_blk_w 48 (.tmp 5) rfl gc 48 ?l0 ?l1 es _ ?l2 Tryd.underlying48 ?l3 ?l4 ?_); (case l0 => rfl); (case l1 => rfl); (case l2 => exact B3); (case l3 => rfl); (case l4 => exact HI3.out))
    | (go_at_call 19; (with_reducible refine (QAA.out _).mono ?_); rintro e w1 ⟨rfl, hb⟩; replace B1 := blkB hb B1; replace B2 := blkB hb B2; replace B3 := blkB hb B3; replace HB := belT HB hb; clear hb)
    | (go_at_call 19; (with_reducible refine (QAB.out _).mono ?_); rintro e w1 ⟨rfl, hb⟩; replace B1 := blkB hb B1; replace B2 := blkB hb B2; replace B3 := blkB hb B3; replace HB := belT HB hb; clear hb)
    | (go_at_call 19; (with_reducible refine (QBA.out _).mono ?_); rintro e w1 ⟨rfl, hb⟩; replace B1 := blkB hb B1; replace B2 := blkB hb B2; replace B3 := blkB hb B3; replace HB := belT HB hb; clear hb)
    | (go_at_call 19; (with_reducible refine (QBC.out _).mono ?_); rintro e w1 ⟨rfl, hb⟩; replace B1 := blkB hb B1; replace B2 := blkB hb B2; replace B3 := blkB hb B3; replace HB := belT HB hb; clear hb)
    | (go_at_call 19; (with_reducible refine (QAC.out _).mono ?_); rintro e w1 ⟨rfl, hb⟩; replace B1 := blkB hb B1; replace B2 := blkB hb B2; replace B3 := blkB hb B3; replace HB := belT HB hb; clear hb))
      replace HB := below_drew HB
      refine start_ (n := 21) (S := fun w' => w'.heap[ga]? = some (.cells cs 48 (0, 0)) ∧ w'.heap[gb]? = some (.cells ds 48 (0, 0)) ∧ w'.heap[gc]? = some (.cells es 48 (0, 0))) (ds := []) (bs 21 0) (by kernel_rfl) rfl (by kernel_rfl) ⟨B1, B2, B3⟩ (fun hHeld => ?_)
      refine with_tabW rg6_6_tab rg6_6_bits (fun HT_ HW_ => ?_)
      refine pu 0 (some 49) (bs 21 1) HT_ rfl rfl (by kernel_rfl) (fun _ _ _ _ h => h) ⟨_, .inl ⟨by rfl, fun _ => by go_simp; with_reducible rfl⟩, _, by simp only [Act.put, sA, sB, sC, i64_w, i32_w]; rfl, ?_⟩
      refine pu 1 (some 50) (bs 21 3) HT_ rfl rfl (by kernel_rfl) (fun _ _ _ _ h => h) ⟨_, .inl ⟨by rfl, fun _ => by go_simp; with_reducible rfl⟩, _, by simp only [Act.put, sA, sB, sC, i64_w, i32_w]; rfl, ?_⟩
      refine pu 2 (some 51) (bs 21 7) HT_ rfl rfl (by kernel_rfl) (fun _ _ _ _ h => h) ⟨_, .inl ⟨by rfl, fun _ => by go_simp; with_reducible rfl⟩, _, by simp only [Act.put, sA, sB, sC, i64_w, i32_w]; rfl, ?_⟩
      refine pu 3 (some 52) (bs 21 15) HT_ rfl rfl (by kernel_rfl) (fun _ _ _ _ h => h) ⟨_, .inr ⟨by rfl, rfl⟩, _, by simp only [Act.put, sA, sB, sC, i64_w, i32_w]; rfl, ?_⟩
      refine pu 4 (some 53) (bs 21 31) HT_ rfl rfl (by kernel_rfl) (fun _ _ _ _ h => h) ⟨_, .inr ⟨by rfl, rfl⟩, _, by simp only [Act.put, sA, sB, sC, i64_w, i32_w]; rfl, ?_⟩
      refine pu 5 (some 54) (bs 21 63) HT_ rfl rfl (by kernel_rfl) (fun _ _ _ _ h => h) ⟨_, .inr ⟨by rfl, rfl⟩, _, by simp only [Act.put, sA, sB, sC, i64_w, i32_w]; rfl, ?_⟩
      refine pu 6 (some 55) (bs 21 127) HT_ rfl rfl (by kernel_rfl) (fun _ _ _ _ h => h) ⟨_, .inr ⟨by rfl, rfl⟩, _, by simp only [Act.put, sA, sB, sC, i64_w, i32_w]; rfl, ?_⟩
      refine pu 7 (some 56) (bs 21 255) HT_ rfl rfl (by kernel_rfl) (fun _ _ _ _ h => h) ⟨_, .inr ⟨by rfl, rfl⟩, _, by simp only [Act.put, sA, sB, sC, i64_w, i32_w]; rfl, ?_⟩
      refine pu 8 (some 57) (bs 21 511) HT_ rfl rfl (by kernel_rfl) (fun _ _ _ _ h => h) ⟨_, .inr ⟨by rfl, rfl⟩, _, by simp only [Act.put, sA, sB, sC, i64_w, i32_w]; rfl, ?_⟩
      refine pu 9 (some 58) (bs 21 1023) HT_ rfl rfl (by kernel_rfl) (fun _ _ _ _ h => h) ⟨_, .inr ⟨by rfl, rfl⟩, _, by simp only [Act.put, sA, sB, sC, i64_w, i32_w]; rfl, ?_⟩
      refine pu 10 (some 59) (bs 21 2047) HT_ rfl rfl (by kernel_rfl) (fun _ _ _ _ h => h) ⟨_, .inr ⟨by rfl, rfl⟩, _, by simp only [Act.put, sA, sB, sC, i64_w, i32_w]; rfl, ?_⟩
      refine pu 11 (some 60) (bs 21 4095) HT_ rfl rfl (by kernel_rfl) (fun _ _ _ _ h => h) ⟨_, .inr ⟨by rfl, rfl⟩, _, by simp only [Act.put, sA, sB, sC, i64_w, i32_w]; rfl, ?_⟩
      refine pu 12 (some 61) (bs 21 8191) HT_ rfl rfl (by kernel_rfl) (fun _ _ _ _ h => h) ⟨_, .inr ⟨by rfl, rfl⟩, _, by simp only [Act.put, sA, sB, sC, i64_w, i32_w]; rfl, ?_⟩
      refine pu 13 (some 62) (bs 21 16383) HT_ rfl rfl (by kernel_rfl) (fun _ _ _ _ h => h) ⟨_, .inr ⟨by rfl, rfl⟩, _, by simp only [Act.put, sA, sB, sC, i64_w, i32_w]; rfl, ?_⟩
      refine pu 14 (some 63) (bs 21 32767) HT_ rfl rfl (by kernel_rfl) (fun _ _ _ _ h => h) ⟨_, .inr ⟨by rfl, rfl⟩, _, by simp only [Act.put, sA, sB, sC, i64_w, i32_w]; rfl, ?_⟩
      refine pu 15 (some 64) (bs 21 65535) HT_ rfl rfl (by kernel_rfl) (fun _ _ _ _ h => h) ⟨_, .inr ⟨by rfl, rfl⟩, _, by simp only [Act.put, sA, sB, sC, i64_w, i32_w]; rfl, ?_⟩
      refine pu 16 (some 65) (bs 21 131071) HT_ rfl rfl (by kernel_rfl) (fun _ _ _ _ h => h) ⟨_, .inr ⟨by rfl, rfl⟩, _, by simp only [Act.put, sA, sB, sC, i64_w, i32_w]; rfl, ?_⟩
      refine pu 17 (some 66) (bs 21 262143) HT_ rfl rfl (by kernel_rfl) (fun _ _ _ _ h => h) ⟨_, .inr ⟨by rfl, rfl⟩, _, by simp only [Act.put, sA, sB, sC, i64_w, i32_w]; rfl, ?_⟩
      refine pu 18 (some 67) (bs 21 524287) HT_ rfl rfl (by kernel_rfl) (fun _ _ _ _ h => h) ⟨_, .inr ⟨by rfl, rfl⟩, _, by simp only [Act.put, sA, sB, sC, i64_w, i32_w]; rfl, ?_⟩
      refine pu 19 (some 68) (bs 21 1048575) HT_ rfl rfl (by kernel_rfl) (fun _ _ _ _ h => h) ⟨_, .inl ⟨by rfl, fun _ => by go_simp; with_reducible rfl⟩, _, by simp only [Act.put, sA, sB, sC, i64_w, i32_w]; rfl, ?_⟩
      refine pu 20 (some 6) (bs 21 2097151) HT_ rfl rfl (by kernel_rfl) (fun _ _ _ _ h => h) ⟨_, .inl ⟨by rfl, fun _ => by go_simp; with_reducible rfl⟩, _, by simp only [Act.put, sA, sB, sC, i64_w, i32_w]; rfl, ?_⟩
      refine done_ (done_of HT_.out (by kernel_rfl)) ?_
      go_wp2
      go_ret
      exact ⟨rfl, belT HW.out (by first | exact HB | exact below_drew HB)⟩
set_option maxHeartbeats 4000000 in
set_option maxRecDepth 100000 in
theorem order2 (p x y : Bool) (cs ds es : Array Value) (HI1 : Hid ((Tryd.prog.info? 48).map (·.size) = some cs.size)) (HI2 : Hid ((Tryd.prog.info? 48).map (·.size) = some ds.size)) (HI3 : Hid ((Tryd.prog.info? 48).map (·.size) = some es.size)) (QAA : Hid (LessIs cs cs false)) (QAB : Hid (LessIs cs ds true)) (QBA : Hid (LessIs ds cs false)) (QBC : Hid (LessIs ds es false)) (QAC : Hid (LessIs cs es p)) (QCA : Hid (LessIs es cs x)) (QCB : Hid (LessIs es ds y)) (w : World) :
    Calls Tryd.prog 6 #[.agg cs, .agg ds, .agg es] w fun e w' => e = .returned (.bool true) ∧ Below w.heap.size w w' := by
      go_enter Tryd.func6, Tryd.ntmps6
      go_wp2_with (first
    | (go_at_call 23; (have HW : Hid (Below w.heap.size w (((w.alloc (Obj.cells cs 48)).alloc (Obj.cells ds 48)).alloc (Obj.cells es 48))) := Lib.hid (Go.Joins.below_alloc3 w _ _ _)); (have B1 : (((w.alloc (Obj.cells cs 48)).alloc (Obj.cells ds 48)).alloc (Obj.cells es 48)).heap[w.heap.size]? = some (.cells cs 48 (0, 0)) := (heap_alloc_old _ _ (by simp; omega)).trans ((heap_alloc_old _ _ (by simp)).trans (heap_alloc_new w _))); (have B2 : (((w.alloc (Obj.cells cs 48)).alloc (Obj.cells ds 48)).alloc (Obj.cells es 48)).heap[w.heap.size + 1]? = some (.cells ds 48 (0, 0)) := (heap_alloc_old _ _ (by simp)).trans (heap_alloc2_new w _ _)); (have B3 : (((w.alloc (Obj.cells cs 48)).alloc (Obj.cells ds 48)).alloc (Obj.cells es 48)).heap[w.heap.size + 2]? = some (.cells es 48 (0, 0)) := heap_alloc3_new w _ _ _); (generalize (((w.alloc (Obj.cells cs 48)).alloc (Obj.cells ds 48)).alloc (Obj.cells es 48)) = W0 at HW B1 B2 B3 ⊢); obtain ⟨ga, hga⟩ : ∃ x, x = w.heap.size := ⟨_, rfl⟩; obtain ⟨gb, hgb⟩ : ∃ x, x = w.heap.size + 1 := ⟨_, rfl⟩; obtain ⟨gc, hgc⟩ : ∃ x, x = w.heap.size + 2 := ⟨_, rfl⟩; rw [← hgc] at B3 ⊢; rw [← hgb] at B2 ⊢; rw [← hga] at B1 ⊢; clear hga hgb hgc; have HB : Below W0.heap.size W0 W0 := Below.refl _ _; (with_reducible refine (works_calls _).mono ?_); rintro e w1 ⟨rfl, hb⟩; replace B1 := blkB hb B1; replace B2 := blkB hb B2; replace B3 := blkB hb B3; replace HB := belT HB hb; clear hb)
    | ((with_reducible refine wpList_load_blk_w 48 (.tmp 3) rfl ga 48 ?l0 ?l1 cs _ ?l2 Tryd.underlying48 ?l3 ?l4 ?_); (case l0 => rfl); (case l1 => rfl); (case l2 => exact B1); (case l3 => rfl); (case l4 => exact HI1.out))
    | ((with_reducible refine wpList_load_blk_w 48 (.tmp 4) rfl gb 48 ?l0 ?l1 ds _ ?l2 Tryd.underlying48 ?l3 ?l4 ?_); (case l0 => rfl); (case l1 => rfl); (case l2 => exact B2); (case l3 => rfl); (case l4 => exact HI2.out))
    | ((with_reducible refine wpList_load_blk_w 48 (.tmp 5) rfl gc 48 ?l0 ?l1 es _ ?l2 Tryd.underlying48 ?l3 ?l4 ?_); (case l0 => rfl); (case l1 => rfl); (case l2 => exact B3); (case l3 => rfl); (case l4 => exact HI3.out))
    | (go_at_call 19; (with_reducible refine (QAA.out _).mono ?_); rintro e w1 ⟨rfl, hb⟩; replace B1 := blkB hb B1; replace B2 := blkB hb B2; replace B3 := blkB hb B3; replace HB := belT HB hb; clear hb)
    | (go_at_call 19; (with_reducible refine (QAB.out _).mono ?_); rintro e w1 ⟨rfl, hb⟩; replace B1 := blkB hb B1; replace B2 := blkB hb B2; replace B3 := blkB hb B3; replace HB := belT HB hb; clear hb)
    | (go_at_call 19; (with_reducible refine (QBA.out _).mono ?_); rintro e w1 ⟨rfl, hb⟩; replace B1 := blkB hb B1; replace B2 := blkB hb B2; replace B3 := blkB hb B3; replace HB := belT HB hb; clear hb)
    | (go_at_call 19; (with_reducible refine (QBC.out _).mono ?_); rintro e w1 ⟨rfl, hb⟩; replace B1 := blkB hb B1; replace B2 := blkB hb B2; replace B3 := blkB hb B3; replace HB := belT HB hb; clear hb)
    | (go_at_call 19; (with_reducible refine (QAC.out _).mono ?_); rintro e w1 ⟨rfl, hb⟩; replace B1 := blkB hb B1; replace B2 := blkB hb B2; replace B3 := blkB hb B3; replace HB := belT HB hb; clear hb))
      replace HB := below_drew HB
      refine start_ (n := 21) (S := fun w' => w'.heap[ga]? = some (.cells cs 48 (0, 0)) ∧ w'.heap[gb]? = some (.cells ds 48 (0, 0)) ∧ w'.heap[gc]? = some (.cells es 48 (0, 0))) (ds := []) (bs 21 0) (by kernel_rfl) rfl (by kernel_rfl) ⟨B1, B2, B3⟩ (fun hHeld => ?_)
      refine with_tabW rg6_6_tab rg6_6_bits (fun HT_ HW_ => ?_)
      refine pu 0 (some 49) (bs 21 1) HT_ rfl rfl (by kernel_rfl) (fun _ _ _ _ h => h) ⟨_, .inl ⟨by rfl, fun _ => by go_simp; with_reducible rfl⟩, _, by simp only [Act.put, sA, sB, sC, i64_w, i32_w]; rfl, ?_⟩
      refine pu 1 (some 50) (bs 21 3) HT_ rfl rfl (by kernel_rfl) (fun _ _ _ _ h => h) ⟨_, .inl ⟨by rfl, fun _ => by go_simp; with_reducible rfl⟩, _, by simp only [Act.put, sA, sB, sC, i64_w, i32_w]; rfl, ?_⟩
      refine pu 2 (some 51) (bs 21 7) HT_ rfl rfl (by kernel_rfl) (fun _ _ _ _ h => h) ⟨_, .inl ⟨by rfl, fun _ => by go_simp; with_reducible rfl⟩, _, by simp only [Act.put, sA, sB, sC, i64_w, i32_w]; rfl, ?_⟩
      refine pu 3 (some 52) (bs 21 15) HT_ rfl rfl (by kernel_rfl) (fun _ _ _ _ h => h) ⟨_, .inr ⟨by rfl, rfl⟩, _, by simp only [Act.put, sA, sB, sC, i64_w, i32_w]; rfl, ?_⟩
      refine pu 4 (some 53) (bs 21 31) HT_ rfl rfl (by kernel_rfl) (fun _ _ _ _ h => h) ⟨_, .inr ⟨by rfl, rfl⟩, _, by simp only [Act.put, sA, sB, sC, i64_w, i32_w]; rfl, ?_⟩
      refine pu 5 (some 54) (bs 21 63) HT_ rfl rfl (by kernel_rfl) (fun _ _ _ _ h => h) ⟨_, .inr ⟨by rfl, rfl⟩, _, by simp only [Act.put, sA, sB, sC, i64_w, i32_w]; rfl, ?_⟩
      refine pu 6 (some 55) (bs 21 127) HT_ rfl rfl (by kernel_rfl) (fun _ _ _ _ h => h) ⟨_, .inr ⟨by rfl, rfl⟩, _, by simp only [Act.put, sA, sB, sC, i64_w, i32_w]; rfl, ?_⟩
      refine pu 7 (some 56) (bs 21 255) HT_ rfl rfl (by kernel_rfl) (fun _ _ _ _ h => h) ⟨_, .inr ⟨by rfl, rfl⟩, _, by simp only [Act.put, sA, sB, sC, i64_w, i32_w]; rfl, ?_⟩
      refine pu 8 (some 57) (bs 21 511) HT_ rfl rfl (by kernel_rfl) (fun _ _ _ _ h => h) ⟨_, .inr ⟨by rfl, rfl⟩, _, by simp only [Act.put, sA, sB, sC, i64_w, i32_w]; rfl, ?_⟩
      refine pu 9 (some 58) (bs 21 1023) HT_ rfl rfl (by kernel_rfl) (fun _ _ _ _ h => h) ⟨_, .inr ⟨by rfl, rfl⟩, _, by simp only [Act.put, sA, sB, sC, i64_w, i32_w]; rfl, ?_⟩
      refine pu 10 (some 59) (bs 21 2047) HT_ rfl rfl (by kernel_rfl) (fun _ _ _ _ h => h) ⟨_, .inr ⟨by rfl, rfl⟩, _, by simp only [Act.put, sA, sB, sC, i64_w, i32_w]; rfl, ?_⟩
      refine pu 11 (some 60) (bs 21 4095) HT_ rfl rfl (by kernel_rfl) (fun _ _ _ _ h => h) ⟨_, .inr ⟨by rfl, rfl⟩, _, by simp only [Act.put, sA, sB, sC, i64_w, i32_w]; rfl, ?_⟩
      refine pu 12 (some 61) (bs 21 8191) HT_ rfl rfl (by kernel_rfl) (fun _ _ _ _ h => h) ⟨_, .inr ⟨by rfl, rfl⟩, _, by simp only [Act.put, sA, sB, sC, i64_w, i32_w]; rfl, ?_⟩
      refine pu 13 (some 62) (bs 21 16383) HT_ rfl rfl (by kernel_rfl) (fun _ _ _ _ h => h) ⟨_, .inr ⟨by rfl, rfl⟩, _, by simp only [Act.put, sA, sB, sC, i64_w, i32_w]; rfl, ?_⟩
      refine pu 14 (some 63) (bs 21 32767) HT_ rfl rfl (by kernel_rfl) (fun _ _ _ _ h => h) ⟨_, .inr ⟨by rfl, rfl⟩, _, by simp only [Act.put, sA, sB, sC, i64_w, i32_w]; rfl, ?_⟩
      refine pu 15 (some 64) (bs 21 65535) HT_ rfl rfl (by kernel_rfl) (fun _ _ _ _ h => h) ⟨_, .inr ⟨by rfl, rfl⟩, _, by simp only [Act.put, sA, sB, sC, i64_w, i32_w]; rfl, ?_⟩
      refine pu 16 (some 65) (bs 21 131071) HT_ rfl rfl (by kernel_rfl) (fun _ _ _ _ h => h) ⟨_, .inr ⟨by rfl, rfl⟩, _, by simp only [Act.put, sA, sB, sC, i64_w, i32_w]; rfl, ?_⟩
      refine pu 17 (some 66) (bs 21 262143) HT_ rfl rfl (by kernel_rfl) (fun _ _ _ _ h => h) ⟨_, .inr ⟨by rfl, rfl⟩, _, by simp only [Act.put, sA, sB, sC, i64_w, i32_w]; rfl, ?_⟩
      refine pu 18 (some 67) (bs 21 524287) HT_ rfl rfl (by kernel_rfl) (fun _ _ _ _ h => h) ⟨_, .inr ⟨by rfl, rfl⟩, _, by simp only [Act.put, sA, sB, sC, i64_w, i32_w]; rfl, ?_⟩
      refine pu 19 (some 68) (bs 21 1048575) HT_ rfl rfl (by kernel_rfl) (fun _ _ _ _ h => h) ⟨_, .inl ⟨by rfl, fun _ => by go_simp; with_reducible rfl⟩, _, by simp only [Act.put, sA, sB, sC, i64_w, i32_w]; rfl, ?_⟩
      refine pu 20 (some 6) (bs 21 2097151) HT_ rfl rfl (by kernel_rfl) (fun _ _ _ _ h => h) ⟨_, .inl ⟨by rfl, fun _ => by go_simp; with_reducible rfl⟩, _, by simp only [Act.put, sA, sB, sC, i64_w, i32_w]; rfl, ?_⟩
      refine done_ (done_of HT_.out (by kernel_rfl)) ?_
      go_wp2
      go_ret
      exact ⟨rfl, belT HW.out (by first | exact HB | exact below_drew HB)⟩
set_option maxHeartbeats 4000000 in
set_option maxRecDepth 100000 in
theorem order3 (p q x y : Bool) (cs ds es : Array Value) (HI1 : Hid ((Tryd.prog.info? 48).map (·.size) = some cs.size)) (HI2 : Hid ((Tryd.prog.info? 48).map (·.size) = some ds.size)) (HI3 : Hid ((Tryd.prog.info? 48).map (·.size) = some es.size)) (QAA : Hid (LessIs cs cs false)) (QAB : Hid (LessIs cs ds false)) (QBA : Hid (LessIs ds cs true)) (QBC : Hid (LessIs ds es p)) (QAC : Hid (LessIs cs es q)) (QCA : Hid (LessIs es cs x)) (QCB : Hid (LessIs es ds y)) (w : World) :
    Calls Tryd.prog 6 #[.agg cs, .agg ds, .agg es] w fun e w' => e = .returned (.bool true) ∧ Below w.heap.size w w' := by
      go_enter Tryd.func6, Tryd.ntmps6
      go_wp2_with (first
    | (go_at_call 23; (have HW : Hid (Below w.heap.size w (((w.alloc (Obj.cells cs 48)).alloc (Obj.cells ds 48)).alloc (Obj.cells es 48))) := Lib.hid (Go.Joins.below_alloc3 w _ _ _)); (have B1 : (((w.alloc (Obj.cells cs 48)).alloc (Obj.cells ds 48)).alloc (Obj.cells es 48)).heap[w.heap.size]? = some (.cells cs 48 (0, 0)) := (heap_alloc_old _ _ (by simp; omega)).trans ((heap_alloc_old _ _ (by simp)).trans (heap_alloc_new w _))); (have B2 : (((w.alloc (Obj.cells cs 48)).alloc (Obj.cells ds 48)).alloc (Obj.cells es 48)).heap[w.heap.size + 1]? = some (.cells ds 48 (0, 0)) := (heap_alloc_old _ _ (by simp)).trans (heap_alloc2_new w _ _)); (have B3 : (((w.alloc (Obj.cells cs 48)).alloc (Obj.cells ds 48)).alloc (Obj.cells es 48)).heap[w.heap.size + 2]? = some (.cells es 48 (0, 0)) := heap_alloc3_new w _ _ _); (generalize (((w.alloc (Obj.cells cs 48)).alloc (Obj.cells ds 48)).alloc (Obj.cells es 48)) = W0 at HW B1 B2 B3 ⊢); obtain ⟨ga, hga⟩ : ∃ x, x = w.heap.size := ⟨_, rfl⟩; obtain ⟨gb, hgb⟩ : ∃ x, x = w.heap.size + 1 := ⟨_, rfl⟩; obtain ⟨gc, hgc⟩ : ∃ x, x = w.heap.size + 2 := ⟨_, rfl⟩; rw [← hgc] at B3 ⊢; rw [← hgb] at B2 ⊢; rw [← hga] at B1 ⊢; clear hga hgb hgc; have HB : Below W0.heap.size W0 W0 := Below.refl _ _; (with_reducible refine (works_calls _).mono ?_); rintro e w1 ⟨rfl, hb⟩; replace B1 := blkB hb B1; replace B2 := blkB hb B2; replace B3 := blkB hb B3; replace HB := belT HB hb; clear hb)
    | ((with_reducible refine wpList_load_blk_w 48 (.tmp 3) rfl ga 48 ?l0 ?l1 cs _ ?l2 Tryd.underlying48 ?l3 ?l4 ?_); (case l0 => rfl); (case l1 => rfl); (case l2 => exact B1); (case l3 => rfl); (case l4 => exact HI1.out))
    | ((with_reducible refine wpList_load_blk_w 48 (.tmp 4) rfl gb 48 ?l0 ?l1 ds _ ?l2 Tryd.underlying48 ?l3 ?l4 ?_); (case l0 => rfl); (case l1 => rfl); (case l2 => exact B2); (case l3 => rfl); (case l4 => exact HI2.out))
    | ((with_reducible refine wpList_load_blk_w 48 (.tmp 5) rfl gc 48 ?l0 ?l1 es _ ?l2 Tryd.underlying48 ?l3 ?l4 ?_); (case l0 => rfl); (case l1 => rfl); (case l2 => exact B3); (case l3 => rfl); (case l4 => exact HI3.out))
    | (go_at_call 19; (with_reducible refine (QAA.out _).mono ?_); rintro e w1 ⟨rfl, hb⟩; replace B1 := blkB hb B1; replace B2 := blkB hb B2; replace B3 := blkB hb B3; replace HB := belT HB hb; clear hb)
    | (go_at_call 19; (with_reducible refine (QAB.out _).mono ?_); rintro e w1 ⟨rfl, hb⟩; replace B1 := blkB hb B1; replace B2 := blkB hb B2; replace B3 := blkB hb B3; replace HB := belT HB hb; clear hb)
    | (go_at_call 19; (with_reducible refine (QBA.out _).mono ?_); rintro e w1 ⟨rfl, hb⟩; replace B1 := blkB hb B1; replace B2 := blkB hb B2; replace B3 := blkB hb B3; replace HB := belT HB hb; clear hb)
    | (go_at_call 19; (with_reducible refine (QBC.out _).mono ?_); rintro e w1 ⟨rfl, hb⟩; replace B1 := blkB hb B1; replace B2 := blkB hb B2; replace B3 := blkB hb B3; replace HB := belT HB hb; clear hb)
    | (go_at_call 19; (with_reducible refine (QAC.out _).mono ?_); rintro e w1 ⟨rfl, hb⟩; replace B1 := blkB hb B1; replace B2 := blkB hb B2; replace B3 := blkB hb B3; replace HB := belT HB hb; clear hb))
      replace HB := below_drew HB
      refine start_ (n := 21) (S := fun w' => w'.heap[ga]? = some (.cells cs 48 (0, 0)) ∧ w'.heap[gb]? = some (.cells ds 48 (0, 0)) ∧ w'.heap[gc]? = some (.cells es 48 (0, 0))) (ds := []) (bs 21 0) (by kernel_rfl) rfl (by kernel_rfl) ⟨B1, B2, B3⟩ (fun hHeld => ?_)
      refine with_tabW rg6_6_tab rg6_6_bits (fun HT_ HW_ => ?_)
      refine pu 0 (some 49) (bs 21 1) HT_ rfl rfl (by kernel_rfl) (fun _ _ _ _ h => h) ⟨_, .inl ⟨by rfl, fun _ => by go_simp; with_reducible rfl⟩, _, by simp only [Act.put, sA, sB, sC, i64_w, i32_w]; rfl, ?_⟩
      refine pu 1 (some 50) (bs 21 3) HT_ rfl rfl (by kernel_rfl) (fun _ _ _ _ h => h) ⟨_, .inl ⟨by rfl, fun _ => by go_simp; with_reducible rfl⟩, _, by simp only [Act.put, sA, sB, sC, i64_w, i32_w]; rfl, ?_⟩
      refine pu 2 (some 51) (bs 21 7) HT_ rfl rfl (by kernel_rfl) (fun _ _ _ _ h => h) ⟨_, .inl ⟨by rfl, fun _ => by go_simp; with_reducible rfl⟩, _, by simp only [Act.put, sA, sB, sC, i64_w, i32_w]; rfl, ?_⟩
      refine pu 3 (some 52) (bs 21 15) HT_ rfl rfl (by kernel_rfl) (fun _ _ _ _ h => h) ⟨_, .inr ⟨by rfl, rfl⟩, _, by simp only [Act.put, sA, sB, sC, i64_w, i32_w]; rfl, ?_⟩
      refine pu 4 (some 53) (bs 21 31) HT_ rfl rfl (by kernel_rfl) (fun _ _ _ _ h => h) ⟨_, .inr ⟨by rfl, rfl⟩, _, by simp only [Act.put, sA, sB, sC, i64_w, i32_w]; rfl, ?_⟩
      refine pu 5 (some 54) (bs 21 63) HT_ rfl rfl (by kernel_rfl) (fun _ _ _ _ h => h) ⟨_, .inr ⟨by rfl, rfl⟩, _, by simp only [Act.put, sA, sB, sC, i64_w, i32_w]; rfl, ?_⟩
      refine pu 6 (some 55) (bs 21 127) HT_ rfl rfl (by kernel_rfl) (fun _ _ _ _ h => h) ⟨_, .inr ⟨by rfl, rfl⟩, _, by simp only [Act.put, sA, sB, sC, i64_w, i32_w]; rfl, ?_⟩
      refine pu 7 (some 56) (bs 21 255) HT_ rfl rfl (by kernel_rfl) (fun _ _ _ _ h => h) ⟨_, .inr ⟨by rfl, rfl⟩, _, by simp only [Act.put, sA, sB, sC, i64_w, i32_w]; rfl, ?_⟩
      refine pu 8 (some 57) (bs 21 511) HT_ rfl rfl (by kernel_rfl) (fun _ _ _ _ h => h) ⟨_, .inr ⟨by rfl, rfl⟩, _, by simp only [Act.put, sA, sB, sC, i64_w, i32_w]; rfl, ?_⟩
      refine pu 9 (some 58) (bs 21 1023) HT_ rfl rfl (by kernel_rfl) (fun _ _ _ _ h => h) ⟨_, .inr ⟨by rfl, rfl⟩, _, by simp only [Act.put, sA, sB, sC, i64_w, i32_w]; rfl, ?_⟩
      refine pu 10 (some 59) (bs 21 2047) HT_ rfl rfl (by kernel_rfl) (fun _ _ _ _ h => h) ⟨_, .inr ⟨by rfl, rfl⟩, _, by simp only [Act.put, sA, sB, sC, i64_w, i32_w]; rfl, ?_⟩
      refine pu 11 (some 60) (bs 21 4095) HT_ rfl rfl (by kernel_rfl) (fun _ _ _ _ h => h) ⟨_, .inr ⟨by rfl, rfl⟩, _, by simp only [Act.put, sA, sB, sC, i64_w, i32_w]; rfl, ?_⟩
      refine pu 12 (some 61) (bs 21 8191) HT_ rfl rfl (by kernel_rfl) (fun _ _ _ _ h => h) ⟨_, .inr ⟨by rfl, rfl⟩, _, by simp only [Act.put, sA, sB, sC, i64_w, i32_w]; rfl, ?_⟩
      refine pu 13 (some 62) (bs 21 16383) HT_ rfl rfl (by kernel_rfl) (fun _ _ _ _ h => h) ⟨_, .inr ⟨by rfl, rfl⟩, _, by simp only [Act.put, sA, sB, sC, i64_w, i32_w]; rfl, ?_⟩
      refine pu 14 (some 63) (bs 21 32767) HT_ rfl rfl (by kernel_rfl) (fun _ _ _ _ h => h) ⟨_, .inr ⟨by rfl, rfl⟩, _, by simp only [Act.put, sA, sB, sC, i64_w, i32_w]; rfl, ?_⟩
      refine pu 15 (some 64) (bs 21 65535) HT_ rfl rfl (by kernel_rfl) (fun _ _ _ _ h => h) ⟨_, .inr ⟨by rfl, rfl⟩, _, by simp only [Act.put, sA, sB, sC, i64_w, i32_w]; rfl, ?_⟩
      refine pu 16 (some 65) (bs 21 131071) HT_ rfl rfl (by kernel_rfl) (fun _ _ _ _ h => h) ⟨_, .inr ⟨by rfl, rfl⟩, _, by simp only [Act.put, sA, sB, sC, i64_w, i32_w]; rfl, ?_⟩
      refine pu 17 (some 66) (bs 21 262143) HT_ rfl rfl (by kernel_rfl) (fun _ _ _ _ h => h) ⟨_, .inr ⟨by rfl, rfl⟩, _, by simp only [Act.put, sA, sB, sC, i64_w, i32_w]; rfl, ?_⟩
      refine pu 18 (some 67) (bs 21 524287) HT_ rfl rfl (by kernel_rfl) (fun _ _ _ _ h => h) ⟨_, .inr ⟨by rfl, rfl⟩, _, by simp only [Act.put, sA, sB, sC, i64_w, i32_w]; rfl, ?_⟩
      refine pu 19 (some 68) (bs 21 1048575) HT_ rfl rfl (by kernel_rfl) (fun _ _ _ _ h => h) ⟨_, .inl ⟨by rfl, fun _ => by go_simp; with_reducible rfl⟩, _, by simp only [Act.put, sA, sB, sC, i64_w, i32_w]; rfl, ?_⟩
      refine pu 20 (some 6) (bs 21 2097151) HT_ rfl rfl (by kernel_rfl) (fun _ _ _ _ h => h) ⟨_, .inl ⟨by rfl, fun _ => by go_simp; with_reducible rfl⟩, _, by simp only [Act.put, sA, sB, sC, i64_w, i32_w]; rfl, ?_⟩
      refine done_ (done_of HT_.out (by kernel_rfl)) ?_
      go_wp2
      go_ret
      exact ⟨rfl, belT HW.out (by first | exact HB | exact below_drew HB)⟩
set_option maxHeartbeats 4000000 in
set_option maxRecDepth 100000 in
theorem order4 (p q : Bool) (cs ds es : Array Value) (HI1 : Hid ((Tryd.prog.info? 48).map (·.size) = some cs.size)) (HI2 : Hid ((Tryd.prog.info? 48).map (·.size) = some ds.size)) (HI3 : Hid ((Tryd.prog.info? 48).map (·.size) = some es.size)) (QAA : Hid (LessIs cs cs false)) (QAB : Hid (LessIs cs ds false)) (QBA : Hid (LessIs ds cs false)) (QBC : Hid (LessIs ds es p)) (QAC : Hid (LessIs cs es p)) (QCA : Hid (LessIs es cs q)) (QCB : Hid (LessIs es ds q)) (w : World) :
    Calls Tryd.prog 6 #[.agg cs, .agg ds, .agg es] w fun e w' => e = .returned (.bool true) ∧ Below w.heap.size w w' := by
      go_enter Tryd.func6, Tryd.ntmps6
      go_wp2_with (first
    | (go_at_call 23; (have HW : Hid (Below w.heap.size w (((w.alloc (Obj.cells cs 48)).alloc (Obj.cells ds 48)).alloc (Obj.cells es 48))) := Lib.hid (Go.Joins.below_alloc3 w _ _ _)); (have B1 : (((w.alloc (Obj.cells cs 48)).alloc (Obj.cells ds 48)).alloc (Obj.cells es 48)).heap[w.heap.size]? = some (.cells cs 48 (0, 0)) := (heap_alloc_old _ _ (by simp; omega)).trans ((heap_alloc_old _ _ (by simp)).trans (heap_alloc_new w _))); (have B2 : (((w.alloc (Obj.cells cs 48)).alloc (Obj.cells ds 48)).alloc (Obj.cells es 48)).heap[w.heap.size + 1]? = some (.cells ds 48 (0, 0)) := (heap_alloc_old _ _ (by simp)).trans (heap_alloc2_new w _ _)); (have B3 : (((w.alloc (Obj.cells cs 48)).alloc (Obj.cells ds 48)).alloc (Obj.cells es 48)).heap[w.heap.size + 2]? = some (.cells es 48 (0, 0)) := heap_alloc3_new w _ _ _); (generalize (((w.alloc (Obj.cells cs 48)).alloc (Obj.cells ds 48)).alloc (Obj.cells es 48)) = W0 at HW B1 B2 B3 ⊢); obtain ⟨ga, hga⟩ : ∃ x, x = w.heap.size := ⟨_, rfl⟩; obtain ⟨gb, hgb⟩ : ∃ x, x = w.heap.size + 1 := ⟨_, rfl⟩; obtain ⟨gc, hgc⟩ : ∃ x, x = w.heap.size + 2 := ⟨_, rfl⟩; rw [← hgc] at B3 ⊢; rw [← hgb] at B2 ⊢; rw [← hga] at B1 ⊢; clear hga hgb hgc; have HB : Below W0.heap.size W0 W0 := Below.refl _ _; (with_reducible refine (works_calls _).mono ?_); rintro e w1 ⟨rfl, hb⟩; replace B1 := blkB hb B1; replace B2 := blkB hb B2; replace B3 := blkB hb B3; replace HB := belT HB hb; clear hb)
    | ((with_reducible refine wpList_load_blk_w 48 (.tmp 3) rfl ga 48 ?l0 ?l1 cs _ ?l2 Tryd.underlying48 ?l3 ?l4 ?_); (case l0 => rfl); (case l1 => rfl); (case l2 => exact B1); (case l3 => rfl); (case l4 => exact HI1.out))
    | ((with_reducible refine wpList_load_blk_w 48 (.tmp 4) rfl gb 48 ?l0 ?l1 ds _ ?l2 Tryd.underlying48 ?l3 ?l4 ?_); (case l0 => rfl); (case l1 => rfl); (case l2 => exact B2); (case l3 => rfl); (case l4 => exact HI2.out))
    | ((with_reducible refine wpList_load_blk_w 48 (.tmp 5) rfl gc 48 ?l0 ?l1 es _ ?l2 Tryd.underlying48 ?l3 ?l4 ?_); (case l0 => rfl); (case l1 => rfl); (case l2 => exact B3); (case l3 => rfl); (case l4 => exact HI3.out))
    | (go_at_call 19; (with_reducible refine (QAA.out _).mono ?_); rintro e w1 ⟨rfl, hb⟩; replace B1 := blkB hb B1; replace B2 := blkB hb B2; replace B3 := blkB hb B3; replace HB := belT HB hb; clear hb)
    | (go_at_call 19; (with_reducible refine (QAB.out _).mono ?_); rintro e w1 ⟨rfl, hb⟩; replace B1 := blkB hb B1; replace B2 := blkB hb B2; replace B3 := blkB hb B3; replace HB := belT HB hb; clear hb)
    | (go_at_call 19; (with_reducible refine (QBA.out _).mono ?_); rintro e w1 ⟨rfl, hb⟩; replace B1 := blkB hb B1; replace B2 := blkB hb B2; replace B3 := blkB hb B3; replace HB := belT HB hb; clear hb)
    | (go_at_call 19; (with_reducible refine (QBC.out _).mono ?_); rintro e w1 ⟨rfl, hb⟩; replace B1 := blkB hb B1; replace B2 := blkB hb B2; replace B3 := blkB hb B3; replace HB := belT HB hb; clear hb)
    | (go_at_call 19; (with_reducible refine (QAC.out _).mono ?_); rintro e w1 ⟨rfl, hb⟩; replace B1 := blkB hb B1; replace B2 := blkB hb B2; replace B3 := blkB hb B3; replace HB := belT HB hb; clear hb))
      replace HB := below_drew HB
      refine start_ (n := 21) (S := fun w' => w'.heap[ga]? = some (.cells cs 48 (0, 0)) ∧ w'.heap[gb]? = some (.cells ds 48 (0, 0)) ∧ w'.heap[gc]? = some (.cells es 48 (0, 0))) (ds := []) (bs 21 0) (by kernel_rfl) rfl (by kernel_rfl) ⟨B1, B2, B3⟩ (fun hHeld => ?_)
      refine with_tabW rg6_6_tab rg6_6_bits (fun HT_ HW_ => ?_)
      refine pu 0 (some 49) (bs 21 1) HT_ rfl rfl (by kernel_rfl) (fun _ _ _ _ h => h) ⟨_, .inl ⟨by rfl, fun _ => by go_simp; with_reducible rfl⟩, _, by simp only [Act.put, sA, sB, sC, i64_w, i32_w]; rfl, ?_⟩
      refine pu 1 (some 50) (bs 21 3) HT_ rfl rfl (by kernel_rfl) (fun _ _ _ _ h => h) ⟨_, .inl ⟨by rfl, fun _ => by go_simp; with_reducible rfl⟩, _, by simp only [Act.put, sA, sB, sC, i64_w, i32_w]; rfl, ?_⟩
      refine pu 2 (some 51) (bs 21 7) HT_ rfl rfl (by kernel_rfl) (fun _ _ _ _ h => h) ⟨_, .inl ⟨by rfl, fun _ => by go_simp; with_reducible rfl⟩, _, by simp only [Act.put, sA, sB, sC, i64_w, i32_w]; rfl, ?_⟩
      refine tk 3 (some 52) (bs 21 15) HT_ HW_ rfl rfl (by kernel_rfl) (fun _ _ _ _ h => h) hHeld ⟨_, .inl ⟨by rfl, by rintro w' ⟨s0, s1, s2⟩; refine load_row (x := .tmp 3) ?_ ?_ s0 Tryd.underlying48 rfl HI1.out <;> rfl⟩, _, by simp only [Act.put, sA, sB, sC, i64_w, i32_w]; rfl, ?_⟩
      refine tk 4 (some 53) (bs 21 31) HT_ HW_ rfl rfl (by kernel_rfl) (fun _ _ _ _ h => h) hHeld ⟨_, .inl ⟨by rfl, by rintro w' ⟨s0, s1, s2⟩; refine load_row (x := .tmp 5) ?_ ?_ s2 Tryd.underlying48 rfl HI3.out <;> rfl⟩, _, by simp only [Act.put, sA, sB, sC, i64_w, i32_w]; rfl, ?_⟩
      refine tk 6 (some 55) (bs 21 95) HT_ HW_ rfl rfl (by kernel_rfl) (fun _ _ _ _ h => h) hHeld ⟨_, .inl ⟨by rfl, by rintro w' ⟨s0, s1, s2⟩; refine load_row (x := .tmp 4) ?_ ?_ s1 Tryd.underlying48 rfl HI2.out <;> rfl⟩, _, by simp only [Act.put, sA, sB, sC, i64_w, i32_w]; rfl, ?_⟩
      refine tk 7 (some 56) (bs 21 223) HT_ HW_ rfl rfl (by kernel_rfl) (fun _ _ _ _ h => h) hHeld ⟨_, .inl ⟨by rfl, by rintro w' ⟨s0, s1, s2⟩; refine load_row (x := .tmp 5) ?_ ?_ s2 Tryd.underlying48 rfl HI3.out <;> rfl⟩, _, by simp only [Act.put, sA, sB, sC, i64_w, i32_w]; rfl, ?_⟩
      refine on1 5 (some 54) (bs 21 255) HT_ rfl rfl (by kernel_rfl) (by decide) (fun K hK => ?_)
      refine goes_ Tryd.func19 (by kernel_rfl) rfl #[.agg cs, .agg es] (by rfl) rfl rfl (by (try simp only [List.map_toArray, List.map_cons, List.map_nil]); first | done | rfl) ?_
      with_reducible refine (QAC.out _).mono ?_
      rintro e w1 ⟨rfl, hb⟩
      replace B1 := blkB hb B1
      replace B2 := blkB hb B2
      replace B3 := blkB hb B3
      replace HB := belT HB hb
      clear hb
      refine ⟨_, rfl, ?_⟩
      refine hK.out _ _ ⟨B1, B2, B3⟩ (fun hHeld => ?_)
      clear hK K
      refine nm ⟨_, show Act.put _ (some 54) _ = _ by simp only [Act.put, sA, sB, sC, i64_w, i32_w]; rfl, ?_⟩
      refine on1 8 (some 57) (bs 21 511) HT_ rfl rfl (by kernel_rfl) (by decide) (fun K hK => ?_)
      refine goes_ Tryd.func19 (by kernel_rfl) rfl #[.agg ds, .agg es] (by rfl) rfl rfl (by (try simp only [List.map_toArray, List.map_cons, List.map_nil]); first | done | rfl) ?_
      with_reducible refine (QBC.out _).mono ?_
      rintro e w1 ⟨rfl, hb⟩
      replace B1 := blkB hb B1
      replace B2 := blkB hb B2
      replace B3 := blkB hb B3
      replace HB := belT HB hb
      clear hb
      refine ⟨_, rfl, ?_⟩
      refine hK.out _ _ ⟨B1, B2, B3⟩ (fun hHeld => ?_)
      clear hK K
      refine nm ⟨_, show Act.put _ (some 57) _ = _ by simp only [Act.put, sA, sB, sC, i64_w, i32_w]; rfl, ?_⟩
      refine pu 9 (some 58) (bs 21 1023) HT_ rfl rfl (by kernel_rfl) (fun _ _ _ _ h => h) ⟨_, .inl ⟨by rfl, fun _ => by go_simp; with_reducible rfl⟩, _, by simp only [Act.put, sA, sB, sC, i64_w, i32_w]; rfl, ?_⟩
      refine pu 10 (some 59) (bs 21 2047) HT_ rfl rfl (by kernel_rfl) (fun _ _ _ _ h => h) ⟨_, .inl ⟨by rfl, fun _ => by go_simp; with_reducible rfl⟩, _, by simp only [Act.put, sA, sB, sC, i64_w, i32_w]; rfl, ?_⟩
      refine tk 11 (some 60) (bs 21 4095) HT_ HW_ rfl rfl (by kernel_rfl) (fun _ _ _ _ h => h) hHeld ⟨_, .inl ⟨by rfl, by rintro w' ⟨s0, s1, s2⟩; refine load_row (x := .tmp 5) ?_ ?_ s2 Tryd.underlying48 rfl HI3.out <;> rfl⟩, _, by simp only [Act.put, sA, sB, sC, i64_w, i32_w]; rfl, ?_⟩
      refine tk 12 (some 61) (bs 21 8191) HT_ HW_ rfl rfl (by kernel_rfl) (fun _ _ _ _ h => h) hHeld ⟨_, .inl ⟨by rfl, by rintro w' ⟨s0, s1, s2⟩; refine load_row (x := .tmp 3) ?_ ?_ s0 Tryd.underlying48 rfl HI1.out <;> rfl⟩, _, by simp only [Act.put, sA, sB, sC, i64_w, i32_w]; rfl, ?_⟩
      refine tk 14 (some 63) (bs 21 24575) HT_ HW_ rfl rfl (by kernel_rfl) (fun _ _ _ _ h => h) hHeld ⟨_, .inl ⟨by rfl, by rintro w' ⟨s0, s1, s2⟩; refine load_row (x := .tmp 5) ?_ ?_ s2 Tryd.underlying48 rfl HI3.out <;> rfl⟩, _, by simp only [Act.put, sA, sB, sC, i64_w, i32_w]; rfl, ?_⟩
      refine tk 15 (some 64) (bs 21 57343) HT_ HW_ rfl rfl (by kernel_rfl) (fun _ _ _ _ h => h) hHeld ⟨_, .inl ⟨by rfl, by rintro w' ⟨s0, s1, s2⟩; refine load_row (x := .tmp 4) ?_ ?_ s1 Tryd.underlying48 rfl HI2.out <;> rfl⟩, _, by simp only [Act.put, sA, sB, sC, i64_w, i32_w]; rfl, ?_⟩
      refine on1 13 (some 62) (bs 21 65535) HT_ rfl rfl (by kernel_rfl) (by decide) (fun K hK => ?_)
      refine goes_ Tryd.func19 (by kernel_rfl) rfl #[.agg es, .agg cs] (by rfl) rfl rfl (by (try simp only [List.map_toArray, List.map_cons, List.map_nil]); first | done | rfl) ?_
      with_reducible refine (QCA.out _).mono ?_
      rintro e w1 ⟨rfl, hb⟩
      replace B1 := blkB hb B1
      replace B2 := blkB hb B2
      replace B3 := blkB hb B3
      replace HB := belT HB hb
      clear hb
      refine ⟨_, rfl, ?_⟩
      refine hK.out _ _ ⟨B1, B2, B3⟩ (fun hHeld => ?_)
      clear hK K
      refine nm ⟨_, show Act.put _ (some 62) _ = _ by simp only [Act.put, sA, sB, sC, i64_w, i32_w]; rfl, ?_⟩
      refine on1 16 (some 65) (bs 21 131071) HT_ rfl rfl (by kernel_rfl) (by decide) (fun K hK => ?_)
      refine goes_ Tryd.func19 (by kernel_rfl) rfl #[.agg es, .agg ds] (by rfl) rfl rfl (by (try simp only [List.map_toArray, List.map_cons, List.map_nil]); first | done | rfl) ?_
      with_reducible refine (QCB.out _).mono ?_
      rintro e w1 ⟨rfl, hb⟩
      replace B1 := blkB hb B1
      replace B2 := blkB hb B2
      replace B3 := blkB hb B3
      replace HB := belT HB hb
      clear hb
      refine ⟨_, rfl, ?_⟩
      refine hK.out _ _ ⟨B1, B2, B3⟩ (fun hHeld => ?_)
      clear hK K
      refine nm ⟨_, show Act.put _ (some 65) _ = _ by simp only [Act.put, sA, sB, sC, i64_w, i32_w]; rfl, ?_⟩
      refine pu 17 (some 66) (bs 21 262143) HT_ rfl rfl (by kernel_rfl) (fun _ _ _ _ h => h) ⟨_, .inl ⟨by rfl, fun _ => by go_simp; with_reducible rfl⟩, _, by simp only [Act.put, sA, sB, sC, i64_w, i32_w]; rfl, ?_⟩
      refine pu 18 (some 67) (bs 21 524287) HT_ rfl rfl (by kernel_rfl) (fun _ _ _ _ h => h) ⟨_, .inl ⟨by rfl, fun _ => by go_simp; with_reducible rfl⟩, _, by simp only [Act.put, sA, sB, sC, i64_w, i32_w]; rfl, ?_⟩
      refine pu 19 (some 68) (bs 21 1048575) HT_ rfl rfl (by kernel_rfl) (fun _ _ _ _ h => h) ⟨_, .inl ⟨by rfl, fun _ => by go_simp; with_reducible rfl⟩, _, by simp only [Act.put, sA, sB, sC, i64_w, i32_w]; rfl, ?_⟩
      refine pu 20 (some 6) (bs 21 2097151) HT_ rfl rfl (by kernel_rfl) (fun _ _ _ _ h => h) ⟨_, .inl ⟨by rfl, fun _ => by go_simp; with_reducible rfl⟩, _, by simp only [Act.put, sA, sB, sC, i64_w, i32_w]; rfl, ?_⟩
      refine done_ (done_of HT_.out (by kernel_rfl)) ?_
      go_wp2
      go_ret
      exact ⟨rfl, belT HW.out (by first | exact HB | exact below_drew HB)⟩
structure PodV (x : Array Value) (p : PK) : Prop where
  pod : Pod x p.name p.born p.node p.phase p.ready
  fits : p.name.size ≤ 140737488351232
theorem PodV.info {x : Array Value} {p : PK} (h : PodV x p) : (Tryd.prog.info? 48).map (·.size) = some x.size := by rw [h.pod.size]; exact infoO1
theorem lessIs {x y : Array Value} {p q : PK} (hx : PodV x p) (hy : PodV y q) : LessIs x y (p.less q) := fun w => less_calls x y _ _ _ _ _ _ _ _ _ _ hx.pod hy.pod hx.fits hy.fits w
theorem order_calls (cs ds es : Array Value) (p q r : PK) (h1 : PodV cs p) (h2 : PodV ds q) (h3 : PodV es r) (w : World) :
    Calls Tryd.prog 6 #[.agg cs, .agg ds, .agg es] w fun e w' => e = .returned (.bool true) ∧ Below w.heap.size w w' := by
  have laa := lessIs h1 h1
  have lab := lessIs h1 h2
  have lba := lessIs h2 h1
  have lbc := lessIs h2 h3
  have lac := lessIs h1 h3
  have lca := lessIs h3 h1
  have lcb := lessIs h3 h2
  rw [less_irrefl] at laa
  rw [less_podC] at lab lba lbc lac lca lcb
  have i1 := Lib.hid h1.info
  have i2 := Lib.hid h2.info
  have i3 := Lib.hid h3.info
  have a1 := podC_cmp.anti p q
  have a2 := podC_cmp.anti q r
  have a3 := podC_cmp.anti p r
  by_cases x : podC p q < 0
  · have y : ¬ podC q p < 0 := by omega
    rw [decide_eq_true x] at lab
    rw [decide_eq_false y] at lba
    by_cases z : podC q r < 0
    · have t := podC_cmp.lt_trans x (by omega : podC q r ≤ 0)
      rw [decide_eq_true z] at lbc
      rw [decide_eq_true t] at lac
      exact order1 _ _ cs ds es i1 i2 i3 (Lib.hid laa) (Lib.hid lab) (Lib.hid lba) (Lib.hid lbc) (Lib.hid lac) (Lib.hid lca) (Lib.hid lcb) w
    · rw [decide_eq_false z] at lbc
      exact order2 _ _ _ cs ds es i1 i2 i3 (Lib.hid laa) (Lib.hid lab) (Lib.hid lba) (Lib.hid lbc) (Lib.hid lac) (Lib.hid lca) (Lib.hid lcb) w
  · rw [decide_eq_false x] at lab
    by_cases y : podC q p < 0
    · rw [decide_eq_true y] at lba
      exact order3 _ _ _ _ cs ds es i1 i2 i3 (Lib.hid laa) (Lib.hid lab) (Lib.hid lba) (Lib.hid lbc) (Lib.hid lac) (Lib.hid lca) (Lib.hid lcb) w
    · rw [decide_eq_false y] at lba
      obtain ⟨l1, l2⟩ := podC_cmp.level_neg (by omega : podC p q = 0) r
      rw [show decide (podC p r < 0) = decide (podC q r < 0) by rw [decide_eq_decide]; exact l1] at lac
      rw [show decide (podC r p < 0) = decide (podC r q < 0) by rw [decide_eq_decide]; omega] at lca
      exact order4 _ _ cs ds es i1 i2 i3 (Lib.hid laa) (Lib.hid lab) (Lib.hid lba) (Lib.hid lbc) (Lib.hid lac) (Lib.hid lca) (Lib.hid lcb) w
end Go.Proofs.YtoepbjgldmgaoaaDoor

/- RankFirst walked: fewer victims are the first ones of more, none that is left ends ahead of one of them; of those that run on a node the ready ones end last. -/
namespace Go.Proofs.YtoepbjgldmgaoaaDoor
open Go.RowKit Go.Proofs.YtoepbjgldmgaoaaDoorW.PrintWords Go.Proofs.YtoepbjgldmgaoaaDoorW.PrintLast
attribute [local go_sem] Go.Proofs.YtoepbjgldmgaoaaDoorW.PrintMore.max_two Go.Proofs.YtoepbjgldmgaoaaDoorW.PrintMore.min_two
def cO (a b : Ob) : Int := cV a.pk b.pk
theorem cO_cmp : Wc.IsCmp cO := cV_cmp.on Ob.pk
theorem sortV_sorted (l : List Ob) : Srt.Sorted cO (sortV l) := Srt.isort_sorted cO_cmp l
theorem mem_sortV (l : List Ob) (o : Ob) : o ∈ sortV l ↔ o ∈ l := Srt.mem_isort o l
theorem sortV_length (l : List Ob) : (sortV l).length = l.length := Srt.isort_length l
theorem mem_live (l : List Ob) (o : Ob) : o ∈ live l ↔ o ∈ l ∧ o.ending = false := by simp [live]
theorem live_length (l : List Ob) : (live l).length ≤ l.length := List.length_filter_le _ _
theorem less_of {a b : Ob} (h : cO a b ≤ 0) : b.pk.less a.pk = false := by
  rw [less_podC]
  refine decide_eq_false fun hn => ?_
  have := (cV_neg b.pk a.pk).2 hn
  have := cO_cmp.anti a b
  unfold cO at *
  omega
def runs (o : Ob) : Prop := ¬ (o.node.toList = [] ∨ ¬ o.phase = 1)
theorem runs_ready {a b : Ob} (ha : runs a) (hb : runs b) (hr : a.ready = true) (h : cO a b ≤ 0) : b.ready = true := by
  have hl := less_of h
  rw [less_podC] at hl
  have hn := of_decide_eq_false hl
  cases hbr : b.ready
  · exfalso
    apply hn
    have na : a.node.toList.isEmpty = false := by
      cases hx : a.node.toList with
      | nil => exact absurd (Or.inl hx) ha
      | cons _ _ => rfl
    have nb : b.node.toList.isEmpty = false := by
      cases hx : b.node.toList with
      | nil => exact absurd (Or.inl hx) hb
      | cons _ _ => rfl
    have pa : a.phase = 1 := Classical.byContradiction fun hx => ha (Or.inr hx)
    have pb : b.phase = 1 := Classical.byContradiction fun hx => hb (Or.inr hx)
    have l01 : Wc.lessI 0 1 = -1 := by decide
    have l11 : Wc.lessI 1 1 = 0 := by decide
    have e : Wc.lexL Wc.lessI b.pk.key a.pk.key = -1 := by
      simp [PK.key, Ob.pk, na, nb, pa, pb, hbr, hr, one, Wc.lexL, l01, l11]
    unfold podC
    rw [e, if_neg (by omega)]
    omega
  · rfl
theorem bound_sorted : ∀ (l : List Ob) (r : Bool), Srt.Sorted cO l → (r = true → ∀ o ∈ l, runs o → o.ready = true) → boundB r l = true
  | [], _, _, _ => rfl
  | o :: l, r, hs, hr => by
    unfold boundB
    have hs' := List.pairwise_cons.1 hs
    by_cases h : o.node.toList = [] ∨ ¬ o.phase = 1
    · rw [if_pos h]
      exact bound_sorted l r hs'.2 (fun e p hp => hr e p (List.mem_cons_of_mem _ hp))
    · rw [if_neg h]
      have ho : runs o := h
      by_cases h2 : r = true ∧ o.ready = false
      · have := hr h2.1 o (by simp) ho
        rw [h2.2] at this
        cases this
      · rw [if_neg h2]
        refine bound_sorted l _ hs'.2 (fun e p hp hrun => ?_)
        rcases Bool.or_eq_true_iff.1 e with e | e
        · exact hr e p (List.mem_cons_of_mem _ hp) hrun
        · exact runs_ready ho hrun e (hs'.1 p hp)
theorem bound_all (l : List Ob) : boundB false (sortV (live l)) = true := bound_sorted _ _ (sortV_sorted _) (fun h => by cases h)
theorem victF_all (l : List Ob) : victF l (l.length : Int) = sortV (live l) := by
  unfold victF headN
  rw [List.take_of_length_le]
  rw [sortV_length]
  have := live_length l
  omega
theorem victF_len (l : List Ob) (n : Int) : (victF l n).length = headN n (live l).length := by
  unfold victF
  rw [List.length_take, sortV_length]
  unfold headN
  omega
theorem live_take (l : List Ob) (k : Nat) (o : Ob) (h : l[k]? = some o) : (live (l.take (k + 1))).length = (live (l.take k)).length + if o.ending then 0 else 1 := by
  rw [live_snoc l k o h, List.length_append]
  cases o.ending <;> rfl
def rg7_19_T : Bool × List (List Nat × List Nat) := (true, [([], []), ([], []), ([0, 1], [0, 1]), ([2], [2]), ([3], [3]), ([4], [4]), ([5], [5]), ([5], [5]), ([5], [5]), ([7, 8, 5], [5, 7, 8]), ([9, 5], [5, 9]), ([6, 10, 5, 5], [5, 6, 10]), ([11, 5], [5, 11]), ([5, 12], [5, 12]), ([13, 11], [13]), ([14], [14]), ([15, 14], [14, 15]), ([16, 14, 14], [14, 16]), ([17], [17]), ([17], [17]), ([18, 19, 17], [17, 18, 19]), ([20, 17], [17, 20]), ([17], [17]), ([17], [17]), ([23, 17], [17, 23]), ([22, 24, 17], [17, 22, 24]), ([25, 17], [17, 25]), ([21, 26, 17, 17], [17, 21, 26]), ([17, 27, 14], [14, 17, 27]), ([14, 28], [14, 28])])
def rg7_19_B : List Nat := [0, 0, 3, 7, 15, 31, 63, 63, 63, 447, 959, 2047, 4095, 8191, 16383, 32767, 65535, 131071, 262143, 262143, 1048575, 2097151, 262143, 262143, 8650751, 29622271, 63176703, 134217727, 268435455, 536870911]
theorem rg7_19_tab : rtab .any (opsOf Tryd.f7 19) = rg7_19_T := by kernel_rfl
theorem rg7_19_bits : waitsOk rg7_19_T.2 rg7_19_B = true := by kernel_rfl
set_option maxRecDepth 100000 in
theorem firstBig_calls (A : Option Addr) (c n : Nat) (m : Int) (w : World) (hn : 200 < n) :
    Calls Tryd.prog 7 #[.slice A n c, .int .i64 m] w fun e w' => e = .returned (.bool true) ∧ Below w.heap.size w w' := by
  have d1 : decide ((200 : Int) < (n : Int)) = true := decide_eq_true (by omega)
  have HB : Below w.heap.size w w := Below.refl _ _
  go_enter Tryd.func7, Tryd.ntmps7
  go_wp2_with (first
    | (go_at_call 23; (with_reducible refine (works_calls _).mono ?_); rintro e w1 ⟨rfl, hb⟩; replace HB := belT HB hb; clear hb))
  go_ret
  exact ⟨rfl, HB⟩
set_option maxHeartbeats 4000000 in
set_option maxRecDepth 100000 in
theorem first_calls (A : Option Addr) (l : List Ob) (c n : Nat) (m : Int) (w : World) (hr : kO.C w A l.length l) (hl : l.length = n) (hn : ¬ 200 < n) (hf : ∀ o ∈ l, ObFits o) :
    Calls Tryd.prog 7 #[.slice A n c, .int .i64 m] w fun e w' => e = .returned (.bool true) ∧ Below w.heap.size w w' := by
  have d1 : decide ((200 : Int) < (n : Int)) = false := decide_eq_false (by omega)
  have hn200 : n ≤ 200 := by omega
  obtain ⟨al, hal⟩ : ∃ al, al = sortV (live l) := ⟨_, rfl⟩
  obtain ⟨na, hna⟩ : ∃ na, na = al.length := ⟨_, rfl⟩
  obtain ⟨kk, hkk⟩ : ∃ kk, kk = headN m (live l).length := ⟨_, rfl⟩
  have hlen : (live l).length = na := by rw [hna, hal, sortV_length]
  have hle := live_length l
  have hnan : na ≤ 200 := by omega
  have hkn : kk ≤ na := by rw [hkk]; unfold headN; omega
  obtain ⟨mx, hmx⟩ : ∃ mx : Int, mx = if m < 0 then 0 else m := ⟨_, rfl⟩
  have hmax : Builtin.max2 (.int .i64 m) (.int .i64 0) = pure (.int .i64 mx) := by rw [Go.Proofs.YtoepbjgldmgaoaaDoorW.PrintMore.max2_int, hmx]
  have hmin : Builtin.min2 (.int .i64 mx) (.int .i64 (na : Int)) = pure (.int .i64 (kk : Int)) := by
    rw [Go.Proofs.YtoepbjgldmgaoaaDoorW.PrintMore.min2_int]
    congr 2
    rw [hkk, hlen, hmx]
    unfold headN
    split <;> split <;> omega
  have HV := Lib.hid (fun (W : World) (hW : Below w.heap.size w W) => victims_calls A c l m W (Kd.C_below hr hW) (by omega) hf)
  have HA := Lib.hid (fun (W : World) (hW : Below w.heap.size w W) => victims_calls A c l (l.length : Int) W (Kd.C_below hr hW) (by omega) hf)
  rw [victF_len, ← hkk, hl] at HV
  rw [victF_all, ← hal, ← hna, hl] at HA
  have etake : victF l m = al.take kk := by rw [hkk, hal]; rfl
  rw [etake] at HV
  have HR := Lib.hid hr
  have HF := Lib.hid hf
  have HL := Lib.hid (And.intro hl (And.intro hal (And.intro hna hlen)))
  have HK : Hid ((al.take kk).length = kk) := Lib.hid (by rw [List.length_take]; omega)
  clear hr hf hl hal hna hlen hkk hle hmx etake
  have HB : Below w.heap.size w w := Below.refl _ _
  go_enter Tryd.func7, Tryd.ntmps7
  have HM := Lib.hid (Eq.refl 0)
  go_wp2_with (first
    | (go_at_call 23; (with_reducible refine (works_calls _).mono ?_); rintro e w1 ⟨rfl, hb⟩; replace HB := belT HB hb; clear hb)
    | (go_at_call 21; clear HM; (with_reducible refine (HV.out _ HB).mono ?_); rintro e w2 ⟨A1, c1, rfl, hS, hb⟩; replace HB := belT HB hb; have hC1 := Lib.hid (Kd.R_reads' (Kd.S_R hS)).2.2; clear hb hS)
    | (go_at_call 21; (with_reducible refine (HA.out _ HB).mono ?_); rintro e w3 ⟨A2, c2, rfl, hS, hb⟩; replace HB := belT HB hb; replace hC1 := Lib.hid (Kd.C_below hC1.out hb); have hc2 := (Kd.R_reads' (Kd.S_R hS)).2.1; have hC2 := Lib.hid (Kd.R_reads' (Kd.S_R hS)).2.2; clear hb hS)
    | (go_at_call 15; (with_reducible refine (sameObjects_eq A1 A2 (al.take kk) (al.take kk) kk na kk _ hC1.out (Kd.C_take hC2.out (by rw [← HL.out.2.2.1]; exact hkn)) HK.out HK.out (by omega)).mono ?_); rintro e w4 ⟨he, hb⟩; replace he : e = .returned (.bool true) := (he.trans (by rw [decide_eq_true rfl])); subst he; replace HB := belT HB hb; replace hC2 := Lib.hid (Kd.C_below hC2.out hb); clear hb hC1))
  go_loopw [8, 9] (fun v8 v9 wr => ∃ k : Nat, k ≤ n ∧ v9 = .int .i64 k ∧ ∃ q : Nat, q ≤ k ∧ v8 = .int .i64 q ∧ Hid (q = (live (l.take k)).length ∧ Below w4.heap.size w4 wr)) (fun _ v9 _ => n - (intOf v9).toNat)
  case atStart => exact ⟨0, Nat.zero_le _, rfl, 0, Nat.le_refl _, rfl, Lib.hid ⟨rfl, Below.refl _ _⟩⟩
  case round =>
    obtain ⟨k, hk, rfl, q, hq, rfl, hI⟩ := hrel
    by_cases hlt : k < n
    · obtain ⟨o, ho⟩ : ∃ o, l[k]? = some o := ⟨_, List.getElem?_eq_getElem (by have := HL.out.1; omega)⟩
      obtain ⟨ad, v4, v27, rfl, hO⟩ := objAt (Kd.C_below HR.out (belT HB hI.out.2)) k o ho
      have hlk : (k : Int) < (n : Int) := by omega
      have q16 := hO.field 16 (by omega) (u := .bool o.ending) rfl
      have hsn := live_take l k o ho
      obtain ⟨b, hb⟩ : ∃ b, b = o.ending := ⟨_, rfl⟩
      rw [← hb] at q16 hsn
      have hmem : b = false → o ∈ al := fun h => by
        rw [HL.out.2.1, mem_sortV, mem_live]
        exact ⟨List.mem_of_getElem? ho, by rw [← hb]; exact h⟩
      obtain ⟨cs, hcs⟩ : ∃ cs, cs = o.cells v4 v27 := ⟨_, rfl⟩
      have hi1 : Hid ((Tryd.prog.info? 48).map (·.size) = some cs.size) := Lib.hid (by rw [hcs, Ob.cells_size]; kernel_rfl)
      have B1 := hO.cells
      have QH := Lib.hid (fun (h : b = false) => has_calls A2 al na na o v4 v27 wr (Kd.C_below hC2.out hI.out.2) hO.l4 hO.l27 HL.out.2.2.1.symm (by omega))
      rw [← hcs] at B1 QH
      have HO := Lib.hid (And.intro hsn hmem)
      replace B1 := Lib.hid B1
      clear ho hsn hmem hcs hO hb
      cases b
      · have hdec : decide (o ∈ al) = true := decide_eq_true (HO.out.2 rfl)
        have QH2 := QH.out rfl
        rw [hdec] at QH2
        replace QH2 := Lib.hid QH2
        clear QH hdec
        go_wp2_with (first
          | ((with_reducible refine wpList_load_any rfl 48 (.tmp 60) rfl (ad.add (k * 32)) ?c1 cs _ ?c2 Tryd.underlying48 ?c3 ?c4 ?_); (case c1 => rfl); (case c2 => exact B1.out); (case c3 => rfl); (case c4 => exact hi1.out))
          | (go_at_call 24; (with_reducible refine QH2.out.mono ?_); rintro e w5 ⟨rfl, hb5⟩))
        go_roundw
        case rel => exact ⟨k + 1, by omega, by go_num, q + 1, by omega, by go_num, Lib.hid ⟨by have := HO.out.1; have := hI.out.1; simp at *; omega, belT hI.out.2 hb5⟩⟩
        case measure => simp [intOf]; omega
      · clear QH
        go_wp2
        go_roundw
        case rel => exact ⟨k + 1, by omega, by go_num, q, by omega, rfl, Lib.hid ⟨by have := HO.out.1; have := hI.out.1; simp at *; omega, hI.out.2⟩⟩
        case measure => simp [intOf]; omega
    · obtain rfl : n = k := by omega
      obtain ⟨hq1, hB5⟩ := hI.out
      rw [← HL.out.1, List.take_length, HL.out.2.2.2] at hq1
      rw [hq1]
      clear hq hq1
      replace HB := belT HB hB5
      replace hC2 := Lib.hid (Kd.C_below hC2.out hB5)
      clear hI hB5
      rename World => wx
      have HB0 : Below wx.heap.size wx wx := Below.refl _ _
      go_wp2
      go_loopw [10] (fun v10 wr => ∃ k : Nat, k ≤ na ∧ v10 = .int .i64 k ∧ Hid (Below wx.heap.size wx wr)) (fun v10 _ => na - (intOf v10).toNat)
      case atStart => exact ⟨0, Nat.zero_le _, rfl, Lib.hid HB0⟩
      case round =>
        obtain ⟨i, hi, rfl, hI⟩ := hrel
        by_cases hit : i < na
        · obtain ⟨o, ho⟩ : ∃ o, al[i]? = some o := ⟨_, List.getElem?_eq_getElem (by have := HL.out.2.2.1; omega)⟩
          obtain ⟨ad, v4, v27, rfl, hO⟩ := objAt (Kd.C_below hC2.out hI.out) i o ho
          obtain ⟨cs, hcs⟩ : ∃ cs, cs = o.cells v4 v27 := ⟨_, rfl⟩
          have hi1 : Hid ((Tryd.prog.info? 48).map (·.size) = some cs.size) := Lib.hid (by rw [hcs, Ob.cells_size]; kernel_rfl)
          have hoal : o ∈ live l := by
            have := List.mem_of_getElem? ho
            rwa [HL.out.2.1, mem_sortV] at this
          obtain ⟨hol, hoe⟩ := (mem_live l o).1 hoal
          have B1 := hO.cells
          have q16 : wr.cell? ⟨(ad.add (i * 32)).block, (ad.add (i * 32)).off + 16, none⟩ = some (.bool false) := hO.field 16 (by omega) (u := .bool false) (by show some (Value.bool o.ending) = _; rw [hoe])
          have QH := Lib.hid (fun (W : World) (hW : Below wr.heap.size wr W) => has_calls A l c n o v4 v27 W (Kd.C_below HR.out (belT (belT HB hI.out) hW)) (hO.l4.below hW) (hO.l27.below hW) HL.out.1 (by omega))
          rw [decide_eq_true hol] at QH
          rw [← hcs] at B1 QH
          replace B1 := Lib.hid (fun (W : World) (hW : Below wr.heap.size wr W) j u hu => cell_below hW (B1 j u hu))
          have C16 := Lib.hid (fun (W : World) (hW : Below wr.heap.size wr W) => cell_below hW q16)
          have HB1 : Below wr.heap.size wr wr := Below.refl _ _
          replace HB1 := below_drew HB1
          have hlk : (i : Int) < (na : Int) := by omega
          by_cases hi0 : i = 0
          · obtain ⟨z, hz⟩ : ∃ z : Int, z = (i : Int) := ⟨_, rfl⟩
            have g0 : (0 ≤ z) = True := eq_true (by omega)
            have g1 : (z < (na : Int)) = True := eq_true (by omega)
            have g4 : decide (0 < z) = false := decide_eq_false (by omega)
            have ez : z.toNat = i := by omega
            rw [← ez] at B1 C16
            rw [← hz] at hlk ⊢
            have HZ := Lib.hid (And.intro (show wrap64 (z + 1) = ((i + 1 : Nat) : Int) by rw [hz]; unfold wrap64; omega) (And.intro hit hz))
            clear q16 ho hO hoal hol hoe hcs hz ez hlk
            go_upto_region 19 with (fail)
            refine start_ (n := 30) (S := fun w' => Below wr.heap.size wr w' ∧ w'.cell? ⟨(ad.add (z.toNat * 32)).block, (ad.add (z.toNat * 32)).off + 16, none⟩ = some (.bool false)) (ds := []) (bs 30 0) (by kernel_rfl) rfl (by kernel_rfl) ⟨HB1, C16.out _ HB1⟩ (fun hHeld => ?_)
            refine with_tabW rg7_19_tab rg7_19_bits (fun HT_ HW_ => ?_)
            refine pu 0 (some 70) (bs 30 1) HT_ rfl rfl (by kernel_rfl) (fun _ _ _ _ h => h) ⟨_, .inl ⟨by rfl, fun _ => by go_simp; with_reducible rfl⟩, _, by simp only [Act.put, sA, sB, sC, i64_w, i32_w]; rfl, ?_⟩
            refine pu 1 (some 71) (bs 30 3) HT_ rfl rfl (by kernel_rfl) (fun _ _ _ _ h => h) ⟨_, .inl ⟨by rfl, fun _ => by go_simp; with_reducible rfl⟩, _, by simp only [Act.put, sA, sB, sC, i64_w, i32_w]; rfl, ?_⟩
            refine pu 2 (some 72) (bs 30 7) HT_ rfl rfl (by kernel_rfl) (fun _ _ _ _ h => h) ⟨_, .inl ⟨by rfl, fun _ => by go_simp; with_reducible rfl⟩, _, by simp only [Act.put, sA, sB, sC, i64_w, i32_w]; rfl, ?_⟩
            refine pu 3 (some 73) (bs 30 15) HT_ rfl rfl (by kernel_rfl) (fun _ _ _ _ h => h) ⟨_, .inl ⟨by rfl, fun _ => by go_simp; with_reducible rfl⟩, _, by simp only [Act.put, sA, sB, sC, i64_w, i32_w]; rfl, ?_⟩
            refine tk 4 (some 74) (bs 30 31) HT_ HW_ rfl rfl (by kernel_rfl) (fun _ _ _ _ h => h) hHeld ⟨_, .inl ⟨by rfl, by rintro w' ⟨s0, s1⟩; go_simp; with_reducible rfl⟩, _, by simp only [Act.put, sA, sB, sC, i64_w, i32_w]; rfl, ?_⟩
            refine pu 5 (some 75) (bs 30 63) HT_ rfl rfl (by kernel_rfl) (fun _ _ _ _ h => h) ⟨_, .inl ⟨by rfl, fun _ => by go_simp; with_reducible rfl⟩, _, by simp only [Act.put, sA, sB, sC, i64_w, i32_w]; rfl, ?_⟩
            refine pu 6 (some 76) (bs 30 127) HT_ rfl rfl (by kernel_rfl) (fun _ _ _ _ h => h) ⟨_, .inl ⟨by rfl, fun _ => by go_simp; with_reducible rfl⟩, _, by simp only [Act.put, sA, sB, sC, i64_w, i32_w]; rfl, ?_⟩
            refine pu 7 (some 77) (bs 30 255) HT_ rfl rfl (by kernel_rfl) (fun _ _ _ _ h => h) ⟨_, .inl ⟨by rfl, fun _ => by go_simp; with_reducible rfl⟩, _, by simp only [Act.put, sA, sB, sC, i64_w, i32_w]; rfl, ?_⟩
            refine pu 8 (some 78) (bs 30 511) HT_ rfl rfl (by kernel_rfl) (fun _ _ _ _ h => h) ⟨_, .inl ⟨by rfl, fun _ => by go_simp; with_reducible rfl⟩, _, by simp only [Act.put, sA, sB, sC, i64_w, i32_w]; rfl, ?_⟩
            refine pu 9 (some 79) (bs 30 1023) HT_ rfl rfl (by kernel_rfl) (fun _ _ _ _ h => h) ⟨_, .inl ⟨by rfl, fun _ => by go_simp; with_reducible rfl⟩, _, by simp only [Act.put, sA, sB, sC, i64_w, i32_w]; rfl, ?_⟩
            refine tk 10 (some 80) (bs 30 2047) HT_ HW_ rfl rfl (by kernel_rfl) (fun _ _ _ _ h => h) hHeld ⟨_, .inl ⟨by rfl, by rintro w' ⟨s0, s1⟩; refine load_any_ (x := .tmp 79) (p := ad.add (z.toNat * 32)) ?_ ?_ (B1.out _ s0) Tryd.underlying48 rfl hi1.out <;> rfl⟩, _, by simp only [Act.put, sA, sB, sC, i64_w, i32_w]; rfl, ?_⟩
            refine on1 11 (some 81) (bs 30 4095) HT_ rfl rfl (by kernel_rfl) (by decide) (fun K hK => ?_)
            refine goes_ Tryd.func24 (by kernel_rfl) rfl #[.slice A n c, .agg cs] (by rfl) rfl rfl (by (try simp only [List.map_toArray, List.map_cons, List.map_nil]); first | done | rfl) ?_
            with_reducible refine (QH.out _ HB1).mono ?_
            rintro e w5 ⟨rfl, hb⟩
            replace HB1 := belT HB1 hb
            clear hb
            refine ⟨_, rfl, ?_⟩
            refine hK.out _ _ ⟨HB1, C16.out _ HB1⟩ (fun hHeld => ?_)
            clear hK K
            refine nm ⟨_, show Act.put _ (some 81) _ = _ by simp only [Act.put, sA, sB, sC, i64_w, i32_w]; rfl, ?_⟩
            refine pu 12 (some 82) (bs 30 8191) HT_ rfl rfl (by kernel_rfl) (fun _ _ _ _ h => h) ⟨_, .inl ⟨by rfl, fun _ => by go_simp; with_reducible rfl⟩, _, by simp only [Act.put, sA, sB, sC, i64_w, i32_w]; rfl, ?_⟩
            refine pu 13 (some 83) (bs 30 16383) HT_ rfl rfl (by kernel_rfl) (fun _ _ _ _ h => h) ⟨_, .inl ⟨by rfl, fun _ => by go_simp; with_reducible rfl⟩, _, by simp only [Act.put, sA, sB, sC, i64_w, i32_w]; rfl, ?_⟩
            refine pu 14 (some 84) (bs 30 32767) HT_ rfl rfl (by kernel_rfl) (fun _ _ _ _ h => h) ⟨_, .inl ⟨by rfl, fun _ => by go_simp; with_reducible rfl⟩, _, by simp only [Act.put, sA, sB, sC, i64_w, i32_w]; rfl, ?_⟩
            refine pu 15 (some 85) (bs 30 65535) HT_ rfl rfl (by kernel_rfl) (fun _ _ _ _ h => h) ⟨_, .inl ⟨by rfl, fun _ => by go_simp; with_reducible rfl⟩, _, by simp only [Act.put, sA, sB, sC, i64_w, i32_w]; rfl, ?_⟩
            refine pu 16 (some 86) (bs 30 131071) HT_ rfl rfl (by kernel_rfl) (fun _ _ _ _ h => h) ⟨_, .inl ⟨by rfl, fun _ => by go_simp; with_reducible rfl⟩, _, by simp only [Act.put, sA, sB, sC, i64_w, i32_w]; rfl, ?_⟩
            refine pu 17 (some 87) (bs 30 262143) HT_ rfl rfl (by kernel_rfl) (fun _ _ _ _ h => h) ⟨_, .inl ⟨by rfl, fun _ => by go_simp; with_reducible rfl⟩, _, by simp only [Act.put, sA, sB, sC, i64_w, i32_w]; rfl, ?_⟩
            refine pu 18 (some 88) (bs 30 524287) HT_ rfl rfl (by kernel_rfl) (fun _ _ _ _ h => h) ⟨_, .inr ⟨by rfl, rfl⟩, _, by simp only [Act.put, sA, sB, sC, i64_w, i32_w]; rfl, ?_⟩
            refine pu 19 (some 89) (bs 30 1048575) HT_ rfl rfl (by kernel_rfl) (fun _ _ _ _ h => h) ⟨_, .inr ⟨by rfl, rfl⟩, _, by simp only [Act.put, sA, sB, sC, i64_w, i32_w]; rfl, ?_⟩
            refine pu 20 (some 90) (bs 30 2097151) HT_ rfl rfl (by kernel_rfl) (fun _ _ _ _ h => h) ⟨_, .inr ⟨by rfl, rfl⟩, _, by simp only [Act.put, sA, sB, sC, i64_w, i32_w]; rfl, ?_⟩
            refine pu 21 (some 91) (bs 30 4194303) HT_ rfl rfl (by kernel_rfl) (fun _ _ _ _ h => h) ⟨_, .inr ⟨by rfl, rfl⟩, _, by simp only [Act.put, sA, sB, sC, i64_w, i32_w]; rfl, ?_⟩
            refine pu 22 (some 92) (bs 30 8388607) HT_ rfl rfl (by kernel_rfl) (fun _ _ _ _ h => h) ⟨_, .inr ⟨by rfl, rfl⟩, _, by simp only [Act.put, sA, sB, sC, i64_w, i32_w]; rfl, ?_⟩
            refine pu 23 (some 93) (bs 30 16777215) HT_ rfl rfl (by kernel_rfl) (fun _ _ _ _ h => h) ⟨_, .inr ⟨by rfl, rfl⟩, _, by simp only [Act.put, sA, sB, sC, i64_w, i32_w]; rfl, ?_⟩
            refine pu 24 (some 94) (bs 30 33554431) HT_ rfl rfl (by kernel_rfl) (fun _ _ _ _ h => h) ⟨_, .inr ⟨by rfl, rfl⟩, _, by simp only [Act.put, sA, sB, sC, i64_w, i32_w]; rfl, ?_⟩
            refine pu 25 (some 95) (bs 30 67108863) HT_ rfl rfl (by kernel_rfl) (fun _ _ _ _ h => h) ⟨_, .inr ⟨by rfl, rfl⟩, _, by simp only [Act.put, sA, sB, sC, i64_w, i32_w]; rfl, ?_⟩
            refine pu 26 (some 96) (bs 30 134217727) HT_ rfl rfl (by kernel_rfl) (fun _ _ _ _ h => h) ⟨_, .inr ⟨by rfl, rfl⟩, _, by simp only [Act.put, sA, sB, sC, i64_w, i32_w]; rfl, ?_⟩
            refine pu 27 (some 97) (bs 30 268435455) HT_ rfl rfl (by kernel_rfl) (fun _ _ _ _ h => h) ⟨_, .inr ⟨by rfl, rfl⟩, _, by simp only [Act.put, sA, sB, sC, i64_w, i32_w]; rfl, ?_⟩
            refine pu 28 (some 98) (bs 30 536870911) HT_ rfl rfl (by kernel_rfl) (fun _ _ _ _ h => h) ⟨_, .inl ⟨by rfl, fun _ => by go_simp; with_reducible rfl⟩, _, by simp only [Act.put, sA, sB, sC, i64_w, i32_w]; rfl, ?_⟩
            refine pu 29 (some 99) (bs 30 1073741823) HT_ rfl rfl (by kernel_rfl) (fun _ _ _ _ h => h) ⟨_, .inl ⟨by rfl, fun _ => by go_simp; with_reducible rfl⟩, _, by simp only [Act.put, sA, sB, sC, i64_w, i32_w]; rfl, ?_⟩
            refine done_ (done_of HT_.out (by kernel_rfl)) ?_
            go_wp2
            go_roundw
            case rel => exact ⟨i + 1, HZ.out.2.1, by rw [HZ.out.1], Lib.hid (belT hI.out HB1)⟩
            case measure =>
              have h1 := HZ.out.2.1
              rw [HZ.out.1, HZ.out.2.2]
              simp [intOf]
              omega
          · obtain ⟨i1, rfl⟩ : ∃ i1, i = i1 + 1 := ⟨i - 1, by omega⟩
            obtain ⟨p, hp⟩ : ∃ p, al[i1]? = some p := ⟨_, List.getElem?_eq_getElem (by have := HL.out.2.2.1; omega)⟩
            obtain ⟨ad', u4, u27, e', hP⟩ := objAt (Kd.C_below hC2.out hI.out) i1 p hp
            obtain rfl := Option.some.inj e'
            obtain ⟨ds, hds⟩ : ∃ ds, ds = p.cells u4 u27 := ⟨_, rfl⟩
            have hi2 : Hid ((Tryd.prog.info? 48).map (·.size) = some ds.size) := Lib.hid (by rw [hds, Ob.cells_size]; kernel_rfl)
            have hpal : p ∈ live l := by
              have := List.mem_of_getElem? hp
              rwa [HL.out.2.1, mem_sortV] at this
            have hle : cO p o ≤ 0 := by
              have hs := sortV_sorted (live l)
              rw [← HL.out.2.1] at hs
              exact Srt.sorted_le cO_cmp hs (Nat.le_succ i1) hp ho
            have QL := lessIs (x := cs) (y := ds) (p := o.pk) (q := p.pk) (by rw [hcs]; exact ⟨pod_cells o v4 v27, (HF.out o hol).1⟩) (by rw [hds]; exact ⟨pod_cells p u4 u27, (HF.out p ((mem_live l p).1 hpal).1).1⟩)
            rw [less_of hle] at QL
            replace QL := Lib.hid QL
            have B2 := hP.cells
            rw [← hds] at B2
            replace B2 := Lib.hid (fun (W : World) (hW : Below wr.heap.size wr W) j u hu => cell_below hW (B2 j u hu))
            obtain ⟨z, hz⟩ : ∃ z : Int, z = ((i1 + 1 : Nat) : Int) := ⟨_, rfl⟩
            obtain ⟨z1, hz1⟩ : ∃ z : Int, z = (i1 : Int) := ⟨_, rfl⟩
            have hw : wrap64 (z - 1) = z1 := by rw [hz, hz1]; unfold wrap64; omega
            have g0 : (0 ≤ z) = True := eq_true (by omega)
            have g1 : (z < (na : Int)) = True := eq_true (by omega)
            have g2 : (0 ≤ z1) = True := eq_true (by omega)
            have g3 : (z1 < (na : Int)) = True := eq_true (by omega)
            have g4 : decide (0 < z) = true := decide_eq_true (by omega)
            have ez : z.toNat = i1 + 1 := by omega
            have ez1 : z1.toNat = i1 := by omega
            rw [← ez] at B1 C16
            rw [← ez1] at B2
            rw [← hz] at hlk ⊢
            have HZ := Lib.hid (And.intro (show wrap64 (z + 1) = ((i1 + 1 + 1 : Nat) : Int) by rw [hz]; unfold wrap64; omega) (And.intro hit hz))
            clear ho hp hO hP e' hle hpal hoal hol hoe hcs hds q16 hz hz1 ez ez1 hlk
            go_upto_region 19 with (fail)
            refine start_ (n := 30) (S := fun w' => Below wr.heap.size wr w' ∧ w'.cell? ⟨(ad.add (z.toNat * 32)).block, (ad.add (z.toNat * 32)).off + 16, none⟩ = some (.bool false)) (ds := []) (bs 30 0) (by kernel_rfl) rfl (by kernel_rfl) ⟨HB1, C16.out _ HB1⟩ (fun hHeld => ?_)
            refine with_tabW rg7_19_tab rg7_19_bits (fun HT_ HW_ => ?_)
            refine pu 0 (some 70) (bs 30 1) HT_ rfl rfl (by kernel_rfl) (fun _ _ _ _ h => h) ⟨_, .inl ⟨by rfl, fun _ => by go_simp; with_reducible rfl⟩, _, by simp only [Act.put, sA, sB, sC, i64_w, i32_w]; rfl, ?_⟩
            refine pu 1 (some 71) (bs 30 3) HT_ rfl rfl (by kernel_rfl) (fun _ _ _ _ h => h) ⟨_, .inl ⟨by rfl, fun _ => by go_simp; with_reducible rfl⟩, _, by simp only [Act.put, sA, sB, sC, i64_w, i32_w]; rfl, ?_⟩
            refine pu 2 (some 72) (bs 30 7) HT_ rfl rfl (by kernel_rfl) (fun _ _ _ _ h => h) ⟨_, .inl ⟨by rfl, fun _ => by go_simp; with_reducible rfl⟩, _, by simp only [Act.put, sA, sB, sC, i64_w, i32_w]; rfl, ?_⟩
            refine pu 3 (some 73) (bs 30 15) HT_ rfl rfl (by kernel_rfl) (fun _ _ _ _ h => h) ⟨_, .inl ⟨by rfl, fun _ => by go_simp; with_reducible rfl⟩, _, by simp only [Act.put, sA, sB, sC, i64_w, i32_w]; rfl, ?_⟩
            refine tk 4 (some 74) (bs 30 31) HT_ HW_ rfl rfl (by kernel_rfl) (fun _ _ _ _ h => h) hHeld ⟨_, .inl ⟨by rfl, by rintro w' ⟨s0, s1⟩; go_simp; with_reducible rfl⟩, _, by simp only [Act.put, sA, sB, sC, i64_w, i32_w]; rfl, ?_⟩
            refine pu 5 (some 75) (bs 30 63) HT_ rfl rfl (by kernel_rfl) (fun _ _ _ _ h => h) ⟨_, .inl ⟨by rfl, fun _ => by go_simp; with_reducible rfl⟩, _, by simp only [Act.put, sA, sB, sC, i64_w, i32_w]; rfl, ?_⟩
            refine pu 6 (some 76) (bs 30 127) HT_ rfl rfl (by kernel_rfl) (fun _ _ _ _ h => h) ⟨_, .inl ⟨by rfl, fun _ => by go_simp; with_reducible rfl⟩, _, by simp only [Act.put, sA, sB, sC, i64_w, i32_w]; rfl, ?_⟩
            refine pu 7 (some 77) (bs 30 255) HT_ rfl rfl (by kernel_rfl) (fun _ _ _ _ h => h) ⟨_, .inl ⟨by rfl, fun _ => by go_simp; with_reducible rfl⟩, _, by simp only [Act.put, sA, sB, sC, i64_w, i32_w]; rfl, ?_⟩
            refine pu 8 (some 78) (bs 30 511) HT_ rfl rfl (by kernel_rfl) (fun _ _ _ _ h => h) ⟨_, .inl ⟨by rfl, fun _ => by go_simp; with_reducible rfl⟩, _, by simp only [Act.put, sA, sB, sC, i64_w, i32_w]; rfl, ?_⟩
            refine pu 9 (some 79) (bs 30 1023) HT_ rfl rfl (by kernel_rfl) (fun _ _ _ _ h => h) ⟨_, .inl ⟨by rfl, fun _ => by go_simp; with_reducible rfl⟩, _, by simp only [Act.put, sA, sB, sC, i64_w, i32_w]; rfl, ?_⟩
            refine tk 10 (some 80) (bs 30 2047) HT_ HW_ rfl rfl (by kernel_rfl) (fun _ _ _ _ h => h) hHeld ⟨_, .inl ⟨by rfl, by rintro w' ⟨s0, s1⟩; refine load_any_ (x := .tmp 79) (p := ad.add (z.toNat * 32)) ?_ ?_ (B1.out _ s0) Tryd.underlying48 rfl hi1.out <;> rfl⟩, _, by simp only [Act.put, sA, sB, sC, i64_w, i32_w]; rfl, ?_⟩
            refine on1 11 (some 81) (bs 30 4095) HT_ rfl rfl (by kernel_rfl) (by decide) (fun K hK => ?_)
            refine goes_ Tryd.func24 (by kernel_rfl) rfl #[.slice A n c, .agg cs] (by rfl) rfl rfl (by (try simp only [List.map_toArray, List.map_cons, List.map_nil]); first | done | rfl) ?_
            with_reducible refine (QH.out _ HB1).mono ?_
            rintro e w5 ⟨rfl, hb⟩
            replace HB1 := belT HB1 hb
            clear hb
            refine ⟨_, rfl, ?_⟩
            refine hK.out _ _ ⟨HB1, C16.out _ HB1⟩ (fun hHeld => ?_)
            clear hK K
            refine nm ⟨_, show Act.put _ (some 81) _ = _ by simp only [Act.put, sA, sB, sC, i64_w, i32_w]; rfl, ?_⟩
            refine pu 12 (some 82) (bs 30 8191) HT_ rfl rfl (by kernel_rfl) (fun _ _ _ _ h => h) ⟨_, .inl ⟨by rfl, fun _ => by go_simp; with_reducible rfl⟩, _, by simp only [Act.put, sA, sB, sC, i64_w, i32_w]; rfl, ?_⟩
            refine pu 13 (some 83) (bs 30 16383) HT_ rfl rfl (by kernel_rfl) (fun _ _ _ _ h => h) ⟨_, .inl ⟨by rfl, fun _ => by go_simp; with_reducible rfl⟩, _, by simp only [Act.put, sA, sB, sC, i64_w, i32_w]; rfl, ?_⟩
            refine pu 14 (some 84) (bs 30 32767) HT_ rfl rfl (by kernel_rfl) (fun _ _ _ _ h => h) ⟨_, .inl ⟨by rfl, fun _ => by go_simp; with_reducible rfl⟩, _, by simp only [Act.put, sA, sB, sC, i64_w, i32_w]; rfl, ?_⟩
            refine pu 15 (some 85) (bs 30 65535) HT_ rfl rfl (by kernel_rfl) (fun _ _ _ _ h => h) ⟨_, .inl ⟨by rfl, fun _ => by go_simp; with_reducible rfl⟩, _, by simp only [Act.put, sA, sB, sC, i64_w, i32_w]; rfl, ?_⟩
            refine pu 16 (some 86) (bs 30 131071) HT_ rfl rfl (by kernel_rfl) (fun _ _ _ _ h => h) ⟨_, .inl ⟨by rfl, fun _ => by go_simp; with_reducible rfl⟩, _, by simp only [Act.put, sA, sB, sC, i64_w, i32_w]; rfl, ?_⟩
            refine pu 17 (some 87) (bs 30 262143) HT_ rfl rfl (by kernel_rfl) (fun _ _ _ _ h => h) ⟨_, .inl ⟨by rfl, fun _ => by go_simp; with_reducible rfl⟩, _, by simp only [Act.put, sA, sB, sC, i64_w, i32_w]; rfl, ?_⟩
            refine pu 18 (some 88) (bs 30 524287) HT_ rfl rfl (by kernel_rfl) (fun _ _ _ _ h => h) ⟨_, .inl ⟨by rfl, fun _ => by go_simp; with_reducible rfl⟩, _, by simp only [Act.put, sA, sB, sC, i64_w, i32_w]; rfl, ?_⟩
            refine pu 19 (some 89) (bs 30 1048575) HT_ rfl rfl (by kernel_rfl) (fun _ _ _ _ h => h) ⟨_, .inl ⟨by rfl, fun _ => by go_simp; with_reducible rfl⟩, _, by simp only [Act.put, sA, sB, sC, i64_w, i32_w]; rfl, ?_⟩
            refine pu 20 (some 90) (bs 30 2097151) HT_ rfl rfl (by kernel_rfl) (fun _ _ _ _ h => h) ⟨_, .inl ⟨by rfl, fun _ => by go_simp; with_reducible rfl⟩, _, by simp only [Act.put, sA, sB, sC, i64_w, i32_w]; rfl, ?_⟩
            refine pu 22 (some 92) (bs 30 6291455) HT_ rfl rfl (by kernel_rfl) (fun _ _ _ _ h => h) ⟨_, .inl ⟨by rfl, fun _ => by go_simp; with_reducible rfl⟩, _, by simp only [Act.put, sA, sB, sC, i64_w, i32_w]; rfl, ?_⟩
            refine pu 23 (some 93) (bs 30 14680063) HT_ rfl rfl (by kernel_rfl) (fun _ _ _ _ h => h) ⟨_, .inl ⟨by rfl, fun _ => by go_simp; with_reducible rfl⟩, _, by simp only [Act.put, sA, sB, sC, i64_w, i32_w]; rfl, ?_⟩
            refine pu 24 (some 94) (bs 30 31457279) HT_ rfl rfl (by kernel_rfl) (fun _ _ _ _ h => h) ⟨_, .inl ⟨by rfl, fun _ => by go_simp; with_reducible rfl⟩, _, by simp only [Act.put, sA, sB, sC, i64_w, i32_w]; rfl, ?_⟩
            refine pu 25 (some 95) (bs 30 65011711) HT_ rfl rfl (by kernel_rfl) (fun _ _ _ _ h => h) ⟨_, .inl ⟨by rfl, fun _ => by go_simp; with_reducible rfl⟩, _, by simp only [Act.put, sA, sB, sC, i64_w, i32_w]; rfl, ?_⟩
            refine tk 21 (some 91) (bs 30 67108863) HT_ HW_ rfl rfl (by kernel_rfl) (fun _ _ _ _ h => h) hHeld ⟨_, .inl ⟨by rfl, by rintro w' ⟨s0, s1⟩; refine load_any_ (x := .tmp 90) (p := ad.add (z.toNat * 32)) ?_ ?_ (B1.out _ s0) Tryd.underlying48 rfl hi1.out <;> rfl⟩, _, by simp only [Act.put, sA, sB, sC, i64_w, i32_w]; rfl, ?_⟩
            refine tk 26 (some 96) (bs 30 134217727) HT_ HW_ rfl rfl (by kernel_rfl) (fun _ _ _ _ h => h) hHeld ⟨_, .inl ⟨by rfl, by rintro w' ⟨s0, s1⟩; refine load_any_ (x := .tmp 95) (p := ad.add (z1.toNat * 32)) ?_ ?_ (B2.out _ s0) Tryd.underlying48 rfl hi2.out <;> rfl⟩, _, by simp only [Act.put, sA, sB, sC, i64_w, i32_w]; rfl, ?_⟩
            refine on1 27 (some 97) (bs 30 268435455) HT_ rfl rfl (by kernel_rfl) (by decide) (fun K hK => ?_)
            refine goes_ Tryd.func19 (by kernel_rfl) rfl #[.agg cs, .agg ds] (by rfl) rfl rfl (by (try simp only [List.map_toArray, List.map_cons, List.map_nil]); first | done | rfl) ?_
            with_reducible refine (QL.out _).mono ?_
            rintro e w5 ⟨rfl, hb⟩
            replace HB1 := belT HB1 hb
            clear hb
            refine ⟨_, rfl, ?_⟩
            refine hK.out _ _ ⟨HB1, C16.out _ HB1⟩ (fun hHeld => ?_)
            clear hK K
            refine nm ⟨_, show Act.put _ (some 97) _ = _ by simp only [Act.put, sA, sB, sC, i64_w, i32_w]; rfl, ?_⟩
            refine pu 28 (some 98) (bs 30 536870911) HT_ rfl rfl (by kernel_rfl) (fun _ _ _ _ h => h) ⟨_, .inl ⟨by rfl, fun _ => by go_simp; with_reducible rfl⟩, _, by simp only [Act.put, sA, sB, sC, i64_w, i32_w]; rfl, ?_⟩
            refine pu 29 (some 99) (bs 30 1073741823) HT_ rfl rfl (by kernel_rfl) (fun _ _ _ _ h => h) ⟨_, .inl ⟨by rfl, fun _ => by go_simp; with_reducible rfl⟩, _, by simp only [Act.put, sA, sB, sC, i64_w, i32_w]; rfl, ?_⟩
            refine done_ (done_of HT_.out (by kernel_rfl)) ?_
            go_wp2
            go_roundw
            case rel => exact ⟨i1 + 1 + 1, HZ.out.2.1, by rw [HZ.out.1], Lib.hid (belT hI.out HB1)⟩
            case measure =>
              have h1 := HZ.out.2.1
              rw [HZ.out.1, HZ.out.2.2]
              simp [intOf]
              omega
        · obtain rfl : na = i := by omega
          have e1 : ((na : Int) == (na : Int)) = true := by simp
          have QB := Lib.hid (bound_calls A2 al na na wr (Kd.C_below hC2.out hI.out) HL.out.2.2.1.symm (by omega))
          rw [HL.out.2.1, bound_all] at QB
          go_wp2_with (first
            | (go_at_call 25; (with_reducible refine QB.out.mono ?_); rintro e w6 ⟨rfl, hb6⟩))
          go_ret
          exact ⟨rfl, belT (belT HB hI.out) hb6⟩
theorem rankFirst_pure (A : Option Addr) (c : Nat) (l : List Ob) (m : Int) (w : World) (hr : kO.C w A l.length l) (hf : ∀ o ∈ l, ObFits o) :
    Calls Tryd.prog 7 #[.slice A l.length c, .int .i64 m] w fun e w' => e = .returned (.bool true) ∧ Below w.heap.size w w' := by
  by_cases h : 200 < l.length
  · exact firstBig_calls A c l.length m w h
  · exact first_calls A l c l.length m w hr rfl h hf
end Go.Proofs.YtoepbjgldmgaoaaDoor

/- An object that is an argument, opened: the parts that rank.Less looks at. -/
namespace Go.Proofs.YtoepbjgldmgaoaaDoor
open Go.ChangeShapes Go.WideShapes Go.RowKit
end Go.Proofs.YtoepbjgldmgaoaaDoor

/- Objects, and lists of objects, that are arguments: opened. -/
namespace Go.Proofs.YtoepbjgldmgaoaaDoor
set_option maxRecDepth 100000
open Go.ChangeShapes Go.WideShapes Go.RowKit Go.Proofs.YtoepbjgldmgaoaaDoorW.PrintWords
section
variable {H : Type} {enc : TypeId × Value → H} {W : World} {base : Nat} {spare : Nat → Bool} {held : Bool}
def Ob.ints (o : Ob) : List Int := [o.kind, o.version, o.born, o.roomC, o.roomM, o.beat, o.phase, o.needC, o.needM, o.rise, o.fall, o.count, o.surge, o.slack, o.least, o.term, o.till]
def ObInts (o : Ob) : Prop := ∀ z ∈ o.ints, -9223372036854775808 ≤ z ∧ z ≤ 9223372036854775807
end
end Go.Proofs.YtoepbjgldmgaoaaDoor

/- flotillaref24.Victims: each object that isn't ending is put in from behind; the first ones of them. -/
namespace Go.Proofs.YtoepbjgldmgaoaaDoor
open Go.RowKit Go.Proofs.YtoepbjgldmgaoaaDoorW.PrintWords Go.Proofs.YtoepbjgldmgaoaaDoorW.PrintLast
attribute [local go_sem] Go.Proofs.YtoepbjgldmgaoaaDoorW.PrintMore.max_two Go.Proofs.YtoepbjgldmgaoaaDoorW.PrintMore.min_two
theorem lab_ne_obj {w : World} {k : Nat} (h : ∃ cells, w.heap[k]? = some (.cells cells 98 (0, 0))) (g : ∃ cells, w.heap[k]? = some (.cells cells 48 (0, 0))) : False := by
  obtain ⟨a, ha⟩ := h
  obtain ⟨b, hb⟩ := g
  rw [ha] at hb
  injection hb with hb
  injection hb with _ hb
  exact absurd hb (by decide)
theorem ref_rows {wo w4 w5 w6 : World} {base : Nat} {A5 : Option Addr} {t c5 : Nat} {acc ys : List Ob} {v8 : Value} (hR : kO.R 48 wo base (fun _ => True) (.slice A5 acc.length c5) acc) (hV : kO.R 48 w4 wo.heap.size (fun _ => True) v8 ys) (hb : Below w4.heap.size w4 w5)
    (hg : w5.grownBy w6 (Value.slice A5 t c5).ownBlock) (hbase : base ≤ wo.heap.size) :
    ∃ A c, v8 = .slice A ys.length c ∧ ReadsRow (fun x cs => kO.M w6 base (fun k => ∃ cells, w6.heap[k]? = some (.cells cells 98 (0, 0))) x cs) kO.sz w6 A ys.length ys := by
  have h5 : kO.R 48 w5 wo.heap.size (fun k => wo.heap.size ≤ k ∧ k < w5.heap.size) v8 ys := Kd.R_mono (Kd.R_bound (Kd.R_below hV hb)) (fun k hk => ⟨hk.2.1, hk.2.2.1⟩)
  have hne : ∀ k, wo.heap.size ≤ k → some k ≠ (Value.slice A5 t c5).ownBlock := fun k hk e => by
    have := Kd.R_lt hR k (by rw [e]; cases A5 <;> rfl)
    omega
  have h6 : kO.R 48 w6 wo.heap.size (fun k => wo.heap.size ≤ k ∧ k < w5.heap.size) v8 ys := Kd.R_move h5 (fun k hk => hg.block k hk.2 (hne k hk.1))
  obtain ⟨h0, inner, ho, hr⟩ := h6
  obtain ⟨A, c, e, hrow⟩ := own_reads_row ho (hr.imp_ (fun p cs hp => kO.M_mono (ok' := fun k => ∃ cells, w6.heap[k]? = some (.cells cells 98 (0, 0))) (fun k hk => by
    obtain ⟨_, _, _, q, hq, cells, hc⟩ := hk
    obtain rfl : q = 98 := by simpa [kO] using hq
    exact ⟨cells, hc⟩) (kO.M_lower hbase (kO.M_bound hp)))) rfl
  exact ⟨A, c, e, hrow⟩
theorem refLess_obj {o p : Ob} {v4 v27 u4 u27 : Value} (ho : ObFits o ∧ ObInts o) (hp : ObFits p ∧ ObInts p) (w : World) :
    Calls Tryd.prog 20 #[.agg (o.cells v4 v27), .agg (p.cells u4 u27)] w fun e w' => e = .returned (.bool (decide (cO o p < 0))) ∧ Below w.heap.size w w' := by
  have h := refLess_calls (o.cells v4 v27) (p.cells u4 u27) _ _ _ _ _ _ _ _ _ _ (pod_cells o v4 v27) (pod_cells p u4 u27) ho.1.1 hp.1.1 w
  rw [ref_less _ _ _ _ _ _ _ _ _ _ (ho.2 o.born (by simp [Ob.ints])) (hp.2 p.born (by simp [Ob.ints]))] at h
  have e : lessF o.name p.name o.born p.born o.node p.node o.phase p.phase o.ready p.ready = decide (cO o p < 0) := by
    have := less_podC o.pk p.pk
    have e2 : o.pk.less p.pk = lessF o.name p.name o.born p.born o.node p.node o.phase p.phase o.ready p.ready := rfl
    rw [← e2, this, decide_eq_decide]
    exact (cV_neg o.pk p.pk).symm
  rw [e] at h
  exact h
def rg22_7_T : Bool × List (List Nat × List Nat) := (true, [([], []), ([0], [0]), ([1], [1]), ([2], [2]), ([2], [2]), ([3, 4, 2], [2, 3, 4]), ([5, 2], [2, 5]), ([2], [2]), ([2], [2]), ([8, 2], [2, 8]), ([7, 9, 2], [2, 7, 9]), ([10, 2], [2, 10]), ([6, 11, 2, 2], [2, 6, 11]), ([2, 12], [2, 12])])
def rg22_7_B : List Nat := [0, 1, 3, 7, 7, 31, 63, 7, 7, 263, 903, 1927, 4095, 8191]
theorem rg22_7_tab : rtab .any (opsOf Tryd.f22 7) = rg22_7_T := by kernel_rfl
theorem rg22_7_bits : waitsOk rg22_7_T.2 rg22_7_B = true := by kernel_rfl
def rg22_10_T : Bool × List (List Nat × List Nat) := (true, [([], []), ([], []), ([0, 1], [0, 1]), ([], []), ([], []), ([3, 4], [3, 4]), ([5], [5]), ([6], [6]), ([7], [7]), ([2, 8, 7], [2, 8]), ([9, 9, 0, 1, 2, 3, 4, 5, 6, 7, 8, 9], [0, 9])])
def rg22_10_B : List Nat := [0, 0, 3, 0, 0, 24, 56, 120, 248, 511, 1023]
theorem rg22_10_tab : rtab .any (opsOf Tryd.f22 10) = rg22_10_T := by kernel_rfl
theorem rg22_10_bits : waitsOk rg22_10_T.2 rg22_10_B = true := by kernel_rfl
set_option maxHeartbeats 8000000 in
set_option maxRecDepth 100000 in
theorem refVictims_calls (A : Option Addr) (c n : Nat) (l : List Ob) (m : Int) (w : World) (hr : kO.C w A l.length l) (hln : l.length = n) (hn : n ≤ 1000000) (hf : ∀ o ∈ l, ObFits o ∧ ObInts o) :
    Calls Tryd.prog 22 #[.slice A n c, .int .i64 m] w fun e w' => ∃ A' c', e = .returned (.slice A' (victF l m).length c') ∧ (victF l m).length ≤ c' ∧ kO.C w' A' (victF l m).length (victF l m) ∧ Below w.heap.size w w' := by
  obtain ⟨kk, hkk⟩ : ∃ kk, kk = headN m (live l).length := ⟨_, rfl⟩
  have hvl : (victF l m).length = kk := by rw [victF_len, hkk]
  have hle := live_length l
  obtain ⟨na, hna⟩ : ∃ na, na = (live l).length := ⟨_, rfl⟩
  have hkn : kk ≤ na := by rw [hkk, hna]; unfold headN; omega
  have hnn : na ≤ 1000000 := by omega
  obtain ⟨mx, hmx⟩ : ∃ mx : Int, mx = if m < 0 then 0 else m := ⟨_, rfl⟩
  have hmax : Builtin.max2 (.int .i64 m) (.int .i64 0) = pure (.int .i64 mx) := by rw [Go.Proofs.YtoepbjgldmgaoaaDoorW.PrintMore.max2_int, hmx]
  have hmin : Builtin.min2 (.int .i64 mx) (.int .i64 (na : Int)) = pure (.int .i64 (kk : Int)) := by
    rw [Go.Proofs.YtoepbjgldmgaoaaDoorW.PrintMore.min2_int]
    congr 2
    rw [hkk, ← hna, hmx]
    unfold headN
    split <;> split <;> omega
  rw [hvl]
  have HR := Lib.hid hr
  have HFl := Lib.hid hf
  have HL := Lib.hid (And.intro hln (And.intro hna hkk))
  clear hr hln hf hkk hvl hle hna hmx
  go_enter Tryd.func22, Tryd.ntmps22
  go_wp2
  go_loopw [5, 6] (fun v5 v6 wr => ∃ i : Nat, i ≤ n ∧ v6 = .int .i64 i ∧ Hid (Kd.R kO 48 wr w.heap.size (fun _ => True) v5 (Srt.isort cO (live (l.take i))) ∧ Below w.heap.size w wr)) (fun _ v6 _ => n - (intOf v6).toNat)
  case atStart => exact ⟨0, Nat.zero_le _, rfl, Lib.hid ⟨Kd.R_nil _ _ _ _ _, Below.refl _ _⟩⟩
  case round =>
    obtain ⟨i, hi, rfl, hI⟩ := hrel
    by_cases hit : i < n
    · obtain ⟨o, ho⟩ : ∃ o, l[i]? = some o := ⟨_, List.getElem?_eq_getElem (by have := HL.out.1; omega)⟩
      obtain ⟨ad, v4, v27, rfl, hO⟩ := objAt (Kd.C_below HR.out hI.out.2) i o ho
      have hlk : (i : Int) < (n : Int) := by omega
      have q16 := hO.field 16 (by omega) (u := .bool o.ending) rfl
      have hsn := live_snoc l i o ho
      have hol := HFl.out o (List.mem_of_getElem? ho)
      obtain ⟨b, hb⟩ : ∃ b, b = o.ending := ⟨_, rfl⟩
      rw [← hb] at q16 hsn
      cases b
      · obtain ⟨acc, hacc⟩ : ∃ acc, acc = Srt.isort cO (live (l.take i)) := ⟨_, rfl⟩
        have hI1 := hI.out.1
        rw [← hacc] at hI1
        obtain ⟨A5, c5, rfl⟩ := Kd.R_slice hI1
        have hle5 : acc.length ≤ c5 := (Kd.R_reads' hI1).2.1
        have HC := Lib.hid (Kd.R_reads' hI1).2.2
        have HRo := Lib.hid hI1
        have HBo := Lib.hid hI.out.2
        have hal : acc.length ≤ 1000000 := by
          rw [hacc, Srt.isort_length]
          have := live_length (l.take i)
          rw [List.length_take] at this
          omega
        have HF : Hid (∀ x ∈ acc, ObFits x ∧ ObInts x) := Lib.hid (fun x hx => by
          rw [hacc, Srt.mem_isort, mem_live] at hx
          exact HFl.out x (List.mem_of_mem_take hx.1))
        have HT : Hid (∀ t, t ≤ acc.length ∧ Srt.back (fun a b => decide (cO a b < 0)) o acc acc.length = t → Srt.isort cO (live (l.take (i + 1))) = acc.take t ++ [o] ++ acc.drop t) := Lib.hid (fun t ht => by
          rw [hsn]
          have e : live (l.take i) ++ (if false = true then [] else [o]) = live (l.take i) ++ [o] := rfl
          rw [e, Srt.isort_snoc, ← hacc]
          have h := Srt.back_ins cO_cmp o acc (by rw [hacc]; exact Srt.isort_sorted cO_cmp _) acc.length (Nat.le_refl _) (fun j y hj hy => by
            have := (List.getElem?_eq_some_iff.1 hy).1
            omega)
          rw [ht.2] at h
          rw [← h, List.append_assoc]
          rfl)
        obtain ⟨cs, hcs⟩ : ∃ cs, cs = o.cells v4 v27 := ⟨_, rfl⟩
        have hi1 : Hid ((Tryd.prog.info? 48).map (·.size) = some cs.size) := Lib.hid (by rw [hcs, Ob.cells_size]; kernel_rfl)
        have B1 := hO.cells
        have QC := Lib.hid (fun (W : World) (hW : Below wr.heap.size wr W) => copyObject_calls o v4 v27 W (hO.l4.below hW) (hO.l27.below hW) hol.1)
        have QLL := Lib.hid (fun (p : Ob) (u4 u27 : Value) (hp : ObFits p ∧ ObInts p) (W : World) => refLess_obj (v4 := v4) (v27 := v27) (u4 := u4) (u27 := u27) hol hp W)
        rw [← hcs] at B1 QC QLL
        replace B1 := Lib.hid (fun (W : World) (hW : Below wr.heap.size wr W) j u hu => cell_below hW (B1 j u hu))
        clear ho hO hsn hol hb hcs hI1 hacc hI
        go_wp2
        rename World => wo
        go_loopw [7] (fun v7 wr => ∃ t : Nat, t ≤ acc.length ∧ v7 = .int .i64 t ∧ Hid (Srt.back (fun a b => decide (cO a b < 0)) o acc acc.length = Srt.back (fun a b => decide (cO a b < 0)) o acc t ∧ Below wo.heap.size wo wr)) (fun v7 _ => (intOf v7).toNat)
        case atStart => exact ⟨acc.length, Nat.le_refl _, rfl, Lib.hid ⟨rfl, Below.refl _ _⟩⟩
        case round =>
          obtain ⟨t, ht, rfl, hJ⟩ := hrel
          have HB1 : Below wo.heap.size wo wr := hJ.out.2
          replace HB1 := below_drew HB1
          by_cases ht0 : t = 0
          · have HE : Hid (t ≤ acc.length ∧ Srt.back (fun a b => decide (cO a b < 0)) o acc acc.length = t) := Lib.hid ⟨ht, by rw [hJ.out.1, ht0]; rfl⟩
            have g4 : decide ((0 : Int) < (t : Int)) = false := decide_eq_false (by omega)
            have g5 : decide (0 < t) = false := decide_eq_false (by omega)
            clear hJ ht0
            go_upto_region 7 with (fail)
            refine start_ (n := 14) (S := fun w' => Below wo.heap.size wo w') (ds := []) (bs 14 0) (by kernel_rfl) rfl (by kernel_rfl) HB1 (fun hHeld => ?_)
            refine with_tabW rg22_7_tab rg22_7_bits (fun HT_ HW_ => ?_)
            refine pu 0 (some 22) (bs 14 1) HT_ rfl rfl (by kernel_rfl) (fun _ _ _ _ h => h) ⟨_, .inl ⟨by rfl, fun _ => by go_simp; with_reducible rfl⟩, _, by simp only [Act.put, sA, sB, sC, i64_w, i32_w]; rfl, ?_⟩
            refine pu 1 (some 23) (bs 14 3) HT_ rfl rfl (by kernel_rfl) (fun _ _ _ _ h => h) ⟨_, .inl ⟨by rfl, fun _ => by go_simp; with_reducible rfl⟩, _, by simp only [Act.put, sA, sB, sC, i64_w, i32_w]; rfl, ?_⟩
            refine pu 2 (some 24) (bs 14 7) HT_ rfl rfl (by kernel_rfl) (fun _ _ _ _ h => h) ⟨_, .inl ⟨by rfl, fun _ => by go_simp; with_reducible rfl⟩, _, by simp only [Act.put, sA, sB, sC, i64_w, i32_w]; rfl, ?_⟩
            refine pu 3 (some 25) (bs 14 15) HT_ rfl rfl (by kernel_rfl) (fun _ _ _ _ h => h) ⟨_, .inr ⟨by rfl, rfl⟩, _, by simp only [Act.put, sA, sB, sC, i64_w, i32_w]; rfl, ?_⟩
            refine pu 4 (some 26) (bs 14 31) HT_ rfl rfl (by kernel_rfl) (fun _ _ _ _ h => h) ⟨_, .inr ⟨by rfl, rfl⟩, _, by simp only [Act.put, sA, sB, sC, i64_w, i32_w]; rfl, ?_⟩
            refine pu 5 (some 27) (bs 14 63) HT_ rfl rfl (by kernel_rfl) (fun _ _ _ _ h => h) ⟨_, .inr ⟨by rfl, rfl⟩, _, by simp only [Act.put, sA, sB, sC, i64_w, i32_w]; rfl, ?_⟩
            refine pu 6 (some 28) (bs 14 127) HT_ rfl rfl (by kernel_rfl) (fun _ _ _ _ h => h) ⟨_, .inr ⟨by rfl, rfl⟩, _, by simp only [Act.put, sA, sB, sC, i64_w, i32_w]; rfl, ?_⟩
            refine pu 7 (some 29) (bs 14 255) HT_ rfl rfl (by kernel_rfl) (fun _ _ _ _ h => h) ⟨_, .inr ⟨by rfl, rfl⟩, _, by simp only [Act.put, sA, sB, sC, i64_w, i32_w]; rfl, ?_⟩
            refine pu 8 (some 30) (bs 14 511) HT_ rfl rfl (by kernel_rfl) (fun _ _ _ _ h => h) ⟨_, .inr ⟨by rfl, rfl⟩, _, by simp only [Act.put, sA, sB, sC, i64_w, i32_w]; rfl, ?_⟩
            refine pu 9 (some 31) (bs 14 1023) HT_ rfl rfl (by kernel_rfl) (fun _ _ _ _ h => h) ⟨_, .inr ⟨by rfl, rfl⟩, _, by simp only [Act.put, sA, sB, sC, i64_w, i32_w]; rfl, ?_⟩
            refine pu 10 (some 32) (bs 14 2047) HT_ rfl rfl (by kernel_rfl) (fun _ _ _ _ h => h) ⟨_, .inr ⟨by rfl, rfl⟩, _, by simp only [Act.put, sA, sB, sC, i64_w, i32_w]; rfl, ?_⟩
            refine pu 11 (some 33) (bs 14 4095) HT_ rfl rfl (by kernel_rfl) (fun _ _ _ _ h => h) ⟨_, .inr ⟨by rfl, rfl⟩, _, by simp only [Act.put, sA, sB, sC, i64_w, i32_w]; rfl, ?_⟩
            refine pu 12 (some 34) (bs 14 8191) HT_ rfl rfl (by kernel_rfl) (fun _ _ _ _ h => h) ⟨_, .inr ⟨by rfl, rfl⟩, _, by simp only [Act.put, sA, sB, sC, i64_w, i32_w]; rfl, ?_⟩
            refine pu 13 (some 35) (bs 14 16383) HT_ rfl rfl (by kernel_rfl) (fun _ _ _ _ h => h) ⟨_, .inl ⟨by rfl, fun _ => by go_simp; with_reducible rfl⟩, _, by simp only [Act.put, sA, sB, sC, i64_w, i32_w]; rfl, ?_⟩
            refine done_ (done_of HT_.out (by kernel_rfl)) ?_
            have htl : t ≤ acc.length := ht
            obtain ⟨A9, hcut, hC9⟩ := cut_low A5 acc.length c5 (t) htl hle5
            have hcut2 : ((t : Nat) : Int) ≤ (c5 : Int) := by omega
            have Q9 := Lib.hid (fun (W : World) (hW : Below wo.heap.size wo W) => copyObjects_calls A9 (c5 - t) (acc.length - t) (acc.drop (t)) W (hC9 W acc rfl (Kd.C_below HC.out hW)) List.length_drop (by omega) (fun x hx => (HF.out x (List.mem_of_mem_drop hx)).1))
            clear hC9
            go_wp2_with (first
              | (go_at_call 49; (with_reducible refine (Q9.out _ HB1).mono ?_); rintro e w4 ⟨v8, rfl, hV8, hb4⟩; have hs8 := HB1.size; replace HB1 := belT HB1 hb4; replace hV8 := Lib.hid (And.intro (Kd.R_lower hV8 hs8) HB1); clear hb4 hs8))
            have HB4 := below_drew (Below.refl w4.heap.size w4)
            replace HB1 := Lib.hid HB1
            clear Q9
            refine start_ (n := 11) (S := fun w' => Below w4.heap.size w4 w') (ds := [9]) (bs 11 0) (by kernel_rfl) rfl (by kernel_rfl) HB4 (fun hHeld => ?_)
            refine with_tabW rg22_10_tab rg22_10_bits (fun HT_ HW_ => ?_)
            refine pu 0 (some 42) (bs 11 1) HT_ rfl rfl (by kernel_rfl) (fun _ _ _ _ h => h) ⟨_, .inl ⟨by rfl, fun _ => by go_simp; with_reducible rfl⟩, _, by simp only [Act.put, sA, sB, sC, i64_w, i32_w]; rfl, ?_⟩
            refine pu 1 (some 43) (bs 11 3) HT_ rfl rfl (by kernel_rfl) (fun _ _ _ _ h => h) ⟨_, .inl ⟨by rfl, fun _ => by go_simp; with_reducible rfl⟩, _, by simp only [Act.put, sA, sB, sC, i64_w, i32_w]; rfl, ?_⟩
            refine pu 2 (some 44) (bs 11 7) HT_ rfl rfl (by kernel_rfl) (fun _ _ _ _ h => h) ⟨_, .inl ⟨by rfl, fun _ => by go_simp; with_reducible rfl⟩, _, by simp only [Act.put, sA, sB, sC, i64_w, i32_w]; rfl, ?_⟩
            refine pu 3 (some 45) (bs 11 15) HT_ rfl rfl (by kernel_rfl) (fun _ _ _ _ h => h) ⟨_, .inl ⟨by rfl, fun _ => by go_simp; with_reducible rfl⟩, _, by simp only [Act.put, sA, sB, sC, i64_w, i32_w]; rfl, ?_⟩
            refine pu 4 (some 46) (bs 11 31) HT_ rfl rfl (by kernel_rfl) (fun _ _ _ _ h => h) ⟨_, .inl ⟨by rfl, fun _ => by go_simp; with_reducible rfl⟩, _, by simp only [Act.put, sA, sB, sC, i64_w, i32_w]; rfl, ?_⟩
            refine pu 5 (some 47) (bs 11 63) HT_ rfl rfl (by kernel_rfl) (fun _ _ _ _ h => h) ⟨_, .inl ⟨by rfl, fun _ => by go_simp; with_reducible rfl⟩, _, by simp only [Act.put, sA, sB, sC, i64_w, i32_w]; rfl, ?_⟩
            refine tk 6 (some 48) (bs 11 127) HT_ HW_ rfl rfl (by kernel_rfl) (fun _ _ _ _ h => h) hHeld ⟨_, .inl ⟨by rfl, by rintro w' s0; refine load_any_ (x := .tmp 47) (p := ad.add (i * 32)) ?_ ?_ (B1.out _ (belT HB1.out s0)) Tryd.underlying48 rfl hi1.out <;> rfl⟩, _, by simp only [Act.put, sA, sB, sC, i64_w, i32_w]; rfl, ?_⟩
            refine on1 7 (some 49) (bs 11 255) HT_ rfl rfl (by kernel_rfl) (by decide) (fun K hK => ?_)
            refine goes_ Tryd.func50 (by kernel_rfl) rfl #[.agg cs] (by rfl) rfl rfl (by (try simp only [List.map_toArray, List.map_cons, List.map_nil]); first | done | rfl) ?_
            with_reducible refine (QC.out _ (belT HB1.out HB4)).mono ?_
            rintro e w5 ⟨u4, u27, rfl, HM5, hb⟩
            have hs5 := (belT HB1.out HB4).size
            replace HM5 := Lib.hid (kO.M_mono (fun k hk => hk.2.1) (kO.M_bound (kO.M_lower hs5 HM5)))
            replace HB4 := belT HB4 hb
            have HB5 := Lib.hid (And.intro (belT HB1.out HB4) HB4)
            clear hb hs5
            refine ⟨_, rfl, ?_⟩
            refine hK.out _ _ HB4 (fun hHeld => ?_)
            clear hK K
            refine nm ⟨_, show Act.put _ (some 49) _ = _ by simp only [Act.put, sA, sB, sC, i64_w, i32_w]; rfl, ?_⟩
            refine on1 8 (some 50) (bs 11 511) HT_ rfl rfl (by kernel_rfl) (by decide) (fun K hK => ?_)
            refine build1_ (by rfl) rfl 22 48 (.tmp 49) rfl (o.cells u4 u27) rfl (.agg (Ob.zero.cells (.slice none 0 0) (.slice none 0 0))) 32 312 Tryd.underlying22 infoO (Ob.cells_size _ _ _) (by omega) (by omega) rfl ?_
            refine hK.out _ _ (HB4.alloc HB4.size _) (fun hHeld => ?_)
            clear hK K
            refine nm ⟨_, show Act.put _ (some 50) _ = _ by simp only [Act.put, sA, sB, sC, i64_w, i32_w]; rfl, ?_⟩
            refine la1 9 (some 51) (bs 11 1023) HT_ rfl rfl (by kernel_rfl) (by decide) (fun K hK => ?_)
            refine Kd.R_append_step kO (w0 := w) (W := w5) w.heap.size (by rfl) (.tmp 44) (.tmp 50) 22 48 (.agg (Ob.zero.cells (.slice none 0 0) (.slice none 0 0))) 312 rfl Tryd.underlying22 infoO rfl (by decide) (by omega) (.slice A5 (t) c5) (acc.take (t)) o (o.cells u4 u27).toList (fun _ => True) (fun k => wo.heap.size ≤ k) rfl rfl (kO.M_lower HBo.out.size HM5.out) (fun k hk => ⟨trivial, fun e => by have := Kd.R_lt HRo.out k (by first | exact e.symm | (cases A5 <;> exact e.symm)); omega⟩) (fun _ _ => trivial) (Kd.R_take (Kd.R_below HRo.out HB5.out.1) htl) (belT HBo.out HB5.out.1) (by have := HBo.out.size; have := HB5.out.1.size; omega) (by rw [List.length_take]; omega) ?_
            intro v1 w6 hR6 hB6 hg6 hat6
            refine hK.out _ _ ?_
            clear hK K
            refine nm ⟨_, show Act.put _ (some 51) _ = _ by simp only [Act.put, sA, sB, sC, i64_w, i32_w]; rfl, ?_⟩
            refine pu 10 (some 5) (bs 11 2047) HT_ rfl rfl (by kernel_rfl) (fun _ _ _ _ h => h) ⟨_, .inl ⟨by rfl, fun _ => by go_simp; with_reducible rfl⟩, _, by simp only [Act.put, sA, sB, sC, i64_w, i32_w]; rfl, ?_⟩
            refine done_ (done_of HT_.out (by kernel_rfl)) ?_
            obtain ⟨A8, c8, rfl, hrow⟩ := ref_rows (wo := wo) HRo.out hV8.out.1 HB5.out.2 hg6 HBo.out.size
            replace hrow := Lib.hid hrow
            have hty6 := Kd.R_typed hR6
            replace hty6 := Lib.hid hty6
            replace hR6 := Lib.hid hR6
            replace hB6 := Lib.hid hB6
            have hw6 : Hid (w.heap.size ≤ w6.heap.size) := Lib.hid hB6.out.size
            have hl6 : ((acc.take (t) ++ [o]).length + (acc.drop (t)).length) * 312 ≤ 140737488355328 := by rw [List.length_append, List.length_take, List.length_drop, List.length_singleton]; omega
            clear hg6 hat6 HM5 HB5 hV8 QC B1 hi1 HB1 HB4
            go_wp2_with (first
              | (at_builtin; refine Kd.R_append_rows kO (w0 := w) (Rr := fun x cs => kO.M w6 w.heap.size (fun k => ∃ cells, w6.heap[k]? = some (.cells cells 98 (0, 0))) x cs) w.heap.size rfl (.tmp 52) (.tmp 53) 22 48 (.agg (Ob.zero.cells (.slice none 0 0) (.slice none 0 0))) 312 rfl Tryd.underlying22 infoO rfl (by decide) (by omega) v1 (acc.take (t) ++ [o]) (acc.drop (t)) A8 (acc.drop (t)).length c8 (fun _ => True) (fun k => ∃ cells, w6.heap[k]? = some (.cells cells 98 (0, 0))) rfl rfl hR6.out hrow.out (fun _ _ h => h) (fun k hk => ⟨trivial, fun e => lab_ne_obj hk (hty6.out k e.symm)⟩) (fun _ _ => trivial) hB6.out hw6.out hl6 ?_; intro v2 w7 hR7 hB7 hg7 hat7))
            go_roundw
            case rel => exact ⟨i + 1, by omega, by go_num, Lib.hid ⟨by rw [HT.out _ HE.out]; exact hR7, hB7⟩⟩
            case measure => simp [intOf]; omega
          · obtain ⟨a, ha⟩ : ∃ a, a + 1 = t := ⟨t - 1, by omega⟩
            obtain ⟨p, hp⟩ : ∃ p, acc[a]? = some p := ⟨_, List.getElem?_eq_getElem (by omega)⟩
            obtain ⟨ad5, u4, u27, rfl, hP⟩ := objAt HC.out a p hp
            obtain ⟨ds, hds⟩ : ∃ ds, ds = p.cells u4 u27 := ⟨_, rfl⟩
            have hi2 : Hid ((Tryd.prog.info? 48).map (·.size) = some ds.size) := Lib.hid (by rw [hds, Ob.cells_size]; kernel_rfl)
            have B2 := hP.cells
            have QL := QLL.out p u4 u27 (HF.out p (List.mem_of_getElem? hp))
            rw [← hds] at B2 QL
            obtain ⟨lb, hlb⟩ : ∃ b, b = decide (cO o p < 0) := ⟨_, rfl⟩
            rw [← hlb] at QL
            replace QL := Lib.hid QL
            have hbk : Srt.back (fun a b => decide (cO a b < 0)) o acc (a + 1) = if lb = true then Srt.back (fun a b => decide (cO a b < 0)) o acc a else a + 1 := by
              simp only [Srt.back, hp, hlb]
            rw [ha, ← hJ.out.1] at hbk
            have HJ := Lib.hid hbk
            obtain ⟨z, hz⟩ : ∃ z : Int, z = (t : Int) := ⟨_, rfl⟩
            obtain ⟨z1, hz1⟩ : ∃ z : Int, z = (a : Int) := ⟨_, rfl⟩
            have hw : wrap64 (z - 1) = z1 := by rw [hz, hz1]; unfold wrap64; omega
            have g2 : (0 ≤ z1) = True := eq_true (by omega)
            have g3 : (z1 < (acc.length : Int)) = True := eq_true (by omega)
            have g4 : decide (0 < z) = true := decide_eq_true (by omega)
            have ez1 : z1.toNat = a := by omega
            rw [← ez1] at B2
            rw [← hz]
            replace B2 := Lib.hid (fun (W : World) (hW : Below wo.heap.size wo W) j u hu => cell_below hW (B2 j u hu))
            have HZ := Lib.hid (And.intro hz (And.intro hz1 (And.intro ha ht)))
            clear hP hp hds hlb hbk hz hz1 ez1 ha ht ht0 hJ
            go_upto_region 7 with (fail)
            refine start_ (n := 14) (S := fun w' => Below wo.heap.size wo w') (ds := []) (bs 14 0) (by kernel_rfl) rfl (by kernel_rfl) HB1 (fun hHeld => ?_)
            refine with_tabW rg22_7_tab rg22_7_bits (fun HT_ HW_ => ?_)
            refine pu 0 (some 22) (bs 14 1) HT_ rfl rfl (by kernel_rfl) (fun _ _ _ _ h => h) ⟨_, .inl ⟨by rfl, fun _ => by go_simp; with_reducible rfl⟩, _, by simp only [Act.put, sA, sB, sC, i64_w, i32_w]; rfl, ?_⟩
            refine pu 1 (some 23) (bs 14 3) HT_ rfl rfl (by kernel_rfl) (fun _ _ _ _ h => h) ⟨_, .inl ⟨by rfl, fun _ => by go_simp; with_reducible rfl⟩, _, by simp only [Act.put, sA, sB, sC, i64_w, i32_w]; rfl, ?_⟩
            refine pu 2 (some 24) (bs 14 7) HT_ rfl rfl (by kernel_rfl) (fun _ _ _ _ h => h) ⟨_, .inl ⟨by rfl, fun _ => by go_simp; with_reducible rfl⟩, _, by simp only [Act.put, sA, sB, sC, i64_w, i32_w]; rfl, ?_⟩
            refine pu 3 (some 25) (bs 14 15) HT_ rfl rfl (by kernel_rfl) (fun _ _ _ _ h => h) ⟨_, .inl ⟨by rfl, fun _ => by go_simp; with_reducible rfl⟩, _, by simp only [Act.put, sA, sB, sC, i64_w, i32_w]; rfl, ?_⟩
            refine pu 4 (some 26) (bs 14 31) HT_ rfl rfl (by kernel_rfl) (fun _ _ _ _ h => h) ⟨_, .inl ⟨by rfl, fun _ => by go_simp; with_reducible rfl⟩, _, by simp only [Act.put, sA, sB, sC, i64_w, i32_w]; rfl, ?_⟩
            refine pu 5 (some 27) (bs 14 63) HT_ rfl rfl (by kernel_rfl) (fun _ _ _ _ h => h) ⟨_, .inl ⟨by rfl, fun _ => by go_simp; with_reducible rfl⟩, _, by simp only [Act.put, sA, sB, sC, i64_w, i32_w]; rfl, ?_⟩
            refine pu 7 (some 29) (bs 14 191) HT_ rfl rfl (by kernel_rfl) (fun _ _ _ _ h => h) ⟨_, .inl ⟨by rfl, fun _ => by go_simp; with_reducible rfl⟩, _, by simp only [Act.put, sA, sB, sC, i64_w, i32_w]; rfl, ?_⟩
            refine pu 8 (some 30) (bs 14 447) HT_ rfl rfl (by kernel_rfl) (fun _ _ _ _ h => h) ⟨_, .inl ⟨by rfl, fun _ => by go_simp; with_reducible rfl⟩, _, by simp only [Act.put, sA, sB, sC, i64_w, i32_w]; rfl, ?_⟩
            refine pu 9 (some 31) (bs 14 959) HT_ rfl rfl (by kernel_rfl) (fun _ _ _ _ h => h) ⟨_, .inl ⟨by rfl, fun _ => by go_simp; with_reducible rfl⟩, _, by simp only [Act.put, sA, sB, sC, i64_w, i32_w]; rfl, ?_⟩
            refine pu 10 (some 32) (bs 14 1983) HT_ rfl rfl (by kernel_rfl) (fun _ _ _ _ h => h) ⟨_, .inl ⟨by rfl, fun _ => by go_simp; with_reducible rfl⟩, _, by simp only [Act.put, sA, sB, sC, i64_w, i32_w]; rfl, ?_⟩
            refine tk 6 (some 28) (bs 14 2047) HT_ HW_ rfl rfl (by kernel_rfl) (fun _ _ _ _ h => h) hHeld ⟨_, .inl ⟨by rfl, by rintro w' s0; refine load_any_ (x := .tmp 27) (p := ad.add (i * 32)) ?_ ?_ (B1.out _ s0) Tryd.underlying48 rfl hi1.out <;> rfl⟩, _, by simp only [Act.put, sA, sB, sC, i64_w, i32_w]; rfl, ?_⟩
            refine tk 11 (some 33) (bs 14 4095) HT_ HW_ rfl rfl (by kernel_rfl) (fun _ _ _ _ h => h) hHeld ⟨_, .inl ⟨by rfl, by rintro w' s0; refine load_any_ (x := .tmp 32) (p := ad5.add (z1.toNat * 32)) ?_ ?_ (B2.out _ s0) Tryd.underlying48 rfl hi2.out <;> rfl⟩, _, by simp only [Act.put, sA, sB, sC, i64_w, i32_w]; rfl, ?_⟩
            refine on1 12 (some 34) (bs 14 8191) HT_ rfl rfl (by kernel_rfl) (by decide) (fun K hK => ?_)
            refine goes_ Tryd.func20 (by kernel_rfl) rfl #[.agg cs, .agg ds] (by rfl) rfl rfl (by (try simp only [List.map_toArray, List.map_cons, List.map_nil]); first | done | rfl) ?_
            with_reducible refine (QL.out _).mono ?_
            rintro e w5 ⟨rfl, hb⟩
            replace HB1 := belT HB1 hb
            clear hb
            refine ⟨_, rfl, ?_⟩
            refine hK.out _ _ HB1 (fun hHeld => ?_)
            clear hK K
            refine nm ⟨_, show Act.put _ (some 34) _ = _ by simp only [Act.put, sA, sB, sC, i64_w, i32_w]; rfl, ?_⟩
            refine pu 13 (some 35) (bs 14 16383) HT_ rfl rfl (by kernel_rfl) (fun _ _ _ _ h => h) ⟨_, .inl ⟨by rfl, fun _ => by go_simp; with_reducible rfl⟩, _, by simp only [Act.put, sA, sB, sC, i64_w, i32_w]; rfl, ?_⟩
            refine done_ (done_of HT_.out (by kernel_rfl)) ?_
            clear B2 QL hi2
            cases lb
            · have HE : Hid (t ≤ acc.length ∧ Srt.back (fun a b => decide (cO a b < 0)) o acc acc.length = t) := Lib.hid ⟨HZ.out.2.2.2, by rw [HJ.out, if_neg (by simp)]⟩
              have htt := HZ.out.2.2.2
              clear hw g2 g3 g4 HJ
              have hz := HZ.out.1
              clear HZ
              subst hz
              have htl : t ≤ acc.length := htt
              obtain ⟨A9, hcut, hC9⟩ := cut_low (some ad5) acc.length c5 (t) htl hle5
              have hcut2 : ((t : Nat) : Int) ≤ (c5 : Int) := by omega
              have Q9 := Lib.hid (fun (W : World) (hW : Below wo.heap.size wo W) => copyObjects_calls A9 (c5 - t) (acc.length - t) (acc.drop (t)) W (hC9 W acc rfl (Kd.C_below HC.out hW)) List.length_drop (by omega) (fun x hx => (HF.out x (List.mem_of_mem_drop hx)).1))
              clear hC9
              go_wp2_with (first
                | (go_at_call 49; (with_reducible refine (Q9.out _ HB1).mono ?_); rintro e w4 ⟨v8, rfl, hV8, hb4⟩; have hs8 := HB1.size; replace HB1 := belT HB1 hb4; replace hV8 := Lib.hid (And.intro (Kd.R_lower hV8 hs8) HB1); clear hb4 hs8))
              have HB4 := below_drew (Below.refl w4.heap.size w4)
              replace HB1 := Lib.hid HB1
              clear Q9
              refine start_ (n := 11) (S := fun w' => Below w4.heap.size w4 w') (ds := [9]) (bs 11 0) (by kernel_rfl) rfl (by kernel_rfl) HB4 (fun hHeld => ?_)
              refine with_tabW rg22_10_tab rg22_10_bits (fun HT_ HW_ => ?_)
              refine pu 0 (some 42) (bs 11 1) HT_ rfl rfl (by kernel_rfl) (fun _ _ _ _ h => h) ⟨_, .inl ⟨by rfl, fun _ => by go_simp; with_reducible rfl⟩, _, by simp only [Act.put, sA, sB, sC, i64_w, i32_w]; rfl, ?_⟩
              refine pu 1 (some 43) (bs 11 3) HT_ rfl rfl (by kernel_rfl) (fun _ _ _ _ h => h) ⟨_, .inl ⟨by rfl, fun _ => by go_simp; with_reducible rfl⟩, _, by simp only [Act.put, sA, sB, sC, i64_w, i32_w]; rfl, ?_⟩
              refine pu 2 (some 44) (bs 11 7) HT_ rfl rfl (by kernel_rfl) (fun _ _ _ _ h => h) ⟨_, .inl ⟨by rfl, fun _ => by go_simp; with_reducible rfl⟩, _, by simp only [Act.put, sA, sB, sC, i64_w, i32_w]; rfl, ?_⟩
              refine pu 3 (some 45) (bs 11 15) HT_ rfl rfl (by kernel_rfl) (fun _ _ _ _ h => h) ⟨_, .inl ⟨by rfl, fun _ => by go_simp; with_reducible rfl⟩, _, by simp only [Act.put, sA, sB, sC, i64_w, i32_w]; rfl, ?_⟩
              refine pu 4 (some 46) (bs 11 31) HT_ rfl rfl (by kernel_rfl) (fun _ _ _ _ h => h) ⟨_, .inl ⟨by rfl, fun _ => by go_simp; with_reducible rfl⟩, _, by simp only [Act.put, sA, sB, sC, i64_w, i32_w]; rfl, ?_⟩
              refine pu 5 (some 47) (bs 11 63) HT_ rfl rfl (by kernel_rfl) (fun _ _ _ _ h => h) ⟨_, .inl ⟨by rfl, fun _ => by go_simp; with_reducible rfl⟩, _, by simp only [Act.put, sA, sB, sC, i64_w, i32_w]; rfl, ?_⟩
              refine tk 6 (some 48) (bs 11 127) HT_ HW_ rfl rfl (by kernel_rfl) (fun _ _ _ _ h => h) hHeld ⟨_, .inl ⟨by rfl, by rintro w' s0; refine load_any_ (x := .tmp 47) (p := ad.add (i * 32)) ?_ ?_ (B1.out _ (belT HB1.out s0)) Tryd.underlying48 rfl hi1.out <;> rfl⟩, _, by simp only [Act.put, sA, sB, sC, i64_w, i32_w]; rfl, ?_⟩
              refine on1 7 (some 49) (bs 11 255) HT_ rfl rfl (by kernel_rfl) (by decide) (fun K hK => ?_)
              refine goes_ Tryd.func50 (by kernel_rfl) rfl #[.agg cs] (by rfl) rfl rfl (by (try simp only [List.map_toArray, List.map_cons, List.map_nil]); first | done | rfl) ?_
              with_reducible refine (QC.out _ (belT HB1.out HB4)).mono ?_
              rintro e w5 ⟨u4, u27, rfl, HM5, hb⟩
              have hs5 := (belT HB1.out HB4).size
              replace HM5 := Lib.hid (kO.M_mono (fun k hk => hk.2.1) (kO.M_bound (kO.M_lower hs5 HM5)))
              replace HB4 := belT HB4 hb
              have HB5 := Lib.hid (And.intro (belT HB1.out HB4) HB4)
              clear hb hs5
              refine ⟨_, rfl, ?_⟩
              refine hK.out _ _ HB4 (fun hHeld => ?_)
              clear hK K
              refine nm ⟨_, show Act.put _ (some 49) _ = _ by simp only [Act.put, sA, sB, sC, i64_w, i32_w]; rfl, ?_⟩
              refine on1 8 (some 50) (bs 11 511) HT_ rfl rfl (by kernel_rfl) (by decide) (fun K hK => ?_)
              refine build1_ (by rfl) rfl 22 48 (.tmp 49) rfl (o.cells u4 u27) rfl (.agg (Ob.zero.cells (.slice none 0 0) (.slice none 0 0))) 32 312 Tryd.underlying22 infoO (Ob.cells_size _ _ _) (by omega) (by omega) rfl ?_
              refine hK.out _ _ (HB4.alloc HB4.size _) (fun hHeld => ?_)
              clear hK K
              refine nm ⟨_, show Act.put _ (some 50) _ = _ by simp only [Act.put, sA, sB, sC, i64_w, i32_w]; rfl, ?_⟩
              refine la1 9 (some 51) (bs 11 1023) HT_ rfl rfl (by kernel_rfl) (by decide) (fun K hK => ?_)
              refine Kd.R_append_step kO (w0 := w) (W := w5) w.heap.size (by rfl) (.tmp 44) (.tmp 50) 22 48 (.agg (Ob.zero.cells (.slice none 0 0) (.slice none 0 0))) 312 rfl Tryd.underlying22 infoO rfl (by decide) (by omega) (.slice (some ad5) (t) c5) (acc.take (t)) o (o.cells u4 u27).toList (fun _ => True) (fun k => wo.heap.size ≤ k) rfl rfl (kO.M_lower HBo.out.size HM5.out) (fun k hk => ⟨trivial, fun e => by have := Kd.R_lt HRo.out k (by first | exact e.symm | (cases A5 <;> exact e.symm)); omega⟩) (fun _ _ => trivial) (Kd.R_take (Kd.R_below HRo.out HB5.out.1) htl) (belT HBo.out HB5.out.1) (by have := HBo.out.size; have := HB5.out.1.size; omega) (by rw [List.length_take]; omega) ?_
              intro v1 w6 hR6 hB6 hg6 hat6
              refine hK.out _ _ ?_
              clear hK K
              refine nm ⟨_, show Act.put _ (some 51) _ = _ by simp only [Act.put, sA, sB, sC, i64_w, i32_w]; rfl, ?_⟩
              refine pu 10 (some 5) (bs 11 2047) HT_ rfl rfl (by kernel_rfl) (fun _ _ _ _ h => h) ⟨_, .inl ⟨by rfl, fun _ => by go_simp; with_reducible rfl⟩, _, by simp only [Act.put, sA, sB, sC, i64_w, i32_w]; rfl, ?_⟩
              refine done_ (done_of HT_.out (by kernel_rfl)) ?_
              obtain ⟨A8, c8, rfl, hrow⟩ := ref_rows (wo := wo) HRo.out hV8.out.1 HB5.out.2 hg6 HBo.out.size
              replace hrow := Lib.hid hrow
              have hty6 := Kd.R_typed hR6
              replace hty6 := Lib.hid hty6
              replace hR6 := Lib.hid hR6
              replace hB6 := Lib.hid hB6
              have hw6 : Hid (w.heap.size ≤ w6.heap.size) := Lib.hid hB6.out.size
              have hl6 : ((acc.take (t) ++ [o]).length + (acc.drop (t)).length) * 312 ≤ 140737488355328 := by rw [List.length_append, List.length_take, List.length_drop, List.length_singleton]; omega
              clear hg6 hat6 HM5 HB5 hV8 QC B1 hi1 HB1 HB4
              go_wp2_with (first
                | (at_builtin; refine Kd.R_append_rows kO (w0 := w) (Rr := fun x cs => kO.M w6 w.heap.size (fun k => ∃ cells, w6.heap[k]? = some (.cells cells 98 (0, 0))) x cs) w.heap.size rfl (.tmp 52) (.tmp 53) 22 48 (.agg (Ob.zero.cells (.slice none 0 0) (.slice none 0 0))) 312 rfl Tryd.underlying22 infoO rfl (by decide) (by omega) v1 (acc.take (t) ++ [o]) (acc.drop (t)) A8 (acc.drop (t)).length c8 (fun _ => True) (fun k => ∃ cells, w6.heap[k]? = some (.cells cells 98 (0, 0))) rfl rfl hR6.out hrow.out (fun _ _ h => h) (fun k hk => ⟨trivial, fun e => lab_ne_obj hk (hty6.out k e.symm)⟩) (fun _ _ => trivial) hB6.out hw6.out hl6 ?_; intro v2 w7 hR7 hB7 hg7 hat7))
              go_roundw
              case rel => exact ⟨i + 1, by omega, by go_num, Lib.hid ⟨by rw [HT.out _ HE.out]; exact hR7, hB7⟩⟩
              case measure => simp [intOf]; omega
            · clear QC QLL
              go_wp2
              go_roundw
              case rel => exact ⟨a, by have := HZ.out.2.2; omega, by rw [hw, HZ.out.2.1], Lib.hid ⟨by rw [HJ.out, if_pos rfl], HB1⟩⟩
              case measure =>
                have h1 := HZ.out
                rw [hw, h1.1, h1.2.1]
                simp [intOf]
                omega
      · clear hb ho hO hol
        go_wp2
        go_roundw
        case rel =>
          refine ⟨i + 1, by omega, by go_num, Lib.hid ⟨?_, hI.out.2⟩⟩
          rw [hsn, if_pos rfl, List.append_nil]
          exact hI.out.1
        case measure => simp [intOf]; omega
    · obtain rfl : n = i := by omega
      have hI1 := hI.out.1
      rw [List.take_of_length_le (Nat.le_of_eq HL.out.1)] at hI1
      have hI2 : Kd.R kO 48 wr w.heap.size (fun _ => True) u5 (sortV (live l)) := hI1
      obtain ⟨A5, c5, rfl⟩ := Kd.R_slice hI2
      have h3 := Kd.R_reads' hI2
      have hsl : (sortV (live l)).length = na := by rw [sortV_length, HL.out.2.1]
      rw [hsl] at h3 ⊢
      have hkc : (kk : Int) ≤ (c5 : Int) := by have := h3.2.1; omega
      have hkc2 : kk ≤ c5 := by omega
      have HX := Lib.hid (And.intro h3.2.2 hsl)
      have HB := Lib.hid hI.out.2
      clear hI hI1 hI2 h3 hsl
      go_wp2
      go_ret
      refine ⟨A5, c5, rfl, hkc2, ?_, HB.out⟩
      have h0 := HX.out.1
      rw [← HX.out.2] at h0
      have h := Kd.C_take (k := kO) h0 (m := kk) (by rw [HX.out.2]; exact hkn)
      have e : victF l m = (sortV (live l)).take kk := by rw [HL.out.2.2]; rfl
      rw [e]
      have el : ((sortV (live l)).take kk).length = kk := by rw [List.length_take, HX.out.2]; omega
      rw [el] at h
      exact h
end Go.Proofs.YtoepbjgldmgaoaaDoor

/- Book.Apart walked: what a Book holds has memory of its own. -/
namespace Go.Proofs.YtoepbjgldmgaoaaDoor
open Go.RowKit Go.Proofs.YtoepbjgldmgaoaaDoorW.PrintWords Go.Proofs.YtoepbjgldmgaoaaDoorW.PrintLast
theorem zero_ApartLabels (A : Option Addr) (c : Nat) (w : World) : Calls Tryd.prog 59 #[.slice A 0 c] w fun e w' => e = .returned (.bool true) ∧ w' = w := by
  go_enter Tryd.func59, Tryd.ntmps59
  go_wp2
  go_rounds 1
  go_rounds 1
  go_rounds 1
  go_ret
  exact ⟨rfl, rfl⟩
theorem row_of {w : World} {base : Nat} {t : TypeId} {v : Value} {V : List Value} (h : (Kd.raw 1).R t w base (fun _ => True) v (V.map fun u => [u])) (hout : ∀ k, inV V k → ∃ cells t', t' ≠ t ∧ w.heap[k]? = some (.cells cells t' (0, 0))) (hne : 0 < V.length) :
    ∃ ad c, v = .slice (some ad) V.length c ∧ RowV w ad V := by
  obtain ⟨A, c, e⟩ := Kd.R_slice h
  rw [List.length_map] at e
  have hr := h
  rw [e] at hr
  have hC := (Kd.R_reads' hr).2.2
  rw [List.length_map] at hC
  obtain ⟨u, hu⟩ : ∃ u, V[0]? = some u := ⟨_, List.getElem?_eq_getElem hne⟩
  obtain ⟨ad, rfl⟩ := rawSome hC hu
  have hb : v.ownBlock = some ad.block := by rw [e]; rfl
  refine ⟨ad, c, e, fun k x hx => rawCell hC hx, Kd.R_lt h _ hb, fun hk => ?_⟩
  obtain ⟨cells, t', hne', hh⟩ := hout _ hk
  obtain ⟨cells2, hh2⟩ := Kd.R_typed h _ hb
  rw [hh] at hh2
  injection hh2 with hh2
  injection hh2 with _ hh2
  exact hne' hh2
theorem OVs.typed {w : World} {V : List Value} {m : Nat → Nat} (h : OVs w V m) {k : Nat} (hk : inV V k) : ∃ cells, w.heap[k]? = some (.cells cells 48 (0, 0)) := by
  obtain ⟨v, hv, hb⟩ := hk
  obtain ⟨j, hj⟩ := List.mem_iff_getElem?.1 hv
  cases h.row j v hj with
  | nil => simp [Value.ownBlock] at hb
  | one b n c cur hn hx hh hs hm =>
    obtain rfl : b = k := by simpa [Value.ownBlock] using hb
    exact ⟨cur, hh⟩
theorem Bk.typed {w : World} {base : Nat} {V : List Value} {L : Nat → List Lab} (h : Bk w base V L) {k : Nat} (hk : inV V k) : ∃ cells, w.heap[k]? = some (.cells cells 98 (0, 0)) := by
  obtain ⟨v, hv, hb⟩ := hk
  obtain ⟨j, hj⟩ := List.mem_iff_getElem?.1 hv
  exact Kd.R_typed (h.row j v hj) k hb
theorem apart_types {w : World} {base : Nat} {V U : List Value} {L : Nat → List Lab} {m : Nat → Nat} (h : Bk w base V L) (g : OVs w U m) {k : Nat} (hk : inV V k) : ¬ inV U k := fun hu => lab_ne_obj (h.typed hk) (g.typed hu)
theorem Bk.only {w w1 : World} {base : Nat} {V U : List Value} {L : Nat → List Lab} {m : Nat → Nat} (h : Bk w base V L) (g : OVs w U m) (hb : OnlyB (inV U) w w1) : Bk w1 base V L :=
  ⟨fun k v hv => Kd.R_move (h.row k v hv) fun b hbk => hb.block b (Kd.R_lt (h.row k v hv) b hbk.symm) (apart_types h g ⟨v, List.mem_of_getElem? hv, hbk.symm⟩)⟩
theorem OnlyB.mono {G H : Nat → Prop} {w w1 : World} (h : OnlyB G w w1) (hg : ∀ k, G k → H k) : OnlyB H w w1 := ⟨h.os, h.tape, h.output, h.size, fun k hk hn => h.block k hk (fun e => hn (hg k e))⟩
theorem OnlyB.at_ {G : Nat → Prop} {w w1 : World} {b : Nat} {o : Obj} (h : OnlyB G w w1) (hb : w.heap[b]? = some o) (hg : ¬ G b) : w1.heap[b]? = some o := (h.block b (blkLt hb) hg).trans hb
theorem book_cell {w : World} {b : Nat} {v5 v10 : Value} (h : w.heap[b]? = some (.cells (bookC v5 v10) 39 (0, 0))) (i : Nat) {u : Value} (hu : (bookC v5 v10)[i]? = some u) : w.cell? ⟨b, i, none⟩ = some u := by rw [cell_of_row w b i _ _ _ h]; exact hu
set_option maxHeartbeats 1600000 in
set_option maxRecDepth 100000 in
theorem bookApart_calls (b base baseL : Nat) (v5 v10 : Value) (VL VO : List Value) (LS : Nat → List Lab) (w : World) (h : BookS w base b VL VO v5 v10) (hO : OVs w VO (fun _ => 0)) (haO : ApartV VO) (hNO : VO.length ≤ 1000000) (hL : Bk w baseL VL LS) (hbL : baseL ≤ w.heap.size) (haL : ApartV VL) (hNL : VL.length ≤ 1000000)
    (hlen : ∀ k, k < VL.length → (LS k).length ≤ 4398046510976) :
    Calls Tryd.prog 17 #[.pointer (some ⟨b, 0, none⟩)] w fun e w' => e = .returned (.bool true) ∧ OnlyB (fun k => inV VO k ∨ inV VL k) w w' := by
  have hbO : ¬ inV VO b := fun hk => by
    obtain ⟨c, hc⟩ := hO.typed hk
    rw [h.heap] at hc
    injection hc with hc
    injection hc with _ hc
    exact absurd hc (by decide)
  have hbV : ¬ inV VL b := fun hk => by
    obtain ⟨c, hc⟩ := hL.typed hk
    rw [h.heap] at hc
    injection hc with hc
    injection hc with _ hc
    exact absurd hc (by decide)
  have H1 : Hid (Calls Tryd.prog 52 #[v10] w fun e w' => e = .returned (.bool true) ∧ OnlyB (inV VO) w w') := Lib.hid (by
    rcases Nat.eq_zero_or_pos VO.length with e | e
    · obtain ⟨A, c, e1⟩ := Kd.R_slice h.objs
      rw [List.length_map, e] at e1
      rw [e1]
      refine (zero_apartObjects A c w).mono ?_
      rintro e w1 ⟨rfl, rfl⟩
      exact ⟨rfl, OnlyB.refl _ _⟩
    · obtain ⟨ad, c, rfl, hrow⟩ := row_of h.objs (fun k hk => by
        obtain ⟨cells, hc⟩ := hO.typed hk
        exact ⟨cells, _, by decide, hc⟩) e
      exact apartObjects_calls ad c VO.length VO w rfl hNO hrow hO haO)
  have H2 : Hid (∀ w1, OnlyB (inV VO) w w1 → Calls Tryd.prog 59 #[v5] w1 fun e w' => e = .returned (.bool true) ∧ OnlyB (inV VL) w1 w') := Lib.hid (fun w1 hw1 => by
    rcases Nat.eq_zero_or_pos VL.length with e | e
    · obtain ⟨A, c, e1⟩ := Kd.R_slice h.labs
      rw [List.length_map, e] at e1
      rw [e1]
      refine (zero_ApartLabels A c w1).mono ?_
      rintro e w1 ⟨rfl, rfl⟩
      exact ⟨rfl, OnlyB.refl _ _⟩
    · obtain ⟨ad, c, rfl, hrow⟩ := row_of h.labs (fun k hk => by
        obtain ⟨cells, hc⟩ := hL.typed hk
        exact ⟨cells, _, by decide, hc⟩) e
      have hb1 := hL.only hO hw1
      have ht : ¬ inV VO ad.block := fun hk => by
        obtain ⟨c1, hc1⟩ := hO.typed hk
        obtain ⟨c2, hc2⟩ := Kd.R_typed h.labs ad.block rfl
        rw [hc1] at hc2
        injection hc2 with hc2
        injection hc2 with _ hc2
        exact absurd hc2 (by decide)
      have hrow1 : RowV w1 ad VL := ⟨fun k v hv => (cell_same (w := w) (w' := w1) (a := ad.add k) (by rw [add_block]; exact hw1.block _ hrow.here ht)).trans (hrow.cells k v hv), Nat.lt_of_lt_of_le hrow.here hw1.size, hrow.out⟩
      exact apartLabels_calls ad c VL.length VL LS w1 baseL rfl hNL (Nat.le_trans hbL hw1.size) hrow1 hb1 haL hlen)
  have c10 := book_cell h.heap 10 (u := v10) rfl
  have hh := Lib.hid h.heap
  have hB := Lib.hid (And.intro hbO hbV)
  clear h hO haO hL haL hbO hbV hlen
  go_enter Tryd.func17, Tryd.ntmps17
  go_wp2_with (first
    | (go_at_call 52; (with_reducible refine H1.out.mono ?_); rintro e w1 ⟨rfl, hO1⟩; have hh1 := hO1.at_ hh.out hB.out.1; have d0 := book_cell hh1 0 (u := .slice none 0 0) rfl; have d1 := book_cell hh1 1 (u := .slice none 0 0) rfl; have d2 := book_cell hh1 2 (u := .slice none 0 0) rfl; have d3 := book_cell hh1 3 (u := .slice none 0 0) rfl; have d4 := book_cell hh1 4 (u := .slice none 0 0) rfl; have d5 := book_cell hh1 5 (u := v5) rfl; have d11 := book_cell hh1 11 (u := .slice none 0 0) rfl; have HO1 := Lib.hid (And.intro hO1 hh1); clear hO1 hh1)
    | (go_at_call 53; (with_reducible refine (nil_apartOps _).mono ?_); rintro e w0 ⟨rfl, rfl⟩)
    | (go_at_call 54; (with_reducible refine (nil_ApartBytes _).mono ?_); rintro e w0 ⟨rfl, rfl⟩)
    | (go_at_call 55; (with_reducible refine (nil_ApartTexts _).mono ?_); rintro e w0 ⟨rfl, rfl⟩)
    | (go_at_call 56; (with_reducible refine (nil_ApartInts _).mono ?_); rintro e w0 ⟨rfl, rfl⟩)
    | (go_at_call 57; (with_reducible refine (nil_ApartNumbers _).mono ?_); rintro e w0 ⟨rfl, rfl⟩)
    | (go_at_call 58; (with_reducible refine (nil_ApartBools _).mono ?_); rintro e w0 ⟨rfl, rfl⟩)
    | (go_at_call 59; (with_reducible refine (H2.out _ HO1.out.1).mono ?_); rintro e w2 ⟨rfl, hO2⟩; have hh2 := hO2.at_ HO1.out.2 hB.out.2; have e6 := book_cell hh2 6 (u := .slice none 0 0) rfl; have e7 := book_cell hh2 7 (u := .slice none 0 0) rfl; have e8 := book_cell hh2 8 (u := .slice none 0 0) rfl; have e9 := book_cell hh2 9 (u := .slice none 0 0) rfl; have HO2 := Lib.hid ((HO1.out.1.mono (H := fun k => inV VO k ∨ inV VL k) (fun _ => Or.inl)).trans (hO2.mono (fun _ => Or.inr))); clear hO2 hh2)
    | (go_at_call 60; (with_reducible refine (nil_ApartKeys _).mono ?_); rintro e w0 ⟨rfl, rfl⟩)
    | (go_at_call 61; (with_reducible refine (nil_ApartConds _).mono ?_); rintro e w0 ⟨rfl, rfl⟩)
    | (go_at_call 62; (with_reducible refine (nil_ApartAmounts _).mono ?_); rintro e w0 ⟨rfl, rfl⟩)
    | (go_at_call 63; (with_reducible refine (nil_ApartProbes _).mono ?_); rintro e w0 ⟨rfl, rfl⟩))
  go_ret
  exact ⟨rfl, HO2.out⟩
end Go.Proofs.YtoepbjgldmgaoaaDoor

/- Objects of the call's own: what they and the lists within them are, for a Book. -/
namespace Go.Proofs.YtoepbjgldmgaoaaDoor
open Go.RowKit Go.Proofs.YtoepbjgldmgaoaaDoorW.PrintWords Go.Proofs.YtoepbjgldmgaoaaDoorW.PrintLast
theorem list_of {β : Type} (P : Nat → β → Prop) : ∀ n : Nat, (∀ i, i < n → ∃ t, P i t) → ∃ T : List β, T.length = n ∧ ∀ i t, T[i]? = some t → P i t
  | 0, _ => ⟨[], rfl, fun i t h => by simp at h⟩
  | n + 1, h => by
    obtain ⟨T, hl, hT⟩ := list_of P n (fun i hi => h i (by omega))
    obtain ⟨t, ht⟩ := h n (Nat.lt_succ_self n)
    refine ⟨T ++ [t], by simp [hl], fun i u hu => ?_⟩
    rcases Nat.lt_or_ge i T.length with h1 | h1
    · rw [List.getElem?_append_left h1] at hu
      exact hT i u hu
    · rw [List.getElem?_append_right h1] at hu
      have e : i - T.length = 0 := by
        have := (List.getElem?_eq_some_iff.1 hu).1
        simp at this
        omega
      rw [e] at hu
      obtain rfl : t = u := by simpa using hu
      obtain rfl : i = n := by omega
      exact ht
structure LabsR (w : World) (base : Nat) (P : List (Value × List Lab)) : Prop where
  row : ∀ p ∈ P, kL.R 98 w base (fun b => some b = p.1.ownBlock) p.1 p.2
  apart : P.Pairwise fun p q => ∀ b, p.1.ownBlock = some b → q.1.ownBlock ≠ some b
theorem LabsR.nil (w : World) (base : Nat) : LabsR w base [] := ⟨fun p hp => (List.not_mem_nil hp).elim, List.Pairwise.nil⟩
theorem LabsR.below {w w1 : World} {base : Nat} {P : List (Value × List Lab)} (h : LabsR w base P) (hb : Below w.heap.size w w1) : LabsR w1 base P := ⟨fun p hp => Kd.R_below (h.row p hp) hb, h.apart⟩
theorem LabsR.lower {w : World} {base base' : Nat} {P : List (Value × List Lab)} (h : LabsR w base P) (hb : base' ≤ base) : LabsR w base' P := ⟨fun p hp => Kd.R_lower (h.row p hp) hb, h.apart⟩
theorem LabsR.append {w : World} {base B : Nat} {P Q : List (Value × List Lab)} (h : LabsR w base P) (g : LabsR w B Q) (hB : base ≤ B) (hlt : ∀ p ∈ P, ∀ b, p.1.ownBlock = some b → b < B) : LabsR w base (P ++ Q) :=
  ⟨fun p hp => (List.mem_append.1 hp).elim (h.row p) (fun hq => Kd.R_lower (g.row p hq) hB), List.pairwise_append.2 ⟨h.apart, g.apart, fun p hp q hq b hb e => by
    have h1 := hlt p hp b hb
    have h2 := Kd.R_base (g.row q hq) b e
    omega⟩⟩
theorem LabsR.lt {w : World} {base : Nat} {P : List (Value × List Lab)} (h : LabsR w base P) : ∀ p ∈ P, ∀ b, p.1.ownBlock = some b → b < w.heap.size := fun p hp b hb => Kd.R_lt (h.row p hp) b hb
theorem LabsR.bk {w : World} {base : Nat} {P : List (Value × List Lab)} (h : LabsR w base P) : Bk w base (P.map (·.1)) (fun k => ((P[k]?).map (·.2)).getD []) := by
  refine ⟨fun k v hv => ?_⟩
  rw [List.getElem?_map] at hv
  obtain ⟨p, hp, rfl⟩ := Option.map_eq_some_iff.1 hv
  simp only [hp, Option.map_some, Option.getD_some]
  exact h.row p (List.mem_of_getElem? hp)
theorem apartV_of {V : List Value} (h : V.Pairwise fun v u => ∀ b, v.ownBlock = some b → u.ownBlock ≠ some b) : ApartV V := by
  intro j k v u hjk hj hk b hb hu
  have h0 := List.pairwise_iff_getElem.1 h
  obtain ⟨hj1, hj2⟩ := List.getElem?_eq_some_iff.1 hj
  obtain ⟨hk1, hk2⟩ := List.getElem?_eq_some_iff.1 hk
  rcases Nat.lt_or_gt_of_ne hjk with h1 | h1
  · exact h0 j k hj1 hk1 h1 b (by rw [hj2]; exact hb) (by rw [hk2]; exact hu)
  · exact h0 k j hk1 hj1 h1 b (by rw [hk2]; exact hu) (by rw [hj2]; exact hb)
theorem LabsR.apartV {w : World} {base : Nat} {P : List (Value × List Lab)} (h : LabsR w base P) : ApartV (P.map (·.1)) := apartV_of (List.pairwise_map.2 h.apart)
def labP (T : List (Ob × Value × Value)) : List (Value × List Lab) := T.flatMap fun t => [(t.2.1, t.1.labels), (t.2.2, t.1.select)]
theorem labP_fst (T : List (Ob × Value × Value)) : (labP T).map (·.1) = labsOf T := by
  unfold labP labsOf
  rw [List.map_flatMap]
  rfl
theorem labP_snd {T : List (Ob × Value × Value)} (hf : ∀ t ∈ T, ObFits t.1) : ∀ p ∈ labP T, p.2.length ≤ 4398046510976 := by
  intro p hp
  obtain ⟨t, ht, hp⟩ := List.mem_flatMap.1 hp
  have := hf t ht
  simp only [List.mem_cons, List.not_mem_nil, or_false] at hp
  rcases hp with rfl | rfl
  · exact this.2.1
  · exact this.2.2
structure Obs (w : World) (base : Nat) (A : Option Addr) (k c : Nat) (xs : List Ob) (T : List (Ob × Value × Value)) : Prop where
  fst : T.map (·.1) = xs
  len : T.length = k
  le : k ≤ c
  tab : TabAt w A T
  labs : LabsR w base (labP T)
  ov : ∀ j c2, k ≤ c2 → c2 ≤ c → OV w j 0 (.slice A k c2)
  blk : ∀ ad, A = some ad → base ≤ ad.block ∧ ad.block < w.heap.size
theorem obs_of_S {w : World} {base : Nat} {ok : Nat → Prop} {A : Option Addr} {k c : Nat} {xs : List Ob} (h : Kd.S kO 48 w base ok (.slice A k c) xs) : ∃ T, Obs w base A k c xs T := by
  have hS := h
  obtain ⟨f, h0, hrow⟩ := h
  obtain ⟨A', c', e, hkc, hr⟩ := OwnRow.reads hrow
  rw [List.length_zipIdx] at e hkc hr
  injection e with e1 e2 e3
  subst e1
  subst e2
  subst e3
  obtain ⟨T, hTl, hT⟩ := list_of (fun i (t : Ob × Value × Value) => xs[i]? = some t.1 ∧ (∃ ad, A = some ad ∧ ∀ (j : Nat) (u : Value), (t.1.cells t.2.1 t.2.2)[j]? = some u → w.cell? (ad.add (i * 32 + j)) = some u) ∧
      kL.R 98 w base (fun b => f b = i ∧ some b ≠ t.2.2.ownBlock) t.2.1 t.1.labels ∧ kL.R 98 w base (fun b => f b = i ∧ some b ≠ t.2.1.ownBlock) t.2.2 t.1.select) xs.length (fun i hi => by
    obtain ⟨o, ho⟩ : ∃ o, xs[i]? = some o := ⟨_, List.getElem?_eq_getElem hi⟩
    obtain ⟨ad, e, hc⟩ := hr.2.2 (by omega)
    obtain ⟨cs, hs, ⟨v4, v27, rfl, h4, h27⟩, hcell⟩ := hc i (o, i) (Kd.zip_at ho)
    exact ⟨(o, v4, v27), ho, ⟨ad, e, fun j u hu => hcell j u (by simpa using hu)⟩, Kd.R_mono h4 (fun b hb => ⟨hb.1.2, hb.2⟩), Kd.R_mono h27 (fun b hb => ⟨hb.1.2, hb.2⟩)⟩)
  have hrows : ∀ t ∈ T, ∃ i, kL.R 98 w base (fun b => f b = i ∧ some b ≠ t.2.2.ownBlock) t.2.1 t.1.labels ∧ kL.R 98 w base (fun b => f b = i ∧ some b ≠ t.2.1.ownBlock) t.2.2 t.1.select := fun t ht => by
    obtain ⟨i, hi⟩ := List.mem_iff_getElem?.1 ht
    exact ⟨i, (hT i t hi).2.2⟩
  refine ⟨T, ?_, hTl, hkc, ⟨fun i o u4 u27 hi => (hT i _ hi).2.1, fun t ht => ?_⟩, ⟨fun p hp => ?_, ?_⟩, ?_, fun ad e => ?_⟩
  · apply List.ext_getElem?
    intro i
    rw [List.getElem?_map]
    rcases Nat.lt_or_ge i T.length with h1 | h1
    · obtain ⟨t, ht⟩ : ∃ t, T[i]? = some t := ⟨_, List.getElem?_eq_getElem h1⟩
      rw [ht, (hT i t ht).1]
      rfl
    · rw [List.getElem?_eq_none h1, List.getElem?_eq_none (by omega)]
      rfl
  · obtain ⟨i, h4, h27⟩ := hrows t ht
    obtain ⟨A4, c4, e4⟩ := Kd.R_slice h4
    obtain ⟨A27, c27, e27⟩ := Kd.R_slice h27
    rw [e4, e27]
    exact ⟨⟨rfl, rfl⟩, ⟨rfl, rfl⟩⟩
  · obtain ⟨t, ht, hp⟩ := List.mem_flatMap.1 hp
    obtain ⟨i, h4, h27⟩ := hrows t ht
    simp only [List.mem_cons, List.not_mem_nil, or_false] at hp
    rcases hp with rfl | rfl
    · exact Kd.R_tight rfl h4
    · exact Kd.R_tight rfl h27
  · refine List.pairwise_flatMap.2 ⟨fun t ht => ?_, ?_⟩
    · obtain ⟨i, h4, h27⟩ := hrows t ht
      refine List.pairwise_pair.2 (fun b hb e => ?_)
      exact (h4.1 b hb).2 e.symm
    · refine List.pairwise_iff_getElem.2 (fun i j hi hj hij p hp q hq b hb e => ?_)
      obtain ⟨_, _, h4, h27⟩ := hT i _ (List.getElem?_eq_getElem hi)
      obtain ⟨_, _, g4, g27⟩ := hT j _ (List.getElem?_eq_getElem hj)
      have e1 : f b = i := by
        simp only [List.mem_cons, List.not_mem_nil, or_false] at hp
        rcases hp with rfl | rfl
        · exact (h4.1 b hb).1
        · exact (h27.1 b hb).1
      have e2 : f b = j := by
        simp only [List.mem_cons, List.not_mem_nil, or_false] at hq
        rcases hq with rfl | rfl
        · exact (g4.1 b e).1
        · exact (g27.1 b e).1
      omega
  · intro j c2 hc1 hc2
    obtain ⟨inner, hown, _⟩ := hrow
    rcases hown.2 with ⟨he, hn⟩ | ⟨g, cap, cur, he, hbg, hh, hnc, hcm, hcs, htake⟩
    · injection he with h1 h2 h3
      subst h1
      obtain rfl : c2 = 0 := by omega
      rw [h2]
      exact OV.nil
    · injection he with h1 h2 h3
      subst h1
      rw [h2]
      refine OV.one g _ c2 cur (by omega) (by simp only [maxLen] at hcm; omega) hh (by have hsz : kO.sz = 32 := rfl; have hsz2 : (Kd.tag f kO).sz = 32 := rfl; rw [hsz2] at hcs; omega) (fun i hi => absurd hi (Nat.not_lt_zero i))
  · subst e
    exact ⟨Kd.S_base hS _ rfl, Kd.S_lt hS _ rfl⟩
theorem Obs.below {w w1 : World} {base : Nat} {A : Option Addr} {k c : Nat} {xs : List Ob} {T : List (Ob × Value × Value)} (h : Obs w base A k c xs T) (hb : Below w.heap.size w w1) : Obs w1 base A k c xs T :=
  ⟨h.fst, h.len, h.le, h.tab.below (fun ad e => (h.blk ad e).2) hb, h.labs.below hb, fun j c2 h1 h2 => (h.ov j c2 h1 h2).below hb, fun ad e => ⟨(h.blk ad e).1, Nat.lt_of_lt_of_le (h.blk ad e).2 hb.size⟩⟩
theorem Obs.fits {w : World} {base : Nat} {A : Option Addr} {k c : Nat} {xs : List Ob} {T : List (Ob × Value × Value)} (h : Obs w base A k c xs T) (hf : ∀ o ∈ xs, ObFits o) : ∀ t ∈ T, ObFits t.1 := fun t ht => hf t.1 (by rw [← h.fst]; exact List.mem_map_of_mem ht)
theorem Obs.own {w : World} {base : Nat} {A : Option Addr} {k c c2 : Nat} {xs : List Ob} {T : List (Ob × Value × Value)} (h : Obs w base A k c xs T) : ∀ b, (Value.slice A k c2).ownBlock = some b → base ≤ b ∧ b < w.heap.size := fun b hb => by
  cases A with
  | none => simp [Value.ownBlock] at hb
  | some ad =>
    obtain rfl : ad.block = b := by simpa [Value.ownBlock] using hb
    exact h.blk ad rfl
theorem book_new {w : World} {b : Nat} (h : w.heap[b]? = some (.cells (bookC nilV nilV) 39 (0, 0))) (base : Nat) (hb : base ≤ b) : BookS w base b [] [] nilV nilV := ⟨h, hb, Kd.R_nil _ _ _ _ _, Kd.R_nil _ _ _ _ _⟩
end Go.Proofs.YtoepbjgldmgaoaaDoor

/- Two lists of objects that were handed out, in a Book: Apart tells true, and writes over nothing else. -/
namespace Go.Proofs.YtoepbjgldmgaoaaDoor
open Go.RowKit Go.Proofs.YtoepbjgldmgaoaaDoorW.PrintWords Go.Proofs.YtoepbjgldmgaoaaDoorW.PrintLast
structure ObsLt (B : Nat) (A : Option Addr) (T : List (Ob × Value × Value)) : Prop where
  blk : ∀ ad, A = some ad → ad.block < B
  labs : ∀ p ∈ labP T, ∀ b, p.1.ownBlock = some b → b < B
theorem Obs.lt {w : World} {base : Nat} {A : Option Addr} {k c : Nat} {xs : List Ob} {T : List (Ob × Value × Value)} (h : Obs w base A k c xs T) : ObsLt w.heap.size A T := ⟨fun ad e => (h.blk ad e).2, h.labs.lt⟩
theorem ObsLt.mono {B B' : Nat} {A : Option Addr} {T : List (Ob × Value × Value)} (h : ObsLt B A T) (hb : B ≤ B') : ObsLt B' A T := ⟨fun ad e => Nat.lt_of_lt_of_le (h.blk ad e) hb, fun p hp b e => Nat.lt_of_lt_of_le (h.labs p hp b e) hb⟩
theorem own_of {A : Option Addr} {k c b : Nat} (h : (Value.slice A k c).ownBlock = some b) : ∃ ad, A = some ad ∧ ad.block = b := by
  cases A with
  | none => simp [Value.ownBlock] at h
  | some ad => exact ⟨ad, rfl, by simpa [Value.ownBlock] using h⟩
theorem apart_two {w : World} {B1 B2 base b k k' c2 c3 : Nat} {A2 A3 : Option Addr} {T2 T3 : List (Ob × Value × Value)} {xs ys : List Ob} {v5 v10 : Value} (h : BookS w base b ([] ++ labsOf T2 ++ labsOf T3) ([] ++ [.slice A2 k k] ++ [.slice A3 k' k']) v5 v10)
    (h2 : Obs w B1 A2 k c2 xs T2) (h3 : Obs w B2 A3 k' c3 ys T3) (hlt : ObsLt B2 A2 T2) (hB : B1 ≤ B2) (hk : k ≤ 200000) (hk' : k' ≤ 200000) (hf2 : ∀ o ∈ xs, ObFits o) (hf3 : ∀ o ∈ ys, ObFits o) (hsz : B1 ≤ w.heap.size) :
    Calls Tryd.prog 17 #[.pointer (some ⟨b, 0, none⟩)] w fun e w' => e = .returned (.bool true) ∧ OnlyB (fun k => B1 ≤ k) w w' := by
  have hL : LabsR w B1 (labP T2 ++ labP T3) := h2.labs.append h3.labs hB hlt.labs
  have hmap : (labP T2 ++ labP T3).map (·.1) = [] ++ labsOf T2 ++ labsOf T3 := by rw [List.map_append, labP_fst, labP_fst]; rfl
  have hbk := hL.bk
  have hav := hL.apartV
  rw [hmap] at hbk hav
  have hO : OVs w ([] ++ [.slice A2 k k] ++ [.slice A3 k' k']) (fun _ => 0) := ⟨fun j v hv => by
    match j, hv with
    | 0, hv =>
      obtain rfl : Value.slice A2 k k = v := by simpa using hv
      exact h2.ov 0 k (Nat.le_refl _) h2.le
    | 1, hv =>
      obtain rfl : Value.slice A3 k' k' = v := by simpa using hv
      exact h3.ov 1 k' (Nat.le_refl _) h3.le
    | j + 2, hv => simp at hv⟩
  have haO : ApartV ([] ++ [.slice A2 k k] ++ [.slice A3 k' k']) := apartV_of (List.pairwise_pair.2 (fun g hg e => by
    obtain ⟨ad, e1, e2⟩ := own_of hg
    have h4 := hlt.blk ad e1
    have h5 := (h3.own g e).1
    omega))
  have hlen : ∀ j, j < ([] ++ labsOf T2 ++ labsOf T3).length → ((((labP T2 ++ labP T3)[j]?).map (·.2)).getD []).length ≤ 4398046510976 := fun j _ => by
    cases hp : (labP T2 ++ labP T3)[j]? with
    | none => simp
    | some p =>
      rcases List.mem_append.1 (List.mem_of_getElem? hp) with hm | hm
      · exact labP_snd (h2.fits hf2) p hm
      · exact labP_snd (h3.fits hf3) p hm
  have hNL : ([] ++ labsOf T2 ++ labsOf T3).length ≤ 1000000 := by
    rw [List.nil_append, List.length_append, labsOf_len, labsOf_len, h2.len, h3.len]
    omega
  refine (bookApart_calls b base B1 v5 v10 _ _ _ w h hO haO (by simp) hbk hsz hav hNL hlen).mono ?_
  rintro e w1 ⟨rfl, hb⟩
  refine ⟨rfl, hb.mono fun g hg => ?_⟩
  rcases hg with ⟨v, hv, e⟩ | ⟨v, hv, e⟩
  · simp only [List.nil_append, List.mem_append, List.mem_singleton] at hv
    rcases hv with rfl | rfl
    · exact (h2.own g e).1
    · exact Nat.le_trans hB (h3.own g e).1
  · obtain ⟨j, hj⟩ := List.mem_iff_getElem?.1 hv
    exact Kd.R_base (hbk.row j v hj) g e
theorem book_first {w : World} {base : Nat} {B1 k c2 : Nat} {A2 : Option Addr} {T2 : List (Ob × Value × Value)} {xs : List Ob} (hbk : w.heap[base]? = some (.cells (bookC nilV nilV) 39 (0, 0))) (h2 : Obs w B1 A2 k c2 xs T2) (hlt : ObsLt base A2 T2) (hk : k ≤ 200000) :
    Calls Tryd.prog 16 #[.pointer (some ⟨base, 0, none⟩), .slice A2 k k] w fun e w' => e = .returned undef ∧ (∃ v5' v10', BookS w' base base ([] ++ labsOf T2) ([] ++ [.slice A2 k k]) v5' v10') ∧ Below base w w' :=
  bookObjects_calls base base A2 k k T2 nilV nilV w [] [] h2.len h2.tab hlt.blk (book_new hbk base (Nat.le_refl _)) (by simp; omega) (by simp) (Nat.le_of_lt (blkLt hbk))
theorem book_more {w : World} {base b : Nat} {B1 k c2 : Nat} {A2 : Option Addr} {T2 : List (Ob × Value × Value)} {xs : List Ob} {VL VO : List Value} {v5 v10 : Value} (hb : BookS w base b VL VO v5 v10) (h2 : Obs w B1 A2 k c2 xs T2) (hlt : ObsLt base A2 T2) (hk : k ≤ 200000) (hVL : VL.length ≤ 8000000) (hVO : VO.length ≤ 1000) :
    Calls Tryd.prog 16 #[.pointer (some ⟨b, 0, none⟩), .slice A2 k k] w fun e w' => e = .returned undef ∧ (∃ v5' v10', BookS w' base b (VL ++ labsOf T2) (VO ++ [.slice A2 k k]) v5' v10') ∧ Below base w w' :=
  bookObjects_calls b base A2 k k T2 v5 v10 w VL VO h2.len h2.tab hlt.blk hb (by omega) (by omega) (Nat.le_trans hb.old (Nat.le_of_lt (blkLt hb.heap)))
structure TwoF (w7 : World) (base B1 B2 : Nat) (A2 A3 : Option Addr) (k c2 c3 : Nat) (xs ys : List Ob) (T2 T3 : List (Ob × Value × Value)) : Prop where
  bk : w7.heap[base]? = some (.cells (bookC nilV nilV) 39 (0, 0))
  one : Obs w7 B1 A2 k c2 xs T2
  two : Obs w7 B2 A3 k c3 ys T3
  lt1 : ObsLt base A2 T2
  lt2 : ObsLt base A3 T3
  lt : ObsLt B2 A2 T2
  le : B1 ≤ B2
  le2 : B2 ≤ base
theorem two_facts {w1 w2 w3 w6 w7 : World} {A2 A3 : Option Addr} {k c2 c3 : Nat} {xs ys : List Ob} {T2 T3 : List (Ob × Value × Value)} (h2 : Obs w2 w1.heap.size A2 k c2 xs T2) (h3 : Obs w3 w2.heap.size A3 k c3 ys T3) (hb2 : Below w1.heap.size w1 w2) (hb3 : Below w2.heap.size w2 w3) (hb6 : Below w3.heap.size w3 w6)
    (hw7 : w7 = w6.alloc (.cells (bookC nilV nilV) 39)) : TwoF w7 w6.heap.size w1.heap.size w2.heap.size A2 A3 k c2 c3 xs ys T2 T3 := by
  have hb7 : Below w6.heap.size w6 w7 := by rw [hw7]; exact below_alloc (Below.refl _ _) _
  have h37 : Below w3.heap.size w3 w7 := belT hb6 hb7
  exact ⟨by rw [hw7]; exact heap_alloc_new _ _, h2.below (belT hb3 h37), h3.below h37, h2.lt.mono (Nat.le_trans hb3.size hb6.size), h3.lt.mono hb6.size, h2.lt, hb2.size, Nat.le_trans hb3.size hb6.size⟩
theorem Obs.keep {w w1 : World} {base B : Nat} {A : Option Addr} {k c : Nat} {xs : List Ob} {T : List (Ob × Value × Value)} (h : Obs w base A k c xs T) (hlt : ObsLt B A T) (hb : Below B w w1) : Obs w1 base A k c xs T :=
  ⟨h.fst, h.len, h.le, h.tab.below hlt.blk hb, ⟨fun p hp => Kd.R_move (h.labs.row p hp) (fun b e => hb.block b (hlt.labs p hp b e.symm)), h.labs.apart⟩, fun j c2 h1 h2 => (h.ov j c2 h1 h2).keep (fun b e _ => by
    obtain ⟨ad, e1, e2⟩ := own_of e
    exact hb.block b (e2 ▸ hlt.blk ad e1)), fun ad e => ⟨(h.blk ad e).1, Nat.lt_of_lt_of_le (h.blk ad e).2 hb.size⟩⟩
theorem two_len {w : World} {B k c : Nat} {A : Option Addr} {xs : List Ob} {T : List (Ob × Value × Value)} (h : Obs w B A k c xs T) (hk : k ≤ 200000) : ([] ++ labsOf T).length ≤ 8000000 := by
  rw [List.nil_append, labsOf_len, h.len]
  omega
theorem chain_size {w7 w8 w9 : World} {base B1 B2 : Nat} {o : Obj} (h1 : B1 ≤ B2) (h2 : B2 ≤ base) (h8 : Below base w7 w8) (h9 : Below base w8 w9) (h7 : w7.heap[base]? = some o) : B1 ≤ w9.heap.size := by
  have a := blkLt h7
  have b := h8.size
  have c := h9.size
  omega
theorem chain_below {w1 w2 w3 w6 w7 w8 w9 w10 : World} {A2 A3 : Option Addr} {k c2 c3 : Nat} {xs ys : List Ob} {T2 T3 : List (Ob × Value × Value)} (hb2 : Below w1.heap.size w1 w2) (hb3 : Below w2.heap.size w2 w3) (hb6 : Below w3.heap.size w3 w6) (h7 : TwoF w7 w6.heap.size w1.heap.size w2.heap.size A2 A3 k c2 c3 xs ys T2 T3)
    (hb7 : Below w6.heap.size w6 w7) (h8 : Below w6.heap.size w7 w8) (h9 : Below w6.heap.size w8 w9) (h10 : OnlyB (fun k => w1.heap.size ≤ k) w9 w10) : Below w1.heap.size w1 w10 := by
  have h16 := belT (belT hb2 hb3) hb6
  have h19 := h16.trans (((hb7.trans h8).trans h9).mono h16.size)
  exact OnlyB.below h19 h10 (fun k hk => hk) h19.size
theorem same_n {A B : Option Addr} {l : List Ob} {k c d : Nat} {w : World} (hr : kO.C w A k l) (hs : kO.C w B k l) (hl : l.length = k) (hn : k ≤ 1000000) :
    Calls Tryd.prog 15 #[.slice A k c, .slice B k d] w fun e w' => e = .returned (.bool true) ∧ Below w.heap.size w w' := by
  subst hl
  refine (sameObjects_calls A B l l c d w hr hs hn).mono ?_
  rintro e w1 ⟨rfl, hb⟩
  exact ⟨by simp, hb⟩
end Go.Proofs.YtoepbjgldmgaoaaDoor

/- Objects that were lent: are they as they were? -/
namespace Go.Proofs.YtoepbjgldmgaoaaDoor
open Go.RowKit Go.Proofs.YtoepbjgldmgaoaaDoorW.PrintWords Go.Proofs.YtoepbjgldmgaoaaDoorW.PrintLast
set_option maxRecDepth 100000 in
set_option maxHeartbeats 1000000 in
theorem keptObject_calls (o : Ob) (v4 v27 u4 u27 : Value) (w : World) (l4 : LentK w o.labels v4) (l27 : LentK w o.select v27) (m4 : LabK w o.labels u4) (m27 : LabK w o.select u27) (hf : ObFits o) :
    Calls Tryd.prog 64 #[.agg (o.cells v4 v27), .agg (o.cells u4 u27)] w fun e w' => e = .returned (.bool true) ∧ Below w.heap.size w w' := by
  obtain ⟨cs, hcs⟩ : ∃ cs, cs = o.cells v4 v27 := ⟨_, rfl⟩
  obtain ⟨ds, hds⟩ : ∃ ds, ds = o.cells u4 u27 := ⟨_, rfl⟩
  have QB := Lib.hid (fun (W : World) (hW : Below w.heap.size w W) => sameObject_calls o o v4 v27 u4 u27 W (l4.below hW).lab (l27.below hW).lab (m4.below hW) (m27.below hW))
  rw [(sameB_iff o o).2 rfl] at QB
  rw [← hcs, ← hds] at QB ⊢
  have QL4 := Lib.hid (fun (W : World) (hW : Below w.heap.size w W) => keptLabels_calls (l4.below hW) (m4.below hW) hf.2.1)
  have QL27 := Lib.hid (fun (W : World) (hW : Below w.heap.size w W) => keptLabels_calls (l27.below hW) (m27.below hW) hf.2.2)
  have Hcs := Lib.hid hcs
  have Hds := Lib.hid hds
  have hi1 : Hid ((Tryd.prog.info? 48).map (·.size) = some cs.size) := Lib.hid (by rw [hcs, Ob.cells_size]; kernel_rfl)
  have hi2 : Hid ((Tryd.prog.info? 48).map (·.size) = some ds.size) := Lib.hid (by rw [hds, Ob.cells_size]; kernel_rfl)
  clear hcs hds l4 l27 m4 m27 hf
  have HM := Lib.hid (Eq.refl 0)
  go_enter Tryd.func64, Tryd.ntmps64
  go_wp2_with (first
    | ((with_reducible refine gate_ (.load 48 (.tmp 2)) rfl ?_); clear HM; (have HW : Below w.heap.size w ((w.alloc (Obj.cells cs 48)).alloc (Obj.cells ds 48)) := (Go.Joins.below_alloc2 w _ _)); (have B1 : ((w.alloc (Obj.cells cs 48)).alloc (Obj.cells ds 48)).heap[w.heap.size]? = some (.cells cs 48 (0, 0)) := (heap_alloc_old _ _ (by simp)).trans (heap_alloc_new w _)); (have B2 : ((w.alloc (Obj.cells cs 48)).alloc (Obj.cells ds 48)).heap[w.heap.size + 1]? = some (.cells ds 48 (0, 0)) := heap_alloc2_new w _ _); (generalize ((w.alloc (Obj.cells cs 48)).alloc (Obj.cells ds 48)) = W0 at HW B1 B2 ⊢); obtain ⟨ga, hga⟩ : ∃ x, x = w.heap.size := ⟨_, rfl⟩; obtain ⟨gb, hgb⟩ : ∃ x, x = w.heap.size + 1 := ⟨_, rfl⟩; rw [← hgb] at B2 ⊢; rw [← hga] at B1 ⊢; clear hga hgb)
    | ((with_reducible refine wpList_load_blk_w 48 (.tmp 2) rfl ga 48 ?l0 ?l1 cs _ ?l2 Tryd.underlying48 ?l3 ?l4 ?_); (case l0 => rfl); (case l1 => rfl); (case l2 => exact B1); (case l3 => rfl); (case l4 => exact hi1.out))
    | ((with_reducible refine wpList_load_blk_w 48 (.tmp 3) rfl gb 48 ?l0 ?l1 ds _ ?l2 Tryd.underlying48 ?l3 ?l4 ?_); (case l0 => rfl); (case l1 => rfl); (case l2 => exact B2); (case l3 => rfl); (case l4 => exact hi2.out))
    | ((with_reducible refine gate_ (.load 43 _) rfl ?_); first | refine wpList_load1_w 43 _ rfl ⟨ga, 4, none⟩ rfl rfl v4 _ (((cell_of_row _ _ 4 _ _ _ B1).trans (by rw [Hcs.out]; rfl))) Tryd.underlying43 rfl ?_ | refine wpList_load1_w 43 _ rfl ⟨ga, 27, none⟩ rfl rfl v27 _ (((cell_of_row _ _ 27 _ _ _ B1).trans (by rw [Hcs.out]; rfl))) Tryd.underlying43 rfl ?_ | refine wpList_load1_w 43 _ rfl ⟨gb, 4, none⟩ rfl rfl u4 _ (((cell_of_row _ _ 4 _ _ _ B2).trans (by rw [Hds.out]; rfl))) Tryd.underlying43 rfl ?_ | refine wpList_load1_w 43 _ rfl ⟨gb, 27, none⟩ rfl rfl u27 _ (((cell_of_row _ _ 27 _ _ _ B2).trans (by rw [Hds.out]; rfl))) Tryd.underlying43 rfl ?_)
    | (go_at_call 32; (with_reducible refine (QB.out _ HW).mono ?_); rintro e w1 ⟨rfl, hb⟩; replace B1 := blkB hb B1; replace B2 := blkB hb B2; replace HW := belT HW hb; clear hb)
    | (go_at_call 98; (with_reducible first | refine (QL4.out _ HW).mono ?_ | refine (QL27.out _ HW).mono ?_); rintro e w1 ⟨rfl, hb⟩; replace B1 := blkB hb B1; replace B2 := blkB hb B2; replace HW := belT HW hb; clear hb))
  go_ret
  exact ⟨rfl, HW⟩
structure LentAt (w : World) (ad : Addr) (k : Nat) (o : Ob) (v4 v27 : Value) : Prop where
  l4 : LentK w o.labels v4
  l27 : LentK w o.select v27
  cells : ∀ (j : Nat) (u : Value), (o.cells v4 v27)[j]? = some u → w.cell? ((ad.add (k * 32)).add j) = some u
theorem lentAt {w : World} {A : Option Addr} {n : Nat} {l : List Ob} (h : kLent.C w A n l) (k : Nat) (o : Ob) (hk : l[k]? = some o) : ∃ ad v4 v27, A = some ad ∧ LentAt w ad k o v4 v27 := by
  have hl := (List.getElem?_eq_some_iff.1 hk).1
  obtain ⟨ad, e, hc⟩ := h.2.2 (by have := h.1; omega)
  obtain ⟨c, hs, ⟨v4, v27, rfl, h4, h27⟩, hcell⟩ := hc k o hk
  exact ⟨ad, v4, v27, e, h4, h27, fun j u hu => by rw [add_add]; exact hcell j u (by simpa using hu)⟩
def rg18_6_T : Bool × List (List Nat × List Nat) := (true, [([], []), ([], []), ([0, 1], [0, 1]), ([2], [2]), ([], []), ([], []), ([4, 5], [4, 5]), ([6], [6]), ([3, 7], [3, 7]), ([8], [8])])
def rg18_6_B : List Nat := [0, 0, 3, 7, 0, 0, 48, 112, 255, 511]
theorem rg18_6_tab : rtab .any (opsOf Tryd.f18 6) = rg18_6_T := by kernel_rfl
theorem rg18_6_bits : waitsOk rg18_6_T.2 rg18_6_B = true := by kernel_rfl
set_option maxHeartbeats 1600000 in
set_option maxRecDepth 100000 in
theorem keptObjects_calls (A B : Option Addr) (l : List Ob) (c d n : Nat) (w : World) (hr : kLent.C w A n l) (hs : kO.C w B n l) (hl : l.length = n) (hn : n ≤ 1000000) (hf : ∀ o ∈ l, ObFits o) :
    Calls Tryd.prog 18 #[.slice A n c, .slice B n d] w fun e w' => e = .returned (.bool true) ∧ Below w.heap.size w w' := by
  have HR := Lib.hid hr
  have HS := Lib.hid hs
  have HL := Lib.hid hl
  have HF := Lib.hid hf
  clear hr hs hl hf
  go_enter Tryd.func18, Tryd.ntmps18
  go_wp2
  go_loopw [5] (fun v5 wr => ∃ k : Nat, k ≤ n ∧ v5 = .int .i64 k ∧ Hid (Below w.heap.size w wr)) (fun v5 _ => n - (intOf v5).toNat)
  case atStart => exact ⟨0, Nat.zero_le _, rfl, Lib.hid (Below.refl _ _)⟩
  case round =>
    obtain ⟨k, hk, rfl, hI⟩ := hrel
    by_cases hlt : k < n
    · obtain ⟨o, ho⟩ : ∃ o, l[k]? = some o := ⟨_, List.getElem?_eq_getElem (by have := HL.out; omega)⟩
      obtain ⟨ad, v4, v27, rfl, hO⟩ := lentAt (Kd.C_below HR.out hI.out) k o ho
      obtain ⟨bd, u4, u27, rfl, hP⟩ := objAt (Kd.C_below HS.out hI.out) k o ho
      obtain ⟨cs, hcs⟩ : ∃ cs, cs = o.cells v4 v27 := ⟨_, rfl⟩
      obtain ⟨ds, hds⟩ : ∃ ds, ds = o.cells u4 u27 := ⟨_, rfl⟩
      have hi1 : Hid ((Tryd.prog.info? 48).map (·.size) = some cs.size) := Lib.hid (by rw [hcs, Ob.cells_size]; kernel_rfl)
      have hi2 : Hid ((Tryd.prog.info? 48).map (·.size) = some ds.size) := Lib.hid (by rw [hds, Ob.cells_size]; kernel_rfl)
      have B1 := hO.cells
      have B2 := hP.cells
      rw [← hcs] at B1
      rw [← hds] at B2
      have QS := Lib.hid (fun (W : World) (hW : Below wr.heap.size wr W) => keptObject_calls o v4 v27 u4 u27 W (hO.l4.below hW) (hO.l27.below hW) (hP.l4.below hW) (hP.l27.below hW) (HF.out o (List.mem_of_getElem? ho)))
      rw [← hcs, ← hds] at QS
      replace B1 := Lib.hid (fun (W : World) (hW : Below wr.heap.size wr W) j u hu => cell_below hW (B1 j u hu))
      replace B2 := Lib.hid (fun (W : World) (hW : Below wr.heap.size wr W) j u hu => cell_below hW (B2 j u hu))
      clear ho hcs hds hO hP
      have HB : Below wr.heap.size wr wr := Below.refl _ _
      replace HB := below_drew HB
      have hlk : (k : Int) < (n : Int) := by omega
      go_upto_region 6 with (fail)
      refine start_ (n := 10) (S := fun w' => Below wr.heap.size wr w') (ds := []) (bs 10 0) (by kernel_rfl) rfl (by kernel_rfl) HB (fun hHeld => ?_)
      refine with_tabW rg18_6_tab rg18_6_bits (fun HT_ HW_ => ?_)
      refine pu 0 (some 17) (bs 10 1) HT_ rfl rfl (by kernel_rfl) (fun _ _ _ _ h => h) ⟨_, .inl ⟨by rfl, fun _ => by go_simp; with_reducible rfl⟩, _, by simp only [Act.put, sA, sB, sC, i64_w, i32_w]; rfl, ?_⟩
      refine pu 1 (some 18) (bs 10 3) HT_ rfl rfl (by kernel_rfl) (fun _ _ _ _ h => h) ⟨_, .inl ⟨by rfl, fun _ => by go_simp; with_reducible rfl⟩, _, by simp only [Act.put, sA, sB, sC, i64_w, i32_w]; rfl, ?_⟩
      refine pu 2 (some 19) (bs 10 7) HT_ rfl rfl (by kernel_rfl) (fun _ _ _ _ h => h) ⟨_, .inl ⟨by rfl, fun _ => by go_simp; with_reducible rfl⟩, _, by simp only [Act.put, sA, sB, sC, i64_w, i32_w]; rfl, ?_⟩
      refine pu 4 (some 21) (bs 10 23) HT_ rfl rfl (by kernel_rfl) (fun _ _ _ _ h => h) ⟨_, .inl ⟨by rfl, fun _ => by go_simp; with_reducible rfl⟩, _, by simp only [Act.put, sA, sB, sC, i64_w, i32_w]; rfl, ?_⟩
      refine pu 5 (some 22) (bs 10 55) HT_ rfl rfl (by kernel_rfl) (fun _ _ _ _ h => h) ⟨_, .inl ⟨by rfl, fun _ => by go_simp; with_reducible rfl⟩, _, by simp only [Act.put, sA, sB, sC, i64_w, i32_w]; rfl, ?_⟩
      refine pu 6 (some 23) (bs 10 119) HT_ rfl rfl (by kernel_rfl) (fun _ _ _ _ h => h) ⟨_, .inl ⟨by rfl, fun _ => by go_simp; with_reducible rfl⟩, _, by simp only [Act.put, sA, sB, sC, i64_w, i32_w]; rfl, ?_⟩
      refine tk 3 (some 20) (bs 10 127) HT_ HW_ rfl rfl (by kernel_rfl) (fun _ _ _ _ h => h) hHeld ⟨_, .inl ⟨by rfl, by rintro w' s0; refine load_any_ (x := .tmp 19) (p := ad.add (k * 32)) ?_ ?_ (B1.out _ s0) Tryd.underlying48 rfl hi1.out <;> rfl⟩, _, by simp only [Act.put, sA, sB, sC, i64_w, i32_w]; rfl, ?_⟩
      refine tk 7 (some 24) (bs 10 255) HT_ HW_ rfl rfl (by kernel_rfl) (fun _ _ _ _ h => h) hHeld ⟨_, .inl ⟨by rfl, by rintro w' s0; refine load_any_ (x := .tmp 23) (p := bd.add (k * 32)) ?_ ?_ (B2.out _ s0) Tryd.underlying48 rfl hi2.out <;> rfl⟩, _, by simp only [Act.put, sA, sB, sC, i64_w, i32_w]; rfl, ?_⟩
      refine on1 8 (some 25) (bs 10 511) HT_ rfl rfl (by kernel_rfl) (by decide) (fun K hK => ?_)
      refine goes_ Tryd.func64 (by kernel_rfl) rfl #[.agg cs, .agg ds] (by rfl) rfl rfl (by (try simp only [List.map_toArray, List.map_cons, List.map_nil]); first | done | rfl) ?_
      with_reducible refine (QS.out _ HB).mono ?_
      rintro e w1 ⟨rfl, hb⟩
      replace HB := belT HB hb
      clear hb
      refine ⟨_, rfl, ?_⟩
      refine hK.out _ _ HB (fun hHeld => ?_)
      clear hK K
      refine nm ⟨_, show Act.put _ (some 25) _ = _ by simp only [Act.put, sA, sB, sC, i64_w, i32_w]; rfl, ?_⟩
      refine pu 9 (some 26) (bs 10 1023) HT_ rfl rfl (by kernel_rfl) (fun _ _ _ _ h => h) ⟨_, .inl ⟨by rfl, fun _ => by go_simp; with_reducible rfl⟩, _, by simp only [Act.put, sA, sB, sC, i64_w, i32_w]; rfl, ?_⟩
      refine done_ (done_of HT_.out (by kernel_rfl)) ?_
      go_wp2
      go_roundw
      case rel => exact ⟨k + 1, by omega, by go_num, Lib.hid (belT hI.out HB)⟩
      case measure => simp [intOf]; omega
    · obtain rfl : n = k := by omega
      go_wp2
      go_ret
      exact ⟨rfl, hI.out⟩
end Go.Proofs.YtoepbjgldmgaoaaDoor

/- RankChosen walked. -/
namespace Go.Proofs.YtoepbjgldmgaoaaDoor
open Go.RowKit Go.Proofs.YtoepbjgldmgaoaaDoorW.PrintWords Go.Proofs.YtoepbjgldmgaoaaDoorW.PrintLast
theorem victims_n {A : Option Addr} {c n k : Nat} {l : List Ob} {m : Int} {w : World} (hr : kO.C w A n l) (hln : l.length = n) (hl : n ≤ 1000000) (hf : ∀ o ∈ l, ObFits o) (hk : (victF l m).length = k) :
    Calls Tryd.prog 21 #[.slice A n c, .int .i64 m] w fun e w' => ∃ A' c' T, e = .returned (.slice A' k k) ∧ Obs w' w.heap.size A' k c' (victF l m) T ∧ kO.C w' A' k (victF l m) ∧ Below w.heap.size w w' := by
  subst hln
  subst hk
  refine (victims_calls A c l m w hr hl hf).mono ?_
  rintro e w1 ⟨A', c', rfl, hS, hb⟩
  obtain ⟨T, hT⟩ := obs_of_S hS
  exact ⟨A', c', T, rfl, hT, (Kd.R_reads' (Kd.S_R hS)).2.2, hb⟩
theorem mem_victF {l : List Ob} {m : Int} {o : Ob} (h : o ∈ victF l m) : o ∈ l := (mem_live l o).1 ((mem_sortV _ o).1 (List.mem_of_mem_take h)) |>.1
theorem ref_n {A : Option Addr} {c n k : Nat} {l : List Ob} {m : Int} {w : World} (hr : kO.C w A n l) (hln : l.length = n) (hn : n ≤ 1000000) (hf : ∀ o ∈ l, ObFits o ∧ ObInts o) (hk : (victF l m).length = k) :
    Calls Tryd.prog 22 #[.slice A n c, .int .i64 m] w fun e w' => ∃ A' c', e = .returned (.slice A' k c') ∧ kO.C w' A' k (victF l m) ∧ Below w.heap.size w w' := by
  refine (refVictims_calls A c n l m w (by rw [hln]; exact hr) hln hn hf).mono ?_
  rintro e w1 ⟨A', c', rfl, _, hC, hb⟩
  rw [hk] at hC ⊢
  exact ⟨A', c', rfl, hC, hb⟩
theorem chosenBig_calls (A : Option Addr) (c n : Nat) (m : Int) (w : World) (hn : 300 < n) :
    Calls Tryd.prog 5 #[.slice A n c, .int .i64 m] w fun e w' => e = .returned (.bool true) ∧ Below w.heap.size w w' := by
  have hn' : (300 : Int) < (n : Int) := by omega
  go_enter Tryd.func5, Tryd.ntmps5
  go_wp2
  go_ret
  exact ⟨rfl, Below.refl _ _⟩
set_option maxHeartbeats 4000000 in
set_option maxRecDepth 100000 in
theorem chosen_calls (A : Option Addr) (c n : Nat) (l : List Ob) (m : Int) (w : World) (hr : kO.C w A n l) (hl : l.length = n) (hn : ¬ 300 < n) (hf : ∀ o ∈ l, ObFits o ∧ ObInts o) :
    Calls Tryd.prog 5 #[.slice A n c, .int .i64 m] w fun e w' => e = .returned (.bool true) ∧ Below w.heap.size w w' := by
  have hf1 : ∀ o ∈ l, ObFits o := fun o ho => (hf o ho).1
  obtain ⟨k, hk⟩ : ∃ k, (victF l m).length = k := ⟨_, rfl⟩
  have hkn : k ≤ 300 := by
    have h1 := victF_len l m
    have h2 := live_length l
    have h3 : headN m (live l).length ≤ (live l).length := by unfold headN; omega
    omega
  have hfv : ∀ o ∈ victF l m, ObFits o := fun o ho => hf1 o (mem_victF ho)
  have H := Lib.hid (And.intro hr (And.intro hl (And.intro (show n ≤ 1000000 by omega) (And.intro hf (And.intro hf1 (And.intro hk (And.intro (show k ≤ 200000 by omega) hfv)))))))
  have hn' : ¬ (300 : Int) < (n : Int) := by omega
  clear hr hl hf hf1 hk hkn hfv
  go_enter Tryd.func5, Tryd.ntmps5
  go_wp2_with (first
    | (go_at_call 12; (with_reducible refine (lentObjects_calls A c n l w (H.out.2.1 ▸ H.out.1) H.out.2.1 H.out.2.2.1 H.out.2.2.2.2.1).mono ?_); rintro e w1 ⟨A1, rfl, hC1, hb1⟩; have H1 := Lib.hid (And.intro hC1 hb1); clear hC1 hb1)
    | (go_at_call 21; (with_reducible refine (victims_n (w := w1) (kLent_C H1.out.1) H.out.2.1 H.out.2.2.1 H.out.2.2.2.2.1 H.out.2.2.2.2.2.1).mono ?_); rintro e w2 ⟨A2, c2, T2, rfl, hO2, hC2, hb2⟩; have H2 := Lib.hid (And.intro hO2 (And.intro hC2 hb2)); clear hO2 hC2 hb2)
    | (go_at_call 21; (with_reducible refine (victims_n (w := w2) (Kd.C_below (kLent_C H1.out.1) H2.out.2.2) H.out.2.1 H.out.2.2.1 H.out.2.2.2.2.1 H.out.2.2.2.2.2.1).mono ?_); rintro e w3 ⟨A3, c3, T3, rfl, hO3, hC3, hb3⟩; have H3 := Lib.hid (And.intro hO3 (And.intro hC3 (And.intro hb3 (belT (belT (belT (Below.refl _ _) H1.out.2) H2.out.2.2) hb3)))); clear hO3 hC3 hb3)
    | (go_at_call 22; (with_reducible refine (ref_n (w := w3) (Kd.C_below H.out.1 H3.out.2.2.2) H.out.2.1 H.out.2.2.1 H.out.2.2.2.1 H.out.2.2.2.2.2.1).mono ?_); rintro e w4 ⟨A4, c4, rfl, hC4, hb4⟩; have H4 := Lib.hid (And.intro hC4 hb4); clear hC4 hb4)
    | (go_at_call 15; (with_reducible refine (same_n (w := w4) (Kd.C_below H2.out.2.1 (belT H3.out.2.2.1 H4.out.2)) H4.out.1 H.out.2.2.2.2.2.1 (Nat.le_trans H.out.2.2.2.2.2.2.1 (by decide))).mono ?_); rintro e w5 ⟨rfl, hb5⟩; have H5 := Lib.hid hb5; clear hb5)
    | (go_at_call 15; (with_reducible refine (same_n (w := w5) (Kd.C_below H3.out.2.1 (belT H4.out.2 H5.out)) (Kd.C_below H4.out.1 H5.out) H.out.2.2.2.2.2.1 (Nat.le_trans H.out.2.2.2.2.2.2.1 (by decide))).mono ?_); rintro e w6 ⟨rfl, hb6⟩; have H6 := Lib.hid hb6; clear hb6)
    | (go_at_call 16; have H7 := Lib.hid (two_facts (w7 := (w6.alloc (.cells #[.slice none 0 0, .slice none 0 0, .slice none 0 0, .slice none 0 0, .slice none 0 0, .slice none 0 0, .slice none 0 0, .slice none 0 0, .slice none 0 0, .slice none 0 0, .slice none 0 0, .slice none 0 0] 39))) H2.out.1 H3.out.1 H2.out.2.2 H3.out.2.2.1 (belT (belT H4.out.2 H5.out) H6.out) rfl); have H7a : Hid (Below w6.heap.size w6 (w6.alloc (.cells #[.slice none 0 0, .slice none 0 0, .slice none 0 0, .slice none 0 0, .slice none 0 0, .slice none 0 0, .slice none 0 0, .slice none 0 0, .slice none 0 0, .slice none 0 0, .slice none 0 0, .slice none 0 0] 39))) := Lib.hid (below_alloc (Below.refl _ _) _); (with_reducible refine (book_first (w := (w6.alloc (.cells #[.slice none 0 0, .slice none 0 0, .slice none 0 0, .slice none 0 0, .slice none 0 0, .slice none 0 0, .slice none 0 0, .slice none 0 0, .slice none 0 0, .slice none 0 0, .slice none 0 0, .slice none 0 0] 39))) H7.out.bk H7.out.one H7.out.lt1 H.out.2.2.2.2.2.2.1).mono ?_); rintro e w8 ⟨rfl, ⟨v5, v10, hS8⟩, hb8⟩; have H8 := Lib.hid (And.intro hS8 hb8); clear hS8 hb8)
    | (go_at_call 16; (with_reducible refine (book_more (w := w8) H8.out.1 (H7.out.two.keep H7.out.lt2 H8.out.2) H7.out.lt2 H.out.2.2.2.2.2.2.1 (two_len H7.out.one H.out.2.2.2.2.2.2.1) (by simp)).mono ?_); rintro e w9 ⟨rfl, ⟨v5', v10', hS9⟩, hb9⟩; have H9 := Lib.hid (And.intro hS9 hb9); clear hS9 hb9)
    | (go_at_call 17; (with_reducible refine (apart_two (w := w9) H9.out.1 ((H7.out.one.keep H7.out.lt1 H8.out.2).keep H7.out.lt1 H9.out.2) ((H7.out.two.keep H7.out.lt2 H8.out.2).keep H7.out.lt2 H9.out.2) H7.out.lt H7.out.le H.out.2.2.2.2.2.2.1 H.out.2.2.2.2.2.2.1 H.out.2.2.2.2.2.2.2 H.out.2.2.2.2.2.2.2 (chain_size H7.out.le H7.out.le2 H8.out.2 H9.out.2 H7.out.bk)).mono ?_); rintro e w10 ⟨rfl, hO⟩; have H10 := Lib.hid (chain_below H2.out.2.2 H3.out.2.2.1 (belT (belT H4.out.2 H5.out) H6.out) H7.out H7a.out H8.out.2 H9.out.2 hO); clear hO)
    | (go_at_call 18; (with_reducible refine (keptObjects_calls A1 A l n c n w10 (Kd.C_below H1.out.1 H10.out) (Kd.C_below H.out.1 (belT H1.out.2 H10.out)) H.out.2.1 H.out.2.2.1 H.out.2.2.2.2.1).mono ?_); rintro e w11 ⟨rfl, hb11⟩; have H11 := Lib.hid (belT (belT H1.out.2 H10.out) hb11); clear hb11))
  go_ret
  exact ⟨rfl, H11.out⟩
theorem rankChosen_pure (A : Option Addr) (c : Nat) (l : List Ob) (m : Int) (w : World) (hr : kO.C w A l.length l) (hf : ∀ o ∈ l, ObFits o ∧ ObInts o) :
    Calls Tryd.prog 5 #[.slice A l.length c, .int .i64 m] w fun e w' => e = .returned (.bool true) ∧ Below w.heap.size w w' := by
  by_cases h : 300 < l.length
  · exact chosenBig_calls A c l.length m w h
  · exact chosen_calls A c l.length l m w hr rfl h hf
end Go.Proofs.YtoepbjgldmgaoaaDoor

/- RankTold over any two objects: it answers true. -/
namespace Go.Proofs.YtoepbjgldmgaoaaDoor
open Go.RowKit Go.Proofs.YtoepbjgldmgaoaaDoorW.PrintWords Go.Proofs.YtoepbjgldmgaoaaDoorW.PrintLast
def rg4_1_T : Bool × List (List Nat × List Nat) := (true, [([], []), ([], []), ([0, 1], [0, 1]), ([], []), ([], []), ([3, 4, 2], [3, 4]), ([2, 5], [2, 5]), ([6, 5], [6]), ([7], [7]), ([7], [7]), ([8, 9, 7, 7], [7, 8, 9]), ([7], [7]), ([7], [7]), ([11, 12, 10, 7], [7, 11, 12]), ([10, 13, 7], [7, 10, 13]), ([7, 14], [7, 14]), ([15, 13], [15]), ([16], [16]), ([16], [16]), ([17, 18, 16, 16], [16, 17, 18]), ([19, 16], [16, 19]), ([16, 20], [16, 20]), ([21, 19, 0, 1, 2, 3, 4, 5, 6, 7, 8, 9, 10, 11, 12, 13, 14, 15, 16, 17, 18, 19, 20, 21], [21])])
def rg4_1_B : List Nat := [0, 0, 3, 0, 0, 31, 63, 127, 255, 255, 1023, 255, 255, 8191, 16383, 32767, 65535, 131071, 131071, 524287, 1048575, 2097151, 4194303]
theorem rg4_1_tab : rtab .any (opsOf Tryd.f4 1) = rg4_1_T := by kernel_rfl
theorem rg4_1_bits : waitsOk rg4_1_T.2 rg4_1_B = true := by kernel_rfl
set_option maxHeartbeats 16000000 in
set_option maxRecDepth 100000 in
theorem told_calls (cs ds : Array Value) (n1 n2 : ByteArray) (b1 b2 : Int) (o1 o2 : ByteArray) (p1 p2 : Int) (r1 r2 : Bool) (h : Pod cs n1 b1 o1 p1 r1) (g : Pod ds n2 b2 o2 p2 r2) (m1 : n1.size ≤ 140737488351232) (m2 : n2.size ≤ 140737488351232)
    (i1 : -9223372036854775808 ≤ b1 ∧ b1 ≤ 9223372036854775807) (i2 : -9223372036854775808 ≤ b2 ∧ b2 ≤ 9223372036854775807) (w : World) :
    Calls Tryd.prog 4 #[.agg cs, .agg ds] w fun e w' => e = .returned (.bool true) ∧ Below w.heap.size w w' := by
  have hs := h.size
  have gs := g.size
  have hi1 : (Tryd.prog.info? 48).map (·.size) = some cs.size := by rw [hs]; kernel_rfl
  have hi2 : (Tryd.prog.info? 48).map (·.size) = some ds.size := by rw [gs]; kernel_rfl
  obtain ⟨lab, hlab⟩ : ∃ x, x = lessF n1 n2 b1 b2 o1 o2 p1 p2 r1 r2 := ⟨_, rfl⟩
  obtain ⟨lba, hlba⟩ : ∃ x, x = lessF n2 n1 b2 b1 o2 o1 p2 p1 r2 r1 := ⟨_, rfl⟩
  have Q1 := fun W => less_calls cs ds n1 n2 b1 b2 o1 o2 p1 p2 r1 r2 h g m1 m2 W
  have Q2 := fun W => refLess_calls cs ds n1 n2 b1 b2 o1 o2 p1 p2 r1 r2 h g m1 m2 W
  have Q3 := fun W => less_calls ds cs n2 n1 b2 b1 o2 o1 p2 p1 r2 r1 g h m2 m1 W
  have Q4 := fun W => refLess_calls ds cs n2 n1 b2 b1 o2 o1 p2 p1 r2 r1 g h m2 m1 W
  have Q5 := fun W => less_calls cs cs n1 n1 b1 b1 o1 o1 p1 p1 r1 r1 h h m1 m1 W
  rw [ref_less n1 n2 b1 b2 o1 o2 p1 p2 r1 r2 i1 i2, ← hlab] at Q2
  rw [ref_less n2 n1 b2 b1 o2 o1 p2 p1 r2 r1 i2 i1, ← hlba] at Q4
  rw [← hlab] at Q1
  rw [← hlba] at Q3
  rw [show lessF n1 n1 b1 b1 o1 o1 p1 p1 r1 r1 = false from less_irrefl ⟨n1, b1, o1, p1, r1⟩] at Q5
  replace Q1 := Lib.hid Q1
  replace Q2 := Lib.hid Q2
  replace Q3 := Lib.hid Q3
  replace Q4 := Lib.hid Q4
  replace Q5 := Lib.hid Q5
  have HI1 := Lib.hid hi1
  have HI2 := Lib.hid hi2
  clear hi1 hi2 h g hs gs hlab hlba m1 m2 i1 i2
  go_enter Tryd.func4, Tryd.ntmps4
  go_wp2
  have HW : Below w.heap.size w ((w.alloc (Obj.cells cs 48)).alloc (Obj.cells ds 48)) := Go.Joins.below_alloc2 w _ _
  have B1 : ((w.alloc (Obj.cells cs 48)).alloc (Obj.cells ds 48)).heap[w.heap.size]? = some (.cells cs 48 (0, 0)) := (heap_alloc_old _ _ (by simp)).trans (heap_alloc_new w _)
  have B2 : ((w.alloc (Obj.cells cs 48)).alloc (Obj.cells ds 48)).heap[w.heap.size + 1]? = some (.cells ds 48 (0, 0)) := heap_alloc2_new w _ _
  generalize ((w.alloc (Obj.cells cs 48)).alloc (Obj.cells ds 48)) = W0 at HW B1 B2 ⊢
  obtain ⟨ga, hga⟩ : ∃ x, x = w.heap.size := ⟨_, rfl⟩
  obtain ⟨gb, hgb⟩ : ∃ x, x = w.heap.size + 1 := ⟨_, rfl⟩
  rw [← hgb] at B2 ⊢
  rw [← hga] at B1 ⊢
  have HB : Below W0.heap.size W0 W0.drew := below_drew (Below.refl _ _)
  replace HW := Lib.hid HW
  clear hga hgb
  refine start_ (n := 23) (S := fun w' => w'.heap[ga]? = some (.cells cs 48 (0, 0)) ∧ w'.heap[gb]? = some (.cells ds 48 (0, 0))) (ds := []) (bs 23 0) (by kernel_rfl) rfl (by kernel_rfl) ⟨B1, B2⟩ (fun hHeld => ?_)
  refine with_tabW rg4_1_tab rg4_1_bits (fun HT_ HW_ => ?_)
  refine tk 0 (some 5) (bs 23 1) HT_ HW_ rfl rfl (by kernel_rfl) (fun _ _ _ _ h => h) hHeld ⟨_, .inl ⟨by rfl, by rintro w' ⟨s0, s1⟩; refine load_row (x := .tmp 2) ?_ ?_ s0 Tryd.underlying48 rfl HI1.out <;> rfl⟩, _, by simp only [Act.put, sA, sB, sC, i64_w, i32_w]; rfl, ?_⟩
  refine tk 1 (some 6) (bs 23 3) HT_ HW_ rfl rfl (by kernel_rfl) (fun _ _ _ _ h => h) hHeld ⟨_, .inl ⟨by rfl, by rintro w' ⟨s0, s1⟩; refine load_row (x := .tmp 3) ?_ ?_ s1 Tryd.underlying48 rfl HI2.out <;> rfl⟩, _, by simp only [Act.put, sA, sB, sC, i64_w, i32_w]; rfl, ?_⟩
  refine tk 3 (some 8) (bs 23 11) HT_ HW_ rfl rfl (by kernel_rfl) (fun _ _ _ _ h => h) hHeld ⟨_, .inl ⟨by rfl, by rintro w' ⟨s0, s1⟩; refine load_row (x := .tmp 2) ?_ ?_ s0 Tryd.underlying48 rfl HI1.out <;> rfl⟩, _, by simp only [Act.put, sA, sB, sC, i64_w, i32_w]; rfl, ?_⟩
  refine tk 4 (some 9) (bs 23 27) HT_ HW_ rfl rfl (by kernel_rfl) (fun _ _ _ _ h => h) hHeld ⟨_, .inl ⟨by rfl, by rintro w' ⟨s0, s1⟩; refine load_row (x := .tmp 3) ?_ ?_ s1 Tryd.underlying48 rfl HI2.out <;> rfl⟩, _, by simp only [Act.put, sA, sB, sC, i64_w, i32_w]; rfl, ?_⟩
  refine on1 2 (some 7) (bs 23 31) HT_ rfl rfl (by kernel_rfl) (by decide) (fun K hK => ?_)
  refine goes_ Tryd.func19 (by kernel_rfl) rfl #[.agg cs, .agg ds] (by rfl) rfl rfl (by (try simp only [List.map_toArray, List.map_cons, List.map_nil]); first | done | rfl) ?_
  with_reducible refine (Q1.out _).mono ?_
  rintro e w1 ⟨rfl, hb⟩
  replace B1 := blkB hb B1
  replace B2 := blkB hb B2
  replace HB := belT HB hb
  clear hb
  refine ⟨_, rfl, ?_⟩
  refine hK.out _ _ ⟨B1, B2⟩ (fun hHeld => ?_)
  clear hK K
  refine nm ⟨_, show Act.put _ (some 7) _ = _ by simp only [Act.put, sA, sB, sC, i64_w, i32_w]; rfl, ?_⟩
  refine on1 5 (some 10) (bs 23 63) HT_ rfl rfl (by kernel_rfl) (by decide) (fun K hK => ?_)
  refine goes_ Tryd.func20 (by kernel_rfl) rfl #[.agg cs, .agg ds] (by rfl) rfl rfl (by (try simp only [List.map_toArray, List.map_cons, List.map_nil]); first | done | rfl) ?_
  with_reducible refine (Q2.out _).mono ?_
  rintro e w1 ⟨rfl, hb⟩
  replace B1 := blkB hb B1
  replace B2 := blkB hb B2
  replace HB := belT HB hb
  clear hb
  refine ⟨_, rfl, ?_⟩
  refine hK.out _ _ ⟨B1, B2⟩ (fun hHeld => ?_)
  clear hK K
  refine nm ⟨_, show Act.put _ (some 10) _ = _ by simp only [Act.put, sA, sB, sC, i64_w, i32_w]; rfl, ?_⟩
  refine pu 6 (some 11) (bs 23 127) HT_ rfl rfl (by kernel_rfl) (fun _ _ _ _ h => h) ⟨_, .inl ⟨by rfl, fun _ => by go_simp; with_reducible rfl⟩, _, by simp only [Act.put, sA, sB, sC, i64_w, i32_w]; rfl, ?_⟩
  refine pu 7 (some 12) (bs 23 255) HT_ rfl rfl (by kernel_rfl) (fun _ _ _ _ h => h) ⟨_, .inl ⟨by rfl, fun _ => by go_simp; with_reducible rfl⟩, _, by simp only [Act.put, sA, sB, sC, i64_w, i32_w]; rfl, ?_⟩
  refine tk 8 (some 13) (bs 23 511) HT_ HW_ rfl rfl (by kernel_rfl) (fun _ _ _ _ h => h) hHeld ⟨_, .inl ⟨by rfl, by rintro w' ⟨s0, s1⟩; refine load_row (x := .tmp 3) ?_ ?_ s1 Tryd.underlying48 rfl HI2.out <;> rfl⟩, _, by simp only [Act.put, sA, sB, sC, i64_w, i32_w]; rfl, ?_⟩
  refine tk 9 (some 14) (bs 23 1023) HT_ HW_ rfl rfl (by kernel_rfl) (fun _ _ _ _ h => h) hHeld ⟨_, .inl ⟨by rfl, by rintro w' ⟨s0, s1⟩; refine load_row (x := .tmp 2) ?_ ?_ s0 Tryd.underlying48 rfl HI1.out <;> rfl⟩, _, by simp only [Act.put, sA, sB, sC, i64_w, i32_w]; rfl, ?_⟩
  refine tk 11 (some 16) (bs 23 3071) HT_ HW_ rfl rfl (by kernel_rfl) (fun _ _ _ _ h => h) hHeld ⟨_, .inl ⟨by rfl, by rintro w' ⟨s0, s1⟩; refine load_row (x := .tmp 3) ?_ ?_ s1 Tryd.underlying48 rfl HI2.out <;> rfl⟩, _, by simp only [Act.put, sA, sB, sC, i64_w, i32_w]; rfl, ?_⟩
  refine tk 12 (some 17) (bs 23 7167) HT_ HW_ rfl rfl (by kernel_rfl) (fun _ _ _ _ h => h) hHeld ⟨_, .inl ⟨by rfl, by rintro w' ⟨s0, s1⟩; refine load_row (x := .tmp 2) ?_ ?_ s0 Tryd.underlying48 rfl HI1.out <;> rfl⟩, _, by simp only [Act.put, sA, sB, sC, i64_w, i32_w]; rfl, ?_⟩
  refine on1 10 (some 15) (bs 23 8191) HT_ rfl rfl (by kernel_rfl) (by decide) (fun K hK => ?_)
  refine goes_ Tryd.func19 (by kernel_rfl) rfl #[.agg ds, .agg cs] (by rfl) rfl rfl (by (try simp only [List.map_toArray, List.map_cons, List.map_nil]); first | done | rfl) ?_
  with_reducible refine (Q3.out _).mono ?_
  rintro e w1 ⟨rfl, hb⟩
  replace B1 := blkB hb B1
  replace B2 := blkB hb B2
  replace HB := belT HB hb
  clear hb
  refine ⟨_, rfl, ?_⟩
  refine hK.out _ _ ⟨B1, B2⟩ (fun hHeld => ?_)
  clear hK K
  refine nm ⟨_, show Act.put _ (some 15) _ = _ by simp only [Act.put, sA, sB, sC, i64_w, i32_w]; rfl, ?_⟩
  refine on1 13 (some 18) (bs 23 16383) HT_ rfl rfl (by kernel_rfl) (by decide) (fun K hK => ?_)
  refine goes_ Tryd.func20 (by kernel_rfl) rfl #[.agg ds, .agg cs] (by rfl) rfl rfl (by (try simp only [List.map_toArray, List.map_cons, List.map_nil]); first | done | rfl) ?_
  with_reducible refine (Q4.out _).mono ?_
  rintro e w1 ⟨rfl, hb⟩
  replace B1 := blkB hb B1
  replace B2 := blkB hb B2
  replace HB := belT HB hb
  clear hb
  refine ⟨_, rfl, ?_⟩
  refine hK.out _ _ ⟨B1, B2⟩ (fun hHeld => ?_)
  clear hK K
  refine nm ⟨_, show Act.put _ (some 18) _ = _ by simp only [Act.put, sA, sB, sC, i64_w, i32_w]; rfl, ?_⟩
  refine pu 14 (some 19) (bs 23 32767) HT_ rfl rfl (by kernel_rfl) (fun _ _ _ _ h => h) ⟨_, .inl ⟨by rfl, fun _ => by go_simp; with_reducible rfl⟩, _, by simp only [Act.put, sA, sB, sC, i64_w, i32_w]; rfl, ?_⟩
  refine pu 15 (some 20) (bs 23 65535) HT_ rfl rfl (by kernel_rfl) (fun _ _ _ _ h => h) ⟨_, .inl ⟨by rfl, fun _ => by go_simp; with_reducible rfl⟩, _, by simp only [Act.put, sA, sB, sC, i64_w, i32_w]; rfl, ?_⟩
  refine pu 16 (some 21) (bs 23 131071) HT_ rfl rfl (by kernel_rfl) (fun _ _ _ _ h => h) ⟨_, .inl ⟨by rfl, fun _ => by go_simp; with_reducible rfl⟩, _, by simp only [Act.put, sA, sB, sC, i64_w, i32_w]; rfl, ?_⟩
  refine tk 17 (some 22) (bs 23 262143) HT_ HW_ rfl rfl (by kernel_rfl) (fun _ _ _ _ h => h) hHeld ⟨_, .inl ⟨by rfl, by rintro w' ⟨s0, s1⟩; refine load_row (x := .tmp 2) ?_ ?_ s0 Tryd.underlying48 rfl HI1.out <;> rfl⟩, _, by simp only [Act.put, sA, sB, sC, i64_w, i32_w]; rfl, ?_⟩
  refine tk 18 (some 23) (bs 23 524287) HT_ HW_ rfl rfl (by kernel_rfl) (fun _ _ _ _ h => h) hHeld ⟨_, .inl ⟨by rfl, by rintro w' ⟨s0, s1⟩; refine load_row (x := .tmp 2) ?_ ?_ s0 Tryd.underlying48 rfl HI1.out <;> rfl⟩, _, by simp only [Act.put, sA, sB, sC, i64_w, i32_w]; rfl, ?_⟩
  refine on1 19 (some 24) (bs 23 1048575) HT_ rfl rfl (by kernel_rfl) (by decide) (fun K hK => ?_)
  refine goes_ Tryd.func19 (by kernel_rfl) rfl #[.agg cs, .agg cs] (by rfl) rfl rfl (by (try simp only [List.map_toArray, List.map_cons, List.map_nil]); first | done | rfl) ?_
  with_reducible refine (Q5.out _).mono ?_
  rintro e w1 ⟨rfl, hb⟩
  replace B1 := blkB hb B1
  replace B2 := blkB hb B2
  replace HB := belT HB hb
  clear hb
  refine ⟨_, rfl, ?_⟩
  refine hK.out _ _ ⟨B1, B2⟩ (fun hHeld => ?_)
  clear hK K
  refine nm ⟨_, show Act.put _ (some 24) _ = _ by simp only [Act.put, sA, sB, sC, i64_w, i32_w]; rfl, ?_⟩
  refine pu 20 (some 25) (bs 23 2097151) HT_ rfl rfl (by kernel_rfl) (fun _ _ _ _ h => h) ⟨_, .inl ⟨by rfl, fun _ => by go_simp; with_reducible rfl⟩, _, by simp only [Act.put, sA, sB, sC, i64_w, i32_w]; rfl, ?_⟩
  refine pu 21 (some 26) (bs 23 4194303) HT_ rfl rfl (by kernel_rfl) (fun _ _ _ _ h => h) ⟨_, .inl ⟨by rfl, fun _ => by go_simp; with_reducible rfl⟩, _, by simp only [Act.put, sA, sB, sC, i64_w, i32_w]; rfl, ?_⟩
  refine pu 22 (some 4) (bs 23 8388607) HT_ rfl rfl (by kernel_rfl) (fun _ _ _ _ h => h) ⟨_, .inl ⟨by rfl, fun _ => by go_simp; with_reducible rfl⟩, _, by simp only [Act.put, sA, sB, sC, i64_w, i32_w]; rfl, ?_⟩
  refine done_ (done_of HT_.out (by kernel_rfl)) ?_
  go_wp2
  go_ret
  exact ⟨rfl, belT HW.out (by first | exact HB | exact below_drew HB)⟩
end Go.Proofs.YtoepbjgldmgaoaaDoor
