/- Lemmas on which the law stands, part 5: ApLA, Book, BookO, BookS, ApO, ApOW, NilB, BookA, Obs, Two, Items, KeptO, FltL, Fleet, Laid. -/
import Derived.Test.YtoepbjgldmgaoaaDoorKFlt3
import Derived.Test.YtoepbjgldmgaoaaDoorKFlt4
import Derived.Handy
import Derived.Test.YtoepbjgldmgaoaaDoorCards
import Derived.WalkKit
import Derived.ProofKit
set_option linter.unusedVariables false
set_option linter.unusedSimpArgs false
/- ApartLabels walked: lists of labels, each of its own, are written over and appended to, and hold what was written. -/
namespace Go.Proofs.YtoepbjgldmgaoaaDoor
open Go.RowKit Go.Proofs.YtoepbjgldmgaoaaDoorW.PrintWords Go.Proofs.YtoepbjgldmgaoaaDoorW.PrintLast
structure RowV (w : World) (ad : Addr) (V : List Value) : Prop where
  cells : ∀ k v, V[k]? = some v → w.cell? (ad.add k) = some v
  here : ad.block < w.heap.size
  out : ¬ inV V ad.block
theorem RowV.only {w w' : World} {ad : Addr} {V : List Value} (h : RowV w ad V) (hb : OnlyB (inV V) w w') : RowV w' ad V :=
  ⟨fun k v hv => (cell_same (w := w) (w' := w') (a := ad.add k) (by rw [add_block]; exact hb.block _ h.here h.out)).trans (h.cells k v hv), Nat.lt_of_lt_of_le h.here hb.size, h.out⟩
theorem labK_R {w : World} {base : Nat} {ok : Nat → Prop} {v : Value} {l : List Lab} (h : kL.R 98 w base ok v l) : LabK w l v := LabK.of_R h
theorem set_mark (k i : Nat) (l : List Lab) (hi : i < l.length) : (marksK k i ++ l.drop i).set i (markK k i) = marksK k (i + 1) ++ l.drop (i + 1) := by
  rw [List.set_append_right _ _ (by rw [marksK_length]; exact Nat.le_refl _), marksK_length, Nat.sub_self, List.drop_eq_getElem_cons hi, List.set_cons_zero, marksK_succ, List.append_assoc]
  rfl
section
variable {P : Program}
theorem wpList_buildOne {ops : Array Oper} {rest : List Oper} {op : Oper} {a : Act} {w : World} {Q : Exit → Act → World → Prop} (hgd : op.guard = none) (t e : TypeId) (x : Operand) (ho : op.op = .buildSlice t 1 #[(0, x)]) (v : Value) (hx : a.eval x = v) (hv : v.cells = #[v])
    (z : Value) (bytes : Nat) (hu : P.underlying t = some (.slice e)) (hinfo : (P.info? e).map (fun i => (i.zero, i.size, i.bytes)) = some (some z, 1, bytes))
    (h : wpList P ops Q rest (a.put op.dst (.slice (some ⟨w.heap.size, 0, none⟩) 1 1)) (w.alloc (.cells #[v] e))) : wpList P ops Q (op :: rest) a w := by
  obtain ⟨i0, hi, hzz⟩ := Option.map_eq_some_iff.1 hinfo
  simp only [Prod.mk.injEq] at hzz
  obtain ⟨hz0, hz1, hz2⟩ := hzz
  refine wpList_buildSlice hgd t e 1 #[(0, x)] ho #[v] i0 z hu hi hz0 (by rw [hz1]; omega) (by rw [hz1]; omega) ?_ h
  have hf := Great.fill_whole (s := 1) Nat.one_pos [v] ((Array.range (1 * i0.size)).map (z.cells[· % z.cells.size]!)) (fun q hq => by rw [List.mem_singleton.1 hq, hv]; rfl) (by simp [hz1])
  rw [hz1] at hf ⊢
  simpa [hx, hv] using hf
end
theorem infoLs : (Tryd.prog.info? 43).map (fun i => (i.zero, i.size, i.bytes)) = some (some (.slice none 0 0), 1, 24) := by kernel_rfl
theorem rawSome {W : World} {A : Option Addr} {n k : Nat} {G : List Value} {u : Value} (h : (Kd.raw 1).C W A n (G.map fun u => [u])) (hu : G[k]? = some u) : ∃ ad, A = some ad := by
  have hk : k < G.length := (List.getElem?_eq_some_iff.1 hu).1
  have hn := h.1
  rw [List.length_map] at hn
  obtain ⟨ad, e, _⟩ := h.2.2 (by omega)
  exact ⟨ad, e⟩
theorem rawCell {W : World} {ad : Addr} {n k : Nat} {G : List Value} {u : Value} (h : (Kd.raw 1).C W (some ad) n (G.map fun u => [u])) (hu : G[k]? = some u) : W.cell? (ad.add k) = some u := by
  have hk : k < G.length := (List.getElem?_eq_some_iff.1 hu).1
  have hn := h.1
  rw [List.length_map] at hn
  obtain ⟨ad', e, hc⟩ := h.2.2 (by omega)
  obtain rfl := Option.some.inj e
  obtain ⟨cs, _, h2, h3⟩ := hc k [u] (by rw [List.getElem?_map, hu]; rfl)
  have h4 := h3 0 u (by rw [h2.1]; rfl)
  have hsz : (Kd.raw 1).sz = 1 := rfl
  rw [hsz] at h4
  simpa using h4
def rg59_7_T : Bool × List (List Nat × List Nat) := (true, [([], []), ([], []), ([0, 1], [0, 1]), ([2], [2]), ([], []), ([], []), ([], []), ([5, 6], [5, 6]), ([3, 4, 0, 1, 2, 3, 4, 5, 6, 7], [3, 4]), ([8, 7, 7, 0, 1, 2, 3, 4, 5, 6, 7], [7, 8])])
def rg59_7_B : List Nat := [0, 0, 3, 7, 0, 0, 0, 96, 255, 511]
theorem rg59_7_tab : rtab .any (opsOf Tryd.f59 7) = rg59_7_T := by kernel_rfl
theorem rg59_7_bits : waitsOk rg59_7_T.2 rg59_7_B = true := by kernel_rfl
set_option maxHeartbeats 4000000 in
set_option maxRecDepth 100000 in
theorem apartLabels_calls (ad : Addr) (cap N : Nat) (V : List Value) (LS : Nat → List Lab) (w : World) (base : Nat) (hVN : V.length = N) (hN : N ≤ 1000000) (hbase : base ≤ w.heap.size) (hrow : RowV w ad V) (hB : Bk w base V LS) (ha : ApartV V) (hlen : ∀ k, k < N → (LS k).length ≤ 4398046510976) :
    Calls Tryd.prog 59 #[.slice (some ad) N cap] w fun e w' => e = .returned (.bool true) ∧ OnlyB (inV V) w w' := by
  have HRow := Lib.hid hrow
  have HBk := Lib.hid hB
  have HA := Lib.hid ha
  have HL := Lib.hid (And.intro hVN hlen)
  clear hrow hB ha hVN hlen
  go_enter Tryd.func59, Tryd.ntmps59
  go_wp2
  go_loopw [3] (fun v3 wr => ∃ k : Nat, k ≤ N ∧ v3 = .int .i64 k ∧ Hid (Bk wr base V (fun j => if j < k then marksK j (LS j).length else LS j) ∧ OnlyB (inV V) w wr)) (fun v3 _ => N - (intOf v3).toNat)
  case atStart => exact ⟨0, Nat.zero_le _, rfl, Lib.hid ⟨HBk.out.congr (fun k _ => by rw [if_neg (by omega)]), OnlyB.refl _ _⟩⟩
  case round =>
    obtain ⟨k, hk, rfl, hI⟩ := hrel
    by_cases hkn : k < N
    · obtain ⟨v, hv⟩ : ∃ v, V[k]? = some v := ⟨_, List.getElem?_eq_getElem (by have := HL.out.1; omega)⟩
      have hr := hI.out.1.row k v hv
      rw [if_neg (Nat.lt_irrefl k)] at hr
      obtain ⟨Ak, ck, rfl⟩ := Kd.R_slice hr
      obtain ⟨n, hn⟩ : ∃ n, n = (LS k).length := ⟨_, rfl⟩
      have hnb : n ≤ 4398046510976 := by rw [hn]; exact HL.out.2 k hkn
      rw [← hn] at hv hr
      have hlk : (k : Int) < (N : Int) := by omega
      have HV := Lib.hid (And.intro hv hn)
      clear hv hr hn
      go_wp2
      rename World => wo
      go_loopw [4] (fun v4 wr => ∃ i : Nat, i ≤ n ∧ v4 = .int .i64 i ∧ Hid (Bk wr base V (fun j => if j < k then marksK j (LS j).length else if j = k then marksK k i ++ (LS k).drop i else LS j) ∧ OnlyB (inV V) w wr)) (fun v4 _ => n - (intOf v4).toNat)
      case atStart => exact ⟨0, Nat.zero_le _, rfl, Lib.hid ⟨hI.out.1.congr (fun j _ => by
        by_cases h1 : j < k
        · rw [if_pos h1, if_pos h1]
        · rw [if_neg h1, if_neg h1]
          by_cases h2 : j = k
          · subst h2; rw [if_pos rfl]; rfl
          · rw [if_neg h2]), hI.out.2⟩⟩
      case round =>
        obtain ⟨i, hi, rfl, hJ⟩ := hrel
        have q1 := (HRow.out.only hJ.out.2).cells k _ HV.out.1
        by_cases hin : i < n
        · have hr := hJ.out.1.row k _ HV.out.1
          rw [if_neg (Nat.lt_irrefl k), if_pos rfl] at hr
          have hxl : (marksK k i ++ (LS k).drop i).length = n := by rw [List.length_append, marksK_length, List.length_drop, ← HV.out.2]; omega
          obtain ⟨g, cap', e, _, _, _⟩ := Kd.R_form hr (by omega)
          rw [hxl] at e
          injection e with e1 _ e3
          subst e1
          subst e3
          obtain ⟨s0, s1, hm⟩ : ∃ s0 s1, markK k i = ⟨s0, s1⟩ := ⟨_, _, rfl⟩
          have QM := fun W => markK_calls k i W
          rw [hm] at QM
          replace QM := Lib.hid QM
          have HRk := Lib.hid hr
          have HM := Lib.hid (And.intro hm (show i < (LS k).length by rw [← HV.out.2]; exact hin))
          have HRw := Lib.hid (HRow.out.only hJ.out.2)
          have HB1 := below_drew (Below.refl wr.heap.size wr)
          have hini : (i : Int) < (n : Int) := by omega
          clear hr hxl hm
          go_upto_region 7 with (fail)
          refine start_ (n := 10) (S := fun w' => Below wr.heap.size wr w' ∧ w'.cell? (ad.add k) = some (.slice (some ⟨g, 0, none⟩) n ck)) (ds := [9]) (bs 10 0) (by kernel_rfl) rfl (by kernel_rfl) ⟨HB1, (HRw.out.only (OnlyB.of_below HB1)).cells k _ HV.out.1⟩ (fun hHeld => ?_)
          refine with_tabW rg59_7_tab rg59_7_bits (fun HT_ HW_ => ?_)
          refine pu 0 (some 27) (bs 10 1) HT_ rfl rfl (by kernel_rfl) (fun _ _ _ _ h => h) ⟨_, .inl ⟨by rfl, fun _ => by go_simp; with_reducible rfl⟩, _, by simp only [Act.put, sA, sB, sC, i64_w, i32_w]; rfl, ?_⟩
          refine pu 1 (some 28) (bs 10 3) HT_ rfl rfl (by kernel_rfl) (fun _ _ _ _ h => h) ⟨_, .inl ⟨by rfl, fun _ => by go_simp; with_reducible rfl⟩, _, by simp only [Act.put, sA, sB, sC, i64_w, i32_w]; rfl, ?_⟩
          refine pu 2 (some 29) (bs 10 7) HT_ rfl rfl (by kernel_rfl) (fun _ _ _ _ h => h) ⟨_, .inl ⟨by rfl, fun _ => by go_simp; with_reducible rfl⟩, _, by simp only [Act.put, sA, sB, sC, i64_w, i32_w]; rfl, ?_⟩
          refine pu 4 (some 31) (bs 10 23) HT_ rfl rfl (by kernel_rfl) (fun _ _ _ _ h => h) ⟨_, .inl ⟨by rfl, fun _ => by go_simp; with_reducible rfl⟩, _, by simp only [Act.put, sA, sB, sC, i64_w, i32_w]; rfl, ?_⟩
          refine pu 5 (some 32) (bs 10 55) HT_ rfl rfl (by kernel_rfl) (fun _ _ _ _ h => h) ⟨_, .inl ⟨by rfl, fun _ => by go_simp; with_reducible rfl⟩, _, by simp only [Act.put, sA, sB, sC, i64_w, i32_w]; rfl, ?_⟩
          refine pu 6 (some 33) (bs 10 119) HT_ rfl rfl (by kernel_rfl) (fun _ _ _ _ h => h) ⟨_, .inl ⟨by rfl, fun _ => by go_simp; with_reducible rfl⟩, _, by simp only [Act.put, sA, sB, sC, i64_w, i32_w]; rfl, ?_⟩
          refine tk 3 (some 30) (bs 10 127) HT_ HW_ rfl rfl (by kernel_rfl) (fun _ _ _ _ h => h) hHeld ⟨_, .inl ⟨by rfl, by rintro w' ⟨s0, s1⟩; go_simp; with_reducible rfl⟩, _, by simp only [Act.put, sA, sB, sC, i64_w, i32_w]; rfl, ?_⟩
          refine on1 7 (some 34) (bs 10 255) HT_ rfl rfl (by kernel_rfl) (by decide) (fun K hK => ?_)
          refine goes_ Tryd.func93 (by kernel_rfl) rfl #[.int .i64 k, .int .i64 i] (by rfl) rfl rfl (by (try simp only [List.map_toArray, List.map_cons, List.map_nil]); first | done | rfl) ?_
          with_reducible refine (QM.out _).mono ?_
          rintro e w5 ⟨rfl, hb⟩
          replace HB1 := belT HB1 hb
          clear hb
          refine ⟨_, rfl, ?_⟩
          refine hK.out _ _ ⟨HB1, (HRw.out.only (OnlyB.of_below HB1)).cells k _ HV.out.1⟩ (fun hHeld => ?_)
          clear hK K
          refine nm ⟨_, show Act.put _ (some 34) _ = _ by simp only [Act.put, sA, sB, sC, i64_w, i32_w]; rfl, ?_⟩
          refine pu 8 (some 35) (bs 10 511) HT_ rfl rfl (by kernel_rfl) (fun _ _ _ _ h => h) ⟨_, .inl ⟨by rfl, fun _ => by go_simp; with_reducible rfl⟩, _, by simp only [Act.put, sA, sB, sC, i64_w, i32_w]; rfl, ?_⟩
          refine la1 9 (none) (bs 10 1023) HT_ rfl rfl (by kernel_rfl) (by decide) (fun K hK => ?_)
          refine storeLab_ (i := i) (p := .tmp 35) (x := .tmp 34) (by kernel_rfl) (by rfl) rfl rfl rfl rfl (Kd.R_below HRk.out HB1) hin ?_
          intro w6 hR6 hg6
          refine hK.out _ _ ?_
          clear hK K
          refine done_ (done_of HT_.out (by kernel_rfl)) ?_
          have hJ1 := hJ.out.1
          have hBk6 : Bk w6 base V (fun j => if j < k then marksK j (LS j).length else if j = k then marksK k (i + 1) ++ (LS k).drop (i + 1) else LS j) := ((hJ1.below HB1).turn HA.out HV.out.1 hg6 hR6).congr (fun j _ => by
            by_cases h2 : j = k
            · subst h2
              rw [if_pos rfl, if_neg (Nat.lt_irrefl _), if_pos rfl, ← HM.out.1]
              exact set_mark _ _ _ HM.out.2
            · simp only [h2, if_false])
          have hO6 : OnlyB (inV V) w w6 := hJ.out.2.trans ((OnlyB.of_below HB1).trans (OnlyB.of_grown hg6 (fun b hb => ⟨_, List.mem_of_getElem? HV.out.1, hb⟩)))
          replace hBk6 := Lib.hid (And.intro hBk6 hO6)
          clear hJ1 hO6 hR6 hg6 HB1 HRk HRw
          go_wp2
          go_roundw
          case rel => exact ⟨i + 1, by omega, by go_num, hBk6⟩
          case measure => simp [intOf]; omega
        · obtain rfl : n = i := by omega
          go_wp2
          go_roundw
          case rel =>
            refine ⟨k + 1, by omega, by go_num, Lib.hid ⟨hJ.out.1.congr (fun j _ => ?_), hJ.out.2⟩⟩
            by_cases h1 : j < k
            · rw [if_pos h1, if_pos (by omega)]
            · rw [if_neg h1]
              by_cases h2 : j = k
              · subst h2
                rw [if_pos rfl, if_pos (Nat.lt_succ_self _), HV.out.2, List.drop_length, List.append_nil]
              · rw [if_neg h2, if_neg (by omega)]
          case measure => simp [intOf]; omega
    · obtain rfl : N = k := by omega
      have hBm : Bk wr base V (fun j => marksK j (LS j).length) := hI.out.1.congr (fun j hj => by rw [if_pos (by have := HL.out.1; omega)])
      have HBm := Lib.hid (And.intro hBm (And.intro hI.out.2 (HRow.out.only hI.out.2)))
      clear hBm hI
      have hVlt : ∀ x ∈ V, ∀ b, x.ownBlock = some b → b < wr.heap.size := fun x hx b hb => by
        obtain ⟨j, hj⟩ := List.mem_iff_getElem?.1 hx
        exact Kd.R_lt (HBm.out.1.row j x hj) b hb
      replace hVlt := Lib.hid hVlt
      have hww : w.heap.size ≤ wr.heap.size := HBm.out.2.1.size
      rename World => wa
      go_wp2
      go_loopw [5, 6] (fun v5 v6 wr => ∃ k : Nat, k ≤ N ∧ v6 = .int .i64 k ∧ ∃ G : List Value, G.length = k ∧ Hid (BI w wa wr base V G (fun j => (LS j).length) v5 k ∧ wa.heap.size ≤ wr.heap.size)) (fun _ v6 _ => N - (intOf v6).toNat)
      case atStart => exact ⟨0, Nat.zero_le _, rfl, [], rfl, Lib.hid ⟨⟨fun j v hv => labK_R (HBm.out.1.row j v hv), fun j v _ hv => HBm.out.1.row j v hv, ⟨fun j u hu => by simp at hu, fun j u v hu => by simp at hu⟩, Kd.R_nil _ _ _ _ _, HBm.out.2.1⟩, Nat.le_refl _⟩⟩
      case round =>
        obtain ⟨k, hk, rfl, G, hG, hI⟩ := hrel
        by_cases hkn : k < N
        · obtain ⟨v, hv⟩ : ∃ v, V[k]? = some v := ⟨_, List.getElem?_eq_getElem (by have := HL.out.1; omega)⟩
          have hr := hI.out.1.todo k v (Nat.le_refl _) hv
          obtain ⟨Ak, ck, rfl⟩ := Kd.R_slice hr
          rw [marksK_length] at hr hv
          obtain ⟨n, hn⟩ : ∃ n, n = (LS k).length := ⟨_, rfl⟩
          have hnb : n ≤ 4398046510976 := by rw [hn]; exact HL.out.2 k hkn
          rw [← hn] at hv hr
          have hlk : (k : Int) < (N : Int) := by omega
          have q1 := (HRow.out.only hI.out.1.only).cells k _ hv
          have hv0 : Hid (∀ (ad : Addr) (c : Nat), Value.slice Ak n ck = .slice (some ad) n c → ad.off = 0 ∧ ad = ⟨ad.block, 0, none⟩) := Lib.hid (fun ad c e => by
            injection e with e1 _ _
            subst e1
            obtain ⟨g, e⟩ := Kd.R_head hr
            rw [e]
            exact ⟨rfl, rfl⟩)
          have HV := Lib.hid (And.intro hv hn)
          have HRk := Lib.hid hr
          clear hv hr hn
          go_wp2
          rename World => wo
          go_loopw [7, 8] (fun v7 v8 wr => ∃ j : Nat, j ≤ 64 ∧ v8 = .int .i64 j ∧ Hid (BI w wa wr base V G (fun j => (LS j).length) u5 (k + 1) ∧ wo.heap.size ≤ wr.heap.size ∧ kL.R 98 wr base (fun _ => True) v7 (marksK k (n + j)) ∧ ∀ b, v7.ownBlock = some b → (Value.slice Ak n ck).ownBlock = some b ∨ wo.heap.size ≤ b)) (fun _ v8 _ => 64 - (intOf v8).toNat)
          case atStart => exact ⟨0, by omega, rfl, Lib.hid ⟨⟨hI.out.1.rd, fun j v hm hv => hI.out.1.todo j v (by omega) hv, hI.out.1.gs, hI.out.1.row, hI.out.1.only⟩, Nat.le_refl _, Kd.R_mono HRk.out (fun _ _ => trivial), fun b hb => .inl hb⟩⟩
          case round =>
            obtain ⟨j, hj, rfl, hJ⟩ := hrel
            have q1 := (HRow.out.only hJ.out.1.only).cells k _ HV.out.1
            by_cases hj64 : j < 64
            · have g4 : decide ((j : Int) < 64) = true := decide_eq_true (by omega)
              have hw : wrap64 ((n : Int) + (j : Int)) = (n : Int) + (j : Int) := by unfold wrap64; omega
              obtain ⟨s0, s1, hm⟩ : ∃ s0 s1, markK k (n + j) = ⟨s0, s1⟩ := ⟨_, _, rfl⟩
              have QM := fun W => markK_calls k (n + j) W
              rw [hm, Int.natCast_add] at QM
              replace QM := Lib.hid QM
              have HM := Lib.hid hm
              clear hm
              go_wp2_with (first
                | (go_at_call 93; (with_reducible refine (QM.out _).mono ?_); rintro e w1 ⟨rfl, hb1⟩; have HJ1 := Lib.hid (And.intro (hJ.out.1.below hb1) (And.intro (Kd.R_below hJ.out.2.2.1 hb1) hb1.size)); have hb1s : Hid (base ≤ w1.heap.size) := Lib.hid (by have := hb1.size; have := hJ.out.2.1; have := hI.out.2; omega); clear hb1)
                | ((with_reducible refine wpList_build1 rfl 43 98 (.tmp 59) rfl #[.string s0, .string s1] ?d1 ?d2 2 32 Tryd.underlying43 ?d3 ?d4 (by omega) (by omega) ?d5 ?_); (case d1 => rfl); (case d3 => exact infoL); (case d4 => rfl); (case d5 => rfl))
                | (at_builtin; refine R_append_keep kL (w0 := w1) (W := w1) base rfl (.tmp 50) (.tmp 60) 43 98 (.agg #[(.string ⟨#[]⟩), (.string ⟨#[]⟩)]) 32 rfl Tryd.underlying43 infoL rfl (by decide) (by omega) u7 (marksK k (n + j)) ⟨s0, s1⟩ [.string s0, .string s1] (fun _ => True) (fun _ => False) rfl rfl (QLb.k98_mkM _ _ _ _) (fun _ h => h.elim) (fun _ _ => trivial) HJ1.out.2.1 (Below.refl _ _) hb1s.out (by rw [marksK_length]; omega) ?_; intro v1 w6 hR6 hB6 hg6 hat6 hkeep6))
              have hst := BI.step HJ1.out.1 hI.out.1.gs hG HA.out HV.out.1 hVlt.out hww (by have := hI.out.2; omega) (by have := HJ1.out.2.2; have := hJ.out.2.1; omega) (by rw [← HV.out.2]; exact hv0.out) hJ.out.2.2.2 HJ1.out.2.1 (by rw [marksK_length, ← HV.out.2]; omega) hg6 hkeep6
              rw [← HM.out, ← marksK_succ] at hR6
              have hsz6 : wo.heap.size ≤ w6.heap.size := by have := hg6.size; have := HJ1.out.2.2; have := hJ.out.2.1; omega
              have how6 : ∀ b, v1.ownBlock = some b → (Value.slice Ak n ck).ownBlock = some b ∨ wo.heap.size ≤ b := fun b hb => by
                rcases hat6 with e | ⟨b', e, hle⟩
                · exact hJ.out.2.2.2 b (by rw [← e]; exact hb)
                · rw [e] at hb
                  injection hb with hb
                  have := HJ1.out.2.2
                  have := hJ.out.2.1
                  exact .inr (by omega)
              replace hst := Lib.hid (And.intro hst (And.intro hsz6 (And.intro hR6 how6)))
              clear hR6 hB6 hg6 hat6 hkeep6 hsz6 how6
              go_wp2
              go_roundw
              case rel => exact ⟨j + 1, by omega, by go_num, hst⟩
              case measure => simp [intOf]; omega
            · obtain rfl : j = 64 := by omega
              have hR7 := hJ.out.2.2.1
              obtain ⟨A7, c7, e7⟩ := Kd.R_slice hR7
              have hc7 : u7.cells = #[u7] := by rw [e7]; rfl
              have ho7 : u7.oneCell' = true := by rw [e7]; rfl
              rw [HV.out.2] at hR7
              have hwaW : wa.heap.size ≤ wr.heap.size := Nat.le_trans hI.out.2 hJ.out.2.1
              have hGl : ((G.map fun u => [u]).length + 1) * 24 ≤ 140737488355328 := by rw [List.length_map]; omega
              have H7 := Lib.hid (And.intro hR7 (And.intro hc7 (And.intro ho7 (And.intro hwaW hGl))))
              clear hR7 e7 hc7 ho7 hwaW hGl
              go_wp2_with (first
                | ((with_reducible refine wpList_buildOne rfl 31 43 (.tmp 63) rfl u7 ?o1 ?o2 (.slice none 0 0) 24 Tryd.underlying31 ?o3 ?_); (case o1 => rfl); (case o2 => exact H7.out.2.1); (case o3 => exact infoLs))
                | (at_builtin; refine Kd.R_append (Kd.raw 1) (w0 := wr) (W := wr) wa.heap.size rfl (.tmp 62) (.tmp 64) 31 43 (.slice none 0 0) 24 rfl Tryd.underlying31 infoLs rfl (by decide) (by omega) u5 (G.map fun u => [u]) [u7] [u7] (fun _ => True) (fun _ => False) rfl rfl ⟨rfl, rfl, fun q hq => by rw [List.mem_singleton.1 hq]; exact H7.out.2.2.1⟩ (fun _ h => h.elim) (fun _ _ => trivial) hJ.out.1.row ?oB H7.out.2.2.2.1 H7.out.2.2.2.2 ?_; (case oB => exact ⟨rfl, rfl, rfl, Nat.le_refl _, fun _ _ => rfl⟩); intro v1 w6 hR6 hB6 hg6 hat6; have hnx := BI.next hJ.out.1 hG HV.out.1 hI.out.2 hJ.out.2.2.2 H7.out.1 hVlt.out H7.out.2.2.2.1 hR6 hg6 hww; replace hnx := Lib.hid (And.intro hnx (Nat.le_trans H7.out.2.2.2.1 hg6.size)); clear hR6 hB6 hg6 hat6))
              go_roundw
              case rel => exact ⟨k + 1, by omega, by go_num, G ++ [u7], by rw [List.length_append, hG]; rfl, hnx⟩
              case measure => simp [intOf]; omega
        · obtain rfl : N = k := by omega
          obtain ⟨A5, c5, e5⟩ := Kd.R_slice hI.out.1.row
          rw [List.length_map, hG] at e5
          have hrow := hI.out.1.row
          rw [e5] at hrow
          have hC5 := (Kd.R_reads' hrow).2.2
          rw [List.length_map, hG] at hC5
          have HC := Lib.hid (And.intro hC5 (And.intro hI.out.1.rd (And.intro hI.out.1.gs (And.intro hI.out.1.only (HRow.out.only hI.out.1.only)))))
          clear hrow hC5 hI
          subst e5
          rename World => wb
          go_wp2
          go_loopw [9] (fun v9 wr => ∃ k : Nat, k ≤ N ∧ v9 = .int .i64 k ∧ Hid (Below wb.heap.size wb wr)) (fun v9 _ => N - (intOf v9).toNat)
          case atStart => exact ⟨0, Nat.zero_le _, rfl, Lib.hid (Below.refl _ _)⟩
          case round =>
            obtain ⟨k, hk, rfl, hB⟩ := hrel
            by_cases hkn : k < N
            · obtain ⟨v, hv⟩ : ∃ v, V[k]? = some v := ⟨_, List.getElem?_eq_getElem (by have := HL.out.1; omega)⟩
              obtain ⟨u, hu⟩ : ∃ u, G[k]? = some u := ⟨_, List.getElem?_eq_getElem (by omega)⟩
              obtain ⟨gd, rfl⟩ := rawSome HC.out.1 hu
              obtain ⟨Ak, ck, rfl, hck, hCk⟩ := HC.out.2.1 k v hv
              have hr := HC.out.2.2.1.row k u hu
              obtain ⟨Bk, dk, rfl⟩ := Kd.R_slice hr
              have hDk := (Kd.R_reads' hr).2.2
              obtain ⟨n, hn⟩ : ∃ n, n = (LS k).length := ⟨_, rfl⟩
              have hnb : n ≤ 4398046510976 := by rw [hn]; exact HL.out.2 k hkn
              simp only [marksK_length, ← hn] at hv hu hCk hDk
              have hlk : (k : Int) < (N : Int) := by omega
              have HV := Lib.hid (And.intro hv (And.intro hu (And.intro hCk hDk)))
              clear hv hu hCk hDk hck hr hn
              go_wp2
              rename World => wo
              go_loopw [10] (fun v10 wr => ∃ i : Nat, i ≤ n + 64 ∧ v10 = .int .i64 i ∧ Hid (Below wb.heap.size wb wr)) (fun v10 _ => n + 64 - (intOf v10).toNat)
              case atStart => exact ⟨0, Nat.zero_le _, rfl, hB⟩
              case round =>
                obtain ⟨i, hi, rfl, hJ⟩ := hrel
                have HRr := Lib.hid (HC.out.2.2.2.2.only (OnlyB.of_below hJ.out))
                have HG : Hid ((Kd.raw 1).C wr (some gd) N (G.map fun u => [u])) := Lib.hid (Kd.C_below HC.out.1 hJ.out)
                have s1 := HRr.out.cells k _ HV.out.1
                have s2 := rawCell HG.out HV.out.2.1
                by_cases hin : i < n + 64
                · obtain ⟨s0, s1', hm⟩ : ∃ s0 s1, markK k i = ⟨s0, s1⟩ := ⟨_, _, rfl⟩
                  have QM := fun W => markK_calls k i W
                  rw [hm] at QM
                  replace QM := Lib.hid QM
                  have hini : (i : Int) < (n : Int) + 64 := by omega
                  have hD0 : Hid (kL.C wr Bk (n + 64) (marksK k (n + 64))) := Lib.hid (Kd.C_below HV.out.2.2.2 hJ.out)
                  have hE0 : Hid (kL.C wr Ak n (marksK k n)) := Lib.hid (Kd.C_below HV.out.2.2.1 hJ.out)
                  obtain ⟨bk, rfl⟩ : ∃ b, Bk = some b := by obtain ⟨x, e, _⟩ := hD0.out.2.2 (by omega); exact ⟨x, e⟩
                  have hp0 : Hid ((marksK k (n + 64))[i]? = some ⟨s0, s1'⟩) := Lib.hid (by rw [marksK_at _ _ _ hin, hm])
                  by_cases hl1 : i < n
                  · have hp1 : Hid ((marksK k n)[i]? = some ⟨s0, s1'⟩) := Lib.hid (by rw [marksK_at _ _ _ hl1, hm])
                    have hli : (i : Int) < (n : Int) := by omega
                    obtain ⟨ak, rfl⟩ : ∃ b, Ak = some b := by obtain ⟨x, e, _⟩ := hE0.out.2.2 (by omega); exact ⟨x, e⟩
                    clear hm
                    go_wp2_with (go_at_call 93; (with_reducible refine (QM.out _).mono ?_); rintro e w1 ⟨rfl, hb1⟩; have p1 := fun X => (HRr.out.only (OnlyB.of_below (below_alloc hb1 X))).cells k _ HV.out.1; have p2 := fun X => rawCell (Kd.C_below HG.out (below_alloc hb1 X)) HV.out.2.1; have q0 := fun X => (labAt (Kd.C_below hD0.out (below_alloc hb1 X)) hp0.out).1; have q1 := fun X => (labAt (Kd.C_below hD0.out (below_alloc hb1 X)) hp0.out).2; have r0 := fun X => (labAt (Kd.C_below hE0.out (below_alloc hb1 X)) hp1.out).1; have r1 := fun X => (labAt (Kd.C_below hE0.out (below_alloc hb1 X)) hp1.out).2)
                    go_quiet (fail)
                    go_wp2
                    go_roundw
                    case rel => exact ⟨i + 1, by omega, by go_num, Lib.hid (hJ.out.trans ((pw_below_drewN (below_alloc hb1 _) _).mono hJ.out.size))⟩
                    case measure => simp [intOf]; omega
                  · have hd : decide ((i : Int) < (n : Int)) = false := decide_eq_false (by omega)
                    clear hm
                    go_wp2_with (go_at_call 93; (with_reducible refine (QM.out _).mono ?_); rintro e w1 ⟨rfl, hb1⟩; have p1 := fun X => (HRr.out.only (OnlyB.of_below (below_alloc hb1 X))).cells k _ HV.out.1; have p2 := fun X => rawCell (Kd.C_below HG.out (below_alloc hb1 X)) HV.out.2.1; have q0 := fun X => (labAt (Kd.C_below hD0.out (below_alloc hb1 X)) hp0.out).1; have q1 := fun X => (labAt (Kd.C_below hD0.out (below_alloc hb1 X)) hp0.out).2)
                    go_quiet (fail)
                    go_wp2
                    go_roundw
                    case rel => exact ⟨i + 1, by omega, by go_num, Lib.hid (hJ.out.trans ((pw_below_drewN (below_alloc hb1 _) _).mono hJ.out.size))⟩
                    case measure => simp [intOf]; omega
                · obtain rfl : i = n + 64 := by omega
                  go_wp2
                  go_roundw
                  case rel => exact ⟨k + 1, by omega, by go_num, hJ⟩
                  case measure => simp [intOf]; omega
            · obtain rfl : N = k := by omega
              go_wp2
              go_ret
              exact ⟨rfl, HC.out.2.2.2.1.trans (OnlyB.of_below hB.out)⟩
end Go.Proofs.YtoepbjgldmgaoaaDoor

/- A Book: lists that it was handed, kept in rows. -/
namespace Go.Proofs.YtoepbjgldmgaoaaDoor
open Go.RowKit Go.Proofs.YtoepbjgldmgaoaaDoorW.PrintWords Go.Proofs.YtoepbjgldmgaoaaDoorW.PrintLast
def nilV : Value := .slice none 0 0
def bookC (v5 v10 : Value) : Array Value := #[nilV, nilV, nilV, nilV, nilV, v5, nilV, nilV, nilV, nilV, v10, nilV]
structure BookS (w : World) (base b : Nat) (VL VO : List Value) (v5 v10 : Value) : Prop where
  heap : w.heap[b]? = some (.cells (bookC v5 v10) 39 (0, 0))
  old : base ≤ b
  labs : (Kd.raw 1).R 43 w base (fun _ => True) v5 (VL.map fun u => [u])
  objs : (Kd.raw 1).R 22 w base (fun _ => True) v10 (VO.map fun u => [u])
theorem grown_one {w w1 : World} {b : Nat} (hb : Below 0 w w1) (hk : ∀ k, k ≠ b → w1.heap[k]? = w.heap[k]?) : w.grownBy w1 (some b) := ⟨hb.os, hb.tape, hb.output, hb.size, fun k _ hn => hk k (fun e => hn (by rw [e]))⟩
theorem BookS.stored {w w1 w2 : World} {base b : Nat} {VL VO : List Value} {v5 v5' v10 u : Value} (h : BookS w base b VL VO v5 v10) (hg : w.grownBy w1 v5.ownBlock) (hR : (Kd.raw 1).R 43 w1 base (fun _ => True) v5' (VL.map (fun u => [u]) ++ [[u]]))
    (hh : w2.heap[b]? = some (.cells ((bookC v5 v10).setIfInBounds 5 v5') 39 (0, 0))) (hg2 : w1.grownBy w2 (some b)) : BookS w2 base b (VL ++ [u]) VO v5' v10 := by
  have hty := Kd.R_typed h.labs
  have hne : some b ≠ v5.ownBlock := fun e => by
    obtain ⟨c, hc⟩ := hty b e.symm
    rw [h.heap] at hc
    injection hc with hc
    injection hc with _ hc
    exact absurd hc (by decide)
  have hb1 : w1.heap[b]? = some (.cells (bookC v5 v10) 39 (0, 0)) := (hg.block b (blkLt h.heap) hne).trans h.heap
  have ht1 : ∀ k, (Value.slice (some ⟨b, 0, none⟩) 0 0).ownBlock = some k → ∃ cells, w1.heap[k]? = some (Obj.cells cells 39) := fun k hk => by
    obtain rfl : b = k := by simpa [Value.ownBlock] using hk
    exact ⟨_, hb1⟩
  refine ⟨hh, h.old, ?_, ?_⟩
  · rw [List.map_append]
    exact Kd.R_over' (v := .slice (some ⟨b, 0, none⟩) 0 0) hR ht1 (fun q hq => by
      rcases List.mem_cons.1 hq with rfl | hq
      · decide
      · cases hq) hg2
  · exact Kd.R_over' (v := .slice (some ⟨b, 0, none⟩) 0 0) (Kd.R_over' h.objs hty (fun q hq => by
      rcases List.mem_cons.1 hq with rfl | hq
      · decide
      · cases hq) hg) ht1 (fun q hq => by
      rcases List.mem_cons.1 hq with rfl | hq
      · decide
      · cases hq) hg2
theorem BookS.kept {w w1 : World} {base b : Nat} {VL VO : List Value} {v5 v10 : Value} (h : BookS w base b VL VO v5 v10) (hg : w.grownBy w1 v5.ownBlock) : w1.heap[b]? = some (.cells (bookC v5 v10) 39 (0, 0)) := by
  have hne : some b ≠ v5.ownBlock := fun e => by
    obtain ⟨c, hc⟩ := Kd.R_typed h.labs b e.symm
    rw [h.heap] at hc
    injection hc with hc
    injection hc with _ hc
    exact absurd hc (by decide)
  exact (hg.block b (blkLt h.heap) hne).trans h.heap
theorem BookS.below {w w1 : World} {base b : Nat} {VL VO : List Value} {v5 v10 : Value} (h : BookS w base b VL VO v5 v10) (hb : Below w.heap.size w w1) : BookS w1 base b VL VO v5 v10 :=
  ⟨(hb.block b (blkLt h.heap)).trans h.heap, h.old, Kd.R_below h.labs hb, Kd.R_below h.objs hb⟩
def FrameT (w w' : World) : Prop := ∀ (k : Nat) (cells : Array Value) (t : TypeId), w.heap[k]? = some (.cells cells t (0, 0)) → t ≠ 39 → t ≠ 43 → t ≠ 22 → w'.heap[k]? = w.heap[k]?
theorem FrameT.refl (w : World) : FrameT w w := fun _ _ _ _ _ _ _ => rfl
theorem FrameT.trans {a b c : World} (h : FrameT a b) (g : FrameT b c) : FrameT a c := fun k cells t hk h1 h2 h3 => by
  have e := h k cells t hk h1 h2 h3
  exact (g k cells t (e.trans hk) h1 h2 h3).trans e
theorem FrameT.of_below {a b : World} (h : Below a.heap.size a b) : FrameT a b := fun k cells t hk _ _ _ => h.block k (blkLt hk)
theorem BookS.frame {w w' : World} {base b : Nat} {VL VO : List Value} {v5 v10 : Value} (h : BookS w base b VL VO v5 v10) (hk : ∀ k, k < w.heap.size → k ≠ b → some k ≠ v5.ownBlock → w'.heap[k]? = w.heap[k]?) : FrameT w w' := fun k cells t hc h1 h2 h3 => by
  refine hk k (blkLt hc) (fun e => ?_) (fun e => ?_)
  · subst e
    rw [h.heap] at hc
    injection hc with hc
    injection hc with _ hc
    exact h1 hc.symm
  · obtain ⟨c2, hc2⟩ := Kd.R_typed h.labs k e.symm
    rw [hc2] at hc
    injection hc with hc
    injection hc with _ hc
    exact h2 hc.symm
set_option maxHeartbeats 1600000 in
set_option maxRecDepth 100000 in
theorem bookLabels_calls (b base : Nat) (u v5 v10 : Value) (hu : u.cells = #[u]) (hu1 : u.oneCell' = true) (w : World) (VL VO : List Value) (h : BookS w base b VL VO v5 v10) (hn : (VL.length + 1) * 24 ≤ 140737488355328) (hbase : base ≤ w.heap.size) :
    Calls Tryd.prog 87 #[.pointer (some ⟨b, 0, none⟩), u] w fun e w' => e = .returned undef ∧ (∃ v5', BookS w' base b (VL ++ [u]) VO v5' v10) ∧ Below base w w' ∧ ∀ k, k < w.heap.size → k ≠ b → some k ≠ v5.ownBlock → w'.heap[k]? = w.heap[k]? := by
  have hc : w.cell? ⟨b, 5, none⟩ = some v5 := by rw [cell_of_row w b 5 _ _ _ h.heap]; rfl
  have H := Lib.hid h
  have HU := Lib.hid (And.intro hu (And.intro hu1 (And.intro hbase (show ((VL.map fun u => [u]).length + 1) * 24 ≤ 140737488355328 by rw [List.length_map]; exact hn))))
  clear h hu hu1
  go_enter Tryd.func87, Tryd.ntmps87
  go_wp2_with (first
    | ((with_reducible refine wpList_buildOne rfl 31 43 (.tmp 9) rfl u ?o1 ?o2 (.slice none 0 0) 24 Tryd.underlying31 ?o3 ?_); (case o1 => rfl); (case o2 => exact HU.out.1); (case o3 => exact infoLs))
    | (at_builtin; refine Kd.R_append (Kd.raw 1) (w0 := w) (W := w) base rfl (.tmp 8) (.tmp 10) 31 43 (.slice none 0 0) 24 rfl Tryd.underlying31 infoLs rfl (by decide) (by omega) v5 (VL.map fun u => [u]) [u] [u] (fun _ => True) (fun _ => False) rfl rfl ⟨rfl, rfl, fun q hq => by rw [List.mem_singleton.1 hq]; exact HU.out.2.1⟩ (fun _ h => h.elim) (fun _ _ => trivial) H.out.labs (Below.refl _ _) HU.out.2.2.1 HU.out.2.2.2 ?_; intro v1 w6 hR6 hB6 hg6 hat6; obtain ⟨A6, c6, e6⟩ := Kd.R_slice hR6; have hc6 : v1.cells = #[v1] := (by subst e6; rfl); have ho6 : v1.oneCell' = true := (by subst e6; rfl); have HA6 := Lib.hid (And.intro hc6 (And.intro ho6 (And.intro hR6 (And.intro hB6 hg6)))); clear hR6 hB6 hg6 hat6 e6 hc6 ho6)
    | ((with_reducible refine wpList_store1 rfl 31 (.tmp 13) (.tmp 11) rfl b 5 39 (bookC v5 v10) v1 ?q1 ?q2 ?q3 ?q4 ?q5 ?q6 ?q7 ?_); (case q1 => rfl); (case q2 => rfl); (case q3 => exact HA6.out.1); (case q4 => exact BookS.kept H.out HA6.out.2.2.2.2); (case q5 => exact (show 5 < 12 by decide)); (case q6 => kernel_rfl); (case q7 => exact HA6.out.2.1); intro w7 hh7 hk7 hb7 hz7; have hg7 : w6.grownBy w7 (some b) := grown_one (hb7 0 w6 (Below.refl _ _) (Nat.zero_le _)) hk7; have hS := BookS.stored H.out HA6.out.2.2.2.2 HA6.out.2.2.1 hh7 hg7; have hB7 := hb7 base w HA6.out.2.2.2.1 H.out.old; have hK7 : ∀ k, k < w.heap.size → k ≠ b → some k ≠ v5.ownBlock → w7.heap[k]? = w.heap[k]? := (fun k h1 h2 h3 => (hk7 k h2).trans (HA6.out.2.2.2.2.block k h1 h3))))
  go_end0
  exact ⟨rfl, ⟨_, hS⟩, hB7, hK7⟩
end Go.Proofs.YtoepbjgldmgaoaaDoor

/- Book.Object walked. -/
namespace Go.Proofs.YtoepbjgldmgaoaaDoor
open Go.RowKit Go.Proofs.YtoepbjgldmgaoaaDoorW.PrintWords Go.Proofs.YtoepbjgldmgaoaaDoorW.PrintLast
set_option maxHeartbeats 1600000 in
set_option maxRecDepth 100000 in
theorem bookObject_calls (b base : Nat) (o : Ob) (u4 u27 v5 v10 : Value) (h4 : u4.cells = #[u4] ∧ u4.oneCell' = true) (h27 : u27.cells = #[u27] ∧ u27.oneCell' = true) (w : World) (VL VO : List Value) (h : BookS w base b VL VO v5 v10) (hn : (VL.length + 2) * 24 ≤ 140737488355328) (hbase : base ≤ w.heap.size) :
    Calls Tryd.prog 51 #[.pointer (some ⟨b, 0, none⟩), .agg (o.cells u4 u27)] w fun e w' => e = .returned undef ∧ (∃ v5', BookS w' base b (VL ++ [u4] ++ [u27]) VO v5' v10) ∧ Below base w w' ∧ FrameT w w' := by
  have H := Lib.hid h
  have HU := Lib.hid (And.intro h4 (And.intro h27 hbase))
  clear h h4 h27
  have HB1 := Lib.hid (H.out.below (w1 := w.alloc (.cells (o.cells u4 u27) 48)) (below_alloc (Below.refl _ _) _))
  go_enter Tryd.func51, Tryd.ntmps51
  go_wp2_with (first
    | ((with_reducible refine wpList_boxTo rfl 48 (.tmp 1) rfl _ ?b1 w.heap.size ?b2 (o.cells u4 u27) ?b3 ?_); (case b1 => rfl); (case b2 => rfl); (case b3 => rfl))
    | ((with_reducible refine wpList_load1_w 43 (.tmp 5) rfl ⟨w.heap.size, 4, none⟩ ?c1 ?c2 u4 _ ?c3 Tryd.underlying43 rfl ?_); (case c1 => rfl); (case c2 => rfl); (case c3 => rw [cell_of_row _ _ 4 _ _ _ (heap_alloc_new w _)]; rfl))
    | (go_at_call 87; (with_reducible refine (bookLabels_calls b base u4 v5 v10 HU.out.1.1 HU.out.1.2 _ VL VO HB1.out (by omega) (by have := HU.out.2.2; simp; omega)).mono ?_); rintro e w1 ⟨rfl, ⟨v5', hS1⟩, hb1, hk1⟩; have hx1 : w1.heap[w.heap.size]? = some (.cells (o.cells u4 u27) 48 (0, 0)) := (hk1 _ (by simp) (fun e => by have := blkLt H.out.heap; omega) (fun e => by have := Kd.R_lt H.out.labs _ e.symm; omega)).trans (heap_alloc_new w _); have HS1 := Lib.hid (And.intro hS1 (And.intro hb1 hx1)); have HF1 := Lib.hid (BookS.frame HB1.out hk1); clear hS1 hb1 hk1 hx1)
    | ((with_reducible refine wpList_load1_w 43 (.tmp 9) rfl ⟨w.heap.size, 27, none⟩ ?f1 ?f2 u27 _ ?f3 Tryd.underlying43 rfl ?_); (case f1 => rfl); (case f2 => rfl); (case f3 => rw [cell_of_row _ _ 27 _ _ _ HS1.out.2.2]; rfl))
    | (go_at_call 87; (with_reducible refine (bookLabels_calls b base u27 v5' v10 HU.out.2.1.1 HU.out.2.1.2 _ (VL ++ [u4]) VO HS1.out.1 (by rw [List.length_append, List.length_singleton]; omega) (by have := HU.out.2.2; have := HS1.out.2.1.size; simp at this; omega)).mono ?_); rintro e w2 ⟨rfl, ⟨v5'', hS2⟩, hb2, hk2⟩; have HF2 := Lib.hid (BookS.frame HS1.out.1 hk2)))
  go_end0
  exact ⟨rfl, ⟨_, hS2⟩, ((Below.refl base w).alloc HU.out.2.2 _ |>.trans HS1.out.2.1).trans hb2, ((FrameT.of_below (below_alloc (Below.refl _ _) _)).trans HF1.out).trans HF2.out⟩
end Go.Proofs.YtoepbjgldmgaoaaDoor

/- Book.Objects walked: the list itself, and the lists within. -/
namespace Go.Proofs.YtoepbjgldmgaoaaDoor
open Go.RowKit Go.Proofs.YtoepbjgldmgaoaaDoorW.PrintWords Go.Proofs.YtoepbjgldmgaoaaDoorW.PrintLast
theorem infoOs : (Tryd.prog.info? 22).map (fun i => (i.zero, i.size, i.bytes)) = some (some (.slice none 0 0), 1, 24) := by kernel_rfl
theorem BookS.ne10 {w : World} {base b : Nat} {VL VO : List Value} {v5 v10 : Value} (h : BookS w base b VL VO v5 v10) : some b ≠ v10.ownBlock := fun e => by
  obtain ⟨c, hc⟩ := Kd.R_typed h.objs b e.symm
  rw [h.heap] at hc
  injection hc with hc
  injection hc with _ hc
  exact absurd hc (by decide)
theorem BookS.kept10 {w w1 : World} {base b : Nat} {VL VO : List Value} {v5 v10 : Value} (h : BookS w base b VL VO v5 v10) (hg : w.grownBy w1 v10.ownBlock) : w1.heap[b]? = some (.cells (bookC v5 v10) 39 (0, 0)) :=
  (hg.block b (blkLt h.heap) h.ne10).trans h.heap
theorem BookS.stored10 {w w1 w2 : World} {base b : Nat} {VL VO : List Value} {v5 v10 v10' u : Value} (h : BookS w base b VL VO v5 v10) (hg : w.grownBy w1 v10.ownBlock) (hR : (Kd.raw 1).R 22 w1 base (fun _ => True) v10' (VO.map (fun u => [u]) ++ [[u]]))
    (hh : w2.heap[b]? = some (.cells ((bookC v5 v10).setIfInBounds 10 v10') 39 (0, 0))) (hg2 : w1.grownBy w2 (some b)) : BookS w2 base b VL (VO ++ [u]) v5 v10' := by
  have hty := Kd.R_typed h.objs
  have hb1 := h.kept10 hg
  have ht1 : ∀ k, (Value.slice (some ⟨b, 0, none⟩) 0 0).ownBlock = some k → ∃ cells, w1.heap[k]? = some (Obj.cells cells 39) := fun k hk => by
    obtain rfl : b = k := by simpa [Value.ownBlock] using hk
    exact ⟨_, hb1⟩
  refine ⟨hh, h.old, ?_, ?_⟩
  · exact Kd.R_over' (v := .slice (some ⟨b, 0, none⟩) 0 0) (Kd.R_over' h.labs hty (fun q hq => by
      rcases List.mem_cons.1 hq with rfl | hq
      · decide
      · cases hq) hg) ht1 (fun q hq => by
      rcases List.mem_cons.1 hq with rfl | hq
      · decide
      · cases hq) hg2
  · rw [List.map_append]
    exact Kd.R_over' (v := .slice (some ⟨b, 0, none⟩) 0 0) hR ht1 (fun q hq => by
      rcases List.mem_cons.1 hq with rfl | hq
      · decide
      · cases hq) hg2
theorem BookS.frame10 {w w6 w7 : World} {base b : Nat} {VL VO : List Value} {v5 v10 : Value} (h : BookS w base b VL VO v5 v10) (hg : w.grownBy w6 v10.ownBlock) (hk : ∀ k, k ≠ b → w7.heap[k]? = w6.heap[k]?) : FrameT w w7 := fun k cells t hc h1 h2 h3 => by
  refine (hk k (fun e => ?_)).trans (hg.block k (blkLt hc) (fun e => ?_))
  · subst e
    rw [h.heap] at hc
    injection hc with hc
    injection hc with _ hc
    exact h1 hc.symm
  · obtain ⟨c2, hc2⟩ := Kd.R_typed h.objs k e.symm
    rw [hc2] at hc
    injection hc with hc
    injection hc with _ hc
    exact h3 hc.symm
def labsOf (T : List (Ob × Value × Value)) : List Value := T.flatMap fun t => [t.2.1, t.2.2]
theorem labsOf_take {T : List (Ob × Value × Value)} {k : Nat} {o : Ob} {u4 u27 : Value} (h : T[k]? = some (o, u4, u27)) : labsOf (T.take (k + 1)) = labsOf (T.take k) ++ [u4] ++ [u27] := by
  have hk := (List.getElem?_eq_some_iff.1 h).1
  have e := (List.getElem?_eq_some_iff.1 h).2
  rw [List.take_succ_eq_append_getElem hk, e]
  simp [labsOf]
theorem labsOf_len (T : List (Ob × Value × Value)) : (labsOf T).length = 2 * T.length := by
  induction T with
  | nil => rfl
  | cons t r ih =>
    have e : labsOf (t :: r) = [t.2.1, t.2.2] ++ labsOf r := rfl
    have e2 : (t :: r).length = r.length + 1 := rfl
    have e3 : [t.2.1, t.2.2].length = 2 := rfl
    rw [e, List.length_append, ih, e2, e3]
    omega
theorem book_len {T : List (Ob × Value × Value)} {VL : List Value} {k n : Nat} (hT : T.length = n) (h : (VL.length + 2 * n + 2) * 24 ≤ 140737488355328) : ((VL ++ labsOf (T.take k)).length + 2) * 24 ≤ 140737488355328 := by
  rw [List.length_append, labsOf_len, List.length_take]
  have h1 : min k T.length ≤ n := by rw [← hT]; exact Nat.min_le_right _ _
  exact Nat.le_trans (Nat.mul_le_mul_right 24 (Nat.add_le_add_right (Nat.add_le_add_left (Nat.mul_le_mul_left 2 h1) _) 2)) h
structure TabAt (w : World) (A : Option Addr) (T : List (Ob × Value × Value)) : Prop where
  at_ : ∀ (i : Nat) o u4 u27, T[i]? = some (o, u4, u27) → ∃ ad, A = some ad ∧ ∀ (j : Nat) (u : Value), (o.cells u4 u27)[j]? = some u → w.cell? (ad.add (i * 32 + j)) = some u
  one : ∀ t ∈ T, (t.2.1.cells = #[t.2.1] ∧ t.2.1.oneCell' = true) ∧ (t.2.2.cells = #[t.2.2] ∧ t.2.2.oneCell' = true)
theorem TabAt.below {w w1 : World} {A : Option Addr} {T : List (Ob × Value × Value)} {base : Nat} (h : TabAt w A T) (hA : ∀ ad, A = some ad → ad.block < base) (hb : Below base w w1) : TabAt w1 A T :=
  ⟨fun i o u4 u27 hi => by
    obtain ⟨ad, e, hc⟩ := h.at_ i o u4 u27 hi
    refine ⟨ad, e, fun j u hu => ?_⟩
    exact (cell_same (w := w) (w' := w1) (a := ad.add (i * 32 + j)) (by rw [add_block]; exact hb.block _ (hA ad e))).trans (hc j u hu), h.one⟩
set_option maxHeartbeats 1600000 in
set_option maxRecDepth 100000 in
theorem bookObjects_calls (b base : Nat) (A : Option Addr) (n c : Nat) (T : List (Ob × Value × Value)) (v5 v10 : Value) (w : World) (VL VO : List Value) (hTn : T.length = n) (hT : TabAt w A T) (hA : ∀ ad, A = some ad → ad.block < base) (h : BookS w base b VL VO v5 v10)
    (hn : (VL.length + 2 * n + 2) * 24 ≤ 140737488355328) (hm : (VO.length + 1) * 24 ≤ 140737488355328) (hbase : base ≤ w.heap.size) :
    Calls Tryd.prog 16 #[.pointer (some ⟨b, 0, none⟩), .slice A n c] w fun e w' => e = .returned undef ∧ (∃ v5' v10', BookS w' base b (VL ++ labsOf T) (VO ++ [.slice A n c]) v5' v10') ∧ Below base w w' ∧ FrameT w w' := by
  have hc : w.cell? ⟨b, 10, none⟩ = some v10 := by rw [cell_of_row w b 10 _ _ _ h.heap]; rfl
  have H := Lib.hid h
  have HT := Lib.hid (And.intro hTn (And.intro hT (And.intro hA (And.intro hbase (show ((VO.map fun u => [u]).length + 1) * 24 ≤ 140737488355328 by rw [List.length_map]; exact hm)))))
  obtain ⟨v, hv⟩ : ∃ v, v = Value.slice A n c := ⟨_, rfl⟩
  have HV := Lib.hid hv
  clear h hTn hT hA hv
  go_enter Tryd.func16, Tryd.ntmps16
  go_wp2_with (first
    | ((with_reducible refine wpList_buildOne rfl 36 22 (.tmp 10) rfl (.slice A n c) ?o1 ?o2 (.slice none 0 0) 24 Tryd.underlying36 ?o3 ?_); (case o1 => rfl); (case o2 => rfl); (case o3 => exact infoOs))
    | (at_builtin; refine Kd.R_append (Kd.raw 1) (w0 := w) (W := w) base rfl (.tmp 9) (.tmp 11) 36 22 (.slice none 0 0) 24 rfl Tryd.underlying36 infoOs rfl (by decide) (by omega) v10 (VO.map fun u => [u]) [.slice A n c] [.slice A n c] (fun _ => True) (fun _ => False) rfl rfl ⟨rfl, rfl, fun q hq => by rw [List.mem_singleton.1 hq]; rfl⟩ (fun _ h => h.elim) (fun _ _ => trivial) H.out.objs (Below.refl _ _) HT.out.2.2.2.1 HT.out.2.2.2.2 ?_; intro v1 w6 hR6 hB6 hg6 hat6; obtain ⟨A6, c6, e6⟩ := Kd.R_slice hR6; have hc6 : v1.cells = #[v1] := (by subst e6; rfl); have ho6 : v1.oneCell' = true := (by subst e6; rfl); have HA6 := Lib.hid (And.intro hc6 (And.intro ho6 (And.intro hR6 (And.intro hB6 hg6)))); clear hR6 hB6 hg6 hat6 e6 hc6 ho6)
    | ((with_reducible refine wpList_store1 rfl 36 (.tmp 14) (.tmp 12) rfl b 10 39 (bookC v5 v10) v1 ?q1 ?q2 ?q3 ?q4 ?q5 ?q6 ?q7 ?_); (case q1 => rfl); (case q2 => rfl); (case q3 => exact HA6.out.1); (case q4 => exact BookS.kept10 H.out HA6.out.2.2.2.2); (case q5 => exact (show 10 < 12 by decide)); (case q6 => kernel_rfl); (case q7 => exact HA6.out.2.1); intro w7 hh7 hk7 hb7 hz7; have hg7 : w6.grownBy w7 (some b) := grown_one (hb7 0 w6 (Below.refl _ _) (Nat.zero_le _)) hk7; have hS := BookS.stored10 H.out HA6.out.2.2.2.2 HA6.out.2.2.1 hh7 hg7; have hB7 := hb7 base w HA6.out.2.2.2.1 H.out.old; have HA7 := Lib.hid (And.intro hS (And.intro hB7 (H.out.frame10 HA6.out.2.2.2.2 hk7))); clear hS hB7 hg7 hb7 hz7))
  go_loopw [4] (fun v4 wr => ∃ k : Nat, k ≤ n ∧ v4 = .int .i64 k ∧ ∃ v5', Hid (BookS wr base b (VL ++ labsOf (T.take k)) (VO ++ [.slice A n c]) v5' v1 ∧ Below base w wr ∧ FrameT w wr)) (fun v4 _ => n - (intOf v4).toNat)
  case atStart => exact ⟨0, Nat.zero_le _, rfl, v5, Lib.hid ⟨by simpa [labsOf] using HA7.out.1, HA7.out.2⟩⟩
  case round =>
    obtain ⟨k, hk, rfl, v5', hI⟩ := hrel
    by_cases hkn : k < n
    · obtain ⟨⟨o, u4, u27⟩, ht⟩ : ∃ t, T[k]? = some t := ⟨_, List.getElem?_eq_getElem (by have := HT.out.1; omega)⟩
      obtain ⟨ad, rfl, hcells⟩ := (HT.out.2.1.below HT.out.2.2.1 hI.out.2.1).at_ k o u4 u27 ht
      have hone := HT.out.2.1.one _ (List.mem_of_getElem? ht)
      have hlen : ((VL ++ labsOf (T.take k)).length + 2) * 24 ≤ 140737488355328 := book_len HT.out.1 hn
      have hszr : base ≤ wr.heap.size := Nat.le_trans HT.out.2.2.2.1 hI.out.2.1.size
      have hlk : (k : Int) < (n : Int) := by omega
      have HC := Lib.hid (And.intro hcells (And.intro hone (And.intro hlen (And.intro hszr ht))))
      clear hcells hone hlen hszr ht
      go_wp2_with (first
        | ((with_reducible refine wpList_load_any_w ?g0 48 (.tmp 24) rfl (ad.add (k * 32)) ?g1 (o.cells u4 u27) _ ?g2 Tryd.underlying48 rfl ?g3 ?_); (case g0 => rfl); (case g1 => rfl); (case g2 => intro j u hu; rw [add_add]; exact HC.out.1 j u hu); (case g3 => exact infoO1))
        | (go_at_call 51; (with_reducible refine (bookObject_calls b base o u4 u27 v5' v1 HC.out.2.1.1 HC.out.2.1.2 _ (VL ++ labsOf (T.take k)) (VO ++ [.slice (some ad) n c]) hI.out.1 HC.out.2.2.1 HC.out.2.2.2.1).mono ?_); rintro e w2 ⟨rfl, ⟨v5'', hS2⟩, hb2, hf2⟩; rw [List.append_assoc, List.append_assoc, ← List.append_assoc (labsOf (T.take k)), ← labsOf_take HC.out.2.2.2.2] at hS2; have HS2 := Lib.hid (And.intro hS2 (And.intro (hI.out.2.1.trans hb2) (hI.out.2.2.trans hf2))); clear hS2 hb2 hf2))
      go_roundw
      case rel => exact ⟨k + 1, by omega, by go_num, v5'', HS2⟩
      case measure => simp [intOf]; omega
    · obtain rfl : n = k := by omega
      have hfin := hI.out
      rw [List.take_of_length_le (Nat.le_of_eq HT.out.1)] at hfin
      replace hfin := Lib.hid hfin
      go_wp2
      go_end0
      exact ⟨rfl, ⟨_, _, hfin.out.1⟩, hfin.out.2⟩
end Go.Proofs.YtoepbjgldmgaoaaDoor

/- apartObjects, plainly: lists of objects, each of its own block; two cells of each object are marked. -/
namespace Go.Proofs.YtoepbjgldmgaoaaDoor
open Go.RowKit Go.Proofs.YtoepbjgldmgaoaaDoorW.PrintWords Go.Proofs.YtoepbjgldmgaoaaDoorW.PrintLast
def mkB (n i : Nat) : Int := if i < n then (i : Int) else 1000 + ((i : Int) - (n : Int))
def mF : Nat := 18446744073709551616
inductive OV (w : World) (k m : Nat) : Value → Prop
  | nil : OV w k m (.slice none 0 0)
  | one (b n c : Nat) (cur : Array Value) (hn : n ≤ c) (hx : c ≤ 9223372036854775807) (hh : w.heap[b]? = some (.cells cur 48 (0, 0))) (hs : c * 32 ≤ cur.size)
      (hm : ∀ i, i < m → i < c → i < n + 64 → cur[i * 32 + 2]? = some (.int .i64 (-7 - (k : Int))) ∧ cur[i * 32 + 3]? = some (.int .i64 (mkB n i))) : OV w k m (.slice (some ⟨b, 0, none⟩) n c)
theorem OV.fin {w : World} {k m m' : Nat} {b n c : Nat} (h : OV w k m (.slice (some ⟨b, 0, none⟩) n c)) (hl : c ≤ m ∨ n + 64 ≤ m) : OV w k m' (.slice (some ⟨b, 0, none⟩) n c) := by
  cases h with
  | one _ _ _ cur hn hx hh hs hm => exact .one b n c cur hn hx hh hs (fun i _ hc h6 => hm i (by omega) hc h6)
theorem OV.keep {w w1 : World} {k m : Nat} {v : Value} (h : OV w k m v) (hb : ∀ b, v.ownBlock = some b → b < w.heap.size → w1.heap[b]? = w.heap[b]?) : OV w1 k m v := by
  cases h with
  | nil => exact .nil
  | one b n c cur hn hx hh hs hm => exact .one b n c cur hn hx ((hb b rfl (blkLt hh)).trans hh) hs hm
theorem OV.below {w w1 : World} {k m : Nat} {v : Value} (h : OV w k m v) (hb : Below w.heap.size w w1) : OV w1 k m v := h.keep fun b _ hl => hb.block b hl
theorem OV.open_ {w : World} {k m b n c : Nat} (h : OV w k m (.slice (some ⟨b, 0, none⟩) n c)) : ∃ cur : Array Value, n ≤ c ∧ c ≤ 9223372036854775807 ∧ w.heap[b]? = some (.cells cur 48 (0, 0)) ∧ c * 32 ≤ cur.size ∧
    ∀ i, i < m → i < c → i < n + 64 → cur[i * 32 + 2]? = some (.int .i64 (-7 - (k : Int))) ∧ cur[i * 32 + 3]? = some (.int .i64 (mkB n i)) := by
  cases h with
  | one _ _ _ cur hn hx hh hs hm => exact ⟨cur, hn, hx, hh, hs, hm⟩
theorem OV.step {w w1 : World} {k i : Nat} {b n c : Nat} (h : OV w k i (.slice (some ⟨b, 0, none⟩) n c)) (hi : i < c) {cur : Array Value} (hc : w.heap[b]? = some (.cells cur 48 (0, 0)))
    (h1 : w1.heap[b]? = some (.cells ((cur.setIfInBounds (i * 32 + 2) (.int .i64 (-7 - (k : Int)))).setIfInBounds (i * 32 + 3) (.int .i64 (mkB n i))) 48 (0, 0))) : OV w1 k (i + 1) (.slice (some ⟨b, 0, none⟩) n c) := by
  cases h with
  | one _ _ _ cur' hn hx hh hs hm =>
    rw [hc] at hh
    injection hh with hh
    injection hh with hh
    subst hh
    refine .one b n c _ hn hx h1 (by simpa using hs) (fun j hj hjc hj6 => ?_)
    have hsz : j * 32 + 3 < cur.size := by omega
    by_cases e : j = i
    · subst e
      refine ⟨?_, ?_⟩
      · rw [Array.getElem?_setIfInBounds_ne (by omega), Array.getElem?_setIfInBounds_self_of_lt (by omega)]
      · rw [Array.getElem?_setIfInBounds_self_of_lt (by simpa using hsz)]
    · obtain ⟨p, q⟩ := hm j (by omega) hjc hj6
      refine ⟨?_, ?_⟩
      · rw [Array.getElem?_setIfInBounds_ne (by omega), Array.getElem?_setIfInBounds_ne (by omega)]
        exact p
      · rw [Array.getElem?_setIfInBounds_ne (by omega), Array.getElem?_setIfInBounds_ne (by omega)]
        exact q
structure OVs (w : World) (V : List Value) (m : Nat → Nat) : Prop where
  row : ∀ k v, V[k]? = some v → OV w k (m k) v
theorem OVs.below {w w1 : World} {V : List Value} {m : Nat → Nat} (h : OVs w V m) (hb : Below w.heap.size w w1) : OVs w1 V m := ⟨fun k v hv => (h.row k v hv).below hb⟩
theorem OVs.congr {w : World} {V : List Value} {m m' : Nat → Nat} (h : OVs w V m) (e : ∀ k, m k = m' k) : OVs w V m' := ⟨fun k v hv => by rw [← e k]; exact h.row k v hv⟩
theorem OVs.turn {w w1 : World} {V : List Value} {k m0 i : Nat} (h : OVs w V (fun j => if j < k then mF else if j = k then m0 else 0)) (ha : ApartV V) {v : Value} (hk : V[k]? = some v) (hb : ∀ b, v.ownBlock ≠ some b → w1.heap[b]? = w.heap[b]?) (hR : OV w1 k i v) :
    OVs w1 V (fun j => if j < k then mF else if j = k then i else 0) := by
  refine ⟨fun j u hu => ?_⟩
  by_cases hj : j = k
  · subst hj
    rw [hk] at hu
    obtain rfl := Option.some.inj hu
    simpa using hR
  · have h0 := (h.row j u hu).keep (w1 := w1) fun b hb1 hl => hb b (fun e => ha j k u v hj hu hk b hb1 e)
    simpa only [hj, if_false] using h0
theorem OVs.start {w : World} {V : List Value} {k : Nat} (h : OVs w V (fun j => if j < k then mF else 0)) : OVs w V (fun j => if j < k then mF else if j = k then 0 else 0) := h.congr fun j => by simp
theorem OVs.next {w : World} {V : List Value} {k m0 : Nat} (h : OVs w V (fun j => if j < k then mF else if j = k then m0 else 0)) {v : Value} (hk : V[k]? = some v) (hR : OV w k mF v) : OVs w V (fun j => if j < k + 1 then mF else 0) := by
  refine ⟨fun j u hu => ?_⟩
  by_cases hj : j = k
  · subst hj
    rw [hk] at hu
    obtain rfl := Option.some.inj hu
    simpa using hR
  · have h0 := h.row j u hu
    have e : (j < k + 1) = (j < k) := by simp; omega
    simpa only [e, hj, if_false] using h0
theorem OnlyB.stored {G : Nat → Prop} {w w1 : World} {b : Nat} (hk : ∀ k, k ≠ b → w1.heap[k]? = w.heap[k]?) (hb : ∀ B w0, Below B w0 w → B ≤ b → Below B w0 w1) (hG : G b) : OnlyB G w w1 := by
  have h0 := hb 0 w (Below.refl _ _) (Nat.zero_le _)
  exact ⟨h0.os, h0.tape, h0.output, h0.size, fun k _ hn => hk k (fun e => hn (e ▸ hG))⟩
theorem cut_spare (b n c : Nat) (hn : n ≤ c) :
    ∃ A' : Option Addr, (∀ W : World, (Instr.slice 22 (.slice (some ⟨b, 0, none⟩) n c) (some (.int .i64 (n : Int))) (some (.int .i64 (c : Int))) none).run Tryd.prog W = .ok (.slice A' (c - n) (c - n)) W) ∧ (0 < c - n → A' = some ⟨b, n * 32, none⟩) := by
  have ht := Tryd.underlying22
  obtain ⟨i0, hi, hzz⟩ := Option.map_eq_some_iff.1 infoO
  simp only [Prod.mk.injEq] at hzz
  obtain ⟨_, hz1, _⟩ := hzz
  refine ⟨if c = n then some ⟨b, 0, none⟩ else some ⟨b, n * 32, none⟩, fun W => ?_, fun h => by rw [if_neg (by omega)]⟩
  have hel : Tryd.prog.elem 22 = 48 := by simp [Program.elem, ht]
  have hu : Tryd.prog.underlying 22 = some (.slice (Tryd.prog.elem 22)) := by rw [hel]; exact ht
  rw [run_slice_lh W 22 (some ⟨b, 0, none⟩) n c hu .i64 .i64 (n : Int) (c : Int) (Int.natCast_nonneg _) (by omega) (by omega), hel]
  simp [sizeOf, typeInfo, hi, hz1, sliced, Result.andThen, add_at]
end Go.Proofs.YtoepbjgldmgaoaaDoor

/- apartObjects walked: lists of objects, each of its own block, are marked, their spare room too, and hold the marks. -/
namespace Go.Proofs.YtoepbjgldmgaoaaDoor
open Go.RowKit Go.Proofs.YtoepbjgldmgaoaaDoorW.PrintWords Go.Proofs.YtoepbjgldmgaoaaDoorW.PrintLast
theorem zero_apartObjects (A : Option Addr) (c : Nat) (w : World) : Calls Tryd.prog 52 #[.slice A 0 c] w fun e w' => e = .returned (.bool true) ∧ w' = w := by
  go_enter Tryd.func52, Tryd.ntmps52
  go_wp2
  go_rounds 1
  go_rounds 1
  go_ret
  exact ⟨rfl, rfl⟩
set_option maxHeartbeats 4000000 in
set_option maxRecDepth 100000 in
theorem apartObjects_calls (ad : Addr) (cap N : Nat) (V : List Value) (w : World) (hVN : V.length = N) (hN : N ≤ 1000000) (hrow : RowV w ad V) (hB : OVs w V (fun _ => 0)) (ha : ApartV V) :
    Calls Tryd.prog 52 #[.slice (some ad) N cap] w fun e w' => e = .returned (.bool true) ∧ OnlyB (inV V) w w' := by
  have HRow := Lib.hid hrow
  have HBk := Lib.hid hB
  have HA := Lib.hid ha
  have HL := Lib.hid hVN
  clear hrow hB ha hVN
  go_enter Tryd.func52, Tryd.ntmps52
  go_wp2
  go_loopw [3] (fun v3 wr => ∃ k : Nat, k ≤ N ∧ v3 = .int .i64 k ∧ Hid (OVs wr V (fun j => if j < k then mF else 0) ∧ OnlyB (inV V) w wr)) (fun v3 _ => N - (intOf v3).toNat)
  case atStart => exact ⟨0, Nat.zero_le _, rfl, Lib.hid ⟨HBk.out.congr (fun k => by rw [if_neg (by omega)]), OnlyB.refl _ _⟩⟩
  case round =>
    obtain ⟨k, hk, rfl, hI⟩ := hrel
    by_cases hkn : k < N
    · obtain ⟨v, hv⟩ : ∃ v, V[k]? = some v := ⟨_, List.getElem?_eq_getElem (by have := HL.out; omega)⟩
      have hr := hI.out.1.row k v hv
      rw [if_neg (Nat.lt_irrefl k)] at hr
      have hlk : (k : Int) < (N : Int) := by omega
      have q1 := (HRow.out.only hI.out.2).cells k _ hv
      have hz7 : wrap64 (-7 - (k : Int)) = -7 - (k : Int) := by unfold wrap64; omega
      have HV := Lib.hid hv
      cases hr with
      | nil =>
        have hnx : Hid (OVs wr V (fun j => if j < k + 1 then mF else 0) ∧ OnlyB (inV V) w wr) := Lib.hid ⟨hI.out.1.start.next hv .nil, hI.out.2⟩
        clear hv
        go_wp2
        go_rounds 1
        go_rounds 1
        go_roundw
        case rel => exact ⟨k + 1, by omega, by go_num, hnx⟩
        case measure => simp [intOf]; omega
      | one b n c cur hn hx hh hs hm =>
        have HK := Lib.hid (And.intro hn hx)
        clear hh hs hm hv cur
        have hst := Lib.hid (And.intro hI.out.1.start hI.out.2)
        go_wp2
        rename World => wo
        go_loopw [4] (fun v4 wr => ∃ i : Nat, i ≤ n ∧ v4 = .int .i64 i ∧ Hid (OVs wr V (fun j => if j < k then mF else if j = k then i else 0) ∧ OnlyB (inV V) w wr)) (fun v4 _ => n - (intOf v4).toNat)
        case atStart => exact ⟨0, Nat.zero_le _, rfl, hst⟩
        case round =>
          obtain ⟨i, hi, rfl, hJ⟩ := hrel
          have q1 := (HRow.out.only hJ.out.2).cells k _ HV.out
          by_cases hin : i < n
          · have hr := hJ.out.1.row k _ HV.out
            rw [if_neg (Nat.lt_irrefl k), if_pos rfl] at hr
            obtain ⟨cur, _, _, hh, hs, _⟩ := hr.open_
            have HC := Lib.hid (And.intro hh (And.intro hs hr))
            have hini : (i : Int) < (n : Int) := by omega
            have hbb : inV V b := ⟨_, List.mem_of_getElem? HV.out, rfl⟩
            clear hh hs hr
            go_wp2_with (first
              | ((with_reducible refine wpList_store1 rfl 3 (.tmp 36) (.tmp 34) rfl b (i * 32 + 2) 48 cur (.int .i64 (-7 - (k : Int))) ?q1 ?q2 ?q3 ?q4 ?q5 ?q6 ?q7 ?_); (case q1 => rfl); (case q2 => rfl); (case q3 => rfl); (case q4 => exact HC.out.1); (case q5 => (have := HC.out.2.1; have := HK.out.1; omega)); (case q6 => kernel_rfl); (case q7 => rfl); intro w6 hh6 hk6 hb6 hz6; have HO6 := Lib.hid (And.intro hh6 (And.intro hk6 (hJ.out.2.trans (OnlyB.stored hk6 hb6 hbb)))); have q2 := (HRow.out.only HO6.out.2.2).cells k _ HV.out; clear hh6 hk6 hb6 hz6)
              | ((with_reducible refine wpList_store1 rfl 3 (.tmp 44) (.tmp 42) rfl b (i * 32 + 3) 48 (cur.setIfInBounds (i * 32 + 2) (.int .i64 (-7 - (k : Int)))) (.int .i64 (i : Int)) ?r1 ?r2 ?r3 ?r4 ?r5 ?r6 ?r7 ?_); (case r1 => rfl); (case r2 => rfl); (case r3 => rfl); (case r4 => exact HO6.out.1); (case r5 => (rw [Array.size_setIfInBounds]; have := HC.out.2.1; have := HK.out.1; omega)); (case r6 => kernel_rfl); (case r7 => rfl); intro w7 hh7 hk7 hb7 hz7; have hst7 : Hid (OVs w7 V (fun j => if j < k then mF else if j = k then i + 1 else 0) ∧ OnlyB (inV V) w w7) := Lib.hid ⟨hJ.out.1.turn HA.out HV.out (fun g hg => (hk7 g (fun e => hg (by rw [e]; rfl))).trans (HO6.out.2.1 g (fun e => hg (by rw [e]; rfl)))) (OV.step HC.out.2.2 (by have := HK.out.1; omega) HC.out.1 (by rw [hh7, mkB, if_pos hin])), HO6.out.2.2.trans (OnlyB.stored hk7 hb7 hbb)⟩; clear hh7 hk7 hb7 hz7))
            go_roundw
            case rel => exact ⟨i + 1, by omega, by go_num, hst7⟩
            case measure => simp [intOf]; omega
          · obtain rfl : n = i := by omega
            obtain ⟨A6, hcut, hA6⟩ := cut_spare b n c HK.out.1
            have hA6 := Lib.hid hA6
            have hcn : (n : Int) ≤ (c : Int) := by have := HK.out.1; omega
            go_wp2
            rename World => wo2
            go_loopw [7] (fun v7 wr => ∃ i : Nat, i ≤ c - n ∧ i ≤ 64 ∧ v7 = .int .i64 i ∧ Hid (OVs wr V (fun j => if j < k then mF else if j = k then n + i else 0) ∧ OnlyB (inV V) w wr)) (fun v7 _ => c - n - (intOf v7).toNat)
            case atStart => exact ⟨0, Nat.zero_le _, Nat.zero_le _, rfl, hJ⟩
            case round =>
              obtain ⟨i, hi, hi6, rfl, hJ⟩ := hrel
              by_cases hin : i < c - n
              · by_cases hi64 : i < 64
                · have hr := hJ.out.1.row k _ HV.out
                  rw [if_neg (Nat.lt_irrefl k), if_pos rfl] at hr
                  obtain ⟨cur, _, _, hh, hs, _⟩ := hr.open_
                  obtain rfl := hA6.out (by omega)
                  have HC := Lib.hid (And.intro hh (And.intro hs hr))
                  have hini : (i : Int) < ((c - n : Nat) : Int) := by omega
                  have hi64' : (i : Int) < 64 := by omega
                  have hwi : wrap64 (1000 + (i : Int)) = 1000 + (i : Int) := by unfold wrap64; omega
                  have hbb : inV V b := ⟨_, List.mem_of_getElem? HV.out, rfl⟩
                  clear hh hs hr
                  go_wp2_with (first
                    | ((with_reducible refine wpList_store1 rfl 3 (.tmp 70) (.tmp 68) rfl b (n * 32 + i * 32 + 2) 48 cur (.int .i64 (-7 - (k : Int))) ?q1 ?q2 ?q3 ?q4 ?q5 ?q6 ?q7 ?_); (case q1 => rfl); (case q2 => rfl); (case q3 => rfl); (case q4 => exact HC.out.1); (case q5 => (have := HC.out.2.1; have := HK.out.1; omega)); (case q6 => kernel_rfl); (case q7 => rfl); intro w6 hh6 hk6 hb6 hz6; have HO6 := Lib.hid (And.intro hh6 (And.intro hk6 (hJ.out.2.trans (OnlyB.stored hk6 hb6 hbb)))); clear hh6 hk6 hb6 hz6)
                    | ((with_reducible refine wpList_store1 rfl 3 (.tmp 76) (.tmp 74) rfl b (n * 32 + i * 32 + 3) 48 (cur.setIfInBounds (n * 32 + i * 32 + 2) (.int .i64 (-7 - (k : Int)))) (.int .i64 (1000 + (i : Int))) ?r1 ?r2 ?r3 ?r4 ?r5 ?r6 ?r7 ?_); (case r1 => rfl); (case r2 => rfl); (case r3 => rfl); (case r4 => exact HO6.out.1); (case r5 => (rw [Array.size_setIfInBounds]; have := HC.out.2.1; have := HK.out.1; omega)); (case r6 => kernel_rfl); (case r7 => rfl); intro w7 hh7 hk7 hb7 hz7; have hst7 : Hid (OVs w7 V (fun j => if j < k then mF else if j = k then n + (i + 1) else 0) ∧ OnlyB (inV V) w w7) := Lib.hid ⟨hJ.out.1.turn HA.out HV.out (fun g hg => (hk7 g (fun e => hg (by rw [e]; rfl))).trans (HO6.out.2.1 g (fun e => hg (by rw [e]; rfl)))) (OV.step (i := n + i) HC.out.2.2 (by omega) HC.out.1 (by rw [hh7, mkB, if_neg (by omega), Nat.add_mul, show 1000 + (((n + i : Nat) : Int) - (n : Int)) = 1000 + (i : Int) by omega])), HO6.out.2.2.trans (OnlyB.stored hk7 hb7 hbb)⟩; clear hh7 hk7 hb7 hz7))
                  go_roundw
                  case rel => exact ⟨i + 1, by omega, by omega, by go_num, hst7⟩
                  case measure => simp [intOf]; omega
                · obtain rfl : i = 64 := by omega
                  have hnx : Hid (OVs wr V (fun j => if j < k + 1 then mF else 0) ∧ OnlyB (inV V) w wr) := Lib.hid ⟨hJ.out.1.next HV.out (by
                    have hr := hJ.out.1.row k _ HV.out
                    rw [if_neg (Nat.lt_irrefl k), if_pos rfl] at hr
                    exact hr.fin (.inr (Nat.le_refl _))), hJ.out.2⟩
                  have hini : (64 : Int) < ((c - n : Nat) : Int) := by omega
                  go_wp2
                  go_roundw
                  case rel => exact ⟨k + 1, by omega, by go_num, hnx⟩
                  case measure => simp [intOf]; omega
              · have hic : i = c - n := by omega
                subst hic
                have hnx : Hid (OVs wr V (fun j => if j < k + 1 then mF else 0) ∧ OnlyB (inV V) w wr) := Lib.hid ⟨hJ.out.1.next HV.out (by
                    have hr := hJ.out.1.row k _ HV.out
                    rw [if_neg (Nat.lt_irrefl k), if_pos rfl] at hr
                    exact hr.fin (.inl (by have := HK.out.1; omega))), hJ.out.2⟩
                go_wp2
                go_roundw
                case rel => exact ⟨k + 1, by omega, by go_num, hnx⟩
                case measure => simp [intOf]; omega
    · obtain rfl : N = k := by omega
      have HF := Lib.hid (And.intro hI.out.1 (And.intro hI.out.2 (HRow.out.only hI.out.2)))
      clear hI
      rename World => wa
      go_wp2
      go_loopw [8] (fun v8 wr => ∃ k : Nat, k ≤ N ∧ v8 = .int .i64 k ∧ wr = wa) (fun v8 _ => N - (intOf v8).toNat)
      case atStart => exact ⟨0, Nat.zero_le _, rfl, rfl⟩
      case round =>
        obtain ⟨k, hk, rfl, rfl⟩ := hrel
        by_cases hkn : k < N
        · obtain ⟨v, hv⟩ : ∃ v, V[k]? = some v := ⟨_, List.getElem?_eq_getElem (by have := HL.out; omega)⟩
          have hr := HF.out.1.row k v hv
          rw [if_pos hkn] at hr
          have hlk : (k : Int) < (N : Int) := by omega
          have q1 := HF.out.2.2.cells k _ hv
          have hz7 : wrap64 (-7 - (k : Int)) = -7 - (k : Int) := by unfold wrap64; omega
          have HV := Lib.hid hv
          cases hr with
          | nil =>
            clear hv
            go_wp2
            go_rounds 1
            go_rounds 1
            go_roundw
            case rel => exact ⟨k + 1, by omega, by go_num, by first | rfl | trivial⟩
            case measure => simp [intOf]; omega
          | one b n c cur hn hx hh hs hm =>
            have HK := Lib.hid (And.intro hn hx)
            have HC : Hid (∀ i, i < c → i < n + 64 → wr.cell? ⟨b, i * 32 + 2, none⟩ = some (.int .i64 (-7 - (k : Int))) ∧ wr.cell? ⟨b, i * 32 + 3, none⟩ = some (.int .i64 (mkB n i))) := Lib.hid fun i hi h6 => by
              have hm' := hm i (by show i < 18446744073709551616; omega) hi h6
              rw [cell_of_row _ b _ cur _ _ hh, cell_of_row _ b _ cur _ _ hh]
              exact hm'
            clear hh hs hm hv cur
            go_wp2
            rename World => wo
            go_loopw [9] (fun v9 wr => ∃ i : Nat, i ≤ n ∧ v9 = .int .i64 i ∧ wr = wo) (fun v9 _ => n - (intOf v9).toNat)
            case atStart => exact ⟨0, Nat.zero_le _, rfl, rfl⟩
            case round =>
              obtain ⟨i, hi, rfl, rfl⟩ := hrel
              by_cases hin : i < n
              · obtain ⟨c1, c2⟩ := HC.out i (by have := HK.out.1; omega) (by omega)
                rw [mkB, if_pos hin] at c2
                have hini : (i : Int) < (n : Int) := by omega
                go_wp2
                go_roundw
                case rel => exact ⟨i + 1, by omega, by go_num, by first | rfl | trivial⟩
                case measure => simp [intOf]; omega
              · obtain rfl : n = i := by omega
                obtain ⟨A6, hcut, hA6⟩ := cut_spare b n c HK.out.1
                have hA6 := Lib.hid hA6
                have hcn : (n : Int) ≤ (c : Int) := by have := HK.out.1; omega
                go_wp2
                rename World => wo2
                go_loopw [12] (fun v12 wr => ∃ i : Nat, i ≤ c - n ∧ i ≤ 64 ∧ v12 = .int .i64 i ∧ wr = wo2) (fun v12 _ => c - n - (intOf v12).toNat)
                case atStart => exact ⟨0, Nat.zero_le _, Nat.zero_le _, rfl, rfl⟩
                case round =>
                  obtain ⟨i, hi, hi6, rfl, rfl⟩ := hrel
                  by_cases hin : i < c - n
                  · by_cases hi64 : i < 64
                    · obtain ⟨c1, c2⟩ := HC.out (n + i) (by omega) (by omega)
                      obtain rfl := hA6.out (by omega)
                      rw [mkB, if_neg (by omega), show 1000 + (((n + i : Nat) : Int) - (n : Int)) = 1000 + (i : Int) by omega, Nat.add_mul] at c2
                      rw [Nat.add_mul] at c1
                      have hini : (i : Int) < ((c - n : Nat) : Int) := by omega
                      have hi64' : (i : Int) < 64 := by omega
                      have hwi : wrap64 (1000 + (i : Int)) = 1000 + (i : Int) := by unfold wrap64; omega
                      go_wp2
                      go_roundw
                      case rel => exact ⟨i + 1, by omega, by omega, by go_num, by first | rfl | trivial⟩
                      case measure => simp [intOf]; omega
                    · obtain rfl : i = 64 := by omega
                      have hini : (64 : Int) < ((c - n : Nat) : Int) := by omega
                      go_wp2
                      go_roundw
                      case rel => exact ⟨k + 1, by omega, by go_num, by first | rfl | trivial⟩
                      case measure => simp [intOf]; omega
                  · have hic : i = c - n := by omega
                    subst hic
                    go_wp2
                    go_roundw
                    case rel => exact ⟨k + 1, by omega, by go_num, by first | rfl | trivial⟩
                    case measure => simp [intOf]; omega
        · obtain rfl : N = k := by omega
          go_wp2
          go_ret
          exact ⟨rfl, HF.out.2.1⟩
end Go.Proofs.YtoepbjgldmgaoaaDoor

/- The book's other lists are empty: no round of any loop. -/
namespace Go.Proofs.YtoepbjgldmgaoaaDoor
set_option maxRecDepth 100000
open Go.RowKit Go.Proofs.YtoepbjgldmgaoaaDoorW.PrintWords Go.Proofs.YtoepbjgldmgaoaaDoorW.PrintLast
theorem nil_apartOps (w : World) : Calls Tryd.prog 53 #[.slice none 0 0] w fun e w' => e = .returned (.bool true) ∧ w' = w := by
  go_enter Tryd.func53, Tryd.ntmps53
  go_wp2
  go_rounds 1
  go_rounds 1
  go_ret
  exact ⟨rfl, rfl⟩
theorem nil_ApartBytes (w : World) : Calls Tryd.prog 54 #[.slice none 0 0] w fun e w' => e = .returned (.bool true) ∧ w' = w := by
  go_enter Tryd.func54, Tryd.ntmps54
  go_wp2
  go_rounds 1
  go_rounds 1
  go_rounds 1
  go_ret
  exact ⟨rfl, rfl⟩
theorem nil_ApartTexts (w : World) : Calls Tryd.prog 55 #[.slice none 0 0] w fun e w' => e = .returned (.bool true) ∧ w' = w := by
  go_enter Tryd.func55, Tryd.ntmps55
  go_wp2
  go_rounds 1
  go_rounds 1
  go_rounds 1
  go_ret
  exact ⟨rfl, rfl⟩
theorem nil_ApartInts (w : World) : Calls Tryd.prog 56 #[.slice none 0 0] w fun e w' => e = .returned (.bool true) ∧ w' = w := by
  go_enter Tryd.func56, Tryd.ntmps56
  go_wp2
  go_rounds 1
  go_rounds 1
  go_rounds 1
  go_ret
  exact ⟨rfl, rfl⟩
theorem nil_ApartNumbers (w : World) : Calls Tryd.prog 57 #[.slice none 0 0] w fun e w' => e = .returned (.bool true) ∧ w' = w := by
  go_enter Tryd.func57, Tryd.ntmps57
  go_wp2
  go_rounds 1
  go_rounds 1
  go_rounds 1
  go_ret
  exact ⟨rfl, rfl⟩
theorem nil_ApartBools (w : World) : Calls Tryd.prog 58 #[.slice none 0 0] w fun e w' => e = .returned (.bool true) ∧ w' = w := by
  go_enter Tryd.func58, Tryd.ntmps58
  go_wp2
  go_rounds 1
  go_rounds 1
  go_rounds 1
  go_ret
  exact ⟨rfl, rfl⟩
theorem nil_ApartKeys (w : World) : Calls Tryd.prog 60 #[.slice none 0 0] w fun e w' => e = .returned (.bool true) ∧ w' = w := by
  go_enter Tryd.func60, Tryd.ntmps60
  go_wp2
  go_rounds 1
  go_rounds 1
  go_rounds 1
  go_ret
  exact ⟨rfl, rfl⟩
theorem nil_ApartConds (w : World) : Calls Tryd.prog 61 #[.slice none 0 0] w fun e w' => e = .returned (.bool true) ∧ w' = w := by
  go_enter Tryd.func61, Tryd.ntmps61
  go_wp2
  go_rounds 1
  go_rounds 1
  go_rounds 1
  go_ret
  exact ⟨rfl, rfl⟩
theorem nil_ApartAmounts (w : World) : Calls Tryd.prog 62 #[.slice none 0 0] w fun e w' => e = .returned (.bool true) ∧ w' = w := by
  go_enter Tryd.func62, Tryd.ntmps62
  go_wp2
  go_rounds 1
  go_rounds 1
  go_rounds 1
  go_ret
  exact ⟨rfl, rfl⟩
theorem nil_ApartProbes (w : World) : Calls Tryd.prog 63 #[.slice none 0 0] w fun e w' => e = .returned (.bool true) ∧ w' = w := by
  go_enter Tryd.func63, Tryd.ntmps63
  go_wp2
  go_rounds 1
  go_rounds 1
  go_rounds 1
  go_ret
  exact ⟨rfl, rfl⟩
end Go.Proofs.YtoepbjgldmgaoaaDoor

/- Book.Apart walked: what a Book holds has memory of its own. -/
namespace Go.Proofs.YtoepbjgldmgaoaaDoor
open Go.RowKit Go.Proofs.YtoepbjgldmgaoaaDoorW.PrintWords Go.Proofs.YtoepbjgldmgaoaaDoorW.PrintLast
theorem zero_ApartLabels (A : Option Addr) (c : Nat) (w : World) : Calls Tryd.prog 59 #[.slice A 0 c] w fun e w' => e = .returned (.bool true) ∧ w' = w := by
  go_enter Tryd.func59, Tryd.ntmps59
  go_wp2
  go_rounds 1
  go_rounds 1
  go_rounds 1
  go_ret
  exact ⟨rfl, rfl⟩
theorem row_of {w : World} {base : Nat} {t : TypeId} {v : Value} {V : List Value} (h : (Kd.raw 1).R t w base (fun _ => True) v (V.map fun u => [u])) (hout : ∀ k, inV V k → ∃ cells t', t' ≠ t ∧ w.heap[k]? = some (.cells cells t' (0, 0))) (hne : 0 < V.length) :
    ∃ ad c, v = .slice (some ad) V.length c ∧ RowV w ad V := by
  obtain ⟨A, c, e⟩ := Kd.R_slice h
  rw [List.length_map] at e
  have hr := h
  rw [e] at hr
  have hC := (Kd.R_reads' hr).2.2
  rw [List.length_map] at hC
  obtain ⟨u, hu⟩ : ∃ u, V[0]? = some u := ⟨_, List.getElem?_eq_getElem hne⟩
  obtain ⟨ad, rfl⟩ := rawSome hC hu
  have hb : v.ownBlock = some ad.block := by rw [e]; rfl
  refine ⟨ad, c, e, fun k x hx => rawCell hC hx, Kd.R_lt h _ hb, fun hk => ?_⟩
  obtain ⟨cells, t', hne', hh⟩ := hout _ hk
  obtain ⟨cells2, hh2⟩ := Kd.R_typed h _ hb
  rw [hh] at hh2
  injection hh2 with hh2
  injection hh2 with _ hh2
  exact hne' hh2
theorem OVs.typed {w : World} {V : List Value} {m : Nat → Nat} (h : OVs w V m) {k : Nat} (hk : inV V k) : ∃ cells, w.heap[k]? = some (.cells cells 48 (0, 0)) := by
  obtain ⟨v, hv, hb⟩ := hk
  obtain ⟨j, hj⟩ := List.mem_iff_getElem?.1 hv
  cases h.row j v hj with
  | nil => simp [Value.ownBlock] at hb
  | one b n c cur hn hx hh hs hm =>
    obtain rfl : b = k := by simpa [Value.ownBlock] using hb
    exact ⟨cur, hh⟩
theorem Bk.typed {w : World} {base : Nat} {V : List Value} {L : Nat → List Lab} (h : Bk w base V L) {k : Nat} (hk : inV V k) : ∃ cells, w.heap[k]? = some (.cells cells 98 (0, 0)) := by
  obtain ⟨v, hv, hb⟩ := hk
  obtain ⟨j, hj⟩ := List.mem_iff_getElem?.1 hv
  exact Kd.R_typed (h.row j v hj) k hb
theorem apart_types {w : World} {base : Nat} {V U : List Value} {L : Nat → List Lab} {m : Nat → Nat} (h : Bk w base V L) (g : OVs w U m) {k : Nat} (hk : inV V k) : ¬ inV U k := fun hu => lab_ne_obj (h.typed hk) (g.typed hu)
theorem Bk.only {w w1 : World} {base : Nat} {V U : List Value} {L : Nat → List Lab} {m : Nat → Nat} (h : Bk w base V L) (g : OVs w U m) (hb : OnlyB (inV U) w w1) : Bk w1 base V L :=
  ⟨fun k v hv => Kd.R_move (h.row k v hv) fun b hbk => hb.block b (Kd.R_lt (h.row k v hv) b hbk.symm) (apart_types h g ⟨v, List.mem_of_getElem? hv, hbk.symm⟩)⟩
theorem OnlyB.mono {G H : Nat → Prop} {w w1 : World} (h : OnlyB G w w1) (hg : ∀ k, G k → H k) : OnlyB H w w1 := ⟨h.os, h.tape, h.output, h.size, fun k hk hn => h.block k hk (fun e => hn (hg k e))⟩
theorem OnlyB.at_ {G : Nat → Prop} {w w1 : World} {b : Nat} {o : Obj} (h : OnlyB G w w1) (hb : w.heap[b]? = some o) (hg : ¬ G b) : w1.heap[b]? = some o := (h.block b (blkLt hb) hg).trans hb
theorem book_cell {w : World} {b : Nat} {v5 v10 : Value} (h : w.heap[b]? = some (.cells (bookC v5 v10) 39 (0, 0))) (i : Nat) {u : Value} (hu : (bookC v5 v10)[i]? = some u) : w.cell? ⟨b, i, none⟩ = some u := by rw [cell_of_row w b i _ _ _ h]; exact hu
set_option maxHeartbeats 1600000 in
set_option maxRecDepth 100000 in
theorem bookApart_calls (b base baseL : Nat) (v5 v10 : Value) (VL VO : List Value) (LS : Nat → List Lab) (w : World) (h : BookS w base b VL VO v5 v10) (hO : OVs w VO (fun _ => 0)) (haO : ApartV VO) (hNO : VO.length ≤ 1000000) (hL : Bk w baseL VL LS) (hbL : baseL ≤ w.heap.size) (haL : ApartV VL) (hNL : VL.length ≤ 1000000)
    (hlen : ∀ k, k < VL.length → (LS k).length ≤ 4398046510976) :
    Calls Tryd.prog 17 #[.pointer (some ⟨b, 0, none⟩)] w fun e w' => e = .returned (.bool true) ∧ OnlyB (fun k => inV VO k ∨ inV VL k) w w' := by
  have hbO : ¬ inV VO b := fun hk => by
    obtain ⟨c, hc⟩ := hO.typed hk
    rw [h.heap] at hc
    injection hc with hc
    injection hc with _ hc
    exact absurd hc (by decide)
  have hbV : ¬ inV VL b := fun hk => by
    obtain ⟨c, hc⟩ := hL.typed hk
    rw [h.heap] at hc
    injection hc with hc
    injection hc with _ hc
    exact absurd hc (by decide)
  have H1 : Hid (Calls Tryd.prog 52 #[v10] w fun e w' => e = .returned (.bool true) ∧ OnlyB (inV VO) w w') := Lib.hid (by
    rcases Nat.eq_zero_or_pos VO.length with e | e
    · obtain ⟨A, c, e1⟩ := Kd.R_slice h.objs
      rw [List.length_map, e] at e1
      rw [e1]
      refine (zero_apartObjects A c w).mono ?_
      rintro e w1 ⟨rfl, rfl⟩
      exact ⟨rfl, OnlyB.refl _ _⟩
    · obtain ⟨ad, c, rfl, hrow⟩ := row_of h.objs (fun k hk => by
        obtain ⟨cells, hc⟩ := hO.typed hk
        exact ⟨cells, _, by decide, hc⟩) e
      exact apartObjects_calls ad c VO.length VO w rfl hNO hrow hO haO)
  have H2 : Hid (∀ w1, OnlyB (inV VO) w w1 → Calls Tryd.prog 59 #[v5] w1 fun e w' => e = .returned (.bool true) ∧ OnlyB (inV VL) w1 w') := Lib.hid (fun w1 hw1 => by
    rcases Nat.eq_zero_or_pos VL.length with e | e
    · obtain ⟨A, c, e1⟩ := Kd.R_slice h.labs
      rw [List.length_map, e] at e1
      rw [e1]
      refine (zero_ApartLabels A c w1).mono ?_
      rintro e w1 ⟨rfl, rfl⟩
      exact ⟨rfl, OnlyB.refl _ _⟩
    · obtain ⟨ad, c, rfl, hrow⟩ := row_of h.labs (fun k hk => by
        obtain ⟨cells, hc⟩ := hL.typed hk
        exact ⟨cells, _, by decide, hc⟩) e
      have hb1 := hL.only hO hw1
      have ht : ¬ inV VO ad.block := fun hk => by
        obtain ⟨c1, hc1⟩ := hO.typed hk
        obtain ⟨c2, hc2⟩ := Kd.R_typed h.labs ad.block rfl
        rw [hc1] at hc2
        injection hc2 with hc2
        injection hc2 with _ hc2
        exact absurd hc2 (by decide)
      have hrow1 : RowV w1 ad VL := ⟨fun k v hv => (cell_same (w := w) (w' := w1) (a := ad.add k) (by rw [add_block]; exact hw1.block _ hrow.here ht)).trans (hrow.cells k v hv), Nat.lt_of_lt_of_le hrow.here hw1.size, hrow.out⟩
      exact apartLabels_calls ad c VL.length VL LS w1 baseL rfl hNL (Nat.le_trans hbL hw1.size) hrow1 hb1 haL hlen)
  have c10 := book_cell h.heap 10 (u := v10) rfl
  have hh := Lib.hid h.heap
  have hB := Lib.hid (And.intro hbO hbV)
  clear h hO haO hL haL hbO hbV hlen
  go_enter Tryd.func17, Tryd.ntmps17
  go_wp2_with (first
    | (go_at_call 52; (with_reducible refine H1.out.mono ?_); rintro e w1 ⟨rfl, hO1⟩; have hh1 := hO1.at_ hh.out hB.out.1; have d0 := book_cell hh1 0 (u := .slice none 0 0) rfl; have d1 := book_cell hh1 1 (u := .slice none 0 0) rfl; have d2 := book_cell hh1 2 (u := .slice none 0 0) rfl; have d3 := book_cell hh1 3 (u := .slice none 0 0) rfl; have d4 := book_cell hh1 4 (u := .slice none 0 0) rfl; have d5 := book_cell hh1 5 (u := v5) rfl; have d11 := book_cell hh1 11 (u := .slice none 0 0) rfl; have HO1 := Lib.hid (And.intro hO1 hh1); clear hO1 hh1)
    | (go_at_call 53; (with_reducible refine (nil_apartOps _).mono ?_); rintro e w0 ⟨rfl, rfl⟩)
    | (go_at_call 54; (with_reducible refine (nil_ApartBytes _).mono ?_); rintro e w0 ⟨rfl, rfl⟩)
    | (go_at_call 55; (with_reducible refine (nil_ApartTexts _).mono ?_); rintro e w0 ⟨rfl, rfl⟩)
    | (go_at_call 56; (with_reducible refine (nil_ApartInts _).mono ?_); rintro e w0 ⟨rfl, rfl⟩)
    | (go_at_call 57; (with_reducible refine (nil_ApartNumbers _).mono ?_); rintro e w0 ⟨rfl, rfl⟩)
    | (go_at_call 58; (with_reducible refine (nil_ApartBools _).mono ?_); rintro e w0 ⟨rfl, rfl⟩)
    | (go_at_call 59; (with_reducible refine (H2.out _ HO1.out.1).mono ?_); rintro e w2 ⟨rfl, hO2⟩; have hh2 := hO2.at_ HO1.out.2 hB.out.2; have e6 := book_cell hh2 6 (u := .slice none 0 0) rfl; have e7 := book_cell hh2 7 (u := .slice none 0 0) rfl; have e8 := book_cell hh2 8 (u := .slice none 0 0) rfl; have e9 := book_cell hh2 9 (u := .slice none 0 0) rfl; have HO2 := Lib.hid ((HO1.out.1.mono (H := fun k => inV VO k ∨ inV VL k) (fun _ => Or.inl)).trans (hO2.mono (fun _ => Or.inr))); clear hO2 hh2)
    | (go_at_call 60; (with_reducible refine (nil_ApartKeys _).mono ?_); rintro e w0 ⟨rfl, rfl⟩)
    | (go_at_call 61; (with_reducible refine (nil_ApartConds _).mono ?_); rintro e w0 ⟨rfl, rfl⟩)
    | (go_at_call 62; (with_reducible refine (nil_ApartAmounts _).mono ?_); rintro e w0 ⟨rfl, rfl⟩)
    | (go_at_call 63; (with_reducible refine (nil_ApartProbes _).mono ?_); rintro e w0 ⟨rfl, rfl⟩))
  go_ret
  exact ⟨rfl, HO2.out⟩
end Go.Proofs.YtoepbjgldmgaoaaDoor

/- Objects of the call's own: what they and the lists within them are, for a Book. -/
namespace Go.Proofs.YtoepbjgldmgaoaaDoor
open Go.RowKit Go.Proofs.YtoepbjgldmgaoaaDoorW.PrintWords Go.Proofs.YtoepbjgldmgaoaaDoorW.PrintLast
theorem list_of {β : Type} (P : Nat → β → Prop) : ∀ n : Nat, (∀ i, i < n → ∃ t, P i t) → ∃ T : List β, T.length = n ∧ ∀ i t, T[i]? = some t → P i t
  | 0, _ => ⟨[], rfl, fun i t h => by simp at h⟩
  | n + 1, h => by
    obtain ⟨T, hl, hT⟩ := list_of P n (fun i hi => h i (by omega))
    obtain ⟨t, ht⟩ := h n (Nat.lt_succ_self n)
    refine ⟨T ++ [t], by simp [hl], fun i u hu => ?_⟩
    rcases Nat.lt_or_ge i T.length with h1 | h1
    · rw [List.getElem?_append_left h1] at hu
      exact hT i u hu
    · rw [List.getElem?_append_right h1] at hu
      have e : i - T.length = 0 := by
        have := (List.getElem?_eq_some_iff.1 hu).1
        simp at this
        omega
      rw [e] at hu
      obtain rfl : t = u := by simpa using hu
      obtain rfl : i = n := by omega
      exact ht
structure LabsR (w : World) (base : Nat) (P : List (Value × List Lab)) : Prop where
  row : ∀ p ∈ P, kL.R 98 w base (fun b => some b = p.1.ownBlock) p.1 p.2
  apart : P.Pairwise fun p q => ∀ b, p.1.ownBlock = some b → q.1.ownBlock ≠ some b
theorem LabsR.nil (w : World) (base : Nat) : LabsR w base [] := ⟨fun p hp => (List.not_mem_nil hp).elim, List.Pairwise.nil⟩
theorem LabsR.below {w w1 : World} {base : Nat} {P : List (Value × List Lab)} (h : LabsR w base P) (hb : Below w.heap.size w w1) : LabsR w1 base P := ⟨fun p hp => Kd.R_below (h.row p hp) hb, h.apart⟩
theorem LabsR.lower {w : World} {base base' : Nat} {P : List (Value × List Lab)} (h : LabsR w base P) (hb : base' ≤ base) : LabsR w base' P := ⟨fun p hp => Kd.R_lower (h.row p hp) hb, h.apart⟩
theorem LabsR.append {w : World} {base B : Nat} {P Q : List (Value × List Lab)} (h : LabsR w base P) (g : LabsR w B Q) (hB : base ≤ B) (hlt : ∀ p ∈ P, ∀ b, p.1.ownBlock = some b → b < B) : LabsR w base (P ++ Q) :=
  ⟨fun p hp => (List.mem_append.1 hp).elim (h.row p) (fun hq => Kd.R_lower (g.row p hq) hB), List.pairwise_append.2 ⟨h.apart, g.apart, fun p hp q hq b hb e => by
    have h1 := hlt p hp b hb
    have h2 := Kd.R_base (g.row q hq) b e
    omega⟩⟩
theorem LabsR.lt {w : World} {base : Nat} {P : List (Value × List Lab)} (h : LabsR w base P) : ∀ p ∈ P, ∀ b, p.1.ownBlock = some b → b < w.heap.size := fun p hp b hb => Kd.R_lt (h.row p hp) b hb
theorem LabsR.bk {w : World} {base : Nat} {P : List (Value × List Lab)} (h : LabsR w base P) : Bk w base (P.map (·.1)) (fun k => ((P[k]?).map (·.2)).getD []) := by
  refine ⟨fun k v hv => ?_⟩
  rw [List.getElem?_map] at hv
  obtain ⟨p, hp, rfl⟩ := Option.map_eq_some_iff.1 hv
  simp only [hp, Option.map_some, Option.getD_some]
  exact h.row p (List.mem_of_getElem? hp)
theorem apartV_of {V : List Value} (h : V.Pairwise fun v u => ∀ b, v.ownBlock = some b → u.ownBlock ≠ some b) : ApartV V := by
  intro j k v u hjk hj hk b hb hu
  have h0 := List.pairwise_iff_getElem.1 h
  obtain ⟨hj1, hj2⟩ := List.getElem?_eq_some_iff.1 hj
  obtain ⟨hk1, hk2⟩ := List.getElem?_eq_some_iff.1 hk
  rcases Nat.lt_or_gt_of_ne hjk with h1 | h1
  · exact h0 j k hj1 hk1 h1 b (by rw [hj2]; exact hb) (by rw [hk2]; exact hu)
  · exact h0 k j hk1 hj1 h1 b (by rw [hk2]; exact hu) (by rw [hj2]; exact hb)
theorem LabsR.apartV {w : World} {base : Nat} {P : List (Value × List Lab)} (h : LabsR w base P) : ApartV (P.map (·.1)) := apartV_of (List.pairwise_map.2 h.apart)
def labP (T : List (Ob × Value × Value)) : List (Value × List Lab) := T.flatMap fun t => [(t.2.1, t.1.labels), (t.2.2, t.1.select)]
theorem labP_fst (T : List (Ob × Value × Value)) : (labP T).map (·.1) = labsOf T := by
  unfold labP labsOf
  rw [List.map_flatMap]
  rfl
theorem labP_snd {T : List (Ob × Value × Value)} (hf : ∀ t ∈ T, ObFits t.1) : ∀ p ∈ labP T, p.2.length ≤ 4398046510976 := by
  intro p hp
  obtain ⟨t, ht, hp⟩ := List.mem_flatMap.1 hp
  have := hf t ht
  simp only [List.mem_cons, List.not_mem_nil, or_false] at hp
  rcases hp with rfl | rfl
  · exact this.2.1
  · exact this.2.2
structure Obs (w : World) (base : Nat) (A : Option Addr) (k c : Nat) (xs : List Ob) (T : List (Ob × Value × Value)) : Prop where
  fst : T.map (·.1) = xs
  len : T.length = k
  le : k ≤ c
  tab : TabAt w A T
  labs : LabsR w base (labP T)
  ov : ∀ j c2, k ≤ c2 → c2 ≤ c → OV w j 0 (.slice A k c2)
  blk : ∀ ad, A = some ad → base ≤ ad.block ∧ ad.block < w.heap.size
theorem obs_of_S {w : World} {base : Nat} {ok : Nat → Prop} {A : Option Addr} {k c : Nat} {xs : List Ob} (h : Kd.S kO 48 w base ok (.slice A k c) xs) : ∃ T, Obs w base A k c xs T := by
  have hS := h
  obtain ⟨f, h0, hrow⟩ := h
  obtain ⟨A', c', e, hkc, hr⟩ := OwnRow.reads hrow
  rw [List.length_zipIdx] at e hkc hr
  injection e with e1 e2 e3
  subst e1
  subst e2
  subst e3
  obtain ⟨T, hTl, hT⟩ := list_of (fun i (t : Ob × Value × Value) => xs[i]? = some t.1 ∧ (∃ ad, A = some ad ∧ ∀ (j : Nat) (u : Value), (t.1.cells t.2.1 t.2.2)[j]? = some u → w.cell? (ad.add (i * 32 + j)) = some u) ∧
      kL.R 98 w base (fun b => f b = i ∧ some b ≠ t.2.2.ownBlock) t.2.1 t.1.labels ∧ kL.R 98 w base (fun b => f b = i ∧ some b ≠ t.2.1.ownBlock) t.2.2 t.1.select) xs.length (fun i hi => by
    obtain ⟨o, ho⟩ : ∃ o, xs[i]? = some o := ⟨_, List.getElem?_eq_getElem hi⟩
    obtain ⟨ad, e, hc⟩ := hr.2.2 (by omega)
    obtain ⟨cs, hs, ⟨v4, v27, rfl, h4, h27⟩, hcell⟩ := hc i (o, i) (Kd.zip_at ho)
    exact ⟨(o, v4, v27), ho, ⟨ad, e, fun j u hu => hcell j u (by simpa using hu)⟩, Kd.R_mono h4 (fun b hb => ⟨hb.1.2, hb.2⟩), Kd.R_mono h27 (fun b hb => ⟨hb.1.2, hb.2⟩)⟩)
  have hrows : ∀ t ∈ T, ∃ i, kL.R 98 w base (fun b => f b = i ∧ some b ≠ t.2.2.ownBlock) t.2.1 t.1.labels ∧ kL.R 98 w base (fun b => f b = i ∧ some b ≠ t.2.1.ownBlock) t.2.2 t.1.select := fun t ht => by
    obtain ⟨i, hi⟩ := List.mem_iff_getElem?.1 ht
    exact ⟨i, (hT i t hi).2.2⟩
  refine ⟨T, ?_, hTl, hkc, ⟨fun i o u4 u27 hi => (hT i _ hi).2.1, fun t ht => ?_⟩, ⟨fun p hp => ?_, ?_⟩, ?_, fun ad e => ?_⟩
  · apply List.ext_getElem?
    intro i
    rw [List.getElem?_map]
    rcases Nat.lt_or_ge i T.length with h1 | h1
    · obtain ⟨t, ht⟩ : ∃ t, T[i]? = some t := ⟨_, List.getElem?_eq_getElem h1⟩
      rw [ht, (hT i t ht).1]
      rfl
    · rw [List.getElem?_eq_none h1, List.getElem?_eq_none (by omega)]
      rfl
  · obtain ⟨i, h4, h27⟩ := hrows t ht
    obtain ⟨A4, c4, e4⟩ := Kd.R_slice h4
    obtain ⟨A27, c27, e27⟩ := Kd.R_slice h27
    rw [e4, e27]
    exact ⟨⟨rfl, rfl⟩, ⟨rfl, rfl⟩⟩
  · obtain ⟨t, ht, hp⟩ := List.mem_flatMap.1 hp
    obtain ⟨i, h4, h27⟩ := hrows t ht
    simp only [List.mem_cons, List.not_mem_nil, or_false] at hp
    rcases hp with rfl | rfl
    · exact Kd.R_tight rfl h4
    · exact Kd.R_tight rfl h27
  · refine List.pairwise_flatMap.2 ⟨fun t ht => ?_, ?_⟩
    · obtain ⟨i, h4, h27⟩ := hrows t ht
      refine List.pairwise_pair.2 (fun b hb e => ?_)
      exact (h4.1 b hb).2 e.symm
    · refine List.pairwise_iff_getElem.2 (fun i j hi hj hij p hp q hq b hb e => ?_)
      obtain ⟨_, _, h4, h27⟩ := hT i _ (List.getElem?_eq_getElem hi)
      obtain ⟨_, _, g4, g27⟩ := hT j _ (List.getElem?_eq_getElem hj)
      have e1 : f b = i := by
        simp only [List.mem_cons, List.not_mem_nil, or_false] at hp
        rcases hp with rfl | rfl
        · exact (h4.1 b hb).1
        · exact (h27.1 b hb).1
      have e2 : f b = j := by
        simp only [List.mem_cons, List.not_mem_nil, or_false] at hq
        rcases hq with rfl | rfl
        · exact (g4.1 b e).1
        · exact (g27.1 b e).1
      omega
  · intro j c2 hc1 hc2
    obtain ⟨inner, hown, _⟩ := hrow
    rcases hown.2 with ⟨he, hn⟩ | ⟨g, cap, cur, he, hbg, hh, hnc, hcm, hcs, htake⟩
    · injection he with h1 h2 h3
      subst h1
      obtain rfl : c2 = 0 := by omega
      rw [h2]
      exact OV.nil
    · injection he with h1 h2 h3
      subst h1
      rw [h2]
      refine OV.one g _ c2 cur (by omega) (by simp only [maxLen] at hcm; omega) hh (by have hsz : kO.sz = 32 := rfl; have hsz2 : (Kd.tag f kO).sz = 32 := rfl; rw [hsz2] at hcs; omega) (fun i hi => absurd hi (Nat.not_lt_zero i))
  · subst e
    exact ⟨Kd.S_base hS _ rfl, Kd.S_lt hS _ rfl⟩
theorem Obs.below {w w1 : World} {base : Nat} {A : Option Addr} {k c : Nat} {xs : List Ob} {T : List (Ob × Value × Value)} (h : Obs w base A k c xs T) (hb : Below w.heap.size w w1) : Obs w1 base A k c xs T :=
  ⟨h.fst, h.len, h.le, h.tab.below (fun ad e => (h.blk ad e).2) hb, h.labs.below hb, fun j c2 h1 h2 => (h.ov j c2 h1 h2).below hb, fun ad e => ⟨(h.blk ad e).1, Nat.lt_of_lt_of_le (h.blk ad e).2 hb.size⟩⟩
theorem Obs.fits {w : World} {base : Nat} {A : Option Addr} {k c : Nat} {xs : List Ob} {T : List (Ob × Value × Value)} (h : Obs w base A k c xs T) (hf : ∀ o ∈ xs, ObFits o) : ∀ t ∈ T, ObFits t.1 := fun t ht => hf t.1 (by rw [← h.fst]; exact List.mem_map_of_mem ht)
theorem Obs.own {w : World} {base : Nat} {A : Option Addr} {k c c2 : Nat} {xs : List Ob} {T : List (Ob × Value × Value)} (h : Obs w base A k c xs T) : ∀ b, (Value.slice A k c2).ownBlock = some b → base ≤ b ∧ b < w.heap.size := fun b hb => by
  cases A with
  | none => simp [Value.ownBlock] at hb
  | some ad =>
    obtain rfl : ad.block = b := by simpa [Value.ownBlock] using hb
    exact h.blk ad rfl
theorem book_new {w : World} {b : Nat} (h : w.heap[b]? = some (.cells (bookC nilV nilV) 39 (0, 0))) (base : Nat) (hb : base ≤ b) : BookS w base b [] [] nilV nilV := ⟨h, hb, Kd.R_nil _ _ _ _ _, Kd.R_nil _ _ _ _ _⟩
end Go.Proofs.YtoepbjgldmgaoaaDoor

/- Two lists of objects that were handed out, in a Book: Apart tells true, and writes over nothing else. -/
namespace Go.Proofs.YtoepbjgldmgaoaaDoor
open Go.RowKit Go.Proofs.YtoepbjgldmgaoaaDoorW.PrintWords Go.Proofs.YtoepbjgldmgaoaaDoorW.PrintLast
structure ObsLt (B : Nat) (A : Option Addr) (T : List (Ob × Value × Value)) : Prop where
  blk : ∀ ad, A = some ad → ad.block < B
  labs : ∀ p ∈ labP T, ∀ b, p.1.ownBlock = some b → b < B
theorem Obs.lt {w : World} {base : Nat} {A : Option Addr} {k c : Nat} {xs : List Ob} {T : List (Ob × Value × Value)} (h : Obs w base A k c xs T) : ObsLt w.heap.size A T := ⟨fun ad e => (h.blk ad e).2, h.labs.lt⟩
theorem ObsLt.mono {B B' : Nat} {A : Option Addr} {T : List (Ob × Value × Value)} (h : ObsLt B A T) (hb : B ≤ B') : ObsLt B' A T := ⟨fun ad e => Nat.lt_of_lt_of_le (h.blk ad e) hb, fun p hp b e => Nat.lt_of_lt_of_le (h.labs p hp b e) hb⟩
theorem own_of {A : Option Addr} {k c b : Nat} (h : (Value.slice A k c).ownBlock = some b) : ∃ ad, A = some ad ∧ ad.block = b := by
  cases A with
  | none => simp [Value.ownBlock] at h
  | some ad => exact ⟨ad, rfl, by simpa [Value.ownBlock] using h⟩
theorem book_moreF {w : World} {base b : Nat} {B1 k c2 d2 : Nat} {A2 : Option Addr} {T2 : List (Ob × Value × Value)} {xs : List Ob} {VL VO : List Value} {v5 v10 : Value} (hb : BookS w base b VL VO v5 v10) (h2 : Obs w B1 A2 k c2 xs T2) (hlt : ObsLt base A2 T2) (hk : k ≤ 200000) (hVL : VL.length ≤ 8000000) (hVO : VO.length ≤ 1000) :
    Calls Tryd.prog 16 #[.pointer (some ⟨b, 0, none⟩), .slice A2 k d2] w fun e w' => e = .returned undef ∧ (∃ v5' v10', BookS w' base b (VL ++ labsOf T2) (VO ++ [.slice A2 k d2]) v5' v10') ∧ Below base w w' ∧ FrameT w w' :=
  bookObjects_calls b base A2 k d2 T2 v5 v10 w VL VO h2.len h2.tab hlt.blk hb (by omega) (by omega) (Nat.le_trans hb.old (Nat.le_of_lt (blkLt hb.heap)))
structure TwoF (w7 : World) (base B1 B2 : Nat) (A2 A3 : Option Addr) (k c2 c3 : Nat) (xs ys : List Ob) (T2 T3 : List (Ob × Value × Value)) : Prop where
  bk : w7.heap[base]? = some (.cells (bookC nilV nilV) 39 (0, 0))
  one : Obs w7 B1 A2 k c2 xs T2
  two : Obs w7 B2 A3 k c3 ys T3
  lt1 : ObsLt base A2 T2
  lt2 : ObsLt base A3 T3
  lt : ObsLt B2 A2 T2
  le : B1 ≤ B2
  le2 : B2 ≤ base
theorem Obs.keep {w w1 : World} {base B : Nat} {A : Option Addr} {k c : Nat} {xs : List Ob} {T : List (Ob × Value × Value)} (h : Obs w base A k c xs T) (hlt : ObsLt B A T) (hb : Below B w w1) : Obs w1 base A k c xs T :=
  ⟨h.fst, h.len, h.le, h.tab.below hlt.blk hb, ⟨fun p hp => Kd.R_move (h.labs.row p hp) (fun b e => hb.block b (hlt.labs p hp b e.symm)), h.labs.apart⟩, fun j c2 h1 h2 => (h.ov j c2 h1 h2).keep (fun b e _ => by
    obtain ⟨ad, e1, e2⟩ := own_of e
    exact hb.block b (e2 ▸ hlt.blk ad e1)), fun ad e => ⟨(h.blk ad e).1, Nat.lt_of_lt_of_le (h.blk ad e).2 hb.size⟩⟩
theorem same_n {A B : Option Addr} {l : List Ob} {k c d : Nat} {w : World} (hr : kO.C w A k l) (hs : kO.C w B k l) (hl : l.length = k) (hn : k ≤ 1000000) :
    Calls Tryd.prog 15 #[.slice A k c, .slice B k d] w fun e w' => e = .returned (.bool true) ∧ Below w.heap.size w w' := by
  subst hl
  refine (sameObjects_calls A B l l c d w hr hs hn).mono ?_
  rintro e w1 ⟨rfl, hb⟩
  exact ⟨by simp, hb⟩
end Go.Proofs.YtoepbjgldmgaoaaDoor

/- Many lists of objects that were handed out, in a Book. -/
namespace Go.Proofs.YtoepbjgldmgaoaaDoor
open Go.RowKit Go.Proofs.YtoepbjgldmgaoaaDoorW.PrintWords Go.Proofs.YtoepbjgldmgaoaaDoorW.PrintLast
def ObBlk (A : Option Addr) (T : List (Ob × Value × Value)) (b : Nat) : Prop := (∃ ad, A = some ad ∧ ad.block = b) ∨ ∃ p ∈ labP T, p.1.ownBlock = some b
theorem obs_ok {w : World} {base : Nat} {ok : Nat → Prop} {A : Option Addr} {k c : Nat} {xs : List Ob} (h : Kd.S kO 48 w base ok (.slice A k c) xs) : ∃ T, Obs w base A k c xs T ∧ ∀ b, ObBlk A T b → ok b := by
  obtain ⟨T, hT⟩ := obs_of_S h
  refine ⟨T, hT, fun b hb => ?_⟩
  rcases hb with ⟨ad, rfl, rfl⟩ | ⟨p, hp, hb⟩
  · obtain ⟨f, h0, _⟩ := h
    exact h0 _ rfl
  · obtain ⟨t, ht, hp⟩ := List.mem_flatMap.1 hp
    obtain ⟨i, hi⟩ := List.mem_iff_getElem?.1 ht
    obtain ⟨o, u4, u27⟩ := t
    obtain ⟨ad, rfl, hcells⟩ := hT.tab.at_ i o u4 u27 hi
    -- the object's cells, as the row has them
    obtain ⟨f, h0, hrow⟩ := h
    obtain ⟨A', c', e, hkc, hr⟩ := OwnRow.reads hrow
    rw [List.length_zipIdx] at e hkc hr
    injection e with e1 e2 e3
    subst e1
    subst e2
    have hx : xs[i]? = some o := by
      rw [← hT.fst, List.getElem?_map, hi]
      rfl
    have hil := (List.getElem?_eq_some_iff.1 hx).1
    obtain ⟨ad', e', hc⟩ := hr.2.2 (by omega)
    obtain rfl := Option.some.inj e'
    obtain ⟨cs, hs, ⟨v4, v27, rfl, h4, h27⟩, hcell⟩ := hc i (o, i) (Kd.zip_at hx)
    have e4 : u4 = v4 := by
      have q1 := hcells 4 u4 rfl
      have q2 := hcell 4 v4 rfl
      have : (Kd.tag f kO).sz = 32 := rfl
      rw [this] at q2
      rw [q1] at q2
      exact Option.some.inj q2
    have e27 : u27 = v27 := by
      have q1 := hcells 27 u27 rfl
      have q2 := hcell 27 v27 rfl
      have : (Kd.tag f kO).sz = 32 := rfl
      rw [this] at q2
      rw [q1] at q2
      exact Option.some.inj q2
    subst e4
    subst e27
    simp only [List.mem_cons, List.not_mem_nil, or_false] at hp
    rcases hp with rfl | rfl
    · exact (h4.1 b hb).1.1.1
    · exact (h27.1 b hb).1.1.1
structure Item where
  A : Option Addr
  k : Nat
  c : Nat
  d : Nat
  xs : List Ob
  T : List (Ob × Value × Value)
def Item.v (i : Item) : Value := .slice i.A i.k i.d
structure ItemR (w : World) (base : Nat) (i : Item) : Prop where
  obs : Obs w base i.A i.k i.c i.xs i.T
  kd : i.k ≤ i.d
  dc : i.d ≤ i.c
  small : i.k ≤ 1000
  fits : ∀ o ∈ i.xs, ObFits o
def apartI (p q : Item) : Prop := ∀ b, ObBlk p.A p.T b → ¬ ObBlk q.A q.T b
def labsI (I : List Item) : List Value := I.flatMap fun i => labsOf i.T
theorem obBlk_own {i : Item} {b : Nat} (h : i.v.ownBlock = some b) : ObBlk i.A i.T b := by
  obtain ⟨ad, e1, e2⟩ := own_of h
  exact Or.inl ⟨ad, e1, e2⟩
theorem obBlk_lab {i : Item} {p : Value × List Lab} (hp : p ∈ labP i.T) {b : Nat} (h : p.1.ownBlock = some b) : ObBlk i.A i.T b := Or.inr ⟨p, hp, h⟩
theorem labsI_len {w : World} {base : Nat} : ∀ (I : List Item), (∀ i ∈ I, ItemR w base i) → (labsI I).length ≤ 2000 * I.length
  | [], _ => by simp [labsI]
  | i :: I, h => by
    have h1 := labsI_len I (fun x hx => h x (List.mem_cons_of_mem _ hx))
    have h2 := h i List.mem_cons_self
    have e : labsI (i :: I) = labsOf i.T ++ labsI I := rfl
    have e2 : (i :: I).length = I.length + 1 := rfl
    rw [e, List.length_append, labsOf_len, h2.obs.len, e2]
    have := h2.small
    omega
theorem apart_items {w : World} {B1 base b : Nat} {I : List Item} {v5 v10 : Value} (h : BookS w base b (labsI I) (I.map Item.v) v5 v10) (hI : ∀ i ∈ I, ItemR w B1 i) (hap : I.Pairwise apartI) (hn : I.length ≤ 100) (hsz : B1 ≤ w.heap.size) :
    Calls Tryd.prog 17 #[.pointer (some ⟨b, 0, none⟩)] w fun e w' => e = .returned (.bool true) ∧ OnlyB (fun k => B1 ≤ k) w w' := by
  have hL : LabsR w B1 (I.flatMap fun i => labP i.T) := by
    refine ⟨fun p hp => ?_, List.pairwise_flatMap.2 ⟨fun i hi => (hI i hi).obs.labs.apart, hap.imp fun {p q} hpq x hx y hy b hb e => ?_⟩⟩
    · obtain ⟨i, hi, hp⟩ := List.mem_flatMap.1 hp
      exact (hI i hi).obs.labs.row p hp
    · exact hpq b (obBlk_lab hx hb) (obBlk_lab hy e)
  have hmap : (I.flatMap fun i => labP i.T).map (·.1) = labsI I := by
    unfold labsI
    rw [List.map_flatMap]
    congr 1
    funext i
    exact labP_fst i.T
  have hbk := hL.bk
  have hav := hL.apartV
  rw [hmap] at hbk hav
  have hO : OVs w (I.map Item.v) (fun _ => 0) := ⟨fun j v hv => by
    rw [List.getElem?_map] at hv
    obtain ⟨i, hi, rfl⟩ := Option.map_eq_some_iff.1 hv
    have hr := hI i (List.mem_of_getElem? hi)
    exact hr.obs.ov j i.d hr.kd hr.dc⟩
  have haO : ApartV (I.map Item.v) := apartV_of (List.pairwise_map.2 (hap.imp fun {p q} hpq b hb e => hpq b (obBlk_own hb) (obBlk_own e)))
  have hlen : ∀ j, j < (labsI I).length → (((((I.flatMap fun i => labP i.T))[j]?).map (·.2)).getD []).length ≤ 4398046510976 := fun j _ => by
    cases hp : (I.flatMap fun i => labP i.T)[j]? with
    | none => simp
    | some p =>
      obtain ⟨i, hi, hm⟩ := List.mem_flatMap.1 (List.mem_of_getElem? hp)
      exact labP_snd ((hI i hi).obs.fits (hI i hi).fits) p hm
  have hNL := labsI_len I hI
  refine (bookApart_calls b base B1 v5 v10 _ _ _ w h hO haO (by rw [List.length_map]; omega) hbk hsz hav (by omega) hlen).mono ?_
  rintro e w1 ⟨rfl, hb⟩
  refine ⟨rfl, hb.mono fun g hg => ?_⟩
  rcases hg with ⟨v, hv, e⟩ | ⟨v, hv, e⟩
  · obtain ⟨i, hi, rfl⟩ := List.mem_map.1 hv
    exact ((hI i hi).obs.own g e).1
  · obtain ⟨j, hj⟩ := List.mem_iff_getElem?.1 hv
    exact Kd.R_base (hbk.row j v hj) g e
theorem ItemR.keep {w w1 : World} {base B : Nat} {i : Item} (h : ItemR w base i) (hlt : ∀ b, ObBlk i.A i.T b → b < B) (hb : Below B w w1) : ItemR w1 base i :=
  ⟨h.obs.keep ⟨fun ad e => hlt _ (Or.inl ⟨ad, e, rfl⟩), fun p hp b e => hlt b (Or.inr ⟨p, hp, e⟩)⟩ hb, h.kd, h.dc, h.small, h.fits⟩
theorem ItemR.lt {w : World} {base : Nat} {i : Item} (h : ItemR w base i) : ∀ b, ObBlk i.A i.T b → b < w.heap.size := fun b hb => by
  rcases hb with ⟨ad, e, rfl⟩ | ⟨p, hp, e⟩
  · exact (h.obs.blk ad e).2
  · exact h.obs.labs.lt p hp b e
theorem ItemR.ge {w : World} {base : Nat} {i : Item} (h : ItemR w base i) : ∀ b, ObBlk i.A i.T b → base ≤ b := fun b hb => by
  rcases hb with ⟨ad, e, rfl⟩ | ⟨p, hp, e⟩
  · exact (h.obs.blk ad e).1
  · exact Kd.R_base (h.obs.labs.row p hp) b e
theorem Obs.lower {w : World} {base base' : Nat} {A : Option Addr} {k c : Nat} {xs : List Ob} {T : List (Ob × Value × Value)} (h : Obs w base A k c xs T) (hb : base' ≤ base) : Obs w base' A k c xs T :=
  ⟨h.fst, h.len, h.le, h.tab, h.labs.lower hb, h.ov, fun ad e => ⟨Nat.le_trans hb (h.blk ad e).1, (h.blk ad e).2⟩⟩
theorem book_item {w : World} {base b B1 : Nat} {I : List Item} {i : Item} {v5 v10 : Value} (hb : BookS w base b (labsI I) (I.map Item.v) v5 v10) (hI : ∀ x ∈ I, ItemR w B1 x) (hn : I.length ≤ 100) (h : ItemR w B1 i) (hlt : ∀ b, ObBlk i.A i.T b → b < base) :
    Calls Tryd.prog 16 #[.pointer (some ⟨b, 0, none⟩), .slice i.A i.k i.d] w fun e w' => e = .returned undef ∧ (∃ v5' v10', BookS w' base b (labsI (I ++ [i])) ((I ++ [i]).map Item.v) v5' v10') ∧ Below base w w' ∧ FrameT w w' := by
  have e1 : labsI (I ++ [i]) = labsI I ++ labsOf i.T := by simp [labsI]
  have e2 : (I ++ [i]).map Item.v = I.map Item.v ++ [.slice i.A i.k i.d] := by rw [List.map_append]; rfl
  rw [e1, e2]
  have hl := labsI_len I hI
  have := h.small
  exact book_moreF hb h.obs ⟨fun ad e => hlt _ (Or.inl ⟨ad, e, rfl⟩), fun p hp b e => hlt b (Or.inr ⟨p, hp, e⟩)⟩ (by omega) (by omega) (by rw [List.length_map]; omega)
end Go.Proofs.YtoepbjgldmgaoaaDoor

/- Objects that were lent: are they as they were? -/
namespace Go.Proofs.YtoepbjgldmgaoaaDoor
open Go.RowKit Go.Proofs.YtoepbjgldmgaoaaDoorW.PrintWords Go.Proofs.YtoepbjgldmgaoaaDoorW.PrintLast
set_option maxRecDepth 100000 in
set_option maxHeartbeats 1000000 in
theorem keptObject_calls (o : Ob) (v4 v27 u4 u27 : Value) (w : World) (l4 : LentK w o.labels v4) (l27 : LentK w o.select v27) (m4 : LabK w o.labels u4) (m27 : LabK w o.select u27) (hf : ObFits o) :
    Calls Tryd.prog 64 #[.agg (o.cells v4 v27), .agg (o.cells u4 u27)] w fun e w' => e = .returned (.bool true) ∧ Below w.heap.size w w' := by
  obtain ⟨cs, hcs⟩ : ∃ cs, cs = o.cells v4 v27 := ⟨_, rfl⟩
  obtain ⟨ds, hds⟩ : ∃ ds, ds = o.cells u4 u27 := ⟨_, rfl⟩
  have QB := Lib.hid (fun (W : World) (hW : Below w.heap.size w W) => sameObject_calls o o v4 v27 u4 u27 W (l4.below hW).lab (l27.below hW).lab (m4.below hW) (m27.below hW))
  rw [(sameB_iff o o).2 rfl] at QB
  rw [← hcs, ← hds] at QB ⊢
  have QL4 := Lib.hid (fun (W : World) (hW : Below w.heap.size w W) => keptLabels_calls (l4.below hW) (m4.below hW) hf.2.1)
  have QL27 := Lib.hid (fun (W : World) (hW : Below w.heap.size w W) => keptLabels_calls (l27.below hW) (m27.below hW) hf.2.2)
  have Hcs := Lib.hid hcs
  have Hds := Lib.hid hds
  have hi1 : Hid ((Tryd.prog.info? 48).map (·.size) = some cs.size) := Lib.hid (by rw [hcs, Ob.cells_size]; kernel_rfl)
  have hi2 : Hid ((Tryd.prog.info? 48).map (·.size) = some ds.size) := Lib.hid (by rw [hds, Ob.cells_size]; kernel_rfl)
  clear hcs hds l4 l27 m4 m27 hf
  have HM := Lib.hid (Eq.refl 0)
  go_enter Tryd.func64, Tryd.ntmps64
  go_wp2_with (first
    | ((with_reducible refine gate_ (.load 48 (.tmp 2)) rfl ?_); clear HM; (have HW : Below w.heap.size w ((w.alloc (Obj.cells cs 48)).alloc (Obj.cells ds 48)) := (Go.Joins.below_alloc2 w _ _)); (have B1 : ((w.alloc (Obj.cells cs 48)).alloc (Obj.cells ds 48)).heap[w.heap.size]? = some (.cells cs 48 (0, 0)) := (heap_alloc_old _ _ (by simp)).trans (heap_alloc_new w _)); (have B2 : ((w.alloc (Obj.cells cs 48)).alloc (Obj.cells ds 48)).heap[w.heap.size + 1]? = some (.cells ds 48 (0, 0)) := heap_alloc2_new w _ _); (generalize ((w.alloc (Obj.cells cs 48)).alloc (Obj.cells ds 48)) = W0 at HW B1 B2 ⊢); obtain ⟨ga, hga⟩ : ∃ x, x = w.heap.size := ⟨_, rfl⟩; obtain ⟨gb, hgb⟩ : ∃ x, x = w.heap.size + 1 := ⟨_, rfl⟩; rw [← hgb] at B2 ⊢; rw [← hga] at B1 ⊢; clear hga hgb)
    | ((with_reducible refine wpList_load_blk_w 48 (.tmp 2) rfl ga 48 ?l0 ?l1 cs _ ?l2 Tryd.underlying48 ?l3 ?l4 ?_); (case l0 => rfl); (case l1 => rfl); (case l2 => exact B1); (case l3 => rfl); (case l4 => exact hi1.out))
    | ((with_reducible refine wpList_load_blk_w 48 (.tmp 3) rfl gb 48 ?l0 ?l1 ds _ ?l2 Tryd.underlying48 ?l3 ?l4 ?_); (case l0 => rfl); (case l1 => rfl); (case l2 => exact B2); (case l3 => rfl); (case l4 => exact hi2.out))
    | ((with_reducible refine gate_ (.load 43 _) rfl ?_); first | refine wpList_load1_w 43 _ rfl ⟨ga, 4, none⟩ rfl rfl v4 _ (((cell_of_row _ _ 4 _ _ _ B1).trans (by rw [Hcs.out]; rfl))) Tryd.underlying43 rfl ?_ | refine wpList_load1_w 43 _ rfl ⟨ga, 27, none⟩ rfl rfl v27 _ (((cell_of_row _ _ 27 _ _ _ B1).trans (by rw [Hcs.out]; rfl))) Tryd.underlying43 rfl ?_ | refine wpList_load1_w 43 _ rfl ⟨gb, 4, none⟩ rfl rfl u4 _ (((cell_of_row _ _ 4 _ _ _ B2).trans (by rw [Hds.out]; rfl))) Tryd.underlying43 rfl ?_ | refine wpList_load1_w 43 _ rfl ⟨gb, 27, none⟩ rfl rfl u27 _ (((cell_of_row _ _ 27 _ _ _ B2).trans (by rw [Hds.out]; rfl))) Tryd.underlying43 rfl ?_)
    | (go_at_call 32; (with_reducible refine (QB.out _ HW).mono ?_); rintro e w1 ⟨rfl, hb⟩; replace B1 := blkB hb B1; replace B2 := blkB hb B2; replace HW := belT HW hb; clear hb)
    | (go_at_call 98; (with_reducible first | refine (QL4.out _ HW).mono ?_ | refine (QL27.out _ HW).mono ?_); rintro e w1 ⟨rfl, hb⟩; replace B1 := blkB hb B1; replace B2 := blkB hb B2; replace HW := belT HW hb; clear hb))
  go_ret
  exact ⟨rfl, HW⟩
structure LentAt (w : World) (ad : Addr) (k : Nat) (o : Ob) (v4 v27 : Value) : Prop where
  l4 : LentK w o.labels v4
  l27 : LentK w o.select v27
  cells : ∀ (j : Nat) (u : Value), (o.cells v4 v27)[j]? = some u → w.cell? ((ad.add (k * 32)).add j) = some u
theorem lentAt {w : World} {A : Option Addr} {n : Nat} {l : List Ob} (h : kLent.C w A n l) (k : Nat) (o : Ob) (hk : l[k]? = some o) : ∃ ad v4 v27, A = some ad ∧ LentAt w ad k o v4 v27 := by
  have hl := (List.getElem?_eq_some_iff.1 hk).1
  obtain ⟨ad, e, hc⟩ := h.2.2 (by have := h.1; omega)
  obtain ⟨c, hs, ⟨v4, v27, rfl, h4, h27⟩, hcell⟩ := hc k o hk
  exact ⟨ad, v4, v27, e, h4, h27, fun j u hu => by rw [add_add]; exact hcell j u (by simpa using hu)⟩
def rg18_6_T : Bool × List (List Nat × List Nat) := (true, [([], []), ([], []), ([0, 1], [0, 1]), ([2], [2]), ([], []), ([], []), ([4, 5], [4, 5]), ([6], [6]), ([3, 7], [3, 7]), ([8], [8])])
def rg18_6_B : List Nat := [0, 0, 3, 7, 0, 0, 48, 112, 255, 511]
theorem rg18_6_tab : rtab .any (opsOf Tryd.f18 6) = rg18_6_T := by kernel_rfl
theorem rg18_6_bits : waitsOk rg18_6_T.2 rg18_6_B = true := by kernel_rfl
set_option maxHeartbeats 1600000 in
set_option maxRecDepth 100000 in
theorem keptObjects_calls (A B : Option Addr) (l : List Ob) (c d n : Nat) (w : World) (hr : kLent.C w A n l) (hs : kO.C w B n l) (hl : l.length = n) (hn : n ≤ 1000000) (hf : ∀ o ∈ l, ObFits o) :
    Calls Tryd.prog 18 #[.slice A n c, .slice B n d] w fun e w' => e = .returned (.bool true) ∧ Below w.heap.size w w' := by
  have HR := Lib.hid hr
  have HS := Lib.hid hs
  have HL := Lib.hid hl
  have HF := Lib.hid hf
  clear hr hs hl hf
  go_enter Tryd.func18, Tryd.ntmps18
  go_wp2
  go_loopw [5] (fun v5 wr => ∃ k : Nat, k ≤ n ∧ v5 = .int .i64 k ∧ Hid (Below w.heap.size w wr)) (fun v5 _ => n - (intOf v5).toNat)
  case atStart => exact ⟨0, Nat.zero_le _, rfl, Lib.hid (Below.refl _ _)⟩
  case round =>
    obtain ⟨k, hk, rfl, hI⟩ := hrel
    by_cases hlt : k < n
    · obtain ⟨o, ho⟩ : ∃ o, l[k]? = some o := ⟨_, List.getElem?_eq_getElem (by have := HL.out; omega)⟩
      obtain ⟨ad, v4, v27, rfl, hO⟩ := lentAt (Kd.C_below HR.out hI.out) k o ho
      obtain ⟨bd, u4, u27, rfl, hP⟩ := objAt (Kd.C_below HS.out hI.out) k o ho
      obtain ⟨cs, hcs⟩ : ∃ cs, cs = o.cells v4 v27 := ⟨_, rfl⟩
      obtain ⟨ds, hds⟩ : ∃ ds, ds = o.cells u4 u27 := ⟨_, rfl⟩
      have hi1 : Hid ((Tryd.prog.info? 48).map (·.size) = some cs.size) := Lib.hid (by rw [hcs, Ob.cells_size]; kernel_rfl)
      have hi2 : Hid ((Tryd.prog.info? 48).map (·.size) = some ds.size) := Lib.hid (by rw [hds, Ob.cells_size]; kernel_rfl)
      have B1 := hO.cells
      have B2 := hP.cells
      rw [← hcs] at B1
      rw [← hds] at B2
      have QS := Lib.hid (fun (W : World) (hW : Below wr.heap.size wr W) => keptObject_calls o v4 v27 u4 u27 W (hO.l4.below hW) (hO.l27.below hW) (hP.l4.below hW) (hP.l27.below hW) (HF.out o (List.mem_of_getElem? ho)))
      rw [← hcs, ← hds] at QS
      replace B1 := Lib.hid (fun (W : World) (hW : Below wr.heap.size wr W) j u hu => cell_below hW (B1 j u hu))
      replace B2 := Lib.hid (fun (W : World) (hW : Below wr.heap.size wr W) j u hu => cell_below hW (B2 j u hu))
      clear ho hcs hds hO hP
      have HB : Below wr.heap.size wr wr := Below.refl _ _
      replace HB := below_drew HB
      have hlk : (k : Int) < (n : Int) := by omega
      go_upto_region 6 with (fail)
      refine start_ (n := 10) (S := fun w' => Below wr.heap.size wr w') (ds := []) (bs 10 0) (by kernel_rfl) rfl (by kernel_rfl) HB (fun hHeld => ?_)
      refine with_tabW rg18_6_tab rg18_6_bits (fun HT_ HW_ => ?_)
      refine pu 0 (some 17) (bs 10 1) HT_ rfl rfl (by kernel_rfl) (fun _ _ _ _ h => h) ⟨_, .inl ⟨by rfl, fun _ => by go_simp; with_reducible rfl⟩, _, by simp only [Act.put, sA, sB, sC, i64_w, i32_w]; rfl, ?_⟩
      refine pu 1 (some 18) (bs 10 3) HT_ rfl rfl (by kernel_rfl) (fun _ _ _ _ h => h) ⟨_, .inl ⟨by rfl, fun _ => by go_simp; with_reducible rfl⟩, _, by simp only [Act.put, sA, sB, sC, i64_w, i32_w]; rfl, ?_⟩
      refine pu 2 (some 19) (bs 10 7) HT_ rfl rfl (by kernel_rfl) (fun _ _ _ _ h => h) ⟨_, .inl ⟨by rfl, fun _ => by go_simp; with_reducible rfl⟩, _, by simp only [Act.put, sA, sB, sC, i64_w, i32_w]; rfl, ?_⟩
      refine pu 4 (some 21) (bs 10 23) HT_ rfl rfl (by kernel_rfl) (fun _ _ _ _ h => h) ⟨_, .inl ⟨by rfl, fun _ => by go_simp; with_reducible rfl⟩, _, by simp only [Act.put, sA, sB, sC, i64_w, i32_w]; rfl, ?_⟩
      refine pu 5 (some 22) (bs 10 55) HT_ rfl rfl (by kernel_rfl) (fun _ _ _ _ h => h) ⟨_, .inl ⟨by rfl, fun _ => by go_simp; with_reducible rfl⟩, _, by simp only [Act.put, sA, sB, sC, i64_w, i32_w]; rfl, ?_⟩
      refine pu 6 (some 23) (bs 10 119) HT_ rfl rfl (by kernel_rfl) (fun _ _ _ _ h => h) ⟨_, .inl ⟨by rfl, fun _ => by go_simp; with_reducible rfl⟩, _, by simp only [Act.put, sA, sB, sC, i64_w, i32_w]; rfl, ?_⟩
      refine tk 3 (some 20) (bs 10 127) HT_ HW_ rfl rfl (by kernel_rfl) (fun _ _ _ _ h => h) hHeld ⟨_, .inl ⟨by rfl, by rintro w' s0; refine load_any_ (x := .tmp 19) (p := ad.add (k * 32)) ?_ ?_ (B1.out _ s0) Tryd.underlying48 rfl hi1.out <;> rfl⟩, _, by simp only [Act.put, sA, sB, sC, i64_w, i32_w]; rfl, ?_⟩
      refine tk 7 (some 24) (bs 10 255) HT_ HW_ rfl rfl (by kernel_rfl) (fun _ _ _ _ h => h) hHeld ⟨_, .inl ⟨by rfl, by rintro w' s0; refine load_any_ (x := .tmp 23) (p := bd.add (k * 32)) ?_ ?_ (B2.out _ s0) Tryd.underlying48 rfl hi2.out <;> rfl⟩, _, by simp only [Act.put, sA, sB, sC, i64_w, i32_w]; rfl, ?_⟩
      refine on1 8 (some 25) (bs 10 511) HT_ rfl rfl (by kernel_rfl) (by decide) (fun K hK => ?_)
      refine goes_ Tryd.func64 (by kernel_rfl) rfl #[.agg cs, .agg ds] (by rfl) rfl rfl (by (try simp only [List.map_toArray, List.map_cons, List.map_nil]); first | done | rfl) ?_
      with_reducible refine (QS.out _ HB).mono ?_
      rintro e w1 ⟨rfl, hb⟩
      replace HB := belT HB hb
      clear hb
      refine ⟨_, rfl, ?_⟩
      refine hK.out _ _ HB (fun hHeld => ?_)
      clear hK K
      refine nm ⟨_, show Act.put _ (some 25) _ = _ by simp only [Act.put, sA, sB, sC, i64_w, i32_w]; rfl, ?_⟩
      refine pu 9 (some 26) (bs 10 1023) HT_ rfl rfl (by kernel_rfl) (fun _ _ _ _ h => h) ⟨_, .inl ⟨by rfl, fun _ => by go_simp; with_reducible rfl⟩, _, by simp only [Act.put, sA, sB, sC, i64_w, i32_w]; rfl, ?_⟩
      refine done_ (done_of HT_.out (by kernel_rfl)) ?_
      go_wp2
      go_roundw
      case rel => exact ⟨k + 1, by omega, by go_num, Lib.hid (belT hI.out HB)⟩
      case measure => simp [intOf]; omega
    · obtain rfl : n = k := by omega
      go_wp2
      go_ret
      exact ⟨rfl, hI.out⟩
end Go.Proofs.YtoepbjgldmgaoaaDoor

/- FleetOf walked. -/
namespace Go.Proofs.YtoepbjgldmgaoaaDoor
open Go.RowKit Go.Proofs.YtoepbjgldmgaoaaDoorW.PrintWords Go.Proofs.YtoepbjgldmgaoaaDoorW.PrintLast
theorem refS_f {A : Option Addr} {c n : Nat} {l : List Ob} {w : World} (hr : kO.C w A n l) (hln : l.length = n) (hn : n ≤ 1000000) (hf : ∀ o ∈ l, ObFits o) :
    Calls Tryd.prog 14 #[.slice A n c] w fun e w' => ∃ A' c', e = .returned (.slice A' n c') ∧ kO.C w' A' n (sortK l) ∧ Below w.heap.size w w' := by
  refine (refSorted_calls A c n l w (by rw [hln]; exact hr) hln hn hf).mono ?_
  rintro e w1 ⟨A', c', rfl, _, hC, hb⟩
  exact ⟨A', c', rfl, hC, hb⟩
theorem of_n {A : Option Addr} {c n m : Nat} {z : Int} {l : List Ob} {w : World} (hr : kO.C w A n l) (hl : l.length = n) (hn : n ≤ 1000000) (hf : ∀ o ∈ l, ObFits o) (hm : (ofK z l).length = m) :
    Calls Tryd.prog 80 #[.slice A n c, .int .i64 z] w fun e w' => ∃ A' c', e = .returned (.slice A' m c') ∧ kO.R 48 w' w.heap.size (fun _ => True) (.slice A' m c') (ofK z l) ∧ Below w.heap.size w w' := by
  refine (refOf_calls A c n z l w hr hl hn hf).mono ?_
  rintro e w1 ⟨v, rfl, hR, hb⟩
  obtain ⟨A', c', e⟩ := Kd.R_slice hR
  subst e
  rw [hm] at hR ⊢
  exact ⟨A', c', rfl, hR, hb⟩
theorem R_far {w w1 : World} {g base : Nat} {v : Value} {xs : List Ob} (h : kO.R 48 w base (fun _ => True) v xs) (hg : g < base) (hk : ∀ k, k ≠ g → w1.heap[k]? = w.heap[k]?) : kO.R 48 w1 base (fun _ => True) v xs :=
  Kd.R_mono (Kd.R_move (Kd.R_bound h) (fun k hk2 => hk k (by have := hk2.2.1; omega))) (fun _ _ => trivial)
theorem C_of {w : World} {base m c : Nat} {A : Option Addr} {xs : List Ob} (h : kO.R 48 w base (fun _ => True) (.slice A m c) xs) (hm : xs.length = m) : kO.C w A m xs := by
  have := (Kd.R_reads' h).2.2
  rw [hm] at this
  exact this
theorem fi_one {w w1 : World} {base B1 : Nat} {J : List Item} {i : Item} (h : ∀ x ∈ J, ItemR w B1 x ∧ ∀ k, ObBlk x.A x.T k → k < base) (hb : Below base w w1) (hi : i ∈ J) : ItemR w1 B1 i ∧ ∀ k, ObBlk i.A i.T k → k < base := ⟨(h i hi).1.keep (h i hi).2 hb, (h i hi).2⟩
theorem fi_pre {w w1 : World} {base B1 : Nat} {J K : List Item} (h : ∀ x ∈ J, ItemR w B1 x ∧ ∀ k, ObBlk x.A x.T k → k < base) (hb : Below base w w1) (hK : ∀ x ∈ K, x ∈ J) : ∀ x ∈ K, ItemR w1 B1 x := fun x hx => (fi_one h hb (hK x hx)).1
structure C4 (w : World) (A0 A1 A2 A3 : Option Addr) (n0 n1 n2 n3 : Nat) (L : Nat → List Ob) : Prop where
  c0 : kO.C w A0 n0 (L 0)
  c1 : kO.C w A1 n1 (L 1)
  c2 : kO.C w A2 n2 (L 2)
  c3 : kO.C w A3 n3 (L 3)
structure N4 (n0 n1 n2 n3 : Nat) (L : Nat → List Ob) : Prop where
  e0 : (L 0).length = n0
  e1 : (L 1).length = n1
  e2 : (L 2).length = n2
  e3 : (L 3).length = n3
  b0 : n0 ≤ 1000000
  b1 : n1 ≤ 1000000
  b2 : n2 ≤ 1000000
  b3 : n3 ≤ 1000000
theorem C4.below {w w1 : World} {A0 A1 A2 A3 : Option Addr} {n0 n1 n2 n3 : Nat} {L : Nat → List Ob} (h : C4 w A0 A1 A2 A3 n0 n1 n2 n3 L) (hb : Below w.heap.size w w1) : C4 w1 A0 A1 A2 A3 n0 n1 n2 n3 L := ⟨Kd.C_below h.c0 hb, Kd.C_below h.c1 hb, Kd.C_below h.c2 hb, Kd.C_below h.c3 hb⟩
set_option maxHeartbeats 4000000 in
set_option maxRecDepth 100000 in
theorem refFleet_calls (A : Option Addr) (c n n0 n1 n2 n3 : Nat) (l : List Ob) (w : World) (hr : kO.C w A n l) (hl : l.length = n) (hn : n ≤ 1000000) (hf : ∀ o ∈ l, ObFits o) (hN : N4 n0 n1 n2 n3 (fun i => ofK (fltK i) (sortK l))) :
    Calls Tryd.prog 38 #[.slice A n c] w fun e w' => ∃ A0 A1 A2 A3 c0 c1 c2 c3, e = .returned (.agg #[.slice A0 n0 c0, .slice A1 n1 c1, .slice A2 n2 c2, .slice A3 n3 c3]) ∧ C4 w' A0 A1 A2 A3 n0 n1 n2 n3 (fun i => ofK (fltK i) (sortK l)) ∧ Below w.heap.size w w' := by
  have hls : (sortK l).length = n := by unfold sortK; rw [Srt.isort_length, hl]
  have hfs : ∀ o ∈ sortK l, ObFits o := fun o ho => hf o ((Srt.mem_isort o l).1 ho)
  have HQ := Lib.hid (fun W (hW : Below w.heap.size w W) => refS_f (c := c) (w := W) (Kd.C_below hr hW) hl hn hf)
  have HL := Lib.hid (And.intro hls (And.intro hfs (And.intro hn hN)))
  obtain ⟨ls, hlse⟩ : ∃ ls, ls = sortK l := ⟨_, rfl⟩
  rw [← hlse] at HQ HL ⊢
  have HN : Hid ((ofK 0 ls).length = n0 ∧ (ofK 1 ls).length = n1 ∧ (ofK 2 ls).length = n2 ∧ (ofK 4 ls).length = n3) := Lib.hid ⟨HL.out.2.2.2.e0, HL.out.2.2.2.e1, HL.out.2.2.2.e2, HL.out.2.2.2.e3⟩
  clear hr hl hf hls hfs hlse hN
  have HB0 := Lib.hid (below_alloc (Below.refl w.heap.size w) (.cells (arr4 nil4) 59))
  have BR : Hid ((w.alloc (Obj.cells (arr4 nil4) 59)).heap[w.heap.size]? = some (.cells (arr4 nil4) 59 (0, 0))) := Lib.hid (heap_alloc_new w _)
  go_enter Tryd.func38, Tryd.ntmps38
  go_wp2_with (first
    | (go_at_call 14; rw [show (#[Value.slice none 0 0, Value.slice none 0 0, Value.slice none 0 0, Value.slice none 0 0] : Array Value) = arr4 nil4 from rfl]; generalize (w.alloc (Obj.cells (arr4 nil4) 59)) = W0 at HB0 BR ⊢; (with_reducible refine (HQ.out W0 HB0.out).mono ?_); rintro e w1 ⟨A8, c8, rfl, hC, hb⟩; have H1 := Lib.hid (And.intro hC (And.intro (belT HB0.out hb) ((hb.block _ (blkLt BR.out)).trans BR.out))); clear hC hb)
    | (go_at_call 80; (with_reducible refine (of_n (w := w1) (z := 0) H1.out.1 HL.out.1 HL.out.2.2.1 HL.out.2.1 HN.out.1).mono ?_); rintro e w2 ⟨A0, c0, rfl, hC, hb⟩; have H2 := Lib.hid (And.intro hC (And.intro hb (And.intro (belT H1.out.2.1 hb) ((hb.block _ (blkLt H1.out.2.2)).trans H1.out.2.2)))); clear hC hb)
    | (go_at_call 80; (with_reducible refine (of_n (w := w2) (z := 1) (Kd.C_below H1.out.1 H2.out.2.1) HL.out.1 HL.out.2.2.1 HL.out.2.1 HN.out.2.1).mono ?_); rintro e w3 ⟨A1, c1, rfl, hC, hb⟩; have H3 := Lib.hid (And.intro hC (And.intro hb (And.intro (belT H2.out.2.2.1 hb) ((hb.block _ (blkLt H2.out.2.2.2)).trans H2.out.2.2.2)))); clear hC hb)
    | (go_at_call 80; (with_reducible refine (of_n (w := w3) (z := 2) (Kd.C_below H1.out.1 (belT H2.out.2.1 H3.out.2.1)) HL.out.1 HL.out.2.2.1 HL.out.2.1 HN.out.2.2.1).mono ?_); rintro e w4 ⟨A2, c2, rfl, hC, hb⟩; have H4 := Lib.hid (And.intro hC (And.intro hb (And.intro (belT H3.out.2.2.1 hb) ((hb.block _ (blkLt H3.out.2.2.2)).trans H3.out.2.2.2)))); clear hC hb)
    | (go_at_call 80; (with_reducible refine (of_n (w := w4) (z := 4) (Kd.C_below H1.out.1 (belT (belT H2.out.2.1 H3.out.2.1) H4.out.2.1)) HL.out.1 HL.out.2.2.1 HL.out.2.1 HN.out.2.2.2).mono ?_); rintro e w5 ⟨A3, c3, rfl, hC, hb⟩; have H5 := Lib.hid (And.intro hC (And.intro hb (And.intro (belT H4.out.2.2.1 hb) ((hb.block _ (blkLt H4.out.2.2.2)).trans H4.out.2.2.2)))); clear hC hb)
    | ((with_reducible refine wpList_store_blk rfl 59 (.tmp 2) (.tmp 14) rfl w.heap.size 59 (arr4 nil4) #[.slice A0 n0 c0, .slice A1 n1 c1, .slice A2 n2 c2, .slice A3 n3 c3] ?y1 ?y2 ?y3 ?y4 ?y5 ?y6 ?_); (case y1 => rfl); (case y2 => rfl); (case y3 => exact H5.out.2.2.2); (case y4 => exact infoF1); (case y5 => rfl); (case y6 => simp [Value.oneCell']); intro w6 BC' hk6 hb6 hz6))
  refine bodyPost_ret (v := .agg #[.slice A0 n0 c0, .slice A1 n1 c1, .slice A2 n2 c2, .slice A3 n3 c3]) (results_cell_row (p := 2) (ty := 59) rfl _ _ w.heap.size 59 #[.slice A0 n0 c0, .slice A1 n1 c1, .slice A2 n2 c2, .slice A3 n3 c3] (0, 0) _ (by rfl) BC' Tryd.underlying59 rfl infoF1) rfl ?_
  refine ⟨A0, A1, A2, A3, c0, c1, c2, c3, rfl, ?_, hb6 _ _ H5.out.2.2.1 (Nat.le_refl _)⟩
  have hl1 := blkLt H1.out.2.2
  have s2 := H2.out.2.1.size
  have s3 := H3.out.2.1.size
  have s4 := H4.out.2.1.size
  exact ⟨C_of (R_far (Kd.R_below H2.out.1 (belT (belT H3.out.2.1 H4.out.2.1) H5.out.2.1)) hl1 hk6) HL.out.2.2.2.e0, C_of (R_far (Kd.R_below H3.out.1 (belT H4.out.2.1 H5.out.2.1)) (by omega) hk6) HL.out.2.2.2.e1, C_of (R_far (Kd.R_below H4.out.1 H5.out.2.1) (by omega) hk6) HL.out.2.2.2.e2, C_of (R_far H5.out.1 (by omega) hk6) HL.out.2.2.2.e3⟩
set_option maxHeartbeats 4000000 in
set_option maxRecDepth 100000 in
theorem sameFleet_calls (A0 A1 A2 A3 B0 B1 B2 B3 : Option Addr) (n0 n1 n2 n3 c0 c1 c2 c3 d0 d1 d2 d3 : Nat) (L : Nat → List Ob) (w : World) (h : C4 w A0 A1 A2 A3 n0 n1 n2 n3 L) (g : C4 w B0 B1 B2 B3 n0 n1 n2 n3 L) (hN : N4 n0 n1 n2 n3 L) :
    Calls Tryd.prog 39 #[.agg #[.slice A0 n0 c0, .slice A1 n1 c1, .slice A2 n2 c2, .slice A3 n3 c3], .agg #[.slice B0 n0 d0, .slice B1 n1 d1, .slice B2 n2 d2, .slice B3 n3 d3]] w fun e w' => e = .returned (.bool true) ∧ Below w.heap.size w w' := by
  obtain ⟨a0, ha⟩ : ∃ a0 : Array Value, a0 = #[.slice A0 n0 c0, .slice A1 n1 c1, .slice A2 n2 c2, .slice A3 n3 c3] := ⟨_, rfl⟩
  obtain ⟨b0, hb⟩ : ∃ b0 : Array Value, b0 = #[.slice B0 n0 d0, .slice B1 n1 d1, .slice B2 n2 d2, .slice B3 n3 d3] := ⟨_, rfl⟩
  rw [← ha, ← hb]
  have HB := Lib.hid (Go.Joins.below_alloc2 w (.cells a0 59) (.cells b0 59))
  have X : ((w.alloc (Obj.cells a0 59)).alloc (Obj.cells b0 59)).heap[w.heap.size]? = some (.cells a0 59 (0, 0)) := (heap_alloc_old _ _ (by simp)).trans (heap_alloc_new w _)
  have Y : ((w.alloc (Obj.cells a0 59)).alloc (Obj.cells b0 59)).heap[w.heap.size + 1]? = some (.cells b0 59 (0, 0)) := heap_alloc2_new w _ _
  have x0 : ∀ (W : World), W.heap[w.heap.size]? = some (.cells a0 59 (0, 0)) → W.cell? ⟨w.heap.size, 0, none⟩ = some (.slice A0 n0 c0) := fun W hW => (cell_of_row _ _ 0 _ _ _ hW).trans (by rw [ha]; rfl)
  have y0 : ∀ (W : World), W.heap[w.heap.size + 1]? = some (.cells b0 59 (0, 0)) → W.cell? ⟨w.heap.size + 1, 0, none⟩ = some (.slice B0 n0 d0) := fun W hW => (cell_of_row _ _ 0 _ _ _ hW).trans (by rw [hb]; rfl)
  have x1 : ∀ (W : World), W.heap[w.heap.size]? = some (.cells a0 59 (0, 0)) → W.cell? ⟨w.heap.size, 1, none⟩ = some (.slice A1 n1 c1) := fun W hW => (cell_of_row _ _ 1 _ _ _ hW).trans (by rw [ha]; rfl)
  have y1 : ∀ (W : World), W.heap[w.heap.size + 1]? = some (.cells b0 59 (0, 0)) → W.cell? ⟨w.heap.size + 1, 1, none⟩ = some (.slice B1 n1 d1) := fun W hW => (cell_of_row _ _ 1 _ _ _ hW).trans (by rw [hb]; rfl)
  have x2 : ∀ (W : World), W.heap[w.heap.size]? = some (.cells a0 59 (0, 0)) → W.cell? ⟨w.heap.size, 2, none⟩ = some (.slice A2 n2 c2) := fun W hW => (cell_of_row _ _ 2 _ _ _ hW).trans (by rw [ha]; rfl)
  have y2 : ∀ (W : World), W.heap[w.heap.size + 1]? = some (.cells b0 59 (0, 0)) → W.cell? ⟨w.heap.size + 1, 2, none⟩ = some (.slice B2 n2 d2) := fun W hW => (cell_of_row _ _ 2 _ _ _ hW).trans (by rw [hb]; rfl)
  have x3 : ∀ (W : World), W.heap[w.heap.size]? = some (.cells a0 59 (0, 0)) → W.cell? ⟨w.heap.size, 3, none⟩ = some (.slice A3 n3 c3) := fun W hW => (cell_of_row _ _ 3 _ _ _ hW).trans (by rw [ha]; rfl)
  have y3 : ∀ (W : World), W.heap[w.heap.size + 1]? = some (.cells b0 59 (0, 0)) → W.cell? ⟨w.heap.size + 1, 3, none⟩ = some (.slice B3 n3 d3) := fun W hW => (cell_of_row _ _ 3 _ _ _ hW).trans (by rw [hb]; rfl)
  have X0 := Lib.hid x0
  have Y0 := Lib.hid y0
  have X1 := Lib.hid x1
  have Y1 := Lib.hid y1
  have X2 := Lib.hid x2
  have Y2 := Lib.hid y2
  have X3 := Lib.hid x3
  have Y3 := Lib.hid y3
  have p0 := x0 _ X
  have q0 := y0 _ Y
  have HX := Lib.hid (And.intro X Y)
  have HC := Lib.hid (And.intro (h.below HB.out) (And.intro (g.below HB.out) hN))
  clear ha hb X Y h g hN x0 x1 x2 x3 y0 y1 y2 y3
  go_enter Tryd.func39, Tryd.ntmps39
  go_wp2_with (first
    | ((with_reducible refine gate_ (.load 22 (.tmp 5)) rfl ?_); generalize ((w.alloc (Obj.cells a0 59)).alloc (Obj.cells b0 59)) = W0 at HB p0 q0 HX HC ⊢; (with_reducible refine wpList_load1_w 22 (.tmp 5) rfl ⟨w.heap.size, 0, none⟩ ?z1 ?z2 (.slice A0 n0 c0) _ ?z3 Tryd.underlying22 rfl ?_); (case z1 => rfl); (case z2 => rfl); (case z3 => exact p0))
    | (go_at_call 15; (with_reducible refine (same_n (w := W0) (A := A0) (B := B0) HC.out.1.c0 HC.out.2.1.c0 HC.out.2.2.e0 HC.out.2.2.b0).mono ?_); rintro e w1 ⟨rfl, hb⟩; have K1 := Lib.hid hb; have p1 := X1.out _ ((K1.out.block _ (blkLt HX.out.1)).trans HX.out.1); have q1 := Y1.out _ ((K1.out.block _ (blkLt HX.out.2)).trans HX.out.2); clear hb)
    | (go_at_call 15; (with_reducible refine (same_n (w := w1) (A := A1) (B := B1) (HC.out.1.below K1.out).c1 (HC.out.2.1.below K1.out).c1 HC.out.2.2.e1 HC.out.2.2.b1).mono ?_); rintro e w2 ⟨rfl, hb⟩; have K2 := Lib.hid (belT K1.out hb); have p2 := X2.out _ ((K2.out.block _ (blkLt HX.out.1)).trans HX.out.1); have q2 := Y2.out _ ((K2.out.block _ (blkLt HX.out.2)).trans HX.out.2); clear hb)
    | (go_at_call 15; (with_reducible refine (same_n (w := w2) (A := A2) (B := B2) (HC.out.1.below K2.out).c2 (HC.out.2.1.below K2.out).c2 HC.out.2.2.e2 HC.out.2.2.b2).mono ?_); rintro e w3 ⟨rfl, hb⟩; have K3 := Lib.hid (belT K2.out hb); have p3 := X3.out _ ((K3.out.block _ (blkLt HX.out.1)).trans HX.out.1); have q3 := Y3.out _ ((K3.out.block _ (blkLt HX.out.2)).trans HX.out.2); clear hb)
    | (go_at_call 15; (with_reducible refine (same_n (w := w3) (A := A3) (B := B3) (HC.out.1.below K3.out).c3 (HC.out.2.1.below K3.out).c3 HC.out.2.2.e3 HC.out.2.2.b3).mono ?_); rintro e w4 ⟨rfl, hb⟩; have K4 := Lib.hid (belT K3.out hb); clear hb))
  go_ret
  exact ⟨rfl, belT HB.out K4.out⟩
set_option maxHeartbeats 4000000 in
set_option maxRecDepth 100000 in
theorem bookFleet_calls (b base B1 : Nat) (I : List Item) (i0 i1 i2 i3 : Item) (v5 v10 : Value) (w : World) (h : BookS w base b (labsI I) (I.map Item.v) v5 v10) (hI : ∀ i ∈ I ++ [i0, i1, i2, i3], ItemR w B1 i ∧ ∀ k, ObBlk i.A i.T k → k < base) (hn : I.length ≤ 90) (hbase : base ≤ w.heap.size) :
    Calls Tryd.prog 40 #[.pointer (some ⟨b, 0, none⟩), .agg #[.slice i0.A i0.k i0.d, .slice i1.A i1.k i1.d, .slice i2.A i2.k i2.d, .slice i3.A i3.k i3.d]] w fun e w' => e = .returned undef ∧ (∃ v5' v10', BookS w' base b (labsI (I ++ [i0, i1, i2, i3])) ((I ++ [i0, i1, i2, i3]).map Item.v) v5' v10') ∧ Below base w w' := by
  obtain ⟨a0, ha⟩ : ∃ a0 : Array Value, a0 = #[.slice i0.A i0.k i0.d, .slice i1.A i1.k i1.d, .slice i2.A i2.k i2.d, .slice i3.A i3.k i3.d] := ⟨_, rfl⟩
  rw [← ha]
  have HB := Lib.hid ((Below.refl base w).alloc hbase (.cells a0 59))
  have X : (w.alloc (Obj.cells a0 59)).heap[w.heap.size]? = some (.cells a0 59 (0, 0)) := heap_alloc_new w _
  have x0 : ∀ (W : World), W.heap[w.heap.size]? = some (.cells a0 59 (0, 0)) → W.cell? ⟨w.heap.size, 0, none⟩ = some (.slice i0.A i0.k i0.d) := fun W hW => (cell_of_row _ _ 0 _ _ _ hW).trans (by rw [ha]; rfl)
  have x1 : ∀ (W : World), W.heap[w.heap.size]? = some (.cells a0 59 (0, 0)) → W.cell? ⟨w.heap.size, 1, none⟩ = some (.slice i1.A i1.k i1.d) := fun W hW => (cell_of_row _ _ 1 _ _ _ hW).trans (by rw [ha]; rfl)
  have x2 : ∀ (W : World), W.heap[w.heap.size]? = some (.cells a0 59 (0, 0)) → W.cell? ⟨w.heap.size, 2, none⟩ = some (.slice i2.A i2.k i2.d) := fun W hW => (cell_of_row _ _ 2 _ _ _ hW).trans (by rw [ha]; rfl)
  have x3 : ∀ (W : World), W.heap[w.heap.size]? = some (.cells a0 59 (0, 0)) → W.cell? ⟨w.heap.size, 3, none⟩ = some (.slice i3.A i3.k i3.d) := fun W hW => (cell_of_row _ _ 3 _ _ _ hW).trans (by rw [ha]; rfl)
  have X0 := Lib.hid x0
  have X1 := Lib.hid x1
  have X2 := Lib.hid x2
  have X3 := Lib.hid x3
  have p0 := x0 _ X
  have HX := Lib.hid X
  have HS0 := Lib.hid (h.below (below_alloc (Below.refl _ _) (.cells a0 59)))
  have HI := Lib.hid (And.intro hI hn)
  have N0 : Hid (I.length ≤ 100) := Lib.hid (by omega)
  have N1 : Hid ((I ++ [i0]).length ≤ 100) := Lib.hid (by simp; omega)
  have N2 : Hid ((I ++ [i0, i1]).length ≤ 100) := Lib.hid (by simp; omega)
  have N3 : Hid ((I ++ [i0, i1, i2]).length ≤ 100) := Lib.hid (by simp; omega)
  have M0 : Hid ((∀ x ∈ I, x ∈ I ++ [i0, i1, i2, i3]) ∧ i0 ∈ I ++ [i0, i1, i2, i3]) := Lib.hid ⟨fun x hx => by simp [hx], by simp⟩
  have M1 : Hid ((∀ x ∈ I ++ [i0], x ∈ I ++ [i0, i1, i2, i3]) ∧ i1 ∈ I ++ [i0, i1, i2, i3]) := Lib.hid ⟨fun x hx => by simp at hx ⊢; rcases hx with h | h <;> simp [h], by simp⟩
  have M2 : Hid ((∀ x ∈ I ++ [i0, i1], x ∈ I ++ [i0, i1, i2, i3]) ∧ i2 ∈ I ++ [i0, i1, i2, i3]) := Lib.hid ⟨fun x hx => by simp at hx ⊢; rcases hx with h | h | h <;> simp [h], by simp⟩
  have M3 : Hid ((∀ x ∈ I ++ [i0, i1, i2], x ∈ I ++ [i0, i1, i2, i3]) ∧ i3 ∈ I ++ [i0, i1, i2, i3]) := Lib.hid ⟨fun x hx => by simp at hx ⊢; rcases hx with h | h | h | h <;> simp [h], by simp⟩
  clear ha X h hI hn x0 x1 x2 x3
  go_enter Tryd.func40, Tryd.ntmps40
  go_wp2_with (first
    | ((with_reducible refine gate_ (.load 22 (.tmp 5)) rfl ?_); generalize (w.alloc (Obj.cells a0 59)) = W0 at HB p0 HX HS0 ⊢; (with_reducible refine wpList_load1_w 22 (.tmp 5) rfl ⟨w.heap.size, 0, none⟩ ?z1 ?z2 (.slice i0.A i0.k i0.d) _ ?z3 Tryd.underlying22 rfl ?_); (case z1 => rfl); (case z2 => rfl); (case z3 => exact p0))
    | (go_at_call 16; (with_reducible refine (book_item (w := W0) (I := I) (i := i0) HS0.out (fi_pre HI.out.1 HB.out M0.out.1) N0.out (fi_one HI.out.1 HB.out M0.out.2).1 (fi_one HI.out.1 HB.out M0.out.2).2).mono ?_); rintro e w1 ⟨rfl, ⟨v51, v101, hS⟩, hb, hf⟩; have S1 := Lib.hid hS; have K1 := Lib.hid (HB.out.trans hb); have Z1 := Lib.hid ((hf _ _ _ HX.out (by decide) (by decide) (by decide)).trans HX.out); have p1 := X1.out _ Z1.out; clear hS hb hf)
    | (go_at_call 16; (with_reducible refine (book_item (w := w1) (I := (I ++ [i0])) (i := i1) S1.out (fi_pre HI.out.1 K1.out M1.out.1) N1.out (fi_one HI.out.1 K1.out M1.out.2).1 (fi_one HI.out.1 K1.out M1.out.2).2).mono ?_); rintro e w2 ⟨rfl, ⟨v52, v102, hS⟩, hb, hf⟩; rw [List.append_assoc] at hS; have S2 := Lib.hid hS; have K2 := Lib.hid (K1.out.trans hb); have Z2 := Lib.hid ((hf _ _ _ Z1.out (by decide) (by decide) (by decide)).trans Z1.out); have p2 := X2.out _ Z2.out; clear hS hb hf)
    | (go_at_call 16; (with_reducible refine (book_item (w := w2) (I := (I ++ [i0, i1])) (i := i2) S2.out (fi_pre HI.out.1 K2.out M2.out.1) N2.out (fi_one HI.out.1 K2.out M2.out.2).1 (fi_one HI.out.1 K2.out M2.out.2).2).mono ?_); rintro e w3 ⟨rfl, ⟨v53, v103, hS⟩, hb, hf⟩; rw [List.append_assoc] at hS; have S3 := Lib.hid hS; have K3 := Lib.hid (K2.out.trans hb); have Z3 := Lib.hid ((hf _ _ _ Z2.out (by decide) (by decide) (by decide)).trans Z2.out); have p3 := X3.out _ Z3.out; clear hS hb hf)
    | (go_at_call 16; (with_reducible refine (book_item (w := w3) (I := (I ++ [i0, i1, i2])) (i := i3) S3.out (fi_pre HI.out.1 K3.out M3.out.1) N3.out (fi_one HI.out.1 K3.out M3.out.2).1 (fi_one HI.out.1 K3.out M3.out.2).2).mono ?_); rintro e w4 ⟨rfl, ⟨v54, v104, hS⟩, hb, hf⟩; rw [List.append_assoc] at hS; have S4 := Lib.hid hS; have K4 := Lib.hid (K3.out.trans hb); have Z4 := Lib.hid ((hf _ _ _ Z3.out (by decide) (by decide) (by decide)).trans Z3.out); clear hS hb hf))
  go_end0
  exact ⟨rfl, ⟨_, _, S4.out⟩, K4.out⟩
end Go.Proofs.YtoepbjgldmgaoaaDoor

/- FleetOf walked: the law. -/
namespace Go.Proofs.YtoepbjgldmgaoaaDoor
open Go.RowKit Go.Proofs.YtoepbjgldmgaoaaDoorW.PrintWords Go.Proofs.YtoepbjgldmgaoaaDoorW.PrintLast
abbrev it (A : Option Addr) (n c : Nat) (xs : List Ob) (T : List (Ob × Value × Value)) : Item := ⟨A, n, c, c, xs, T⟩
structure FleetI (w : World) (base : Nat) (I : List Item) : Prop where
  R : ∀ i ∈ I, ItemR w base i
  ap : I.Pairwise apartI
theorem fleet_n {A : Option Addr} {c n n0 n1 n2 n3 : Nat} {l ls : List Ob} {w : World} (hr : kO.C w A n l) (hl : l.length = n) (hn : n ≤ 1000) (hf : ∀ o ∈ l, ObFits o) (hs : ls = sortK l) (hN : N4 n0 n1 n2 n3 (fun i => ofK (fltK i) ls)) :
    Calls Tryd.prog 37 #[.slice A n c] w fun e w' => ∃ A0 A1 A2 A3 c0 c1 c2 c3 T0 T1 T2 T3, e = .returned (.agg #[.slice A0 n0 c0, .slice A1 n1 c1, .slice A2 n2 c2, .slice A3 n3 c3]) ∧ FleetI w' w.heap.size [it A0 n0 c0 (ofK (fltK 0) ls) T0, it A1 n1 c1 (ofK (fltK 1) ls) T1, it A2 n2 c2 (ofK (fltK 2) ls) T2, it A3 n3 c3 (ofK (fltK 3) ls) T3] ∧
      C4 w' A0 A1 A2 A3 n0 n1 n2 n3 (fun i => ofK (fltK i) ls) ∧ Below w.heap.size w w' := by
  subst hs
  refine (fleetOf_calls A c n l w hr hl (by omega) hf).mono ?_
  rintro e w1 ⟨V, F, rfl, hS, hb⟩
  have hsl : (sortK l).length = n := by unfold sortK; rw [Srt.isort_length, hl]
  have hfit : ∀ j, ∀ o ∈ ofK (fltK j) (sortK l), ObFits o := fun j o ho => by
    obtain ⟨p, hp, rfl⟩ := ofK_mem ho
    exact fits_plain (hf p ((Srt.mem_isort p l).1 hp))
  have one : ∀ j, j < 4 → ∀ m, (ofK (fltK j) (sortK l)).length = m → ∃ A c T, V j = .slice A m c ∧ ItemR w1 w.heap.size (it A m c (ofK (fltK j) (sortK l)) T) ∧ kO.C w1 A m (ofK (fltK j) (sortK l)) ∧ ∀ b, ObBlk A T b → F b = j := fun j hj m hm => by
    have h0 := hS j hj
    obtain ⟨A', c', e⟩ := Kd.S_slice h0
    rw [e] at h0
    obtain ⟨T, hT, hok⟩ := obs_ok h0
    have h1 := Kd.S_reads' h0
    rw [hm] at e hT h1
    have h2 := ofK_len (fltK j) (sortK l)
    exact ⟨A', c', T, e, ⟨hT, hT.le, Nat.le_refl _, by show m ≤ 1000; omega, hfit j⟩, h1.2.2, hok⟩
  obtain ⟨A0, c0, T0, e0, r0, k0, o0⟩ := one 0 (by omega) n0 hN.e0
  obtain ⟨A1, c1, T1, e1, r1, k1, o1⟩ := one 1 (by omega) n1 hN.e1
  obtain ⟨A2, c2, T2, e2, r2, k2, o2⟩ := one 2 (by omega) n2 hN.e2
  obtain ⟨A3, c3, T3, e3, r3, k3, o3⟩ := one 3 (by omega) n3 hN.e3
  refine ⟨A0, A1, A2, A3, c0, c1, c2, c3, T0, T1, T2, T3, by unfold arr4; rw [e0, e1, e2, e3], ⟨fun i hi => ?_, ?_⟩, ⟨k0, k1, k2, k3⟩, hb⟩
  · simp only [List.mem_cons, List.not_mem_nil, or_false] at hi
    rcases hi with rfl | rfl | rfl | rfl
    · exact r0
    · exact r1
    · exact r2
    · exact r3
  · have ap : ∀ {i j : Nat} {Ai Aj : Option Addr} {ni nj ci cj : Nat} {xi xj : List Ob} {Ti Tj : List (Ob × Value × Value)}, i ≠ j → (∀ b, ObBlk Ai Ti b → F b = i) → (∀ b, ObBlk Aj Tj b → F b = j) → apartI (it Ai ni ci xi Ti) (it Aj nj cj xj Tj) := fun hij h g b hb1 hb2 => hij ((h b hb1).symm.trans (g b hb2))
    refine List.Pairwise.cons (fun q hq => ?_) (List.Pairwise.cons (fun q hq => ?_) (List.Pairwise.cons (fun q hq => ?_) (List.Pairwise.cons (fun q hq => ?_) List.Pairwise.nil)))
    · simp only [List.mem_cons, List.not_mem_nil, or_false] at hq
      rcases hq with rfl | rfl | rfl
      · exact ap (by decide) o0 o1
      · exact ap (by decide) o0 o2
      · exact ap (by decide) o0 o3
    · simp only [List.mem_cons, List.not_mem_nil, or_false] at hq
      rcases hq with rfl | rfl
      · exact ap (by decide) o1 o2
      · exact ap (by decide) o1 o3
    · simp only [List.mem_cons, List.not_mem_nil, or_false] at hq
      rcases hq with rfl
      exact ap (by decide) o2 o3
    · cases hq
theorem two_fleets {w2 w3 w7 : World} {B1 B2 base : Nat} {I J : List Item} (h : FleetI w2 B1 I) (g : FleetI w3 B2 J) (hle : w2.heap.size ≤ B2) (hB : B1 ≤ B2) (hb2 : Below w2.heap.size w2 w7) (hb3 : Below w3.heap.size w3 w7) (h2 : w2.heap.size ≤ base) (h3 : w3.heap.size ≤ base) :
    (∀ i ∈ I ++ J, ItemR w7 B1 i ∧ ∀ k, ObBlk i.A i.T k → k < base) ∧ (I ++ J).Pairwise apartI := by
  refine ⟨fun i hi => ?_, List.pairwise_append.2 ⟨h.ap, g.ap, fun p hp q hq b hb1 hb2 => ?_⟩⟩
  · rcases List.mem_append.1 hi with hi | hi
    · exact ⟨(h.R i hi).keep (h.R i hi).lt hb2, fun k hk => Nat.lt_of_lt_of_le ((h.R i hi).lt k hk) h2⟩
    · have r := (g.R i hi).keep (g.R i hi).lt hb3
      exact ⟨⟨r.obs.lower hB, r.kd, r.dc, r.small, r.fits⟩, fun k hk => Nat.lt_of_lt_of_le ((g.R i hi).lt k hk) h3⟩
  · have a := (h.R p hp).lt b hb1
    have c := (g.R q hq).ge b hb2
    omega
theorem bookFleet_n {b base B1 n0 n1 n2 n3 a0 a1 a2 a3 : Nat} {I : List Item} {A0 A1 A2 A3 : Option Addr} {xs0 xs1 xs2 xs3 : List Ob} {T0 T1 T2 T3 : List (Ob × Value × Value)} {v5 v10 : Value} {w : World} (h : BookS w base b (labsI I) (I.map Item.v) v5 v10)
    (hI : ∀ i ∈ I ++ [it A0 n0 a0 xs0 T0, it A1 n1 a1 xs1 T1, it A2 n2 a2 xs2 T2, it A3 n3 a3 xs3 T3], ItemR w B1 i ∧ ∀ k, ObBlk i.A i.T k → k < base) (hn : I.length ≤ 90) (hbase : base ≤ w.heap.size) :
    Calls Tryd.prog 40 #[.pointer (some ⟨b, 0, none⟩), .agg #[.slice A0 n0 a0, .slice A1 n1 a1, .slice A2 n2 a2, .slice A3 n3 a3]] w fun e w' => e = .returned undef ∧ (∃ v5' v10', BookS w' base b (labsI (I ++ [it A0 n0 a0 xs0 T0, it A1 n1 a1 xs1 T1, it A2 n2 a2 xs2 T2, it A3 n3 a3 xs3 T3])) ((I ++ [it A0 n0 a0 xs0 T0, it A1 n1 a1 xs1 T1, it A2 n2 a2 xs2 T2, it A3 n3 a3 xs3 T3]).map Item.v) v5' v10') ∧ Below base w w' :=
  bookFleet_calls b base B1 I _ _ _ _ v5 v10 w h hI hn hbase
structure FlF (w1 w6 w7 : World) (I J : List Item) : Prop where
  bk : BookS w7 w6.heap.size w6.heap.size (labsI []) (([] : List Item).map Item.v) nilV nilV
  all : ∀ i ∈ [] ++ I ++ J, ItemR w7 w1.heap.size i ∧ ∀ k, ObBlk i.A i.T k → k < w6.heap.size
  one : ∀ i ∈ [] ++ I, ItemR w7 w1.heap.size i ∧ ∀ k, ObBlk i.A i.T k → k < w6.heap.size
  ap : ([] ++ I ++ J).Pairwise apartI
  n1 : (([] : List Item) ++ I).length ≤ 90
  n2 : (([] : List Item) ++ I ++ J).length ≤ 100
  base : w6.heap.size ≤ w7.heap.size
  low : w1.heap.size ≤ w7.heap.size
  bel : Below w1.heap.size w1 w7
  le6 : w1.heap.size ≤ w6.heap.size
theorem fl_facts {w1 w2 v2 w3 w6 w7 : World} {I J : List Item} (h : FleetI w2 w1.heap.size I) (g : FleetI w3 v2.heap.size J) (b2 : Below w1.heap.size w1 w2) (bv : Below w2.heap.size w2 v2) (b3 : Below v2.heap.size v2 w3) (b6 : Below w3.heap.size w3 w6) (hw7 : w7 = w6.alloc (.cells (bookC nilV nilV) 39)) (hnI : I.length = 4) (hnJ : J.length = 4) : FlF w1 w6 w7 I J := by
  have b7 : Below w6.heap.size w6 w7 := by rw [hw7]; exact below_alloc (Below.refl _ _) _
  have bk : w7.heap[w6.heap.size]? = some (.cells (bookC nilV nilV) 39 (0, 0)) := by rw [hw7]; exact heap_alloc_new _ _
  have b67 := belT b6 b7
  have b27 := belT (belT bv b3) b67
  have s6 := b6.size
  have s2 := b2.size
  have sv := bv.size
  have s3 := b3.size
  obtain ⟨ha, hp⟩ := two_fleets (base := w6.heap.size) h g bv.size (Nat.le_trans s2 sv) b27 b67 (by omega) (by omega)
  exact ⟨book_new bk _ (Nat.le_refl _), ha, fun i hi => ha i (List.mem_append_left _ (by simpa using hi)), hp, by simp; omega, by simp; omega, b7.size, by have := b7.size; omega, belT b2 b27, by omega⟩
theorem fi_keep {w w1 : World} {base B1 : Nat} {J : List Item} (h : ∀ x ∈ J, ItemR w B1 x ∧ ∀ k, ObBlk x.A x.T k → k < base) (hb : Below base w w1) : ∀ x ∈ J, ItemR w1 B1 x ∧ ∀ k, ObBlk x.A x.T k → k < base := fun x hx => fi_one h hb hx
theorem fleetBig_calls (A : Option Addr) (c n : Nat) (w : World) (hn : 300 < n) :
    Calls Tryd.prog 11 #[.slice A n c] w fun e w' => e = .returned (.bool true) ∧ Below w.heap.size w w' := by
  have hn' : (300 : Int) < (n : Int) := by omega
  go_enter Tryd.func11, Tryd.ntmps11
  go_wp2
  go_ret
  exact ⟨rfl, Below.refl _ _⟩
theorem var_new {w2 w3 : World} {z cs : Array Value} {g : Nat} (hg : g = w2.heap.size) (hG : w3.heap[g]? = some (.cells cs 59 (0, 0))) (hb : ∀ B w0, Below B w0 (w2.alloc (.cells z 59)) → B ≤ g → Below B w0 w3) : (∀ W, Below w3.heap.size w3 W → W.heap[g]? = some (.cells cs 59 (0, 0))) ∧ Below w2.heap.size w2 w3 ∧ g < w3.heap.size :=
  ⟨fun W hW => (hW.block g (blkLt hG)).trans hG, by subst hg; exact hb _ _ (below_alloc (Below.refl _ _) _) (Nat.le_refl _), blkLt hG⟩
set_option maxHeartbeats 4000000 in
set_option maxRecDepth 100000 in
theorem fleetLaw_calls (A : Option Addr) (c n : Nat) (l : List Ob) (w : World) (hr : kO.C w A n l) (hl : l.length = n) (hn : ¬ 300 < n) (hf : ∀ o ∈ l, ObFits o) :
    Calls Tryd.prog 11 #[.slice A n c] w fun e w' => e = .returned (.bool true) ∧ Below w.heap.size w w' := by
  obtain ⟨ls, hls⟩ : ∃ ls, ls = sortK l := ⟨_, rfl⟩
  have hsl : ls.length = n := by rw [hls]; unfold sortK; rw [Srt.isort_length, hl]
  have hb4 : ∀ j, (ofK (fltK j) ls).length ≤ n := fun j => by rw [← hsl]; exact ofK_len _ _
  obtain ⟨n0, m0⟩ : ∃ m, (ofK (fltK 0) ls).length = m := ⟨_, rfl⟩
  obtain ⟨n1, m1⟩ : ∃ m, (ofK (fltK 1) ls).length = m := ⟨_, rfl⟩
  obtain ⟨n2, m2⟩ : ∃ m, (ofK (fltK 2) ls).length = m := ⟨_, rfl⟩
  obtain ⟨n3, m3⟩ : ∃ m, (ofK (fltK 3) ls).length = m := ⟨_, rfl⟩
  have hN : N4 n0 n1 n2 n3 (fun i => ofK (fltK i) ls) := ⟨m0, m1, m2, m3, by have := hb4 0; omega, by have := hb4 1; omega, by have := hb4 2; omega, by have := hb4 3; omega⟩
  have H := Lib.hid (And.intro hr (And.intro hl (And.intro (show n ≤ 1000000 by omega) (And.intro hf (And.intro hls (And.intro hN (show n ≤ 1000 by omega)))))))
  have hN' := hN
  rw [hls] at hN'
  have HN2 := Lib.hid hN'
  have hn' : ¬ (300 : Int) < (n : Int) := by omega
  clear hr hl hf hls hsl hb4 hN hN' m0 m1 m2 m3
  go_enter Tryd.func11, Tryd.ntmps11
  go_wp2_with (first
    | (go_at_call 12; (with_reducible refine (lentObjects_calls A c n l w (H.out.2.1 ▸ H.out.1) H.out.2.1 H.out.2.2.1 H.out.2.2.2.1).mono ?_); rintro e w1 ⟨A1', rfl, hC1, hb1⟩; have H1 := Lib.hid (And.intro hC1 hb1); clear hC1 hb1)
    | (go_at_call 37; (with_reducible refine (fleet_n (w := w1) (kLent_C H1.out.1) H.out.2.1 H.out.2.2.2.2.2.2 H.out.2.2.2.1 H.out.2.2.2.2.1 H.out.2.2.2.2.2.1).mono ?_); rintro e w2 ⟨aA0, aA1, aA2, aA3, ac0, ac1, ac2, ac3, aT0, aT1, aT2, aT3, rfl, hI, hC, hb⟩; have H2 := Lib.hid (And.intro hI (And.intro hC hb)); clear hI hC hb)
    | ((with_reducible refine wpList_store_blk rfl 59 (.tmp 4) (.tmp 14) rfl w2.heap.size 59 (arr4 nil4) #[.slice aA0 n0 ac0, .slice aA1 n1 ac1, .slice aA2 n2 ac2, .slice aA3 n3 ac3] ?y1 ?y2 ?y3 ?y4 ?y5 ?y6 ?_); (case y1 => rfl); (case y2 => rfl); (case y3 => exact heap_alloc_new _ _); (case y4 => exact infoF1); (case y5 => rfl); (case y6 => simp [Value.oneCell']); intro v2 hG hk hb hz; obtain ⟨g4, hg4⟩ : ∃ x, x = w2.heap.size := ⟨_, rfl⟩; rw [← hg4] at hG hb ⊢; have J2 := Lib.hid (var_new hg4 hG hb); clear hG hk hb hz hg4)
    | (go_at_call 37; (with_reducible refine (fleet_n (w := v2) (Kd.C_below (kLent_C H1.out.1) (belT H2.out.2.2 J2.out.2.1)) H.out.2.1 H.out.2.2.2.2.2.2 H.out.2.2.2.1 H.out.2.2.2.2.1 H.out.2.2.2.2.2.1).mono ?_); rintro e w3 ⟨bA0, bA1, bA2, bA3, bc0, bc1, bc2, bc3, bT0, bT1, bT2, bT3, rfl, hI, hC, hb⟩; have H3 := Lib.hid (And.intro hI (And.intro hC hb)); clear hI hC hb)
    | ((with_reducible refine wpList_store_blk rfl 59 (.tmp 5) (.tmp 16) rfl w3.heap.size 59 (arr4 nil4) #[.slice bA0 n0 bc0, .slice bA1 n1 bc1, .slice bA2 n2 bc2, .slice bA3 n3 bc3] ?u1 ?u2 ?u3 ?u4 ?u5 ?u6 ?_); (case u1 => rfl); (case u2 => rfl); (case u3 => exact heap_alloc_new _ _); (case u4 => exact infoF1); (case u5 => rfl); (case u6 => simp [Value.oneCell']); intro v3 hG hk hb hz; obtain ⟨g5, hg5⟩ : ∃ x, x = w3.heap.size := ⟨_, rfl⟩; rw [← hg5] at hG hb ⊢; have J3 := Lib.hid (var_new hg5 hG hb); have L3 := Lib.hid (And.intro (belT (belT H2.out.2.2 J2.out.2.1) (belT H3.out.2.2 J3.out.2.1)) (belT J2.out.2.1 (belT H3.out.2.2 J3.out.2.1))); clear hG hk hb hz hg5)
    | (go_at_call 38; (with_reducible refine (refFleet_calls A c n n0 n1 n2 n3 l v3 (Kd.C_below H.out.1 (belT H1.out.2 L3.out.1)) H.out.2.1 H.out.2.2.1 H.out.2.2.2.1 HN2.out).mono ?_); rintro e w4 ⟨rA0, rA1, rA2, rA3, rc0, rc1, rc2, rc3, rfl, hC, hb⟩; rw [← H.out.2.2.2.2.1] at hC; have H4 := Lib.hid (And.intro hC hb); clear hC hb)
    | ((with_reducible refine wpList_store_blk rfl 59 (.tmp 6) (.tmp 18) rfl w4.heap.size 59 (arr4 nil4) #[.slice rA0 n0 rc0, .slice rA1 n1 rc1, .slice rA2 n2 rc2, .slice rA3 n3 rc3] ?q1 ?q2 ?q3 ?q4 ?q5 ?q6 ?_); (case q1 => rfl); (case q2 => rfl); (case q3 => exact heap_alloc_new _ _); (case q4 => exact infoF1); (case q5 => rfl); (case q6 => simp [Value.oneCell']); intro v4 hG hk hb hz; obtain ⟨g6, hg6⟩ : ∃ x, x = w4.heap.size := ⟨_, rfl⟩; rw [← hg6] at hG hb ⊢; have J4 := Lib.hid (var_new hg6 hG hb); have L4 := Lib.hid (And.intro (belT H4.out.2 J4.out.2.1) (belT (belT H3.out.2.2 J3.out.2.1) (belT H4.out.2 J4.out.2.1))); clear hG hk hb hz hg6)
    | ((with_reducible refine wpList_load_blk_w (op := ⟨some 19, _, _, _, _, _⟩) 59 (.tmp 4) rfl g4 59 ?l0 ?l1 #[.slice aA0 n0 ac0, .slice aA1 n1 ac1, .slice aA2 n2 ac2, .slice aA3 n3 ac3] _ ?l2 Tryd.underlying59 ?l3 ?l4 ?_); (case l0 => rfl); (case l1 => rfl); (case l2 => exact J2.out.1 _ L4.out.2); (case l3 => rfl); (case l4 => exact infoF1))
    | ((with_reducible refine wpList_load_blk_w (op := ⟨some 20, _, _, _, _, _⟩) 59 (.tmp 6) rfl g6 59 ?k0 ?k1 #[.slice rA0 n0 rc0, .slice rA1 n1 rc1, .slice rA2 n2 rc2, .slice rA3 n3 rc3] _ ?k2 Tryd.underlying59 ?k3 ?k4 ?_); (case k0 => rfl); (case k1 => rfl); (case k2 => exact J4.out.1 _ (Below.refl _ _)); (case k3 => rfl); (case k4 => exact infoF1))
    | (go_at_call 39; (with_reducible refine (sameFleet_calls aA0 aA1 aA2 aA3 rA0 rA1 rA2 rA3 n0 n1 n2 n3 ac0 ac1 ac2 ac3 rc0 rc1 rc2 rc3 _ v4 (C4.below H2.out.2.1 (belT J2.out.2.1 L4.out.2)) (C4.below H4.out.1 J4.out.2.1) H.out.2.2.2.2.2.1).mono ?_); rintro e w5 ⟨rfl, hb⟩; have H5 := Lib.hid hb; clear hb)
    | ((with_reducible refine wpList_load_blk_w (op := ⟨some 24, _, _, _, _, _⟩) 59 (.tmp 5) rfl g5 59 ?j0 ?j1 #[.slice bA0 n0 bc0, .slice bA1 n1 bc1, .slice bA2 n2 bc2, .slice bA3 n3 bc3] _ ?j2 Tryd.underlying59 ?j3 ?j4 ?_); (case j0 => rfl); (case j1 => rfl); (case j2 => exact J3.out.1 _ (belT L4.out.1 H5.out)); (case j3 => rfl); (case j4 => exact infoF1))
    | ((with_reducible refine wpList_load_blk_w (op := ⟨some 25, _, _, _, _, _⟩) 59 (.tmp 6) rfl g6 59 ?p0 ?p1 #[.slice rA0 n0 rc0, .slice rA1 n1 rc1, .slice rA2 n2 rc2, .slice rA3 n3 rc3] _ ?p2 Tryd.underlying59 ?p3 ?p4 ?_); (case p0 => rfl); (case p1 => rfl); (case p2 => exact J4.out.1 _ H5.out); (case p3 => rfl); (case p4 => exact infoF1))
    | (go_at_call 39; (with_reducible refine (sameFleet_calls bA0 bA1 bA2 bA3 rA0 rA1 rA2 rA3 n0 n1 n2 n3 bc0 bc1 bc2 bc3 rc0 rc1 rc2 rc3 _ w5 (C4.below H3.out.2.1 (belT J3.out.2.1 (belT L4.out.1 H5.out))) (C4.below H4.out.1 (belT J4.out.2.1 H5.out)) H.out.2.2.2.2.2.1).mono ?_); rintro e w6 ⟨rfl, hb⟩; have H6 := Lib.hid hb; have H7 := Lib.hid (fl_facts (w7 := (w6.alloc (.cells #[.slice none 0 0, .slice none 0 0, .slice none 0 0, .slice none 0 0, .slice none 0 0, .slice none 0 0, .slice none 0 0, .slice none 0 0, .slice none 0 0, .slice none 0 0, .slice none 0 0, .slice none 0 0] 39))) H2.out.1 H3.out.1 H2.out.2.2 J2.out.2.1 H3.out.2.2 (belT (belT J3.out.2.1 L4.out.1) (belT H5.out hb)) rfl rfl rfl); clear hb)
    | ((with_reducible refine wpList_load_blk_w (op := ⟨some 32, _, _, _, _, _⟩) 59 (.tmp 4) rfl g4 59 ?i0 ?i1 #[.slice aA0 n0 ac0, .slice aA1 n1 ac1, .slice aA2 n2 ac2, .slice aA3 n3 ac3] _ ?i2 Tryd.underlying59 ?i3 ?i4 ?_); (case i0 => rfl); (case i1 => rfl); (case i2 => exact J2.out.1 (w6.alloc (.cells #[.slice none 0 0, .slice none 0 0, .slice none 0 0, .slice none 0 0, .slice none 0 0, .slice none 0 0, .slice none 0 0, .slice none 0 0, .slice none 0 0, .slice none 0 0, .slice none 0 0, .slice none 0 0] 39)) (belT (belT L4.out.2 (belT H5.out H6.out)) (below_alloc (Below.refl _ _) _))); (case i3 => rfl); (case i4 => exact infoF1))
    | (go_at_call 40; (with_reducible refine (bookFleet_n (w := (w6.alloc (.cells #[.slice none 0 0, .slice none 0 0, .slice none 0 0, .slice none 0 0, .slice none 0 0, .slice none 0 0, .slice none 0 0, .slice none 0 0, .slice none 0 0, .slice none 0 0, .slice none 0 0, .slice none 0 0] 39))) (I := []) (b := w6.heap.size) (base := w6.heap.size) H7.out.bk H7.out.one (by decide) H7.out.base).mono ?_); rintro e w8 ⟨rfl, ⟨v5, v10, hS⟩, hb⟩; have H8 := Lib.hid (And.intro hS hb); clear hS hb)
    | ((with_reducible refine wpList_load_blk_w (op := ⟨some 35, _, _, _, _, _⟩) 59 (.tmp 5) rfl g5 59 ?h0 ?h1 #[.slice bA0 n0 bc0, .slice bA1 n1 bc1, .slice bA2 n2 bc2, .slice bA3 n3 bc3] _ ?h2 Tryd.underlying59 ?h3 ?h4 ?_); (case h0 => rfl); (case h1 => rfl); (case h2 => exact (H8.out.2.block g5 (Nat.lt_of_lt_of_le J3.out.2.2 (belT L4.out.1 (belT H5.out H6.out)).size)).trans (J3.out.1 (w6.alloc (.cells #[.slice none 0 0, .slice none 0 0, .slice none 0 0, .slice none 0 0, .slice none 0 0, .slice none 0 0, .slice none 0 0, .slice none 0 0, .slice none 0 0, .slice none 0 0, .slice none 0 0, .slice none 0 0] 39)) (belT (belT L4.out.1 (belT H5.out H6.out)) (below_alloc (Below.refl _ _) _)))); (case h3 => rfl); (case h4 => exact infoF1))
    | (go_at_call 40; (with_reducible refine (bookFleet_n (w := w8) (b := w6.heap.size) (base := w6.heap.size) H8.out.1 (fi_keep H7.out.all H8.out.2) H7.out.n1 (Nat.le_trans H7.out.base H8.out.2.size)).mono ?_); rintro e w9 ⟨rfl, ⟨v5', v10', hS⟩, hb⟩; have H9 := Lib.hid (And.intro hS hb); clear hS hb)
    | (go_at_call 17; (with_reducible refine (apart_items (w := w9) (B1 := w1.heap.size) H9.out.1 (fun i hi => (fi_keep (fi_keep H7.out.all H8.out.2) H9.out.2 i hi).1) H7.out.ap H7.out.n2 (Nat.le_trans H7.out.low (Nat.le_trans H8.out.2.size H9.out.2.size))).mono ?_); rintro e w10 ⟨rfl, hO⟩; have H10 := Lib.hid (OnlyB.below (H7.out.bel.trans ((H8.out.2.trans H9.out.2).mono H7.out.le6)) hO (fun k hk => hk) (Nat.le_trans H7.out.low (Nat.le_trans H8.out.2.size H9.out.2.size))); clear hO)
    | (go_at_call 18; (with_reducible refine (keptObjects_calls A1' A l n c n w10 (Kd.C_below H1.out.1 H10.out) (Kd.C_below H.out.1 (belT H1.out.2 H10.out)) H.out.2.1 H.out.2.2.1 H.out.2.2.2.1).mono ?_); rintro e w11 ⟨rfl, hb11⟩; have H11 := Lib.hid (belT (belT H1.out.2 H10.out) hb11); clear hb11))
  go_ret
  exact ⟨rfl, H11.out⟩
theorem fleetLaw_pure (A : Option Addr) (c : Nat) (l : List Ob) (w : World) (hr : kO.C w A l.length l) (hf : ∀ o ∈ l, ObFits o) :
    Calls Tryd.prog 11 #[.slice A l.length c] w fun e w' => e = .returned (.bool true) ∧ Below w.heap.size w w' := by
  by_cases h : 300 < l.length
  · exact fleetBig_calls A c l.length w h
  · exact fleetLaw_calls A c l.length l w hr rfl h hf
end Go.Proofs.YtoepbjgldmgaoaaDoor

/- A start for the witness: the settled world, some variables' cells laid as the row says. -/
namespace Go.Proofs.YtoepbjgldmgaoaaDoor
def flat1 : DataW Unit → List Value
  | .lit (.int k n) => [.int k n]
  | _ => []
def flat2 : DataW Unit → List Value
  | .agg l => l.flatMap fun
    | .agg m => m.flatMap flat1
    | x => flat1 x
  | x => flat1 x
def handleCell (h t : Nat) : List Value := [.iface h (.agg #[.pointer (some ⟨3, t, none⟩)])]
def layAt (heap : Array Obj) (x : Nat × List Value) : Array Obj := heap.modify x.1 fun
  | .cells _ t frozen => .cells x.2.toArray t frozen
  | o => o
noncomputable def laidWith (l : List (Nat × List Value)) (os : Os) : World :=
  { World.holding Tryd.prog os ⟨#[], #[], []⟩ with heap := l.foldl layAt (World.holding Tryd.prog os ⟨#[], #[], []⟩).heap }
end Go.Proofs.YtoepbjgldmgaoaaDoor
