/- Lemmas on which the law stands, part 7: BookA, Obs, SameR, BookR, DPlans, OpenF, Laid. -/
import Derived.Test.YtoepbjgldmgaoaaGreatDoorKDQ6
import Derived.Test.YtoepbjgldmgaoaaGreatDoorKDQ4
import Derived.Test.YtoepbjgldmgaoaaGreatDoorKDQ5
import Derived.Test.YtoepbjgldmgaoaaGreatDoorCards
import Derived.WalkKit
import Derived.ProofKit
set_option linter.unusedVariables false
set_option linter.unusedSimpArgs false
/- Book.Apart walked: what a Book holds has memory of its own. -/
namespace Go.Proofs.YtoepbjgldmgaoaaGreatDoor
open Go.RowKit Go.Proofs.YtoepbjgldmgaoaaGreatDoorW.PrintWords Go.Proofs.YtoepbjgldmgaoaaGreatDoorW.PrintLast
theorem zero_ApartLabels (A : Option Addr) (c : Nat) (w : World) : Calls Tryz.prog 36 #[.slice A 0 c] w fun e w' => e = .returned (.bool true) ∧ w' = w := by
  go_enter Tryz.func36, Tryz.ntmps36
  go_wp2
  go_rounds 1
  go_rounds 1
  go_rounds 1
  go_ret
  exact ⟨rfl, rfl⟩
theorem row_of {w : World} {base : Nat} {t : TypeId} {v : Value} {V : List Value} (h : (Kd.raw 1).R t w base (fun _ => True) v (V.map fun u => [u])) (hout : ∀ k, inV V k → ∃ cells t', t' ≠ t ∧ w.heap[k]? = some (.cells cells t' (0, 0))) (hne : 0 < V.length) :
    ∃ ad c, v = .slice (some ad) V.length c ∧ RowV w ad V := by
  obtain ⟨A, c, e⟩ := Kd.R_slice h
  rw [List.length_map] at e
  have hr := h
  rw [e] at hr
  have hC := (Kd.R_reads' hr).2.2
  rw [List.length_map] at hC
  obtain ⟨u, hu⟩ : ∃ u, V[0]? = some u := ⟨_, List.getElem?_eq_getElem hne⟩
  obtain ⟨ad, rfl⟩ := rawSome hC hu
  have hb : v.ownBlock = some ad.block := by rw [e]; rfl
  refine ⟨ad, c, e, fun k x hx => rawCell hC hx, Kd.R_lt h _ hb, fun hk => ?_⟩
  obtain ⟨cells, t', hne', hh⟩ := hout _ hk
  obtain ⟨cells2, hh2⟩ := Kd.R_typed h _ hb
  rw [hh] at hh2
  injection hh2 with hh2
  injection hh2 with _ hh2
  exact hne' hh2
theorem OVs.typed {w : World} {V : List Value} {m : Nat → Nat} (h : OVs w V m) {k : Nat} (hk : inV V k) : ∃ cells, w.heap[k]? = some (.cells cells 53 (0, 0)) := by
  obtain ⟨v, hv, hb⟩ := hk
  obtain ⟨j, hj⟩ := List.mem_iff_getElem?.1 hv
  cases h.row j v hj with
  | nil => simp [Value.ownBlock] at hb
  | one b n c cur hn hx hh hs hm =>
    obtain rfl : b = k := by simpa [Value.ownBlock] using hb
    exact ⟨cur, hh⟩
theorem Bk.typed {w : World} {base : Nat} {V : List Value} {L : Nat → List Lab} (h : Bk w base V L) {k : Nat} (hk : inV V k) : ∃ cells, w.heap[k]? = some (.cells cells 60 (0, 0)) := by
  obtain ⟨v, hv, hb⟩ := hk
  obtain ⟨j, hj⟩ := List.mem_iff_getElem?.1 hv
  exact Kd.R_typed (h.row j v hj) k hb
theorem apart_types {w : World} {base : Nat} {V U : List Value} {L : Nat → List Lab} {m : Nat → Nat} (h : Bk w base V L) (g : OVs w U m) {k : Nat} (hk : inV V k) : ¬ inV U k := fun hu => lab_ne_obj (h.typed hk) (g.typed hu)
theorem Bk.only {w w1 : World} {base : Nat} {V U : List Value} {L : Nat → List Lab} {m : Nat → Nat} (h : Bk w base V L) (g : OVs w U m) (hb : OnlyB (inV U) w w1) : Bk w1 base V L :=
  ⟨fun k v hv => Kd.R_move (h.row k v hv) fun b hbk => hb.block b (Kd.R_lt (h.row k v hv) b hbk.symm) (apart_types h g ⟨v, List.mem_of_getElem? hv, hbk.symm⟩)⟩
theorem OnlyB.mono {G H : Nat → Prop} {w w1 : World} (h : OnlyB G w w1) (hg : ∀ k, G k → H k) : OnlyB H w w1 := ⟨h.os, h.tape, h.output, h.size, fun k hk hn => h.block k hk (fun e => hn (hg k e))⟩
theorem OnlyB.at_ {G : Nat → Prop} {w w1 : World} {b : Nat} {o : Obj} (h : OnlyB G w w1) (hb : w.heap[b]? = some o) (hg : ¬ G b) : w1.heap[b]? = some o := (h.block b (blkLt hb) hg).trans hb
theorem book_cell {w : World} {b : Nat} {v5 v10 : Value} (h : w.heap[b]? = some (.cells (bookC v5 v10) 45 (0, 0))) (i : Nat) {u : Value} (hu : (bookC v5 v10)[i]? = some u) : w.cell? ⟨b, i, none⟩ = some u := by rw [cell_of_row w b i _ _ _ h]; exact hu
set_option maxHeartbeats 1600000 in
set_option maxRecDepth 100000 in
theorem bookApart_calls (b base baseL : Nat) (v5 v10 : Value) (VL VO : List Value) (LS : Nat → List Lab) (w : World) (h : BookS w base b VL VO v5 v10) (hO : OVs w VO (fun _ => 0)) (haO : ApartV VO) (hNO : VO.length ≤ 1000000) (hL : Bk w baseL VL LS) (hbL : baseL ≤ w.heap.size) (haL : ApartV VL) (hNL : VL.length ≤ 1000000)
    (hlen : ∀ k, k < VL.length → (LS k).length ≤ 4398046510976) :
    Calls Tryz.prog 13 #[.pointer (some ⟨b, 0, none⟩)] w fun e w' => e = .returned (.bool true) ∧ OnlyB (fun k => inV VO k ∨ inV VL k) w w' := by
  have hbO : ¬ inV VO b := fun hk => by
    obtain ⟨c, hc⟩ := hO.typed hk
    rw [h.heap] at hc
    injection hc with hc
    injection hc with _ hc
    exact absurd hc (by decide)
  have hbV : ¬ inV VL b := fun hk => by
    obtain ⟨c, hc⟩ := hL.typed hk
    rw [h.heap] at hc
    injection hc with hc
    injection hc with _ hc
    exact absurd hc (by decide)
  have H1 : Hid (Calls Tryz.prog 29 #[v10] w fun e w' => e = .returned (.bool true) ∧ OnlyB (inV VO) w w') := Lib.hid (by
    rcases Nat.eq_zero_or_pos VO.length with e | e
    · obtain ⟨A, c, e1⟩ := Kd.R_slice h.objs
      rw [List.length_map, e] at e1
      rw [e1]
      refine (zero_apartObjects A c w).mono ?_
      rintro e w1 ⟨rfl, rfl⟩
      exact ⟨rfl, OnlyB.refl _ _⟩
    · obtain ⟨ad, c, rfl, hrow⟩ := row_of h.objs (fun k hk => by
        obtain ⟨cells, hc⟩ := hO.typed hk
        exact ⟨cells, _, by decide, hc⟩) e
      exact apartObjects_calls ad c VO.length VO w rfl hNO hrow hO haO)
  have H2 : Hid (∀ w1, OnlyB (inV VO) w w1 → Calls Tryz.prog 36 #[v5] w1 fun e w' => e = .returned (.bool true) ∧ OnlyB (inV VL) w1 w') := Lib.hid (fun w1 hw1 => by
    rcases Nat.eq_zero_or_pos VL.length with e | e
    · obtain ⟨A, c, e1⟩ := Kd.R_slice h.labs
      rw [List.length_map, e] at e1
      rw [e1]
      refine (zero_ApartLabels A c w1).mono ?_
      rintro e w1 ⟨rfl, rfl⟩
      exact ⟨rfl, OnlyB.refl _ _⟩
    · obtain ⟨ad, c, rfl, hrow⟩ := row_of h.labs (fun k hk => by
        obtain ⟨cells, hc⟩ := hL.typed hk
        exact ⟨cells, _, by decide, hc⟩) e
      have hb1 := hL.only hO hw1
      have ht : ¬ inV VO ad.block := fun hk => by
        obtain ⟨c1, hc1⟩ := hO.typed hk
        obtain ⟨c2, hc2⟩ := Kd.R_typed h.labs ad.block rfl
        rw [hc1] at hc2
        injection hc2 with hc2
        injection hc2 with _ hc2
        exact absurd hc2 (by decide)
      have hrow1 : RowV w1 ad VL := ⟨fun k v hv => (cell_same (w := w) (w' := w1) (a := ad.add k) (by rw [add_block]; exact hw1.block _ hrow.here ht)).trans (hrow.cells k v hv), Nat.lt_of_lt_of_le hrow.here hw1.size, hrow.out⟩
      exact apartLabels_calls ad c VL.length VL LS w1 baseL rfl hNL (Nat.le_trans hbL hw1.size) hrow1 hb1 haL hlen)
  have c10 := book_cell h.heap 10 (u := v10) rfl
  have hh := Lib.hid h.heap
  have hB := Lib.hid (And.intro hbO hbV)
  clear h hO haO hL haL hbO hbV hlen
  go_enter Tryz.func13, Tryz.ntmps13
  go_wp2_with (first
    | (go_at_call 29; (with_reducible refine H1.out.mono ?_); rintro e w1 ⟨rfl, hO1⟩; have hh1 := hO1.at_ hh.out hB.out.1; have d0 := book_cell hh1 0 (u := .slice none 0 0) rfl; have d1 := book_cell hh1 1 (u := .slice none 0 0) rfl; have d2 := book_cell hh1 2 (u := .slice none 0 0) rfl; have d3 := book_cell hh1 3 (u := .slice none 0 0) rfl; have d4 := book_cell hh1 4 (u := .slice none 0 0) rfl; have d5 := book_cell hh1 5 (u := v5) rfl; have d11 := book_cell hh1 11 (u := .slice none 0 0) rfl; have HO1 := Lib.hid (And.intro hO1 hh1); clear hO1 hh1)
    | (go_at_call 30; (with_reducible refine (nil_apartOps _).mono ?_); rintro e w0 ⟨rfl, rfl⟩)
    | (go_at_call 31; (with_reducible refine (nil_ApartBytes _).mono ?_); rintro e w0 ⟨rfl, rfl⟩)
    | (go_at_call 32; (with_reducible refine (nil_ApartTexts _).mono ?_); rintro e w0 ⟨rfl, rfl⟩)
    | (go_at_call 33; (with_reducible refine (nil_ApartInts _).mono ?_); rintro e w0 ⟨rfl, rfl⟩)
    | (go_at_call 34; (with_reducible refine (nil_ApartNumbers _).mono ?_); rintro e w0 ⟨rfl, rfl⟩)
    | (go_at_call 35; (with_reducible refine (nil_ApartBools _).mono ?_); rintro e w0 ⟨rfl, rfl⟩)
    | (go_at_call 36; (with_reducible refine (H2.out _ HO1.out.1).mono ?_); rintro e w2 ⟨rfl, hO2⟩; have hh2 := hO2.at_ HO1.out.2 hB.out.2; have e6 := book_cell hh2 6 (u := .slice none 0 0) rfl; have e7 := book_cell hh2 7 (u := .slice none 0 0) rfl; have e8 := book_cell hh2 8 (u := .slice none 0 0) rfl; have e9 := book_cell hh2 9 (u := .slice none 0 0) rfl; have HO2 := Lib.hid ((HO1.out.1.mono (H := fun k => inV VO k ∨ inV VL k) (fun _ => Or.inl)).trans (hO2.mono (fun _ => Or.inr))); clear hO2 hh2)
    | (go_at_call 37; (with_reducible refine (nil_ApartKeys _).mono ?_); rintro e w0 ⟨rfl, rfl⟩)
    | (go_at_call 38; (with_reducible refine (nil_ApartConds _).mono ?_); rintro e w0 ⟨rfl, rfl⟩)
    | (go_at_call 39; (with_reducible refine (nil_ApartAmounts _).mono ?_); rintro e w0 ⟨rfl, rfl⟩)
    | (go_at_call 40; (with_reducible refine (nil_ApartProbes _).mono ?_); rintro e w0 ⟨rfl, rfl⟩))
  go_ret
  exact ⟨rfl, HO2.out⟩
end Go.Proofs.YtoepbjgldmgaoaaGreatDoor

/- Objects of the call's own: what they and the lists within them are, for a Book. -/
namespace Go.Proofs.YtoepbjgldmgaoaaGreatDoor
open Go.RowKit Go.Proofs.YtoepbjgldmgaoaaGreatDoorW.PrintWords Go.Proofs.YtoepbjgldmgaoaaGreatDoorW.PrintLast
theorem list_of {β : Type} (P : Nat → β → Prop) : ∀ n : Nat, (∀ i, i < n → ∃ t, P i t) → ∃ T : List β, T.length = n ∧ ∀ i t, T[i]? = some t → P i t
  | 0, _ => ⟨[], rfl, fun i t h => by simp at h⟩
  | n + 1, h => by
    obtain ⟨T, hl, hT⟩ := list_of P n (fun i hi => h i (by omega))
    obtain ⟨t, ht⟩ := h n (Nat.lt_succ_self n)
    refine ⟨T ++ [t], by simp [hl], fun i u hu => ?_⟩
    rcases Nat.lt_or_ge i T.length with h1 | h1
    · rw [List.getElem?_append_left h1] at hu
      exact hT i u hu
    · rw [List.getElem?_append_right h1] at hu
      have e : i - T.length = 0 := by
        have := (List.getElem?_eq_some_iff.1 hu).1
        simp at this
        omega
      rw [e] at hu
      obtain rfl : t = u := by simpa using hu
      obtain rfl : i = n := by omega
      exact ht
structure LabsR (w : World) (base : Nat) (P : List (Value × List Lab)) : Prop where
  row : ∀ p ∈ P, kL.R 60 w base (fun b => some b = p.1.ownBlock) p.1 p.2
  apart : P.Pairwise fun p q => ∀ b, p.1.ownBlock = some b → q.1.ownBlock ≠ some b
theorem LabsR.nil (w : World) (base : Nat) : LabsR w base [] := ⟨fun p hp => (List.not_mem_nil hp).elim, List.Pairwise.nil⟩
theorem LabsR.below {w w1 : World} {base : Nat} {P : List (Value × List Lab)} (h : LabsR w base P) (hb : Below w.heap.size w w1) : LabsR w1 base P := ⟨fun p hp => Kd.R_below (h.row p hp) hb, h.apart⟩
theorem LabsR.lower {w : World} {base base' : Nat} {P : List (Value × List Lab)} (h : LabsR w base P) (hb : base' ≤ base) : LabsR w base' P := ⟨fun p hp => Kd.R_lower (h.row p hp) hb, h.apart⟩
theorem LabsR.append {w : World} {base B : Nat} {P Q : List (Value × List Lab)} (h : LabsR w base P) (g : LabsR w B Q) (hB : base ≤ B) (hlt : ∀ p ∈ P, ∀ b, p.1.ownBlock = some b → b < B) : LabsR w base (P ++ Q) :=
  ⟨fun p hp => (List.mem_append.1 hp).elim (h.row p) (fun hq => Kd.R_lower (g.row p hq) hB), List.pairwise_append.2 ⟨h.apart, g.apart, fun p hp q hq b hb e => by
    have h1 := hlt p hp b hb
    have h2 := Kd.R_base (g.row q hq) b e
    omega⟩⟩
theorem LabsR.lt {w : World} {base : Nat} {P : List (Value × List Lab)} (h : LabsR w base P) : ∀ p ∈ P, ∀ b, p.1.ownBlock = some b → b < w.heap.size := fun p hp b hb => Kd.R_lt (h.row p hp) b hb
theorem LabsR.bk {w : World} {base : Nat} {P : List (Value × List Lab)} (h : LabsR w base P) : Bk w base (P.map (·.1)) (fun k => ((P[k]?).map (·.2)).getD []) := by
  refine ⟨fun k v hv => ?_⟩
  rw [List.getElem?_map] at hv
  obtain ⟨p, hp, rfl⟩ := Option.map_eq_some_iff.1 hv
  simp only [hp, Option.map_some, Option.getD_some]
  exact h.row p (List.mem_of_getElem? hp)
theorem apartV_of {V : List Value} (h : V.Pairwise fun v u => ∀ b, v.ownBlock = some b → u.ownBlock ≠ some b) : ApartV V := by
  intro j k v u hjk hj hk b hb hu
  have h0 := List.pairwise_iff_getElem.1 h
  obtain ⟨hj1, hj2⟩ := List.getElem?_eq_some_iff.1 hj
  obtain ⟨hk1, hk2⟩ := List.getElem?_eq_some_iff.1 hk
  rcases Nat.lt_or_gt_of_ne hjk with h1 | h1
  · exact h0 j k hj1 hk1 h1 b (by rw [hj2]; exact hb) (by rw [hk2]; exact hu)
  · exact h0 k j hk1 hj1 h1 b (by rw [hk2]; exact hu) (by rw [hj2]; exact hb)
theorem LabsR.apartV {w : World} {base : Nat} {P : List (Value × List Lab)} (h : LabsR w base P) : ApartV (P.map (·.1)) := apartV_of (List.pairwise_map.2 h.apart)
def labP (T : List (Ob × Value × Value)) : List (Value × List Lab) := T.flatMap fun t => [(t.2.1, t.1.labels), (t.2.2, t.1.select)]
theorem labP_fst (T : List (Ob × Value × Value)) : (labP T).map (·.1) = labsOf T := by
  unfold labP labsOf
  rw [List.map_flatMap]
  rfl
theorem labP_snd {T : List (Ob × Value × Value)} (hf : ∀ t ∈ T, ObFits t.1) : ∀ p ∈ labP T, p.2.length ≤ 4398046510976 := by
  intro p hp
  obtain ⟨t, ht, hp⟩ := List.mem_flatMap.1 hp
  have := hf t ht
  simp only [List.mem_cons, List.not_mem_nil, or_false] at hp
  rcases hp with rfl | rfl
  · exact this.2.1
  · exact this.2.2
structure Obs (w : World) (base : Nat) (A : Option Addr) (k c : Nat) (xs : List Ob) (T : List (Ob × Value × Value)) : Prop where
  fst : T.map (·.1) = xs
  len : T.length = k
  le : k ≤ c
  tab : TabAt w A T
  labs : LabsR w base (labP T)
  ov : ∀ j c2, k ≤ c2 → c2 ≤ c → OV w j 0 (.slice A k c2)
  blk : ∀ ad, A = some ad → base ≤ ad.block ∧ ad.block < w.heap.size
theorem Obs.below {w w1 : World} {base : Nat} {A : Option Addr} {k c : Nat} {xs : List Ob} {T : List (Ob × Value × Value)} (h : Obs w base A k c xs T) (hb : Below w.heap.size w w1) : Obs w1 base A k c xs T :=
  ⟨h.fst, h.len, h.le, h.tab.below (fun ad e => (h.blk ad e).2) hb, h.labs.below hb, fun j c2 h1 h2 => (h.ov j c2 h1 h2).below hb, fun ad e => ⟨(h.blk ad e).1, Nat.lt_of_lt_of_le (h.blk ad e).2 hb.size⟩⟩
theorem Obs.fits {w : World} {base : Nat} {A : Option Addr} {k c : Nat} {xs : List Ob} {T : List (Ob × Value × Value)} (h : Obs w base A k c xs T) (hf : ∀ o ∈ xs, ObFits o) : ∀ t ∈ T, ObFits t.1 := fun t ht => hf t.1 (by rw [← h.fst]; exact List.mem_map_of_mem ht)
theorem Obs.own {w : World} {base : Nat} {A : Option Addr} {k c c2 : Nat} {xs : List Ob} {T : List (Ob × Value × Value)} (h : Obs w base A k c xs T) : ∀ b, (Value.slice A k c2).ownBlock = some b → base ≤ b ∧ b < w.heap.size := fun b hb => by
  cases A with
  | none => simp [Value.ownBlock] at hb
  | some ad =>
    obtain rfl : ad.block = b := by simpa [Value.ownBlock] using hb
    exact h.blk ad rfl
theorem book_new {w : World} {b : Nat} (h : w.heap[b]? = some (.cells (bookC nilV nilV) 45 (0, 0))) (base : Nat) (hb : base ≤ b) : BookS w base b [] [] nilV nilV := ⟨h, hb, Kd.R_nil _ _ _ _ _, Kd.R_nil _ _ _ _ _⟩
end Go.Proofs.YtoepbjgldmgaoaaGreatDoor

/- SameRequest, SameRequests: are two requests, two lists of them, the same? -/
namespace Go.Proofs.YtoepbjgldmgaoaaGreatDoor
open Go.RowKit Go.Proofs.YtoepbjgldmgaoaaGreatDoorW.PrintWords Go.Proofs.YtoepbjgldmgaoaaGreatDoorW.PrintLast
theorem rq_ob (r : Rq) (v4 v27 : Value) : ∀ (j : Nat) (u : Value), (r.ob.cells v4 v27)[j]? = some u → (r.cells v4 v27)[1 + j]? = some u := by
  intro j u hu
  have hj : j < 32 := by
    have := (Array.getElem?_eq_some_iff.1 hu).1
    rwa [Ob.cells_size] at this
  have e : r.cells v4 v27 = #[Value.int .i64 r.verb] ++ (r.ob.cells v4 v27 ++ #[.int .i64 r.kind, .string r.name, .int .i64 r.version, .string r.node, .int .i64 r.phase, .bool r.ready, .int .i64 r.now, .string r.«by», .int .i64 r.term]) := by kernel_rfl
  rw [e, Array.getElem?_append_right (by simp), Array.getElem?_append_left (by rw [Ob.cells_size]; simp; omega)]
  simpa using hu
theorem rcells_at0 (r : Rq) (v4 v27 : Value) (h : 0 < (r.cells v4 v27).size) : (r.cells v4 v27)[0]'h = .int .i64 r.verb := rfl
theorem rcells_at33 (r : Rq) (v4 v27 : Value) (h : 33 < (r.cells v4 v27).size) : (r.cells v4 v27)[33]'h = .int .i64 r.kind := rfl
theorem rcells_at34 (r : Rq) (v4 v27 : Value) (h : 34 < (r.cells v4 v27).size) : (r.cells v4 v27)[34]'h = .string r.name := rfl
theorem rcells_at35 (r : Rq) (v4 v27 : Value) (h : 35 < (r.cells v4 v27).size) : (r.cells v4 v27)[35]'h = .int .i64 r.version := rfl
theorem rcells_at36 (r : Rq) (v4 v27 : Value) (h : 36 < (r.cells v4 v27).size) : (r.cells v4 v27)[36]'h = .string r.node := rfl
theorem rcells_at37 (r : Rq) (v4 v27 : Value) (h : 37 < (r.cells v4 v27).size) : (r.cells v4 v27)[37]'h = .int .i64 r.phase := rfl
theorem rcells_at38 (r : Rq) (v4 v27 : Value) (h : 38 < (r.cells v4 v27).size) : (r.cells v4 v27)[38]'h = .bool r.ready := rfl
theorem rcells_at39 (r : Rq) (v4 v27 : Value) (h : 39 < (r.cells v4 v27).size) : (r.cells v4 v27)[39]'h = .int .i64 r.now := rfl
theorem rcells_at40 (r : Rq) (v4 v27 : Value) (h : 40 < (r.cells v4 v27).size) : (r.cells v4 v27)[40]'h = .string r.«by» := rfl
theorem rcells_at41 (r : Rq) (v4 v27 : Value) (h : 41 < (r.cells v4 v27).size) : (r.cells v4 v27)[41]'h = .int .i64 r.term := rfl
attribute [local go_sem] rcells_at0 rcells_at33 rcells_at34 rcells_at35 rcells_at36 rcells_at37 rcells_at38 rcells_at39 rcells_at40 rcells_at41
def sameR (r s : Rq) : Bool := decide (r.verb = s.verb) && (sameB r.ob s.ob && (decide (r.kind = s.kind) && decide (r.name.toList = s.name.toList) && decide (r.version = s.version) && decide (r.node.toList = s.node.toList) && decide (r.phase = s.phase) && decide (r.ready = s.ready) && decide (r.now = s.now) && decide (r.«by».toList = s.«by».toList) && decide (r.term = s.term)))
theorem sameR_iff (r s : Rq) : sameR r s = true ↔ r = s := by
  constructor
  · intro h
    simp only [sameR, tl_inj, Bool.and_eq_true, decide_eq_true_eq, sameB_iff] at h
    obtain ⟨a0, a1, ⟨⟨⟨⟨⟨⟨⟨⟨a2, a3⟩, a4⟩, a5⟩, a6⟩, a7⟩, a8⟩, a9⟩, a10⟩⟩ := h
    cases r
    cases s
    simp only at a0 a1 a2 a3 a4 a5 a6 a7 a8 a9 a10
    subst_vars
    rfl
  · rintro rfl
    simp [sameR, sameB_dec]
instance rqDec : DecidableEq Rq := fun o p => decidable_of_iff (sameR o p = true) (sameR_iff o p)
theorem sameR_dec (o p : Rq) : sameR o p = decide (o = p) := by
  rw [Bool.eq_iff_iff, sameR_iff, decide_eq_true_eq]
theorem rq_cells_at {W : World} {g : Nat} {r : Rq} {v4 v27 : Value} (h : W.heap[g]? = some (.cells (r.cells v4 v27) 62 (0, 0))) : ∀ (j : Nat) (u : Value), (r.ob.cells v4 v27)[j]? = some u → W.cell? ((⟨g, 1, none⟩ : Addr).add j) = some u := fun j u hu => by
  rw [add_at, cell_of_row _ _ _ _ _ _ h]
  exact rq_ob r v4 v27 j u hu
set_option maxRecDepth 100000 in
set_option maxHeartbeats 4000000 in
theorem sameReq_calls (r s : Rq) (v4 v27 u4 u27 : Value) (w : World) (l4 : LabK w r.ob.labels v4) (l27 : LabK w r.ob.select v27) (m4 : LabK w s.ob.labels u4) (m27 : LabK w s.ob.select u27) :
    Calls Tryz.prog 26 #[.agg (r.cells v4 v27), .agg (s.cells u4 u27)] w fun e w' => e = .returned (.bool (sameR r s)) ∧ Below w.heap.size w w' := by
  obtain ⟨cs, hcs⟩ : ∃ cs, cs = r.cells v4 v27 := ⟨_, rfl⟩
  obtain ⟨ds, hds⟩ : ∃ ds, ds = s.cells u4 u27 := ⟨_, rfl⟩
  obtain ⟨oc, hoc⟩ : ∃ cs, cs = r.ob.cells v4 v27 := ⟨_, rfl⟩
  obtain ⟨pc, hpc⟩ : ∃ ds, ds = s.ob.cells u4 u27 := ⟨_, rfl⟩
  obtain ⟨sb, hsb⟩ : ∃ b, b = sameB r.ob s.ob := ⟨_, rfl⟩
  have QS := Lib.hid (fun (W : World) (hW : Below w.heap.size w W) => sameObject_calls r.ob s.ob v4 v27 u4 u27 W (l4.below hW) (l27.below hW) (m4.below hW) (m27.below hW))
  have hi1 : Hid ((Tryz.prog.info? 53).map (·.size) = some oc.size) := Lib.hid (by rw [hoc, Ob.cells_size]; kernel_rfl)
  have hi2 : Hid ((Tryz.prog.info? 53).map (·.size) = some pc.size) := Lib.hid (by rw [hpc, Ob.cells_size]; kernel_rfl)
  have HX1 : Hid (∀ W : World, W.heap[w.heap.size]? = some (.cells cs 62 (0, 0)) → (∀ (j : Nat) (u : Value), oc[j]? = some u → W.cell? ((⟨w.heap.size, 1, none⟩ : Addr).add j) = some u) ∧ ∀ (j : Nat) (u : Value), (r.cells v4 v27)[j]? = some u → W.cell? ⟨w.heap.size, j, none⟩ = some u) :=
    Lib.hid (fun W h => by rw [hcs] at h; rw [hoc]; exact ⟨rq_cells_at h, fun j u hu => (cell_of_row _ _ _ _ _ _ h).trans hu⟩)
  have HX2 : Hid (∀ W : World, W.heap[w.heap.size + 1]? = some (.cells ds 62 (0, 0)) → (∀ (j : Nat) (u : Value), pc[j]? = some u → W.cell? ((⟨w.heap.size + 1, 1, none⟩ : Addr).add j) = some u) ∧ ∀ (j : Nat) (u : Value), (s.cells u4 u27)[j]? = some u → W.cell? ⟨w.heap.size + 1, j, none⟩ = some u) :=
    Lib.hid (fun W h => by rw [hds] at h; rw [hpc]; exact ⟨rq_cells_at h, fun j u hu => (cell_of_row _ _ _ _ _ _ h).trans hu⟩)
  rw [← hcs, ← hds]
  rw [← hoc, ← hpc, ← hsb] at QS
  have es : sameR r s = (decide (r.verb = s.verb) && (sb && (decide (r.kind = s.kind) && decide (r.name.toList = s.name.toList) && decide (r.version = s.version) && decide (r.node.toList = s.node.toList) && decide (r.phase = s.phase) && decide (r.ready = s.ready) && decide (r.now = s.now) && decide (r.«by».toList = s.«by».toList) && decide (r.term = s.term)))) := by rw [hsb]; rfl
  obtain ⟨rb, hrb⟩ : ∃ rb, rb = sameR r s := ⟨_, rfl⟩
  rw [← hrb]
  rw [← hrb] at es
  have HR := Lib.hid es
  have HM := Lib.hid (Eq.refl 0)
  clear hcs hds hoc hpc hsb es l4 l27 m4 m27 hrb
  go_enter Tryz.func26, Tryz.ntmps26
  simp only [List.append_eq, List.cons_append, List.nil_append]
  go_wp2_with (first
    | ((with_reducible refine gate_ (.fieldAddr 62 (.tmp 2) 0) rfl ?_); clear HM; (have HW : Hid (Below w.heap.size w ((w.alloc (Obj.cells cs 62)).alloc (Obj.cells ds 62))) := Lib.hid (Go.Joins.below_alloc2 w _ _)); (have B1 : Hid (((w.alloc (Obj.cells cs 62)).alloc (Obj.cells ds 62)).heap[w.heap.size]? = some (.cells cs 62 (0, 0))) := Lib.hid ((heap_alloc_old _ _ (by simp)).trans (heap_alloc_new w _))); (have B2 : Hid (((w.alloc (Obj.cells cs 62)).alloc (Obj.cells ds 62)).heap[w.heap.size + 1]? = some (.cells ds 62 (0, 0))) := Lib.hid (heap_alloc2_new w _ _)); (generalize ((w.alloc (Obj.cells cs 62)).alloc (Obj.cells ds 62)) = W0 at HW B1 B2 ⊢); obtain ⟨ga, hga⟩ : ∃ x, x = w.heap.size := ⟨_, rfl⟩; obtain ⟨gb, hgb⟩ : ∃ x, x = w.heap.size + 1 := ⟨_, rfl⟩; rw [← hgb] at B2 HX2 ⊢; rw [← hga] at B1 HX1 ⊢; (have HC1 := Lib.hid (HX1.out _ B1.out).2); (have HC2 := Lib.hid (HX2.out _ B2.out).2); clear hga hgb)
    | ((with_reducible refine wpList_load_any_w ?lg 53 _ rfl ⟨ga, 1, none⟩ ?lx oc _ ?lc Tryz.underlying53 ?ld ?li ?_); (case lg => rfl); (case lx => rfl); (case lc => exact (HX1.out _ B1.out).1); (case ld => rfl); (case li => exact hi1.out))
    | ((with_reducible refine wpList_load_any_w ?lg2 53 _ rfl ⟨gb, 1, none⟩ ?lx2 pc _ ?lc2 Tryz.underlying53 ?ld2 ?li2 ?_); (case lg2 => rfl); (case lx2 => rfl); (case lc2 => exact (HX2.out _ B2.out).1); (case ld2 => rfl); (case li2 => exact hi2.out))
    | (go_at_call 54; (with_reducible refine (QS.out _ HW.out).mono ?_); rintro e w1 ⟨rfl, hb⟩; replace HC1 := Lib.hid (fun j u h => cell_below hb (HC1.out j u h)); replace HC2 := Lib.hid (fun j u h => cell_below hb (HC2.out j u h)); replace HW := Lib.hid (belT HW.out hb); clear hb)
    | ((with_reducible refine gate_ (.load 3 _) rfl ?_); first | refine wpList_load1_w 3 _ rfl _ rfl rfl _ _ (HC1.out _ _ rfl) Tryz.underlying3 rfl ?_ | refine wpList_load1_w 3 _ rfl _ rfl rfl _ _ (HC2.out _ _ rfl) Tryz.underlying3 rfl ?_)
    | ((with_reducible refine gate_ (.load 9 _) rfl ?_); first | refine wpList_load1_w 9 _ rfl _ rfl rfl _ _ (HC1.out _ _ rfl) Tryz.underlying9 rfl ?_ | refine wpList_load1_w 9 _ rfl _ rfl rfl _ _ (HC2.out _ _ rfl) Tryz.underlying9 rfl ?_)
    | ((with_reducible refine gate_ (.load 4 _) rfl ?_); first | refine wpList_load1_w 4 _ rfl _ rfl rfl _ _ (HC1.out _ _ rfl) Tryz.underlying4 rfl ?_ | refine wpList_load1_w 4 _ rfl _ rfl rfl _ _ (HC2.out _ _ rfl) Tryz.underlying4 rfl ?_))
  all_goals go_ret
  all_goals (refine ⟨?_, HW.out⟩; clear HC1 HC2 HW; rw [HR.out]; clear HR QS HX1 HX2; first | (simp_all; done) | (simp_all; rw [Bool.eq_iff_iff]; simp))
structure RqAt (w : World) (ad : Addr) (k : Nat) (o : Rq) (v4 v27 : Value) : Prop where
  l4 : LabK w o.ob.labels v4
  l27 : LabK w o.ob.select v27
  cells : ∀ (j : Nat) (u : Value), (o.cells v4 v27)[j]? = some u → w.cell? ((ad.add (k * 42)).add j) = some u
theorem RqAt.below {w w1 : World} {ad : Addr} {k : Nat} {o : Rq} {v4 v27 : Value} (h : RqAt w ad k o v4 v27) (hb : Below w.heap.size w w1) : RqAt w1 ad k o v4 v27 :=
  ⟨h.l4.below hb, h.l27.below hb, fun j u hu => cell_below hb (h.cells j u hu)⟩
theorem rqAt {w : World} {A : Option Addr} {n : Nat} {l : List Rq} (h : kRq.C w A n l) (k : Nat) (o : Rq) (hk : l[k]? = some o) : ∃ ad v4 v27, A = some ad ∧ RqAt w ad k o v4 v27 := by
  obtain ⟨ad, v4, v27, e, h4, h27, hc⟩ := rq_at h k o hk
  exact ⟨ad, v4, v27, e, h4, h27, hc⟩
theorem take_sameR {l m : List Rq} {k : Nat} (h : l.take k = m.take k) {o p : Rq} (ho : l[k]? = some o) (hp : m[k]? = some p) : l.take (k + 1) = m.take (k + 1) ↔ o = p := by
  rw [List.take_add_one, List.take_add_one, h, ho, hp]
  simp
def rg8_6_T : Bool × List (List Nat × List Nat) := (true, [([], []), ([], []), ([0, 1], [0, 1]), ([2], [2]), ([], []), ([], []), ([4, 5], [4, 5]), ([6], [6]), ([3, 7], [3, 7]), ([8], [8])])
def rg8_6_B : List Nat := [0, 0, 3, 7, 0, 0, 48, 112, 255, 511]
theorem rg8_6_tab : rtab .any (opsOf Tryz.f8 6) = rg8_6_T := by kernel_rfl
theorem rg8_6_bits : waitsOk rg8_6_T.2 rg8_6_B = true := by kernel_rfl
set_option maxHeartbeats 1600000 in
set_option maxRecDepth 100000 in
theorem sameReqs_eq (A B : Option Addr) (l m : List Rq) (c d n : Nat) (w : World) (hr : kRq.C w A l.length l) (hs : kRq.C w B m.length m) (hl : l.length = n) (hm : m.length = n) (hn : n ≤ 1000000) :
    Calls Tryz.prog 8 #[.slice A n c, .slice B n d] w fun e w' => e = .returned (.bool (decide (l = m))) ∧ Below w.heap.size w w' := by
  have HR := Lib.hid hr
  have HS := Lib.hid hs
  have HL := Lib.hid (And.intro hl hm)
  clear hr hs hl hm
  go_enter Tryz.func8, Tryz.ntmps8
  go_wp2
  go_loopw [5] (fun v5 wr => ∃ k : Nat, k ≤ n ∧ v5 = .int .i64 k ∧ Hid (l.take k = m.take k ∧ Below w.heap.size w wr)) (fun v5 _ => n - (intOf v5).toNat)
  case atStart => exact ⟨0, Nat.zero_le _, rfl, Lib.hid ⟨by simp, Below.refl _ _⟩⟩
  case round =>
    obtain ⟨k, hk, rfl, hI⟩ := hrel
    by_cases hlt : k < n
    · obtain ⟨o, ho⟩ : ∃ o, l[k]? = some o := ⟨_, List.getElem?_eq_getElem (by have := HL.out; omega)⟩
      obtain ⟨p, hp⟩ : ∃ p, m[k]? = some p := ⟨_, List.getElem?_eq_getElem (by have := HL.out; omega)⟩
      obtain ⟨ad, v4, v27, rfl, hO⟩ := rqAt (Kd.C_below HR.out hI.out.2) k o ho
      obtain ⟨bd, u4, u27, rfl, hP⟩ := rqAt (Kd.C_below HS.out hI.out.2) k p hp
      obtain ⟨cs, hcs⟩ : ∃ cs, cs = o.cells v4 v27 := ⟨_, rfl⟩
      obtain ⟨ds, hds⟩ : ∃ ds, ds = p.cells u4 u27 := ⟨_, rfl⟩
      have hi1 : Hid ((Tryz.prog.info? 62).map (·.size) = some cs.size) := Lib.hid (by rw [hcs, Rq.cells_size]; kernel_rfl)
      have hi2 : Hid ((Tryz.prog.info? 62).map (·.size) = some ds.size) := Lib.hid (by rw [hds, Rq.cells_size]; kernel_rfl)
      have B1 := hO.cells
      have B2 := hP.cells
      rw [← hcs] at B1
      rw [← hds] at B2
      obtain ⟨rb, hrb⟩ : ∃ rb, rb = sameR o p := ⟨_, rfl⟩
      have QS := Lib.hid (fun (W : World) (hW : Below wr.heap.size wr W) => sameReq_calls o p v4 v27 u4 u27 W (hO.l4.below hW) (hO.l27.below hW) (hP.l4.below hW) (hP.l27.below hW))
      rw [← hrb, ← hcs, ← hds] at QS
      have HT := Lib.hid (And.intro ho (And.intro hp hrb))
      replace B1 := Lib.hid (fun (W : World) (hW : Below wr.heap.size wr W) j u hu => cell_below hW (B1 j u hu))
      replace B2 := Lib.hid (fun (W : World) (hW : Below wr.heap.size wr W) j u hu => cell_below hW (B2 j u hu))
      clear ho hp hrb hcs hds hO hP
      have HB : Below wr.heap.size wr wr := Below.refl _ _
      replace HB := below_drew HB
      have hlk : (k : Int) < (n : Int) := by omega
      go_upto_region 6 with (fail)
      refine start_ (n := 10) (S := fun w' => Below wr.heap.size wr w') (ds := []) (bs 10 0) (by kernel_rfl) rfl (by kernel_rfl) HB (fun hHeld => ?_)
      refine with_tabW rg8_6_tab rg8_6_bits (fun HT_ HW_ => ?_)
      refine pu 0 (some 17) (bs 10 1) HT_ rfl rfl (by kernel_rfl) (fun _ _ _ _ h => h) ⟨_, .inl ⟨by rfl, fun _ => by go_simp; with_reducible rfl⟩, _, by simp only [Act.put, sA, sB, sC, i64_w, i32_w]; rfl, ?_⟩
      refine pu 1 (some 18) (bs 10 3) HT_ rfl rfl (by kernel_rfl) (fun _ _ _ _ h => h) ⟨_, .inl ⟨by rfl, fun _ => by go_simp; with_reducible rfl⟩, _, by simp only [Act.put, sA, sB, sC, i64_w, i32_w]; rfl, ?_⟩
      refine pu 2 (some 19) (bs 10 7) HT_ rfl rfl (by kernel_rfl) (fun _ _ _ _ h => h) ⟨_, .inl ⟨by rfl, fun _ => by go_simp; with_reducible rfl⟩, _, by simp only [Act.put, sA, sB, sC, i64_w, i32_w]; rfl, ?_⟩
      refine pu 4 (some 21) (bs 10 23) HT_ rfl rfl (by kernel_rfl) (fun _ _ _ _ h => h) ⟨_, .inl ⟨by rfl, fun _ => by go_simp; with_reducible rfl⟩, _, by simp only [Act.put, sA, sB, sC, i64_w, i32_w]; rfl, ?_⟩
      refine pu 5 (some 22) (bs 10 55) HT_ rfl rfl (by kernel_rfl) (fun _ _ _ _ h => h) ⟨_, .inl ⟨by rfl, fun _ => by go_simp; with_reducible rfl⟩, _, by simp only [Act.put, sA, sB, sC, i64_w, i32_w]; rfl, ?_⟩
      refine pu 6 (some 23) (bs 10 119) HT_ rfl rfl (by kernel_rfl) (fun _ _ _ _ h => h) ⟨_, .inl ⟨by rfl, fun _ => by go_simp; with_reducible rfl⟩, _, by simp only [Act.put, sA, sB, sC, i64_w, i32_w]; rfl, ?_⟩
      refine tk 3 (some 20) (bs 10 127) HT_ HW_ rfl rfl (by kernel_rfl) (fun _ _ _ _ h => h) hHeld ⟨_, .inl ⟨by rfl, by rintro w' s0; refine load_any_ (x := .tmp 19) (p := ad.add (k * 42)) ?_ ?_ (B1.out _ s0) Tryz.underlying62 rfl hi1.out <;> rfl⟩, _, by simp only [Act.put, sA, sB, sC, i64_w, i32_w]; rfl, ?_⟩
      refine tk 7 (some 24) (bs 10 255) HT_ HW_ rfl rfl (by kernel_rfl) (fun _ _ _ _ h => h) hHeld ⟨_, .inl ⟨by rfl, by rintro w' s0; refine load_any_ (x := .tmp 23) (p := bd.add (k * 42)) ?_ ?_ (B2.out _ s0) Tryz.underlying62 rfl hi2.out <;> rfl⟩, _, by simp only [Act.put, sA, sB, sC, i64_w, i32_w]; rfl, ?_⟩
      refine on1 8 (some 25) (bs 10 511) HT_ rfl rfl (by kernel_rfl) (by decide) (fun K hK => ?_)
      refine goes_ Tryz.func26 (by kernel_rfl) rfl #[.agg cs, .agg ds] (by rfl) rfl rfl (by (try simp only [List.map_toArray, List.map_cons, List.map_nil]); first | done | rfl) ?_
      with_reducible refine (QS.out _ HB).mono ?_
      rintro e w1 ⟨rfl, hb⟩
      replace HB := belT HB hb
      clear hb
      refine ⟨_, rfl, ?_⟩
      refine hK.out _ _ HB (fun hHeld => ?_)
      clear hK K
      refine nm ⟨_, show Act.put _ (some 25) _ = _ by simp only [Act.put, sA, sB, sC, i64_w, i32_w]; rfl, ?_⟩
      refine pu 9 (some 26) (bs 10 1023) HT_ rfl rfl (by kernel_rfl) (fun _ _ _ _ h => h) ⟨_, .inl ⟨by rfl, fun _ => by go_simp; with_reducible rfl⟩, _, by simp only [Act.put, sA, sB, sC, i64_w, i32_w]; rfl, ?_⟩
      refine done_ (done_of HT_.out (by kernel_rfl)) ?_
      cases rb
      · go_wp2
        go_ret
        refine ⟨?_, belT hI.out.2 HB⟩
        have e : ¬ l = m := fun e => by
          subst e
          obtain ⟨h1, h2, h3⟩ := HT.out
          rw [h1] at h2
          injection h2 with h2
          subst h2
          rw [sameR_dec] at h3
          simp at h3
        rw [decide_eq_false e]
        rfl
      · go_wp2
        go_roundw
        case rel =>
          obtain ⟨h1, h2, h3⟩ := HT.out
          rw [sameR_dec] at h3
          exact ⟨k + 1, by omega, by go_num, Lib.hid ⟨(take_sameR hI.out.1 h1 h2).2 (of_decide_eq_true h3.symm), belT hI.out.2 HB⟩⟩
        case measure => simp [intOf]; omega
    · obtain rfl : k = n := by omega
      go_wp2
      go_ret
      refine ⟨?_, hI.out.2⟩
      obtain ⟨h1, h2⟩ := HL.out
      have h := hI.out.1
      rw [← h1, List.take_length, h1, ← h2, List.take_length] at h
      rw [decide_eq_true h]
      rfl
theorem sameReqs_calls (A B : Option Addr) (l m : List Rq) (c d : Nat) (w : World) (hr : kRq.C w A l.length l) (hs : kRq.C w B m.length m) (hn : l.length ≤ 1000000) :
    Calls Tryz.prog 8 #[.slice A l.length c, .slice B m.length d] w fun e w' => e = .returned (.bool (decide (l = m))) ∧ Below w.heap.size w w' := by
  by_cases h : l.length = m.length
  · have := sameReqs_eq A B l m c d l.length w hr hs rfl h.symm hn
    rw [← h]
    exact this
  · have hne : ¬ l = m := fun e => h (by rw [e])
    rw [decide_eq_false hne]
    have e1 : ((l.length : Int) != (m.length : Int)) = true := by simp; omega
    clear hr hs hne
    go_enter Tryz.func8, Tryz.ntmps8
    go_wp2
    go_ret
    exact ⟨rfl, Below.refl _ _⟩
end Go.Proofs.YtoepbjgldmgaoaaGreatDoor

/- Book.Requests walked; requests of the call's own, taken apart; two lists of them in one Book. -/
namespace Go.Proofs.YtoepbjgldmgaoaaGreatDoor
open Go.RowKit Go.Proofs.YtoepbjgldmgaoaaGreatDoorW.PrintWords Go.Proofs.YtoepbjgldmgaoaaGreatDoorW.PrintLast
structure RTab (w : World) (A : Option Addr) (T : List (Ob × Value × Value)) : Prop where
  at_ : ∀ (i : Nat) o u4 u27, T[i]? = some (o, u4, u27) → ∃ ad, A = some ad ∧ ∀ (j : Nat) (u : Value), (o.cells u4 u27)[j]? = some u → w.cell? (ad.add (i * 42 + 1 + j)) = some u
  one : ∀ t ∈ T, (t.2.1.cells = #[t.2.1] ∧ t.2.1.oneCell' = true) ∧ (t.2.2.cells = #[t.2.2] ∧ t.2.2.oneCell' = true)
theorem RTab.below {w w1 : World} {A : Option Addr} {T : List (Ob × Value × Value)} {base : Nat} (h : RTab w A T) (hA : ∀ ad, A = some ad → ad.block < base) (hb : Below base w w1) : RTab w1 A T :=
  ⟨fun i o u4 u27 hi => by
    obtain ⟨ad, e, hc⟩ := h.at_ i o u4 u27 hi
    refine ⟨ad, e, fun j u hu => ?_⟩
    exact (cell_same (w := w) (w' := w1) (a := ad.add (i * 42 + 1 + j)) (by rw [add_block]; exact hb.block _ (hA ad e))).trans (hc j u hu), h.one⟩
structure Rqs (w : World) (base : Nat) (A : Option Addr) (k : Nat) (xs : List Rq) (T : List (Ob × Value × Value)) : Prop where
  fst : T.map (·.1) = xs.map (·.ob)
  len : T.length = k
  tab : RTab w A T
  labs : LabsR w base (labP T)
  blk : ∀ ad, A = some ad → base ≤ ad.block ∧ ad.block < w.heap.size
theorem rqs_of_S {w : World} {base : Nat} {ok : Nat → Prop} {A : Option Addr} {k c : Nat} {xs : List Rq} (h : Kd.S kRq 62 w base ok (.slice A k c) xs) : ∃ T, Rqs w base A k xs T := by
  have hS := h
  obtain ⟨f, h0, hrow⟩ := h
  obtain ⟨A', c', e, hkc, hr⟩ := OwnRow.reads hrow
  rw [List.length_zipIdx] at e hkc hr
  injection e with e1 e2 e3
  subst e1
  subst e2
  subst e3
  obtain ⟨T, hTl, hT⟩ := list_of (fun i (t : Ob × Value × Value) => (xs[i]?).map (·.ob) = some t.1 ∧ (∃ ad, A = some ad ∧ ∀ (j : Nat) (u : Value), (t.1.cells t.2.1 t.2.2)[j]? = some u → w.cell? (ad.add (i * 42 + 1 + j)) = some u) ∧
      kL.R 60 w base (fun b => f b = i ∧ some b ≠ t.2.2.ownBlock) t.2.1 t.1.labels ∧ kL.R 60 w base (fun b => f b = i ∧ some b ≠ t.2.1.ownBlock) t.2.2 t.1.select) xs.length (fun i hi => by
    obtain ⟨o, ho⟩ : ∃ o, xs[i]? = some o := ⟨_, List.getElem?_eq_getElem hi⟩
    obtain ⟨ad, e, hc⟩ := hr.2.2 (by omega)
    obtain ⟨cs, hs, ⟨v4, v27, rfl, h4, h27⟩, hcell⟩ := hc i (o, i) (Kd.zip_at ho)
    refine ⟨(o.ob, v4, v27), by rw [ho]; rfl, ⟨ad, e, fun j u hu => ?_⟩, Kd.R_mono h4 (fun b hb => ⟨hb.1.2, hb.2⟩), Kd.R_mono h27 (fun b hb => ⟨hb.1.2, hb.2⟩)⟩
    have := hcell (1 + j) u (by simpa using rq_ob o v4 v27 j u hu)
    rw [show i * 42 + 1 + j = i * kRq.sz + (1 + j) from Nat.add_assoc _ _ _]
    exact this)
  have hrows : ∀ t ∈ T, ∃ i, kL.R 60 w base (fun b => f b = i ∧ some b ≠ t.2.2.ownBlock) t.2.1 t.1.labels ∧ kL.R 60 w base (fun b => f b = i ∧ some b ≠ t.2.1.ownBlock) t.2.2 t.1.select := fun t ht => by
    obtain ⟨i, hi⟩ := List.mem_iff_getElem?.1 ht
    exact ⟨i, (hT i t hi).2.2⟩
  refine ⟨T, ?_, hTl, ⟨fun i o u4 u27 hi => (hT i _ hi).2.1, fun t ht => ?_⟩, ⟨fun p hp => ?_, ?_⟩, fun ad e => ?_⟩
  · apply List.ext_getElem?
    intro i
    rw [List.getElem?_map, List.getElem?_map]
    rcases Nat.lt_or_ge i T.length with h1 | h1
    · obtain ⟨t, ht⟩ : ∃ t, T[i]? = some t := ⟨_, List.getElem?_eq_getElem h1⟩
      rw [ht, (hT i t ht).1]
      rfl
    · rw [List.getElem?_eq_none h1, List.getElem?_eq_none (by omega)]
      rfl
  · obtain ⟨i, h4, h27⟩ := hrows t ht
    obtain ⟨A4, c4, e4⟩ := Kd.R_slice h4
    obtain ⟨A27, c27, e27⟩ := Kd.R_slice h27
    rw [e4, e27]
    exact ⟨⟨rfl, rfl⟩, ⟨rfl, rfl⟩⟩
  · obtain ⟨t, ht, hp⟩ := List.mem_flatMap.1 hp
    obtain ⟨i, h4, h27⟩ := hrows t ht
    simp only [List.mem_cons, List.not_mem_nil, or_false] at hp
    rcases hp with rfl | rfl
    · exact Kd.R_tight rfl h4
    · exact Kd.R_tight rfl h27
  · refine List.pairwise_flatMap.2 ⟨fun t ht => ?_, ?_⟩
    · obtain ⟨i, h4, h27⟩ := hrows t ht
      refine List.pairwise_pair.2 (fun b hb e => ?_)
      exact (h4.1 b hb).2 e.symm
    · refine List.pairwise_iff_getElem.2 (fun i j hi hj hij p hp q hq b hb e => ?_)
      obtain ⟨_, _, h4, h27⟩ := hT i _ (List.getElem?_eq_getElem hi)
      obtain ⟨_, _, g4, g27⟩ := hT j _ (List.getElem?_eq_getElem hj)
      have e1 : f b = i := by
        simp only [List.mem_cons, List.not_mem_nil, or_false] at hp
        rcases hp with rfl | rfl
        · exact (h4.1 b hb).1
        · exact (h27.1 b hb).1
      have e2 : f b = j := by
        simp only [List.mem_cons, List.not_mem_nil, or_false] at hq
        rcases hq with rfl | rfl
        · exact (g4.1 b e).1
        · exact (g27.1 b e).1
      omega
  · subst e
    exact ⟨Kd.S_base hS _ rfl, Kd.S_lt hS _ rfl⟩
theorem Rqs.below {w w1 : World} {base : Nat} {A : Option Addr} {k : Nat} {xs : List Rq} {T : List (Ob × Value × Value)} (h : Rqs w base A k xs T) (hb : Below w.heap.size w w1) : Rqs w1 base A k xs T :=
  ⟨h.fst, h.len, h.tab.below (fun ad e => (h.blk ad e).2) hb, h.labs.below hb, fun ad e => ⟨(h.blk ad e).1, Nat.lt_of_lt_of_le (h.blk ad e).2 hb.size⟩⟩
structure RqsLt (B : Nat) (A : Option Addr) (T : List (Ob × Value × Value)) : Prop where
  blk : ∀ ad, A = some ad → ad.block < B
  labs : ∀ p ∈ labP T, ∀ b, p.1.ownBlock = some b → b < B
theorem Rqs.lt {w : World} {base : Nat} {A : Option Addr} {k : Nat} {xs : List Rq} {T : List (Ob × Value × Value)} (h : Rqs w base A k xs T) : RqsLt w.heap.size A T := ⟨fun ad e => (h.blk ad e).2, h.labs.lt⟩
theorem RqsLt.mono {B B' : Nat} {A : Option Addr} {T : List (Ob × Value × Value)} (h : RqsLt B A T) (hb : B ≤ B') : RqsLt B' A T := ⟨fun ad e => Nat.lt_of_lt_of_le (h.blk ad e) hb, fun p hp b e => Nat.lt_of_lt_of_le (h.labs p hp b e) hb⟩
theorem Rqs.keep {w w1 : World} {base B : Nat} {A : Option Addr} {k : Nat} {xs : List Rq} {T : List (Ob × Value × Value)} (h : Rqs w base A k xs T) (hlt : RqsLt B A T) (hb : Below B w w1) : Rqs w1 base A k xs T :=
  ⟨h.fst, h.len, h.tab.below hlt.blk hb, ⟨fun p hp => Kd.R_move (h.labs.row p hp) (fun b e => hb.block b (hlt.labs p hp b e.symm)), h.labs.apart⟩, fun ad e => ⟨(h.blk ad e).1, Nat.lt_of_lt_of_le (h.blk ad e).2 hb.size⟩⟩
set_option maxHeartbeats 1600000 in
set_option maxRecDepth 100000 in
theorem bookRequests_calls (b base : Nat) (A : Option Addr) (n c : Nat) (T : List (Ob × Value × Value)) (v5 v10 : Value) (w : World) (VL VO : List Value) (hTn : T.length = n) (hT : RTab w A T) (hA : ∀ ad, A = some ad → ad.block < base) (h : BookS w base b VL VO v5 v10)
    (hn : (VL.length + 2 * n + 2) * 24 ≤ 140737488355328) (hbase : base ≤ w.heap.size) :
    Calls Tryz.prog 12 #[.pointer (some ⟨b, 0, none⟩), .slice A n c] w fun e w' => e = .returned undef ∧ (∃ v5', BookS w' base b (VL ++ labsOf T) VO v5' v10) ∧ Below base w w' ∧ FrameT w w' := by
  have H := Lib.hid h
  have HT := Lib.hid (And.intro hTn (And.intro hT (And.intro hA hbase)))
  clear h hTn hT hA
  go_enter Tryz.func12, Tryz.ntmps12
  go_wp2
  go_loopw [4] (fun v4 wr => ∃ k : Nat, k ≤ n ∧ v4 = .int .i64 k ∧ ∃ v5', Hid (BookS wr base b (VL ++ labsOf (T.take k)) VO v5' v10 ∧ Below base w wr ∧ FrameT w wr)) (fun v4 _ => n - (intOf v4).toNat)
  case atStart => exact ⟨0, Nat.zero_le _, rfl, v5, Lib.hid ⟨by simpa [labsOf] using H.out, Below.refl _ _, FrameT.refl _⟩⟩
  case round =>
    obtain ⟨k, hk, rfl, v5', hI⟩ := hrel
    by_cases hkn : k < n
    · obtain ⟨⟨o, u4, u27⟩, ht⟩ : ∃ t, T[k]? = some t := ⟨_, List.getElem?_eq_getElem (by have := HT.out.1; omega)⟩
      obtain ⟨ad, hAd, hcells⟩ := (HT.out.2.1.below HT.out.2.2.1 hI.out.2.1).at_ k o u4 u27 ht
      subst hAd
      have hone := HT.out.2.1.one _ (List.mem_of_getElem? ht)
      have hlen : ((VL ++ labsOf (T.take k)).length + 2) * 24 ≤ 140737488355328 := book_len HT.out.1 hn
      have hszr : base ≤ wr.heap.size := Nat.le_trans HT.out.2.2.2 hI.out.2.1.size
      have hlk : (k : Int) < (n : Int) := by omega
      have hcells2 : ∀ (j : Nat) (u : Value), (o.cells u4 u27)[j]? = some u → wr.cell? ((⟨(ad.add (k * 42)).block, (ad.add (k * 42)).off + 1, none⟩ : Addr).add j) = some u := fun j u hu => by
        rw [← add_field _ _ _ (by decide), add_add]
        exact hcells j u hu
      have HC := Lib.hid (And.intro hcells2 (And.intro hone (And.intro hlen (And.intro hszr ht))))
      clear hcells hcells2 hone hlen hszr ht
      go_wp2_with (first
        | ((with_reducible refine wpList_load_any_w ?g0 53 (.tmp 15) rfl ⟨(ad.add (k * 42)).block, (ad.add (k * 42)).off + 1, none⟩ ?g1 (o.cells u4 u27) _ ?g2 Tryz.underlying53 rfl ?g3 ?_); (case g0 => rfl); (case g1 => rfl); (case g2 => exact HC.out.1); (case g3 => exact infoO1))
        | (go_at_call 28; (with_reducible refine (bookObject_calls b base o u4 u27 v5' v10 HC.out.2.1.1 HC.out.2.1.2 _ (VL ++ labsOf (T.take k)) VO hI.out.1 HC.out.2.2.1 HC.out.2.2.2.1).mono ?_); rintro e w2 ⟨rfl, ⟨v5'', hS2⟩, hb2, hf2⟩; rw [List.append_assoc, List.append_assoc, ← List.append_assoc (labsOf (T.take k)), ← labsOf_take HC.out.2.2.2.2] at hS2; have HS2 := Lib.hid (And.intro hS2 (And.intro (hI.out.2.1.trans hb2) (hI.out.2.2.trans hf2))); clear hS2 hb2 hf2))
      go_roundw
      case rel => exact ⟨k + 1, by omega, by go_num, v5'', HS2⟩
      case measure => simp [intOf]; omega
    · obtain rfl : n = k := by omega
      have hfin := hI.out
      rw [List.take_of_length_le (Nat.le_of_eq HT.out.1)] at hfin
      replace hfin := Lib.hid hfin
      go_wp2
      go_end0
      exact ⟨rfl, ⟨_, hfin.out.1⟩, hfin.out.2⟩
theorem Rqs.fits {w : World} {base : Nat} {A : Option Addr} {k : Nat} {xs : List Rq} {T : List (Ob × Value × Value)} (h : Rqs w base A k xs T) (hf : ∀ r ∈ xs, ObFits r.ob) : ∀ t ∈ T, ObFits t.1 := fun t ht => by
  have h1 : t.1 ∈ xs.map (·.ob) := by rw [← h.fst]; exact List.mem_map_of_mem ht
  obtain ⟨r, hr, e⟩ := List.mem_map.1 h1
  rw [← e]
  exact hf r hr
theorem apart_rqs {w : World} {B1 B2 base b k k' : Nat} {A2 A3 : Option Addr} {T2 T3 : List (Ob × Value × Value)} {xs ys : List Rq} {v5 : Value} (h : BookS w base b ([] ++ labsOf T2 ++ labsOf T3) [] v5 nilV)
    (h2 : Rqs w B1 A2 k xs T2) (h3 : Rqs w B2 A3 k' ys T3) (hlt : RqsLt B2 A2 T2) (hB : B1 ≤ B2) (hk : k ≤ 200000) (hk' : k' ≤ 200000) (hf2 : ∀ o ∈ xs, ObFits o.ob) (hf3 : ∀ o ∈ ys, ObFits o.ob) (hsz : B1 ≤ w.heap.size) :
    Calls Tryz.prog 13 #[.pointer (some ⟨b, 0, none⟩)] w fun e w' => e = .returned (.bool true) ∧ OnlyB (fun k => B1 ≤ k) w w' := by
  have hL : LabsR w B1 (labP T2 ++ labP T3) := h2.labs.append h3.labs hB hlt.labs
  have hmap : (labP T2 ++ labP T3).map (·.1) = [] ++ labsOf T2 ++ labsOf T3 := by rw [List.map_append, labP_fst, labP_fst]; rfl
  have hbk := hL.bk
  have hav := hL.apartV
  rw [hmap] at hbk hav
  have hO : OVs w [] (fun _ => 0) := ⟨fun j v hv => by simp at hv⟩
  have haO : ApartV [] := apartV_of List.Pairwise.nil
  have hlen : ∀ j, j < ([] ++ labsOf T2 ++ labsOf T3).length → ((((labP T2 ++ labP T3)[j]?).map (·.2)).getD []).length ≤ 4398046510976 := fun j _ => by
    cases hp : (labP T2 ++ labP T3)[j]? with
    | none => simp
    | some p =>
      rcases List.mem_append.1 (List.mem_of_getElem? hp) with hm | hm
      · exact labP_snd (h2.fits hf2) p hm
      · exact labP_snd (h3.fits hf3) p hm
  have hNL : ([] ++ labsOf T2 ++ labsOf T3).length ≤ 1000000 := by
    rw [List.nil_append, List.length_append, labsOf_len, labsOf_len, h2.len, h3.len]
    omega
  refine (bookApart_calls b base B1 v5 nilV _ _ _ w h hO haO (by simp) hbk hsz hav hNL hlen).mono ?_
  rintro e w1 ⟨rfl, hb⟩
  refine ⟨rfl, hb.mono fun g hg => ?_⟩
  rcases hg with ⟨v, hv, e⟩ | ⟨v, hv, e⟩
  · simp at hv
  · obtain ⟨j, hj⟩ := List.mem_iff_getElem?.1 hv
    exact Kd.R_base (hbk.row j v hj) g e
end Go.Proofs.YtoepbjgldmgaoaaGreatDoor

/- DrainPlans walked: the two answers are the document's, their lists have memory of their own, the fleet stays. -/
namespace Go.Proofs.YtoepbjgldmgaoaaGreatDoor
open Go.RowKit Go.Proofs.YtoepbjgldmgaoaaGreatDoorW.PrintWords Go.Proofs.YtoepbjgldmgaoaaGreatDoorW.PrintLast
theorem planF_len {ns ps : List Ob} (h0 : ns.length ≤ 100) (h1 : ps.length ≤ 200) : (planF ns ps).length ≤ 200000 := by
  unfold planF
  have h := ask_len ps (Srt.isort cN ns)
  rw [Srt.isort_length] at h
  have h2 : ns.length * (1 + ps.length) ≤ 100 * 201 := Nat.mul_le_mul h0 (by omega)
  omega
theorem planF_fits {ns ps : List Ob} (h0 : ∀ o ∈ ns, ObFits o) : ∀ r ∈ planF ns ps, ObFits r.ob := by
  intro r hr
  obtain ⟨o, ho, hr⟩ := List.mem_flatMap.1 hr
  rw [Srt.mem_isort] at ho
  have hz : ObFits Ob.zero := ⟨by decide, by decide, by decide⟩
  unfold askN at hr
  split at hr
  · rcases List.mem_append.1 hr with hr | hr
    · split at hr
      · cases hr
      · rw [List.mem_singleton.1 hr]
        exact h0 o ho
    · obtain ⟨p, _, rfl⟩ := List.mem_map.1 hr
      exact hz
  · cases hr
theorem S_at_len {w : World} {base : Nat} {v : Value} {xs : List Rq} {k : Nat} (h : Kd.S kRq 62 w base (fun _ => True) v xs) (hk : xs.length = k) : ∃ A c T, v = .slice A k c ∧ Rqs w base A k xs T ∧ kRq.C w A k xs := by
  obtain ⟨A, c, rfl⟩ := Kd.S_slice h
  rw [hk] at h
  obtain ⟨T, hT⟩ := rqs_of_S h
  have h3 := (Kd.S_reads' h).2.2
  rw [hk] at h3
  exact ⟨A, c, T, by rw [hk], hT, h3⟩
theorem same_rqs {A B : Option Addr} {l : List Rq} {k c d : Nat} {w : World} (hr : kRq.C w A k l) (hs : kRq.C w B k l) (hl : l.length = k) (hn : k ≤ 1000000) :
    Calls Tryz.prog 8 #[.slice A k c, .slice B k d] w fun e w' => e = .returned (.bool true) ∧ Below w.heap.size w w' := by
  subst hl
  have h := sameReqs_calls A B l l c d w hr hs hn
  rw [decide_eq_true rfl] at h
  exact h
theorem lent_at {w2 : World} {B0 B1 B2 B3 : Option Addr} {n0 n1 n2 n3 b0 b1 b2 b3 base : Nat} {l0 l1 l2 l3 : List Ob} (h0 : kLent.R 53 w2 base (fun _ => True) (.slice B0 n0 b0) l0) (h1 : kLent.R 53 w2 base (fun _ => True) (.slice B1 n1 b1) l1)
    (h2 : kLent.R 53 w2 base (fun _ => True) (.slice B2 n2 b2) l2) (h3 : kLent.R 53 w2 base (fun _ => True) (.slice B3 n3 b3) l3) {m0 m1 m2 m3 : Nat} : F4.At kLent w2 ⟨B0, B1, B2, B3, n0, n1, n2, n3, m0, m1, m2, m3, l0, l1, l2, l3⟩ := by
  refine ⟨?_, ?_, ?_, ?_⟩
  · have := (Kd.R_reads' h0); have h := this.2.2; rw [← this.1] at h; exact h
  · have := (Kd.R_reads' h1); have h := this.2.2; rw [← this.1] at h; exact h
  · have := (Kd.R_reads' h2); have h := this.2.2; rw [← this.1] at h; exact h
  · have := (Kd.R_reads' h3); have h := this.2.2; rw [← this.1] at h; exact h
structure DPB (w7 : World) (b B1 B2 : Nat) (A2 A3 : Option Addr) (k : Nat) (xs : List Rq) (T2 T3 : List (Ob × Value × Value)) : Prop where
  ra : Rqs w7 B1 A2 k xs T2
  rb : Rqs w7 B2 A3 k xs T3
  la : T2.length = k
  lb : T3.length = k
  ta : RTab w7 A2 T2
  tb : RTab w7 A3 T3
  ba : ∀ ad, A2 = some ad → ad.block < b
  bb : ∀ ad, A3 = some ad → ad.block < b
  lta : RqsLt b A2 T2
  ltb : RqsLt b A3 T3
  lt : RqsLt B2 A2 T2
  le : B1 ≤ B2
  le2 : B2 ≤ b
  bk : BookS w7 b b [] [] nilV nilV
  sz : b ≤ w7.heap.size
  be : ∀ W, Below b w7 W → Below B1 w7 W
theorem dp_book {w3 w4 w5 wa w7 : World} {A2 A3 : Option Addr} {k : Nat} {xs : List Rq} {T2 T3 : List (Ob × Value × Value)} (h2 : Rqs wa w3.heap.size A2 k xs T2) (h3 : Rqs wa w4.heap.size A3 k xs T3) (hl : RqsLt w4.heap.size A2 T2)
    (h4a : Below w4.heap.size w4 wa) (h5a : Below w5.heap.size w5 wa) (h34 : Below w3.heap.size w3 w4) (h45 : Below w4.heap.size w4 w5) (e : w7 = wa.alloc (.cells #[.slice none 0 0, .slice none 0 0, .slice none 0 0, .slice none 0 0, .slice none 0 0, .slice none 0 0, .slice none 0 0, .slice none 0 0, .slice none 0 0, .slice none 0 0, .slice none 0 0, .slice none 0 0] 45)) :
    DPB w7 wa.heap.size w3.heap.size w4.heap.size A2 A3 k xs T2 T3 := by
  subst e
  have hb := below_alloc (Below.refl wa.heap.size wa) (.cells #[.slice none 0 0, .slice none 0 0, .slice none 0 0, .slice none 0 0, .slice none 0 0, .slice none 0 0, .slice none 0 0, .slice none 0 0, .slice none 0 0, .slice none 0 0, .slice none 0 0, .slice none 0 0] 45)
  have g2 := h2.below hb
  have g3 := h3.below hb
  have l2 := h2.lt
  have l3 := h3.lt
  exact ⟨g2, g3, h2.len, h3.len, g2.tab, g3.tab, l2.blk, l3.blk, l2, l3, hl, h34.size, h4a.size, book_new (heap_alloc_new wa _) _ (Nat.le_refl _), hb.size, fun W hW => hW.mono (Nat.le_trans h34.size h4a.size)⟩
theorem dp_end {w3 w4 w7 w9 w10 : World} {b : Nat} {A2 A3 : Option Addr} {k : Nat} {xs : List Rq} {T2 T3 : List (Ob × Value × Value)} (h7 : DPB w7 b w3.heap.size w4.heap.size A2 A3 k xs T2 T3) (h37 : Below w3.heap.size w3 w7) (h9 : Below b w7 w9) (hO : OnlyB (fun k => w3.heap.size ≤ k) w9 w10) : Below w3.heap.size w3 w10 := by
  have h39 := h37.trans (h7.be _ h9)
  exact h39.trans ⟨hO.os, hO.tape, hO.output, hO.size, fun k hk => hO.block k (Nat.lt_of_lt_of_le hk h39.size) (by omega)⟩
def DP (w : World) (e : Ending) (w' : World) : Prop := e = .returned (.bool true) ∧ Below w.heap.size w w'
def rg3_7_T : Bool × List (List Nat × List Nat) := (true, [([], []), ([], []), ([0, 1], [0, 1]), ([2], [2]), ([3, 2], [3]), ([4], [4]), ([4], [4]), ([5, 6, 4, 4], [4, 5, 6]), ([7, 4], [4, 7]), ([4, 8], [4, 8]), ([9, 7], [9]), ([10], [10]), ([10], [10]), ([11, 12, 10, 10], [10, 11, 12]), ([10], [10]), ([10], [10]), ([14, 15, 13, 10], [10, 14, 15]), ([13, 16, 10], [10, 13, 16]), ([10, 17], [10, 17]), ([18, 16], [18]), ([19], [19]), ([19], [19]), ([20, 21, 19, 19], [19, 20, 21]), ([22, 19], [19, 22]), ([19, 23], [19, 23])])
def rg3_7_B : List Nat := [0, 0, 3, 7, 15, 31, 31, 127, 255, 511, 1023, 2047, 2047, 8191, 2047, 2047, 65535, 131071, 262143, 524287, 1048575, 1048575, 4194303, 8388607, 16777215]
theorem rg3_7_tab : rtab .any (opsOf Tryz.f3 7) = rg3_7_T := by kernel_rfl
theorem rg3_7_bits : waitsOk rg3_7_T.2 rg3_7_B = true := by kernel_rfl
set_option maxHeartbeats 16000000 in
set_option maxRecDepth 100000 in
theorem drainPlans_calls (f : F4) (s : ByteArray) (w : World) (h : F4.At kO w f) (hok : F4.Ok f) :
    Calls Tryz.prog 3 #[.agg f.v, .string s] w (DP w) := by
  have QWd := Lib.hid (fun W (hW : Below w.heap.size w W) => wide_calls (.slice f.A2 f.n2 f.c2) (.slice f.A3 f.n3 f.c3) f.A0 f.A1 f.c0 f.c1 f.n0 f.n1 f.l0 f.l1 W (Kd.C_below h.a0 hW) (Kd.C_below h.a1 hW))
  have QLn : Hid (∀ W, Below w.heap.size w W → Calls Tryz.prog 5 #[.agg #[.slice f.A0 f.n0 f.c0, .slice f.A1 f.n1 f.c1, .slice f.A2 f.n2 f.c2, .slice f.A3 f.n3 f.c3]] W fun e w' => ∃ B0 b0 B1 b1 B2 b2 B3 b3, e = .returned (.agg #[.slice B0 f.n0 f.n0, .slice B1 f.n1 f.n1, .slice B2 f.n2 f.n2, .slice B3 f.n3 f.n3]) ∧ (kLent.R 53 w' W.heap.size (fun _ => True) (.slice B0 f.n0 b0) f.l0 ∧ kLent.R 53 w' W.heap.size (fun _ => True) (.slice B1 f.n1 b1) f.l1 ∧ kLent.R 53 w' W.heap.size (fun _ => True) (.slice B2 f.n2 b2) f.l2 ∧ kLent.R 53 w' W.heap.size (fun _ => True) (.slice B3 f.n3 b3) f.l3) ∧ Below W.heap.size W w') := Lib.hid (fun W hW => lentFleet_calls f W (h.below hW) hok)
  have QFp : Hid (∀ W, Below w.heap.size w W → f.n0 ≤ 100 ∧ f.n1 ≤ 200 → Calls Tryz.prog 7 #[.agg #[.slice f.A0 f.n0 f.c0, .slice f.A1 f.n1 f.c1, .slice f.A2 f.n2 f.c2, .slice f.A3 f.n3 f.c3]] W fun e w' => ∃ v, e = .returned v ∧ Kd.S kRq 62 w' W.heap.size (fun _ => True) v (planF f.l0 f.l1) ∧ Below W.heap.size W w') := Lib.hid (fun W hW hb => plan27_calls f.A0 f.A1 f.n0 f.n1 f.c0 f.c1 _ _ f.l0 f.l1 W rfl rfl (Kd.C_below h.a0 hW) (Kd.C_below h.a1 hW) (by omega) (by omega) (fun o ho => (hok.f0 o ho).1) hok.f1)
  have QRe : Hid (∀ W, Below w.heap.size w W → f.n1 ≤ 200 → Calls Tryz.prog 10 #[.agg #[.slice f.A0 f.n0 f.c0, .slice f.A1 f.n1 f.c1, .slice f.A2 f.n2 f.c2, .slice f.A3 f.n3 f.c3], .string s] W fun e w' => e = .returned (.bool (emptyB f.l1 s)) ∧ Below W.heap.size W w') := Lib.hid (fun W hW hb => emptyR_calls _ _ _ f.A1 f.c1 f.n1 s f.l1 W (Kd.C_below h.a1 hW) (by omega))
  have HH := Lib.hid (And.intro h hok)
  have HB0 := Lib.hid (below_alloc (Below.refl w.heap.size w) (Obj.cells #[.slice f.A0 f.n0 f.c0, .slice f.A1 f.n1 f.c1, .slice f.A2 f.n2 f.c2, .slice f.A3 f.n3 f.c3] 24))
  have HA0 : Hid ((w.alloc (Obj.cells #[.slice f.A0 f.n0 f.c0, .slice f.A1 f.n1 f.c1, .slice f.A2 f.n2 f.c2, .slice f.A3 f.n3 f.c3] 24)).heap[w.heap.size]? = some (.cells #[.slice f.A0 f.n0 f.c0, .slice f.A1 f.n1 f.c1, .slice f.A2 f.n2 f.c2, .slice f.A3 f.n3 f.c3] 24 (0, 0))) := Lib.hid (heap_alloc_new w _)
  obtain ⟨pl, hpl⟩ : ∃ x, x = planF f.l0 f.l1 := ⟨_, rfl⟩
  rw [← hpl] at QFp
  obtain ⟨kp, hkp⟩ : ∃ x, pl.length = x := ⟨_, rfl⟩
  have HP := Lib.hid (And.intro hpl hkp)
  obtain ⟨eb, heb⟩ : ∃ x, x = emptyB f.l1 s := ⟨_, rfl⟩
  rw [← heb] at QRe
  have HE := Lib.hid heb
  clear h hok hpl hkp heb
  simp only [F4.v]
  go_enter Tryz.func3, Tryz.ntmps3
  go_wp2_with (first
    | ((with_reducible refine wpList_load_blk (op := ⟨some 10, _, _, _, _, _⟩) rfl 24 (.tmp 2) rfl w.heap.size 24 ?a1 #[.slice f.A0 f.n0 f.c0, .slice f.A1 f.n1 f.c1, .slice f.A2 f.n2 f.c2, .slice f.A3 f.n3 f.c3] _ ?a2 Tryz.underlying24 ?a3 ?a4 ?_); (case a1 => rfl); (case a2 => exact HA0.out); (case a3 => rfl); (case a4 => exact infoF4))
    | (go_at_call 4; (with_reducible refine (QWd.out _ HB0.out).mono ?_); rintro e w1 ⟨b, rfl, hbd, hb1⟩; have HA1 := Lib.hid (blkB hb1 HA0.out); have HB1 := Lib.hid (belT HB0.out hb1); have HBD := Lib.hid hbd; clear hbd hb1; cases b)
    | ((with_reducible refine wpList_load_blk (op := ⟨some 12, _, _, _, _, _⟩) rfl 24 (.tmp 2) rfl w.heap.size 24 ?b1 #[.slice f.A0 f.n0 f.c0, .slice f.A1 f.n1 f.c1, .slice f.A2 f.n2 f.c2, .slice f.A3 f.n3 f.c3] _ ?b2 Tryz.underlying24 ?b3 ?b4 ?_); (case b1 => rfl); (case b2 => exact HA1.out); (case b3 => rfl); (case b4 => exact infoF4))
    | (go_at_call 5; (with_reducible refine (QLn.out _ HB1.out).mono ?_); rintro e w2 ⟨B0, b0, B1, b1, B2, b2, B3, b3, rfl, ⟨hR0, hR1, hR2, hR3⟩, hb2⟩; have HLf : Hid (F4.At kLent w2 ⟨B0, B1, B2, B3, f.n0, f.n1, f.n2, f.n3, f.n0, f.n1, f.n2, f.n3, f.l0, f.l1, f.l2, f.l3⟩) := Lib.hid (lent_at hR0 hR1 hR2 hR3); have HA2 := Lib.hid (blkB hb2 HA1.out); have HB2 := Lib.hid (belT HB1.out hb2); clear hR0 hR1 hR2 hR3 hb2)
    | ((with_reducible refine wpList_store_blk rfl 24 (.tmp 5) (.tmp 13) rfl w2.heap.size 24 #[.slice none 0 0, .slice none 0 0, .slice none 0 0, .slice none 0 0] #[.slice B0 f.n0 f.n0, .slice B1 f.n1 f.n1, .slice B2 f.n2 f.n2, .slice B3 f.n3 f.n3] ?s1 ?s2 ?s3 ?s4 ?s5 ?s6 ?_); (case s1 => rfl); (case s2 => rfl); (case s3 => exact heap_alloc_new _ _); (case s4 => exact infoF4); (case s5 => rfl); (case s6 => simp [Value.oneCell']); intro w3 G3 hk3 hb3 hz3; have hB23 := hb3 _ _ (below_alloc (Below.refl w2.heap.size w2) _) (Nat.le_refl _); obtain ⟨gx, hgx⟩ : ∃ g, g = w2.heap.size := ⟨_, rfl⟩; rw [← hgx] at G3 ⊢; have HX3 := Lib.hid G3; have HA3 := Lib.hid (blkB hB23 HA2.out); have HB3 := Lib.hid (belT HB2.out hB23); have HL3 := Lib.hid (HLf.out.below hB23); have HN := Lib.hid (HBD.out (by trivial)); have QPx := Lib.hid (fun W (hW : Below w3.heap.size w3 W) => plan_calls B0 B1 f.n0 f.n1 f.n0 f.n1 (.slice B2 f.n2 f.n2) (.slice B3 f.n3 f.n3) f.l0 f.l1 W rfl rfl (kLent_C (HL3.out.below hW).a0) (kLent_C (HL3.out.below hW).a1) (by have := HN.out; omega) (by have := HN.out; omega) (fun o ho => (HH.out.2.f0 o ho).1) (fun o ho => (HH.out.2.f1 o ho).1)); rw [← HP.out.1] at QPx; clear G3 hk3 hb3 hz3 hB23 hgx)
    | ((with_reducible refine wpList_load_blk (op := ⟨some 14, _, _, _, _, _⟩) rfl 24 (.tmp 5) rfl gx 24 ?c1 #[.slice B0 f.n0 f.n0, .slice B1 f.n1 f.n1, .slice B2 f.n2 f.n2, .slice B3 f.n3 f.n3] _ ?c2 Tryz.underlying24 ?c3 ?c4 ?_); (case c1 => rfl); (case c2 => exact HX3.out); (case c3 => rfl); (case c4 => exact infoF4))
    | (go_at_call 6; (with_reducible refine (QPx.out w3 (Below.refl _ _)).mono ?_); rintro e w4 ⟨va, rfl, hS4, hb4⟩; obtain ⟨Aa, ca, Ta, rfl, hRa, hCa⟩ := S_at_len hS4 HP.out.2; have HRa := Lib.hid (And.intro hRa hCa); have H34 := Lib.hid hb4; have HX4 := Lib.hid (blkB hb4 HX3.out); have HA4 := Lib.hid (blkB hb4 HA3.out); clear hS4 hRa hCa hb4)
    | ((with_reducible refine wpList_load_blk (op := ⟨some 16, _, _, _, _, _⟩) rfl 24 (.tmp 5) rfl gx 24 ?d1 #[.slice B0 f.n0 f.n0, .slice B1 f.n1 f.n1, .slice B2 f.n2 f.n2, .slice B3 f.n3 f.n3] _ ?d2 Tryz.underlying24 ?d3 ?d4 ?_); (case d1 => rfl); (case d2 => exact HX4.out); (case d3 => rfl); (case d4 => exact infoF4))
    | (go_at_call 6; (with_reducible refine (QPx.out w4 H34.out).mono ?_); rintro e w5 ⟨vb, rfl, hS5, hb5⟩; obtain ⟨Ab, cb, Tb, rfl, hRb, hCb⟩ := S_at_len hS5 HP.out.2; have HRb := Lib.hid (And.intro hRb hCb); have H45 := Lib.hid hb5; have HX5 := Lib.hid (blkB hb5 HX4.out); have HA5 := Lib.hid (blkB hb5 HA4.out); clear hS5 hRb hCb hb5)
    | ((with_reducible refine wpList_load_blk (op := ⟨some 18, _, _, _, _, _⟩) rfl 24 (.tmp 2) rfl w.heap.size 24 ?e1 #[.slice f.A0 f.n0 f.c0, .slice f.A1 f.n1 f.c1, .slice f.A2 f.n2 f.c2, .slice f.A3 f.n3 f.c3] _ ?e2 Tryz.underlying24 ?e3 ?e4 ?_); (case e1 => rfl); (case e2 => exact HA5.out); (case e3 => rfl); (case e4 => exact infoF4))
    | (go_at_call 7; (with_reducible refine (QFp.out _ (belT HB3.out (belT H34.out H45.out)) HN.out).mono ?_); rintro e w6 ⟨vw, rfl, hS6, hb6⟩; obtain ⟨Aw, cw, Tw, rfl, hRw, hCw⟩ := S_at_len hS6 HP.out.2; have HRw := Lib.hid hCw; have H56 := Lib.hid hb6; have HX6 := Lib.hid (blkB hb6 HX5.out); have HA6 := Lib.hid (blkB hb6 HA5.out); clear hS6 hRw hCw hb6))
  · have HKP : Hid (kp ≤ 200000) := Lib.hid (by rw [← HP.out.2, HP.out.1]; exact planF_len (by rw [HH.out.1.a0.1]; exact HN.out.1) (by rw [HH.out.1.a1.1]; exact HN.out.2))
    have HW6 := Lib.hid (belT HB3.out (belT H34.out (belT H45.out H56.out)))
    have H46 := Lib.hid (belT H45.out H56.out)
    have QS1 := Lib.hid (fun W (hW : Below w6.heap.size w6 W) => same_rqs (c := ca) (d := cw) (Kd.C_below HRa.out.2 (belT H46.out hW)) (Kd.C_below HRw.out hW) HP.out.2 (Nat.le_trans HKP.out (by decide)))
    have QS2 := Lib.hid (fun W (hW : Below w6.heap.size w6 W) => same_rqs (c := cb) (d := cw) (Kd.C_below HRb.out.2 (belT H56.out hW)) (Kd.C_below HRw.out hW) HP.out.2 (Nat.le_trans HKP.out (by decide)))
    have QEd := Lib.hid (fun W (hW : Below w6.heap.size w6 W) => emptyD_calls (.slice B0 f.n0 f.n0) (.slice B2 f.n2 f.n2) (.slice B3 f.n3 f.n3) B1 f.n1 f.n1 s f.l1 W rfl rfl rfl (kLent_C (HL3.out.below (belT (belT H34.out H46.out) hW)).a1) (by have := HN.out; omega))
    rw [← HE.out] at QEd
    have QEr := Lib.hid (fun W (hW : Below w6.heap.size w6 W) => QRe.out W (belT HW6.out hW) HN.out.2)
    have QKt : Hid (∀ W, Below w3.heap.size w3 W → Calls Tryz.prog 11 #[.agg #[.slice B0 f.n0 f.n0, .slice B1 f.n1 f.n1, .slice B2 f.n2 f.n2, .slice B3 f.n3 f.n3], .agg #[.slice f.A0 f.n0 f.c0, .slice f.A1 f.n1 f.c1, .slice f.A2 f.n2 f.c2, .slice f.A3 f.n3 f.c3]] W fun e w' => e = .returned (.bool true) ∧ Below W.heap.size W w') := Lib.hid (fun W hW => keptFleet_calls f ⟨B0, B1, B2, B3, f.n0, f.n1, f.n2, f.n3, f.n0, f.n1, f.n2, f.n3, f.l0, f.l1, f.l2, f.l3⟩ W (HL3.out.below hW) (HH.out.1.below (belT HB3.out hW)) ⟨rfl, rfl, rfl, rfl⟩ ⟨rfl, rfl, rfl, rfl⟩ HH.out.2)
    have QK7 := Lib.hid (fun W (hW : Below w6.heap.size w6 W) => QKt.out W (belT (belT H34.out H46.out) hW))
    have HB : Below w6.heap.size w6 w6.drew := below_drew (Below.refl _ _)
    have E1 : w6.drew.heap[gx]? = some (.cells #[.slice B0 f.n0 f.n0, .slice B1 f.n1 f.n1, .slice B2 f.n2 f.n2, .slice B3 f.n3 f.n3] 24 (0, 0)) := HX6.out
    have E2 : w6.drew.heap[w.heap.size]? = some (.cells #[.slice f.A0 f.n0 f.c0, .slice f.A1 f.n1 f.c1, .slice f.A2 f.n2 f.c2, .slice f.A3 f.n3 f.c3] 24 (0, 0)) := HA6.out
    cases eb
    · skip
      refine start_ (n := 25) (S := fun w' => Below w6.heap.size w6 w' ∧ w'.heap[gx]? = some (.cells #[.slice B0 f.n0 f.n0, .slice B1 f.n1 f.n1, .slice B2 f.n2 f.n2, .slice B3 f.n3 f.n3] 24 (0, 0)) ∧ w'.heap[w.heap.size]? = some (.cells #[.slice f.A0 f.n0 f.c0, .slice f.A1 f.n1 f.c1, .slice f.A2 f.n2 f.c2, .slice f.A3 f.n3 f.c3] 24 (0, 0))) (ds := []) (bs 25 0) (by kernel_rfl) rfl (by kernel_rfl) ⟨HB, E1, E2⟩ (fun hHeld => ?_)
      refine with_tabW rg3_7_tab rg3_7_bits (fun HT_ HW_ => ?_)
      refine pu 0 (some 20) (bs 25 1) HT_ rfl rfl (by kernel_rfl) (fun _ _ _ _ h => h) ⟨_, .inl ⟨by rfl, fun _ => by go_simp; with_reducible rfl⟩, _, by simp only [Act.put, sA, sB, sC, i64_w, i32_w]; rfl, ?_⟩
      refine pu 1 (some 21) (bs 25 3) HT_ rfl rfl (by kernel_rfl) (fun _ _ _ _ h => h) ⟨_, .inl ⟨by rfl, fun _ => by go_simp; with_reducible rfl⟩, _, by simp only [Act.put, sA, sB, sC, i64_w, i32_w]; rfl, ?_⟩
      refine on1 2 (some 22) (bs 25 7) HT_ rfl rfl (by kernel_rfl) (by decide) (fun K hK => ?_)
      refine goes_ Tryz.func8 (by kernel_rfl) rfl #[.slice Aa kp ca, .slice Aw kp cw] (by rfl) rfl rfl (by (try simp only [List.map_toArray, List.map_cons, List.map_nil]); first | done | rfl) ?_
      with_reducible refine (QS1.out _ HB).mono ?_
      rintro e w7 ⟨rfl, hb⟩
      replace E1 := blkB hb E1
      replace E2 := blkB hb E2
      replace HB := belT HB hb
      clear hb
      refine ⟨_, rfl, ?_⟩
      refine hK.out _ _ ⟨HB, E1, E2⟩ (fun hHeld => ?_)
      clear hK K
      refine nm ⟨_, show Act.put _ (some 22) _ = _ by simp only [Act.put, sA, sB, sC, i64_w, i32_w]; rfl, ?_⟩
      refine pu 3 (some 23) (bs 25 15) HT_ rfl rfl (by kernel_rfl) (fun _ _ _ _ h => h) ⟨_, .inl ⟨by rfl, fun _ => by go_simp; with_reducible rfl⟩, _, by simp only [Act.put, sA, sB, sC, i64_w, i32_w]; rfl, ?_⟩
      refine pu 4 (some 24) (bs 25 31) HT_ rfl rfl (by kernel_rfl) (fun _ _ _ _ h => h) ⟨_, .inl ⟨by rfl, fun _ => by go_simp; with_reducible rfl⟩, _, by simp only [Act.put, sA, sB, sC, i64_w, i32_w]; rfl, ?_⟩
      refine pu 5 (some 25) (bs 25 63) HT_ rfl rfl (by kernel_rfl) (fun _ _ _ _ h => h) ⟨_, .inl ⟨by rfl, fun _ => by go_simp; with_reducible rfl⟩, _, by simp only [Act.put, sA, sB, sC, i64_w, i32_w]; rfl, ?_⟩
      refine pu 6 (some 26) (bs 25 127) HT_ rfl rfl (by kernel_rfl) (fun _ _ _ _ h => h) ⟨_, .inl ⟨by rfl, fun _ => by go_simp; with_reducible rfl⟩, _, by simp only [Act.put, sA, sB, sC, i64_w, i32_w]; rfl, ?_⟩
      refine on1 7 (some 27) (bs 25 255) HT_ rfl rfl (by kernel_rfl) (by decide) (fun K hK => ?_)
      refine goes_ Tryz.func8 (by kernel_rfl) rfl #[.slice Ab kp cb, .slice Aw kp cw] (by rfl) rfl rfl (by (try simp only [List.map_toArray, List.map_cons, List.map_nil]); first | done | rfl) ?_
      with_reducible refine (QS2.out _ HB).mono ?_
      rintro e w8 ⟨rfl, hb⟩
      replace E1 := blkB hb E1
      replace E2 := blkB hb E2
      replace HB := belT HB hb
      clear hb
      refine ⟨_, rfl, ?_⟩
      refine hK.out _ _ ⟨HB, E1, E2⟩ (fun hHeld => ?_)
      clear hK K
      refine nm ⟨_, show Act.put _ (some 27) _ = _ by simp only [Act.put, sA, sB, sC, i64_w, i32_w]; rfl, ?_⟩
      refine pu 8 (some 28) (bs 25 511) HT_ rfl rfl (by kernel_rfl) (fun _ _ _ _ h => h) ⟨_, .inl ⟨by rfl, fun _ => by go_simp; with_reducible rfl⟩, _, by simp only [Act.put, sA, sB, sC, i64_w, i32_w]; rfl, ?_⟩
      refine pu 9 (some 29) (bs 25 1023) HT_ rfl rfl (by kernel_rfl) (fun _ _ _ _ h => h) ⟨_, .inl ⟨by rfl, fun _ => by go_simp; with_reducible rfl⟩, _, by simp only [Act.put, sA, sB, sC, i64_w, i32_w]; rfl, ?_⟩
      refine pu 10 (some 30) (bs 25 2047) HT_ rfl rfl (by kernel_rfl) (fun _ _ _ _ h => h) ⟨_, .inl ⟨by rfl, fun _ => by go_simp; with_reducible rfl⟩, _, by simp only [Act.put, sA, sB, sC, i64_w, i32_w]; rfl, ?_⟩
      refine pu 12 (some 32) (bs 25 6143) HT_ rfl rfl (by kernel_rfl) (fun _ _ _ _ h => h) ⟨_, .inl ⟨by rfl, fun _ => by go_simp; with_reducible rfl⟩, _, by simp only [Act.put, sA, sB, sC, i64_w, i32_w]; rfl, ?_⟩
      refine pu 15 (some 35) (bs 25 38911) HT_ rfl rfl (by kernel_rfl) (fun _ _ _ _ h => h) ⟨_, .inl ⟨by rfl, fun _ => by go_simp; with_reducible rfl⟩, _, by simp only [Act.put, sA, sB, sC, i64_w, i32_w]; rfl, ?_⟩
      refine tk 11 (some 31) (bs 25 40959) HT_ HW_ rfl rfl (by kernel_rfl) (fun _ _ _ _ h => h) hHeld ⟨_, .inl ⟨by rfl, by rintro w' ⟨s0, s1, s2⟩; refine load_row (x := .tmp 5) ?_ ?_ s1 Tryz.underlying24 rfl infoF4 <;> rfl⟩, _, by simp only [Act.put, sA, sB, sC, i64_w, i32_w]; rfl, ?_⟩
      refine tk 14 (some 34) (bs 25 57343) HT_ HW_ rfl rfl (by kernel_rfl) (fun _ _ _ _ h => h) hHeld ⟨_, .inl ⟨by rfl, by rintro w' ⟨s0, s1, s2⟩; refine load_row (x := .tmp 2) ?_ ?_ s2 Tryz.underlying24 rfl infoF4 <;> rfl⟩, _, by simp only [Act.put, sA, sB, sC, i64_w, i32_w]; rfl, ?_⟩
      refine join_ (σ := Unit) 8 (bs 25 131071) (fun _ => [(33, .bool false), (36, .bool false)]) (fun _ w' => Below w6.heap.size w6 w' ∧ w'.heap[gx]? = some (.cells #[.slice B0 f.n0 f.n0, .slice B1 f.n1 f.n1, .slice B2 f.n2 f.n2, .slice B3 f.n3 f.n3] 24 (0, 0)) ∧ w'.heap[w.heap.size]? = some (.cells #[.slice f.A0 f.n0 f.c0, .slice f.A1 f.n1 f.c1, .slice f.A2 f.n2 f.c2, .slice f.A3 f.n3 f.c3] 24 (0, 0))) ?_ ?_
      rotate_left
      · intro hCont
        refine one_ (i := 13) (N := some 33) (bs 25 65535) rfl rfl (one_of HT_.out (by kernel_rfl)) (by decide) (fun K hK => ?_)
        refine goes_ Tryz.func9 (by kernel_rfl) rfl #[.agg #[.slice B0 f.n0 f.n0, .slice B1 f.n1 f.n1, .slice B2 f.n2 f.n2, .slice B3 f.n3 f.n3], .string s] (by rfl) rfl rfl (by (try simp only [List.map_toArray, List.map_cons, List.map_nil]); first | done | rfl) ?_
        with_reducible refine (QEd.out _ HB).mono ?_
        rintro e w9 ⟨rfl, hb⟩
        replace E1 := blkB hb E1
        replace E2 := blkB hb E2
        replace HB := belT HB hb
        clear hb
        refine ⟨_, rfl, ?_⟩
        refine hK.out _ _ ⟨HB, E1, E2⟩ (fun hHeld => ?_)
        clear hK K
        refine norm_ (a' := ?_) ?_ ?_
        rotate_left
        · show Act.put _ (some 33) _ = _
          simp only [Act.put, List.setIfInBounds_toArray, List.set_cons_zero, List.set_cons_succ, i64_w, i32_w]
          rfl
        refine one_ (i := 16) (N := some 36) (bs 25 131071) rfl rfl (one_of HT_.out (by kernel_rfl)) (by decide) (fun K hK => ?_)
        refine goes_ Tryz.func10 (by kernel_rfl) rfl #[.agg #[.slice f.A0 f.n0 f.c0, .slice f.A1 f.n1 f.c1, .slice f.A2 f.n2 f.c2, .slice f.A3 f.n3 f.c3], .string s] (by rfl) rfl rfl (by (try simp only [List.map_toArray, List.map_cons, List.map_nil]); first | done | rfl) ?_
        with_reducible refine (QEr.out _ HB).mono ?_
        rintro e w9 ⟨rfl, hb⟩
        replace E1 := blkB hb E1
        replace E2 := blkB hb E2
        replace HB := belT HB hb
        clear hb
        refine ⟨_, rfl, ?_⟩
        refine hK.out _ _ ⟨HB, E1, E2⟩ (fun hHeld => ?_)
        clear hK K
        refine norm_ (a' := ?_) ?_ ?_
        rotate_left
        · show Act.put _ (some 36) _ = _
          simp only [Act.put, List.setIfInBounds_toArray, List.set_cons_zero, List.set_cons_succ, i64_w, i32_w]
          rfl
        exact norm_ (by simp only [putAll, Act.put, List.setIfInBounds_toArray, List.set_cons_zero, List.set_cons_succ]) (hCont () _ ⟨HB, E1, E2⟩)
      rintro ⟨⟩ w4' ⟨HB, E1, E2⟩
      have hHeld := And.intro HB (And.intro E1 E2)
      refine norm_ (a' := ?_) ?_ ?_
      rotate_left
      · simp only [putAll, Act.put, List.setIfInBounds_toArray, List.set_cons_zero, List.set_cons_succ]
        rfl
      refine pu 17 (some 37) (bs 25 262143) HT_ rfl rfl (by kernel_rfl) (fun _ _ _ _ h => h) ⟨_, .inl ⟨by rfl, fun _ => by go_simp; with_reducible rfl⟩, _, by simp only [Act.put, sA, sB, sC, i64_w, i32_w]; rfl, ?_⟩
      refine pu 18 (some 38) (bs 25 524287) HT_ rfl rfl (by kernel_rfl) (fun _ _ _ _ h => h) ⟨_, .inl ⟨by rfl, fun _ => by go_simp; with_reducible rfl⟩, _, by simp only [Act.put, sA, sB, sC, i64_w, i32_w]; rfl, ?_⟩
      refine pu 19 (some 39) (bs 25 1048575) HT_ rfl rfl (by kernel_rfl) (fun _ _ _ _ h => h) ⟨_, .inl ⟨by rfl, fun _ => by go_simp; with_reducible rfl⟩, _, by simp only [Act.put, sA, sB, sC, i64_w, i32_w]; rfl, ?_⟩
      refine tk 20 (some 40) (bs 25 2097151) HT_ HW_ rfl rfl (by kernel_rfl) (fun _ _ _ _ h => h) hHeld ⟨_, .inl ⟨by rfl, by rintro w' ⟨s0, s1, s2⟩; refine load_row (x := .tmp 5) ?_ ?_ s1 Tryz.underlying24 rfl infoF4 <;> rfl⟩, _, by simp only [Act.put, sA, sB, sC, i64_w, i32_w]; rfl, ?_⟩
      refine tk 21 (some 41) (bs 25 4194303) HT_ HW_ rfl rfl (by kernel_rfl) (fun _ _ _ _ h => h) hHeld ⟨_, .inl ⟨by rfl, by rintro w' ⟨s0, s1, s2⟩; refine load_row (x := .tmp 2) ?_ ?_ s2 Tryz.underlying24 rfl infoF4 <;> rfl⟩, _, by simp only [Act.put, sA, sB, sC, i64_w, i32_w]; rfl, ?_⟩
      refine on1 22 (some 42) (bs 25 8388607) HT_ rfl rfl (by kernel_rfl) (by decide) (fun K hK => ?_)
      refine goes_ Tryz.func11 (by kernel_rfl) rfl #[.agg #[.slice B0 f.n0 f.n0, .slice B1 f.n1 f.n1, .slice B2 f.n2 f.n2, .slice B3 f.n3 f.n3], .agg #[.slice f.A0 f.n0 f.c0, .slice f.A1 f.n1 f.c1, .slice f.A2 f.n2 f.c2, .slice f.A3 f.n3 f.c3]] (by rfl) rfl rfl (by (try simp only [List.map_toArray, List.map_cons, List.map_nil]); first | done | rfl) ?_
      with_reducible refine (QK7.out _ HB).mono ?_
      rintro e wa ⟨rfl, hb⟩
      replace E1 := blkB hb E1
      replace E2 := blkB hb E2
      replace HB := belT HB hb
      clear hb
      refine ⟨_, rfl, ?_⟩
      refine hK.out _ _ ⟨HB, E1, E2⟩ (fun hHeld => ?_)
      clear hK K
      refine nm ⟨_, show Act.put _ (some 42) _ = _ by simp only [Act.put, sA, sB, sC, i64_w, i32_w]; rfl, ?_⟩
      refine pu 23 (some 43) (bs 25 16777215) HT_ rfl rfl (by kernel_rfl) (fun _ _ _ _ h => h) ⟨_, .inl ⟨by rfl, fun _ => by go_simp; with_reducible rfl⟩, _, by simp only [Act.put, sA, sB, sC, i64_w, i32_w]; rfl, ?_⟩
      refine pu 24 (some 44) (bs 25 33554431) HT_ rfl rfl (by kernel_rfl) (fun _ _ _ _ h => h) ⟨_, .inl ⟨by rfl, fun _ => by go_simp; with_reducible rfl⟩, _, by simp only [Act.put, sA, sB, sC, i64_w, i32_w]; rfl, ?_⟩
      refine done_ (done_of HT_.out (by kernel_rfl)) ?_
      have HBa := Lib.hid HB
      have HXa := Lib.hid E1
      have HAa := Lib.hid E2
      have H4a := Lib.hid (belT H46.out HB)
      have H5a := Lib.hid (belT H56.out HB)
      have HWa := Lib.hid (belT HW6.out HB)
      have HBK := Lib.hid (And.intro (Rqs.below HRa.out.1 H4a.out) (Rqs.below HRb.out.1 H5a.out))
      have HFt : Hid (∀ r ∈ pl, ObFits r.ob) := Lib.hid (by rw [HP.out.1]; exact planF_fits (fun o ho => (HH.out.2.f0 o ho).1))
      clear HB E1 E2 QS1 QS2 QEd QEr
      go_wp2_with (first
        | (go_at_call 12; have H7 := Lib.hid (dp_book (w7 := wa.alloc (.cells #[.slice none 0 0, .slice none 0 0, .slice none 0 0, .slice none 0 0, .slice none 0 0, .slice none 0 0, .slice none 0 0, .slice none 0 0, .slice none 0 0, .slice none 0 0, .slice none 0 0, .slice none 0 0] 45)) HBK.out.1 HBK.out.2 HRa.out.1.lt H4a.out H5a.out H34.out H45.out rfl); have H37 := Lib.hid (below_alloc (belT H34.out H4a.out) (.cells #[.slice none 0 0, .slice none 0 0, .slice none 0 0, .slice none 0 0, .slice none 0 0, .slice none 0 0, .slice none 0 0, .slice none 0 0, .slice none 0 0, .slice none 0 0, .slice none 0 0, .slice none 0 0] 45)); (with_reducible refine (bookRequests_calls wa.heap.size wa.heap.size Aa kp ca Ta nilV nilV (wa.alloc (.cells #[.slice none 0 0, .slice none 0 0, .slice none 0 0, .slice none 0 0, .slice none 0 0, .slice none 0 0, .slice none 0 0, .slice none 0 0, .slice none 0 0, .slice none 0 0, .slice none 0 0, .slice none 0 0] 45)) [] [] H7.out.la H7.out.ta H7.out.ba H7.out.bk (by have := HKP.out; simp; omega) H7.out.sz).mono ?_); rintro e w8 ⟨rfl, ⟨v5, hS8⟩, hb8, hf8⟩; have H8 := Lib.hid (And.intro hS8 (And.intro hb8 hf8)); clear hS8 hb8 hf8)
        | (go_at_call 12; (with_reducible refine (bookRequests_calls wa.heap.size wa.heap.size Ab kp cb Tb v5 nilV w8 ([] ++ labsOf Ta) [] H7.out.lb (H7.out.tb.below H7.out.bb H8.out.2.1) H7.out.bb H8.out.1 (by have := HKP.out; have := H7.out.la; rw [List.nil_append, labsOf_len]; omega) (Nat.le_trans H7.out.sz H8.out.2.1.size)).mono ?_); rintro e w9 ⟨rfl, ⟨v5', hS9⟩, hb9, hf9⟩; have H9 := Lib.hid (And.intro hS9 (And.intro (H8.out.2.1.trans hb9) (H8.out.2.2.trans hf9))); clear hS9 hb9 hf9)
        | (go_at_call 13; (with_reducible refine (apart_rqs H9.out.1 (H7.out.ra.keep H7.out.lta H9.out.2.1) (H7.out.rb.keep H7.out.ltb H9.out.2.1) H7.out.lt H7.out.le HKP.out HKP.out HFt.out HFt.out (Nat.le_trans (Nat.le_trans (Nat.le_trans H7.out.le H7.out.le2) H7.out.sz) H9.out.2.1.size)).mono ?_); rintro e w10 ⟨rfl, hO⟩; have H10 := Lib.hid (dp_end H7.out H37.out H9.out.2.1 hO); have HX10 := Lib.hid (blkB H10.out HX3.out); have HA10 := Lib.hid (blkB H10.out HA3.out); clear hO)
        | ((with_reducible refine wpList_load_blk_w (op := ⟨some 51, _, _, _, _, _⟩) 24 (.tmp 5) rfl gx 24 ?g1 ?g2 #[.slice B0 f.n0 f.n0, .slice B1 f.n1 f.n1, .slice B2 f.n2 f.n2, .slice B3 f.n3 f.n3] _ ?g3 Tryz.underlying24 ?g4 ?g5 ?_); (case g1 => rfl); (case g2 => rfl); (case g3 => exact HX10.out); (case g4 => rfl); (case g5 => exact infoF4))
        | ((with_reducible refine wpList_load_blk_w (op := ⟨some 52, _, _, _, _, _⟩) 24 (.tmp 2) rfl w.heap.size 24 ?h1 ?h2 #[.slice f.A0 f.n0 f.c0, .slice f.A1 f.n1 f.c1, .slice f.A2 f.n2 f.c2, .slice f.A3 f.n3 f.c3] _ ?h3 Tryz.underlying24 ?h4 ?h5 ?_); (case h1 => rfl); (case h2 => rfl); (case h3 => exact HA10.out); (case h4 => rfl); (case h5 => exact infoF4))
        | (go_at_call 11; (with_reducible refine (QKt.out _ H10.out).mono ?_); rintro e w11 ⟨rfl, hb11⟩; have H11 := Lib.hid (belT (belT HB3.out H10.out) hb11); clear hb11))
      go_ret
      exact ⟨rfl, H11.out⟩
    · skip
      refine start_ (n := 25) (S := fun w' => Below w6.heap.size w6 w' ∧ w'.heap[gx]? = some (.cells #[.slice B0 f.n0 f.n0, .slice B1 f.n1 f.n1, .slice B2 f.n2 f.n2, .slice B3 f.n3 f.n3] 24 (0, 0)) ∧ w'.heap[w.heap.size]? = some (.cells #[.slice f.A0 f.n0 f.c0, .slice f.A1 f.n1 f.c1, .slice f.A2 f.n2 f.c2, .slice f.A3 f.n3 f.c3] 24 (0, 0))) (ds := []) (bs 25 0) (by kernel_rfl) rfl (by kernel_rfl) ⟨HB, E1, E2⟩ (fun hHeld => ?_)
      refine with_tabW rg3_7_tab rg3_7_bits (fun HT_ HW_ => ?_)
      refine pu 0 (some 20) (bs 25 1) HT_ rfl rfl (by kernel_rfl) (fun _ _ _ _ h => h) ⟨_, .inl ⟨by rfl, fun _ => by go_simp; with_reducible rfl⟩, _, by simp only [Act.put, sA, sB, sC, i64_w, i32_w]; rfl, ?_⟩
      refine pu 1 (some 21) (bs 25 3) HT_ rfl rfl (by kernel_rfl) (fun _ _ _ _ h => h) ⟨_, .inl ⟨by rfl, fun _ => by go_simp; with_reducible rfl⟩, _, by simp only [Act.put, sA, sB, sC, i64_w, i32_w]; rfl, ?_⟩
      refine on1 2 (some 22) (bs 25 7) HT_ rfl rfl (by kernel_rfl) (by decide) (fun K hK => ?_)
      refine goes_ Tryz.func8 (by kernel_rfl) rfl #[.slice Aa kp ca, .slice Aw kp cw] (by rfl) rfl rfl (by (try simp only [List.map_toArray, List.map_cons, List.map_nil]); first | done | rfl) ?_
      with_reducible refine (QS1.out _ HB).mono ?_
      rintro e w7 ⟨rfl, hb⟩
      replace E1 := blkB hb E1
      replace E2 := blkB hb E2
      replace HB := belT HB hb
      clear hb
      refine ⟨_, rfl, ?_⟩
      refine hK.out _ _ ⟨HB, E1, E2⟩ (fun hHeld => ?_)
      clear hK K
      refine nm ⟨_, show Act.put _ (some 22) _ = _ by simp only [Act.put, sA, sB, sC, i64_w, i32_w]; rfl, ?_⟩
      refine pu 3 (some 23) (bs 25 15) HT_ rfl rfl (by kernel_rfl) (fun _ _ _ _ h => h) ⟨_, .inl ⟨by rfl, fun _ => by go_simp; with_reducible rfl⟩, _, by simp only [Act.put, sA, sB, sC, i64_w, i32_w]; rfl, ?_⟩
      refine pu 4 (some 24) (bs 25 31) HT_ rfl rfl (by kernel_rfl) (fun _ _ _ _ h => h) ⟨_, .inl ⟨by rfl, fun _ => by go_simp; with_reducible rfl⟩, _, by simp only [Act.put, sA, sB, sC, i64_w, i32_w]; rfl, ?_⟩
      refine pu 5 (some 25) (bs 25 63) HT_ rfl rfl (by kernel_rfl) (fun _ _ _ _ h => h) ⟨_, .inl ⟨by rfl, fun _ => by go_simp; with_reducible rfl⟩, _, by simp only [Act.put, sA, sB, sC, i64_w, i32_w]; rfl, ?_⟩
      refine pu 6 (some 26) (bs 25 127) HT_ rfl rfl (by kernel_rfl) (fun _ _ _ _ h => h) ⟨_, .inl ⟨by rfl, fun _ => by go_simp; with_reducible rfl⟩, _, by simp only [Act.put, sA, sB, sC, i64_w, i32_w]; rfl, ?_⟩
      refine on1 7 (some 27) (bs 25 255) HT_ rfl rfl (by kernel_rfl) (by decide) (fun K hK => ?_)
      refine goes_ Tryz.func8 (by kernel_rfl) rfl #[.slice Ab kp cb, .slice Aw kp cw] (by rfl) rfl rfl (by (try simp only [List.map_toArray, List.map_cons, List.map_nil]); first | done | rfl) ?_
      with_reducible refine (QS2.out _ HB).mono ?_
      rintro e w8 ⟨rfl, hb⟩
      replace E1 := blkB hb E1
      replace E2 := blkB hb E2
      replace HB := belT HB hb
      clear hb
      refine ⟨_, rfl, ?_⟩
      refine hK.out _ _ ⟨HB, E1, E2⟩ (fun hHeld => ?_)
      clear hK K
      refine nm ⟨_, show Act.put _ (some 27) _ = _ by simp only [Act.put, sA, sB, sC, i64_w, i32_w]; rfl, ?_⟩
      refine pu 8 (some 28) (bs 25 511) HT_ rfl rfl (by kernel_rfl) (fun _ _ _ _ h => h) ⟨_, .inl ⟨by rfl, fun _ => by go_simp; with_reducible rfl⟩, _, by simp only [Act.put, sA, sB, sC, i64_w, i32_w]; rfl, ?_⟩
      refine pu 9 (some 29) (bs 25 1023) HT_ rfl rfl (by kernel_rfl) (fun _ _ _ _ h => h) ⟨_, .inl ⟨by rfl, fun _ => by go_simp; with_reducible rfl⟩, _, by simp only [Act.put, sA, sB, sC, i64_w, i32_w]; rfl, ?_⟩
      refine pu 10 (some 30) (bs 25 2047) HT_ rfl rfl (by kernel_rfl) (fun _ _ _ _ h => h) ⟨_, .inl ⟨by rfl, fun _ => by go_simp; with_reducible rfl⟩, _, by simp only [Act.put, sA, sB, sC, i64_w, i32_w]; rfl, ?_⟩
      refine pu 12 (some 32) (bs 25 6143) HT_ rfl rfl (by kernel_rfl) (fun _ _ _ _ h => h) ⟨_, .inl ⟨by rfl, fun _ => by go_simp; with_reducible rfl⟩, _, by simp only [Act.put, sA, sB, sC, i64_w, i32_w]; rfl, ?_⟩
      refine pu 15 (some 35) (bs 25 38911) HT_ rfl rfl (by kernel_rfl) (fun _ _ _ _ h => h) ⟨_, .inl ⟨by rfl, fun _ => by go_simp; with_reducible rfl⟩, _, by simp only [Act.put, sA, sB, sC, i64_w, i32_w]; rfl, ?_⟩
      refine tk 11 (some 31) (bs 25 40959) HT_ HW_ rfl rfl (by kernel_rfl) (fun _ _ _ _ h => h) hHeld ⟨_, .inl ⟨by rfl, by rintro w' ⟨s0, s1, s2⟩; refine load_row (x := .tmp 5) ?_ ?_ s1 Tryz.underlying24 rfl infoF4 <;> rfl⟩, _, by simp only [Act.put, sA, sB, sC, i64_w, i32_w]; rfl, ?_⟩
      refine tk 14 (some 34) (bs 25 57343) HT_ HW_ rfl rfl (by kernel_rfl) (fun _ _ _ _ h => h) hHeld ⟨_, .inl ⟨by rfl, by rintro w' ⟨s0, s1, s2⟩; refine load_row (x := .tmp 2) ?_ ?_ s2 Tryz.underlying24 rfl infoF4 <;> rfl⟩, _, by simp only [Act.put, sA, sB, sC, i64_w, i32_w]; rfl, ?_⟩
      refine join_ (σ := Unit) 8 (bs 25 131071) (fun _ => [(33, .bool true), (36, .bool true)]) (fun _ w' => Below w6.heap.size w6 w' ∧ w'.heap[gx]? = some (.cells #[.slice B0 f.n0 f.n0, .slice B1 f.n1 f.n1, .slice B2 f.n2 f.n2, .slice B3 f.n3 f.n3] 24 (0, 0)) ∧ w'.heap[w.heap.size]? = some (.cells #[.slice f.A0 f.n0 f.c0, .slice f.A1 f.n1 f.c1, .slice f.A2 f.n2 f.c2, .slice f.A3 f.n3 f.c3] 24 (0, 0))) ?_ ?_
      rotate_left
      · intro hCont
        refine one_ (i := 13) (N := some 33) (bs 25 65535) rfl rfl (one_of HT_.out (by kernel_rfl)) (by decide) (fun K hK => ?_)
        refine goes_ Tryz.func9 (by kernel_rfl) rfl #[.agg #[.slice B0 f.n0 f.n0, .slice B1 f.n1 f.n1, .slice B2 f.n2 f.n2, .slice B3 f.n3 f.n3], .string s] (by rfl) rfl rfl (by (try simp only [List.map_toArray, List.map_cons, List.map_nil]); first | done | rfl) ?_
        with_reducible refine (QEd.out _ HB).mono ?_
        rintro e w9 ⟨rfl, hb⟩
        replace E1 := blkB hb E1
        replace E2 := blkB hb E2
        replace HB := belT HB hb
        clear hb
        refine ⟨_, rfl, ?_⟩
        refine hK.out _ _ ⟨HB, E1, E2⟩ (fun hHeld => ?_)
        clear hK K
        refine norm_ (a' := ?_) ?_ ?_
        rotate_left
        · show Act.put _ (some 33) _ = _
          simp only [Act.put, List.setIfInBounds_toArray, List.set_cons_zero, List.set_cons_succ, i64_w, i32_w]
          rfl
        refine one_ (i := 16) (N := some 36) (bs 25 131071) rfl rfl (one_of HT_.out (by kernel_rfl)) (by decide) (fun K hK => ?_)
        refine goes_ Tryz.func10 (by kernel_rfl) rfl #[.agg #[.slice f.A0 f.n0 f.c0, .slice f.A1 f.n1 f.c1, .slice f.A2 f.n2 f.c2, .slice f.A3 f.n3 f.c3], .string s] (by rfl) rfl rfl (by (try simp only [List.map_toArray, List.map_cons, List.map_nil]); first | done | rfl) ?_
        with_reducible refine (QEr.out _ HB).mono ?_
        rintro e w9 ⟨rfl, hb⟩
        replace E1 := blkB hb E1
        replace E2 := blkB hb E2
        replace HB := belT HB hb
        clear hb
        refine ⟨_, rfl, ?_⟩
        refine hK.out _ _ ⟨HB, E1, E2⟩ (fun hHeld => ?_)
        clear hK K
        refine norm_ (a' := ?_) ?_ ?_
        rotate_left
        · show Act.put _ (some 36) _ = _
          simp only [Act.put, List.setIfInBounds_toArray, List.set_cons_zero, List.set_cons_succ, i64_w, i32_w]
          rfl
        exact norm_ (by simp only [putAll, Act.put, List.setIfInBounds_toArray, List.set_cons_zero, List.set_cons_succ]) (hCont () _ ⟨HB, E1, E2⟩)
      rintro ⟨⟩ w4' ⟨HB, E1, E2⟩
      have hHeld := And.intro HB (And.intro E1 E2)
      refine norm_ (a' := ?_) ?_ ?_
      rotate_left
      · simp only [putAll, Act.put, List.setIfInBounds_toArray, List.set_cons_zero, List.set_cons_succ]
        rfl
      refine pu 17 (some 37) (bs 25 262143) HT_ rfl rfl (by kernel_rfl) (fun _ _ _ _ h => h) ⟨_, .inl ⟨by rfl, fun _ => by go_simp; with_reducible rfl⟩, _, by simp only [Act.put, sA, sB, sC, i64_w, i32_w]; rfl, ?_⟩
      refine pu 18 (some 38) (bs 25 524287) HT_ rfl rfl (by kernel_rfl) (fun _ _ _ _ h => h) ⟨_, .inl ⟨by rfl, fun _ => by go_simp; with_reducible rfl⟩, _, by simp only [Act.put, sA, sB, sC, i64_w, i32_w]; rfl, ?_⟩
      refine pu 19 (some 39) (bs 25 1048575) HT_ rfl rfl (by kernel_rfl) (fun _ _ _ _ h => h) ⟨_, .inl ⟨by rfl, fun _ => by go_simp; with_reducible rfl⟩, _, by simp only [Act.put, sA, sB, sC, i64_w, i32_w]; rfl, ?_⟩
      refine tk 20 (some 40) (bs 25 2097151) HT_ HW_ rfl rfl (by kernel_rfl) (fun _ _ _ _ h => h) hHeld ⟨_, .inl ⟨by rfl, by rintro w' ⟨s0, s1, s2⟩; refine load_row (x := .tmp 5) ?_ ?_ s1 Tryz.underlying24 rfl infoF4 <;> rfl⟩, _, by simp only [Act.put, sA, sB, sC, i64_w, i32_w]; rfl, ?_⟩
      refine tk 21 (some 41) (bs 25 4194303) HT_ HW_ rfl rfl (by kernel_rfl) (fun _ _ _ _ h => h) hHeld ⟨_, .inl ⟨by rfl, by rintro w' ⟨s0, s1, s2⟩; refine load_row (x := .tmp 2) ?_ ?_ s2 Tryz.underlying24 rfl infoF4 <;> rfl⟩, _, by simp only [Act.put, sA, sB, sC, i64_w, i32_w]; rfl, ?_⟩
      refine on1 22 (some 42) (bs 25 8388607) HT_ rfl rfl (by kernel_rfl) (by decide) (fun K hK => ?_)
      refine goes_ Tryz.func11 (by kernel_rfl) rfl #[.agg #[.slice B0 f.n0 f.n0, .slice B1 f.n1 f.n1, .slice B2 f.n2 f.n2, .slice B3 f.n3 f.n3], .agg #[.slice f.A0 f.n0 f.c0, .slice f.A1 f.n1 f.c1, .slice f.A2 f.n2 f.c2, .slice f.A3 f.n3 f.c3]] (by rfl) rfl rfl (by (try simp only [List.map_toArray, List.map_cons, List.map_nil]); first | done | rfl) ?_
      with_reducible refine (QK7.out _ HB).mono ?_
      rintro e wa ⟨rfl, hb⟩
      replace E1 := blkB hb E1
      replace E2 := blkB hb E2
      replace HB := belT HB hb
      clear hb
      refine ⟨_, rfl, ?_⟩
      refine hK.out _ _ ⟨HB, E1, E2⟩ (fun hHeld => ?_)
      clear hK K
      refine nm ⟨_, show Act.put _ (some 42) _ = _ by simp only [Act.put, sA, sB, sC, i64_w, i32_w]; rfl, ?_⟩
      refine pu 23 (some 43) (bs 25 16777215) HT_ rfl rfl (by kernel_rfl) (fun _ _ _ _ h => h) ⟨_, .inl ⟨by rfl, fun _ => by go_simp; with_reducible rfl⟩, _, by simp only [Act.put, sA, sB, sC, i64_w, i32_w]; rfl, ?_⟩
      refine pu 24 (some 44) (bs 25 33554431) HT_ rfl rfl (by kernel_rfl) (fun _ _ _ _ h => h) ⟨_, .inl ⟨by rfl, fun _ => by go_simp; with_reducible rfl⟩, _, by simp only [Act.put, sA, sB, sC, i64_w, i32_w]; rfl, ?_⟩
      refine done_ (done_of HT_.out (by kernel_rfl)) ?_
      have HBa := Lib.hid HB
      have HXa := Lib.hid E1
      have HAa := Lib.hid E2
      have H4a := Lib.hid (belT H46.out HB)
      have H5a := Lib.hid (belT H56.out HB)
      have HWa := Lib.hid (belT HW6.out HB)
      have HBK := Lib.hid (And.intro (Rqs.below HRa.out.1 H4a.out) (Rqs.below HRb.out.1 H5a.out))
      have HFt : Hid (∀ r ∈ pl, ObFits r.ob) := Lib.hid (by rw [HP.out.1]; exact planF_fits (fun o ho => (HH.out.2.f0 o ho).1))
      clear HB E1 E2 QS1 QS2 QEd QEr
      go_wp2_with (first
        | (go_at_call 12; have H7 := Lib.hid (dp_book (w7 := wa.alloc (.cells #[.slice none 0 0, .slice none 0 0, .slice none 0 0, .slice none 0 0, .slice none 0 0, .slice none 0 0, .slice none 0 0, .slice none 0 0, .slice none 0 0, .slice none 0 0, .slice none 0 0, .slice none 0 0] 45)) HBK.out.1 HBK.out.2 HRa.out.1.lt H4a.out H5a.out H34.out H45.out rfl); have H37 := Lib.hid (below_alloc (belT H34.out H4a.out) (.cells #[.slice none 0 0, .slice none 0 0, .slice none 0 0, .slice none 0 0, .slice none 0 0, .slice none 0 0, .slice none 0 0, .slice none 0 0, .slice none 0 0, .slice none 0 0, .slice none 0 0, .slice none 0 0] 45)); (with_reducible refine (bookRequests_calls wa.heap.size wa.heap.size Aa kp ca Ta nilV nilV (wa.alloc (.cells #[.slice none 0 0, .slice none 0 0, .slice none 0 0, .slice none 0 0, .slice none 0 0, .slice none 0 0, .slice none 0 0, .slice none 0 0, .slice none 0 0, .slice none 0 0, .slice none 0 0, .slice none 0 0] 45)) [] [] H7.out.la H7.out.ta H7.out.ba H7.out.bk (by have := HKP.out; simp; omega) H7.out.sz).mono ?_); rintro e w8 ⟨rfl, ⟨v5, hS8⟩, hb8, hf8⟩; have H8 := Lib.hid (And.intro hS8 (And.intro hb8 hf8)); clear hS8 hb8 hf8)
        | (go_at_call 12; (with_reducible refine (bookRequests_calls wa.heap.size wa.heap.size Ab kp cb Tb v5 nilV w8 ([] ++ labsOf Ta) [] H7.out.lb (H7.out.tb.below H7.out.bb H8.out.2.1) H7.out.bb H8.out.1 (by have := HKP.out; have := H7.out.la; rw [List.nil_append, labsOf_len]; omega) (Nat.le_trans H7.out.sz H8.out.2.1.size)).mono ?_); rintro e w9 ⟨rfl, ⟨v5', hS9⟩, hb9, hf9⟩; have H9 := Lib.hid (And.intro hS9 (And.intro (H8.out.2.1.trans hb9) (H8.out.2.2.trans hf9))); clear hS9 hb9 hf9)
        | (go_at_call 13; (with_reducible refine (apart_rqs H9.out.1 (H7.out.ra.keep H7.out.lta H9.out.2.1) (H7.out.rb.keep H7.out.ltb H9.out.2.1) H7.out.lt H7.out.le HKP.out HKP.out HFt.out HFt.out (Nat.le_trans (Nat.le_trans (Nat.le_trans H7.out.le H7.out.le2) H7.out.sz) H9.out.2.1.size)).mono ?_); rintro e w10 ⟨rfl, hO⟩; have H10 := Lib.hid (dp_end H7.out H37.out H9.out.2.1 hO); have HX10 := Lib.hid (blkB H10.out HX3.out); have HA10 := Lib.hid (blkB H10.out HA3.out); clear hO)
        | ((with_reducible refine wpList_load_blk_w (op := ⟨some 51, _, _, _, _, _⟩) 24 (.tmp 5) rfl gx 24 ?g1 ?g2 #[.slice B0 f.n0 f.n0, .slice B1 f.n1 f.n1, .slice B2 f.n2 f.n2, .slice B3 f.n3 f.n3] _ ?g3 Tryz.underlying24 ?g4 ?g5 ?_); (case g1 => rfl); (case g2 => rfl); (case g3 => exact HX10.out); (case g4 => rfl); (case g5 => exact infoF4))
        | ((with_reducible refine wpList_load_blk_w (op := ⟨some 52, _, _, _, _, _⟩) 24 (.tmp 2) rfl w.heap.size 24 ?h1 ?h2 #[.slice f.A0 f.n0 f.c0, .slice f.A1 f.n1 f.c1, .slice f.A2 f.n2 f.c2, .slice f.A3 f.n3 f.c3] _ ?h3 Tryz.underlying24 ?h4 ?h5 ?_); (case h1 => rfl); (case h2 => rfl); (case h3 => exact HA10.out); (case h4 => rfl); (case h5 => exact infoF4))
        | (go_at_call 11; (with_reducible refine (QKt.out _ H10.out).mono ?_); rintro e w11 ⟨rfl, hb11⟩; have H11 := Lib.hid (belT (belT HB3.out H10.out) hb11); clear hb11))
      go_ret
      exact ⟨rfl, H11.out⟩
  · go_ret
    exact ⟨rfl, HB1.out⟩
end Go.Proofs.YtoepbjgldmgaoaaGreatDoor

/- Fleets that are arguments, opened. -/
namespace Go.Proofs.YtoepbjgldmgaoaaGreatDoor
set_option maxRecDepth 100000
open Go.ChangeShapes Go.WideShapes Go.RowKit Go.Proofs.YtoepbjgldmgaoaaGreatDoorW.PrintWords
section
variable {H : Type} {enc : TypeId × Value → H} {W : World} {base : Nat} {spare : Nat → Bool} {held : Bool}
set_option maxRecDepth 100000 in
theorem open_fleet {fuel : Nat} {cs : List Value} {x : DataW H × List MemPlace} (hw : ∀ n ∈ x.1.weights Tryz.prog 24, n ≤ reachBytes) (h : DataW.trod enc Tryz.prog W base spare held fuel 24 cs = some x) :
    ∃ f : F4, cs = f.v.toList ∧ F4.At kO W f ∧ F4.Ok f := by
  have hu := Tryz.underlying24
  obtain ⟨xs, m, _, hx, hlen, hl, hfd⟩ := DataW.trod_struct hu h
  rw [show Tryz.prog.cellsOf 24 = 4 by kernel_rfl] at hlen
  have hwd : ∀ (j : Nat) (t : TypeId) (y : DataW H × List MemPlace), xs[j]? = some y → (Program.underlying Tryz.prog 24).elim none (fun d => match d with | .struct fs => (fs.toList.map (·.type))[j]? | _ => none) = some t → ∀ n ∈ y.1.weights Tryz.prog t, n ≤ reachBytes := fun j t y hy ht n hn => hw n (by
    rw [hx]
    unfold DataW.weights
    rw [hu] at ht ⊢
    exact DataW.weights_mem_each (j := j) (t := t) (d := y.1) ht (by simp [hy]) n hn)
  rw [hu] at hwd
  have c5 : Tryz.prog.cellsOf 22 = 1 := by kernel_rfl
  have ex : ∀ j, j < 4 → ∃ y, xs[j]? = some y := fun j hj => ⟨_, List.getElem?_eq_getElem (by rw [hl]; exact hj)⟩
  have one : ∀ j, j < 4 → ∃ A c l, (cs.drop j).take 1 = [.slice A l.length c] ∧ l.length ≤ c ∧ kO.C W A l.length l ∧ (∀ o ∈ l, ObFits o ∧ ObInts o) ∧ l.length * 312 ≤ 140737488351232 := by
    intro j hj
    have f0 : DataW.trod enc Tryz.prog W base spare held m 22 ((cs.drop j).take (Tryz.prog.cellsOf 22)) = xs[j]? := by
      match j, hj with
      | 0, _ => exact hfd 0 _ rfl
      | 1, _ => exact hfd 1 _ rfl
      | 2, _ => exact hfd 2 _ rfl
      | 3, _ => exact hfd 3 _ rfl
    rw [c5] at f0
    obtain ⟨y, e⟩ := ex j hj
    rw [e] at f0
    have w0 : ∀ n ∈ y.1.weights Tryz.prog 22, n ≤ reachBytes := by
      match j, hj, e with
      | 0, _, e => exact hwd 0 22 y e rfl
      | 1, _, e => exact hwd 1 22 y e rfl
      | 2, _, e => exact hwd 2 22 y e rfl
      | 3, _, e => exact hwd 3 22 y e rfl
    exact open_objs w0 f0
  obtain ⟨A0, c0, l0, e0, _, h0, g0, z0⟩ := one 0 (by omega)
  obtain ⟨A1, c1, l1, e1, _, h1, g1, z1⟩ := one 1 (by omega)
  obtain ⟨A2, c2, l2, e2, _, h2, g2, z2⟩ := one 2 (by omega)
  obtain ⟨A3, c3, l3, e3, _, h3, g3, z3⟩ := one 3 (by omega)
  obtain ⟨x0, x1, x2, x3, rfl⟩ : ∃ a b c d, cs = [a, b, c, d] := by
    match cs, hlen with
    | [x0, x1, x2, x3], _ => exact ⟨x0, x1, x2, x3, rfl⟩
  simp only [List.drop_succ_cons, List.drop_zero, List.take_succ_cons, List.take_zero, List.cons.injEq, and_true] at e0 e1 e2 e3
  subst e0 e1 e2 e3
  exact ⟨⟨A0, A1, A2, A3, l0.length, l1.length, l2.length, l3.length, c0, c1, c2, c3, l0, l1, l2, l3⟩, rfl, ⟨h0, h1, h2, h3⟩, ⟨by simp only; omega, by simp only; omega, by simp only; omega, by simp only; omega, g0, g1, g2, g3⟩⟩
set_option maxRecDepth 100000 in
theorem open_fleetV {r : Reach} {b0 : Nat} {v : Value} {d : DataW H} {ps : List MemPlace} (hval : Value.okWide Tryz.prog W r b0 24 v) (hw : ∀ n ∈ d.weights Tryz.prog 24, n ≤ reachBytes) (h : DataW.Trod enc Tryz.prog W base spare held 24 v d ps) :
    ∃ f : F4, v = .agg f.v ∧ F4.At kO W f ∧ F4.Ok f := by
  obtain ⟨cs, rfl, _⟩ := okWide_agg Tryz.underlying24 hval
  obtain ⟨fuel, hf⟩ := h
  obtain ⟨f, e, h1, h2⟩ := open_fleet (x := (d, ps)) hw hf
  have e' : cs.toList = f.v.toList := e
  exact ⟨f, by rw [Array.toList_inj.1 e'], h1, h2⟩
end
end Go.Proofs.YtoepbjgldmgaoaaGreatDoor

/- A start for the witness: the settled world, some variables' cells laid as the row says. -/
namespace Go.Proofs.YtoepbjgldmgaoaaGreatDoor
def flat1 : DataW Unit → List Value
  | .lit (.int k n) => [.int k n]
  | _ => []
def flat2 : DataW Unit → List Value
  | .agg l => l.flatMap fun
    | .agg m => m.flatMap flat1
    | x => flat1 x
  | x => flat1 x
def handleCell (h t : Nat) : List Value := [.iface h (.agg #[.pointer (some ⟨3, t, none⟩)])]
def layAt (heap : Array Obj) (x : Nat × List Value) : Array Obj := heap.modify x.1 fun
  | .cells _ t frozen => .cells x.2.toArray t frozen
  | o => o
noncomputable def laidWith (l : List (Nat × List Value)) (os : Os) : World :=
  { World.holding Tryz.prog os ⟨#[], #[], []⟩ with heap := l.foldl layAt (World.holding Tryz.prog os ⟨#[], #[], []⟩).heap }
end Go.Proofs.YtoepbjgldmgaoaaGreatDoor
