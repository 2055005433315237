/- Lemmas on which the law stands, part 4: SortR, Vict, Same, SameO, Lent, LentO, Five, Works, SameL, LentS, Copy, SrtO, SrtC, Bld, Order, First, OpenPod, OpenObj, RefV, RefS, Flt, FltO, FltW, Kept, ApL, Apnd, ApLB. -/
import Derived.Test.YtoepbjgldmgaoaaDoorKFlt3
import Derived.SizedLaws
import Derived.ChangeArms
import Derived.WideShapes
import Derived.OpenShut
import Derived.Deep.SlicePairs
import Derived.ChangeSame
set_option linter.unusedVariables false
set_option linter.unusedSimpArgs false
/- The library's stable sort, over what is made: the things are sorted, all else stays. -/
namespace Go.Proofs.YtoepbjgldmgaoaaDoor
open Go.RowKit Go.Proofs.YtoepbjgldmgaoaaDoorW.PrintWords Go.Proofs.YtoepbjgldmgaoaaDoorW.PrintLast
theorem unflat (n : Nat) (inner : List Value) (h : inner.length = n * 32) : ∃ L : List (Array Value), L.length = n ∧ flat L = inner ∧ ∀ x ∈ L, x.size = 32 := by
  induction n generalizing inner with
  | zero => exact ⟨[], rfl, by rw [List.length_eq_zero_iff.1 (show inner.length = 0 by omega)]; rfl, fun _ hx => absurd hx List.not_mem_nil⟩
  | succ n ih =>
    obtain ⟨L, h1, h2, h3⟩ := ih (inner.drop 32) (by rw [List.length_drop]; omega)
    refine ⟨(inner.take 32).toArray :: L, by rw [List.length_cons, h1], ?_, fun x hx => ?_⟩
    · rw [flat, List.flatMap_cons, show L.flatMap Array.toList = inner.drop 32 from h2]
      exact List.take_append_drop 32 inner
    · rcases List.mem_cons.1 hx with rfl | hx
      · simp
        omega
      · exact h3 x hx
section
variable {α : Type}
theorem sort_pairs (c : α → α → Int) (cf : Array Value → Array Value → Int) (R : α → List Value → Prop) (xs : List α) (L : List (Array Value)) (hl : L.length = xs.length) (hR : ∀ (j : Nat) (x : α) (y : Array Value), xs[j]? = some x → L[j]? = some y → R x y.toList)
    (hcc : ∀ (x y : α) (a b : Array Value), x ∈ xs → y ∈ xs → R x a.toList → R y b.toList → (cf a b < 0 ↔ c x y < 0)) : ∀ (j : Nat) (x : α) (y : Array Value), (Srt.isort c xs)[j]? = some x → (Srt.isort cf L)[j]? = some y → R x y.toList := by
  obtain ⟨zs, hzs⟩ : ∃ zs : List (α × Array Value), zs = xs.zip L := ⟨_, rfl⟩
  have h1 : zs.map Prod.fst = xs := by rw [hzs, List.map_fst_zip (by omega)]
  have h2 : zs.map Prod.snd = L := by rw [hzs, List.map_snd_zip (by omega)]
  have hz : ∀ p ∈ zs, p.1 ∈ xs ∧ R p.1 p.2.toList := by
    intro p hp
    obtain ⟨j, hj⟩ := List.getElem?_of_mem hp
    have e1 : xs[j]? = some p.1 := by rw [← h1, List.getElem?_map, hj]; rfl
    have e2 : L[j]? = some p.2 := by rw [← h2, List.getElem?_map, hj]; rfl
    exact ⟨List.mem_of_getElem? e1, hR j _ _ e1 e2⟩
  have k1 : (Srt.isort (fun p q : α × Array Value => c p.1 q.1) zs).map Prod.fst = Srt.isort c xs := by rw [Srt.isort_map c Prod.fst, h1]
  have k2 : (Srt.isort (fun p q : α × Array Value => c p.1 q.1) zs).map Prod.snd = Srt.isort cf L := by
    rw [Srt.isort_congr (c' := fun p q : α × Array Value => cf p.2 q.2) zs (fun p hp q hq => (hcc _ _ _ _ (hz p hp).1 (hz q hq).1 (hz p hp).2 (hz q hq).2).symm), Srt.isort_map cf Prod.snd, h2]
  intro j x y hx hy
  rw [← k1, List.getElem?_map, Option.map_eq_some_iff] at hx
  rw [← k2, List.getElem?_map, Option.map_eq_some_iff] at hy
  obtain ⟨p, hp, rfl⟩ := hx
  obtain ⟨q, hq, rfl⟩ := hy
  rw [hp] at hq
  obtain rfl := Option.some.inj hq
  exact (hz p ((Srt.mem_isort p zs).1 (List.mem_of_getElem? hp))).2
theorem sort_R (d : Kd α) (hd : d.sz = 32) (f : FuncId) (D : Array Value → Prop) (cf : Array Value → Array Value → Int) (hcmp : CmpAt f D cf) (hcf : Wc.IsCmp cf) (c : α → α → Int) {e base : Nat} {ok : Nat → Prop} {w : World} {v : Value} {xs : List α} (h : d.R e w base ok v xs)
    (hD : ∀ x cs, x ∈ xs → d.K w x cs → D cs.toArray) (hcc : ∀ x y cs ds, x ∈ xs → y ∈ xs → d.K w x cs → d.K w y ds → (cf cs.toArray ds.toArray < 0 ↔ c x y < 0)) (hn : xs.length ≤ 1099511627776) :
    Calls Tryd.prog 43 #[v, .func (.func f) #[] #[]] w fun e' w' =>
      (∃ r, e' = .returned r) ∧ d.R e w' base ok v (Srt.isort c xs) ∧ Below base w w' ∧ w.heap.size ≤ w'.heap.size ∧ ∀ k, some k ≠ v.ownBlock → k < w.heap.size → w'.heap[k]? = w.heap[k]? := by
  obtain ⟨h0, inner, ho, hr⟩ := h
  rw [hd] at ho hr
  rcases ho.2 with ⟨rfl, hl0⟩ | ⟨g, cap, cur, rfl, hb, hh, hnc, hcm, hcs, ht⟩
  · obtain rfl : xs = [] := List.eq_nil_of_length_eq_zero hl0
    refine (sort_zero f none 0 w).mono ?_
    rintro e' w' ⟨hv, rfl⟩
    exact ⟨hv, Kd.R_nil _ _ _ _ _, Below.refl _ _, Nat.le_refl _, fun _ _ _ => rfl⟩
  · obtain ⟨L, hL, rfl, hs⟩ := unflat xs.length inner ho.1
    have hM : ∀ (j : Nat) (x : α) (y : Array Value), xs[j]? = some x → L[j]? = some y → d.M w base (fun k => ok k ∧ some k ≠ (Value.slice (some ⟨g, 0, none⟩) xs.length cap).ownBlock) x y.toList := by
      intro j x y hx hy
      have := hr.2 j x hx
      rw [flat_at L hs j y hy] at this
      exact this
    have hx : ∀ y ∈ L, ∃ x ∈ xs, d.M w base (fun k => ok k ∧ some k ≠ (Value.slice (some ⟨g, 0, none⟩) xs.length cap).ownBlock) x y.toList := by
      intro y hy
      obtain ⟨j, hj⟩ := List.getElem?_of_mem hy
      have hjl := (List.getElem?_eq_some_iff.1 hj).1
      have e1 : xs[j]? = some xs[j] := List.getElem?_eq_getElem (by omega)
      exact ⟨_, List.getElem_mem (by omega), hM j _ _ e1 hj⟩
    have h1 : ∀ y ∈ L, y.size = 32 ∧ y.all (·.oneCell') = true := by
      intro y hy
      obtain ⟨x, _, hm⟩ := hx y hy
      exact ⟨hs y hy, all_oneCell_toArray (d.K_one (d.K_of_M hm))⟩
    have hRA := own_rows ho hL h1
    refine (sort_rows f D cf hcmp hcf g cap xs.length hnc hn L hL w hRA (fun y hy => ?_)).mono ?_
    · obtain ⟨x, hxx, hm⟩ := hx y hy
      have := hD x _ hxx (d.K_of_M hm)
      simpa using this
    · rintro e' w' ⟨hv, hR', hB⟩
      have hb' : ∀ k, some k ≠ (Value.slice (some ⟨g, 0, none⟩) xs.length cap).ownBlock → k < w.heap.size → w'.heap[k]? = w.heap[k]? := fun k hk hlt => hB.block k hlt (fun e => hk (by rw [e]; rfl))
      have ho' := rows_own ho hB hR' (by rw [Srt.isort_length, hL])
      have hlt : g < w.heap.size := blkLt hh
      refine ⟨hv, ⟨h0, flat (Srt.isort cf L), ?_, ?_⟩, But.below (Below.refl _ _) hB hb (by omega), hB.size, hb'⟩
      · rw [Srt.isort_length, hd]
        exact ho'
      · rw [hd]
        refine ⟨by rw [flat_length _ (fun y hy => (hR'.one y hy).1), Srt.isort_length, Srt.isort_length, hL], fun j x hj => ?_⟩
        have hjl := (List.getElem?_eq_some_iff.1 hj).1
        rw [Srt.isort_length] at hjl
        obtain ⟨y, hy⟩ : ∃ y, (Srt.isort cf L)[j]? = some y := ⟨_, List.getElem?_eq_getElem (by rw [Srt.isort_length]; omega)⟩
        rw [flat_at _ (fun y hy => (hR'.one y hy).1) j _ hy]
        have := sort_pairs c cf (d.M w base (fun k => ok k ∧ some k ≠ (Value.slice (some ⟨g, 0, none⟩) xs.length cap).ownBlock)) xs L hL hM (fun x y a b hx hy ha hb => hcc x y _ _ hx hy (d.K_of_M ha) (d.K_of_M hb)) j x _ hj hy
        exact Kd.M_step this (fun k hk hlt => hb' k hk.2 hlt)
theorem S_of_tags {d : Kd α} {e base : Nat} {ok : Nat → Prop} {w : World} {v : Value} {f : Nat → Nat} {L : List (α × Nat)} (h : (Kd.tag f d).R e w base ok v L) (hn : (L.map Prod.snd).Nodup) : Kd.S d e w base ok v (L.map Prod.fst) := by
  obtain ⟨h0, inner, ho, hr⟩ := h
  refine ⟨fun k => (L.map Prod.snd).idxOf (f k), h0, inner, by rw [List.length_zipIdx, List.length_map]; exact ho, ?_, fun j p hj => ?_⟩
  · rw [List.length_zipIdx, List.length_map]
    exact hr.1
  · rw [List.getElem?_zipIdx, Nat.zero_add, Option.map_eq_some_iff] at hj
    obtain ⟨x, hx, rfl⟩ := hj
    rw [List.getElem?_map, Option.map_eq_some_iff] at hx
    obtain ⟨q, hq, rfl⟩ := hx
    have := hr.2 j q hq
    refine d.M_mono (fun k hk => ⟨hk.1, ?_⟩) this
    have e2 : (L.map Prod.snd)[j]? = some q.2 := by rw [List.getElem?_map, hq]; rfl
    obtain ⟨hjl, he⟩ := List.getElem?_eq_some_iff.1 e2
    show (L.map Prod.snd).idxOf (f k) = j
    rw [hk.2, ← he]
    exact hn.idxOf_getElem j hjl
theorem zip_snd_nodup (xs : List α) : (xs.zipIdx.map Prod.snd).Nodup := by
  have : xs.zipIdx.map Prod.snd = List.range' 0 xs.length := by simp [List.zipIdx_eq_zip_range', List.map_snd_zip]
  rw [this]
  exact List.nodup_range'
theorem sort_S (d : Kd α) (hd : d.sz = 32) (f : FuncId) (D : Array Value → Prop) (cf : Array Value → Array Value → Int) (hcmp : CmpAt f D cf) (hcf : Wc.IsCmp cf) (c : α → α → Int) {e base : Nat} {ok : Nat → Prop} {w : World} {v : Value} {xs : List α} (h : Kd.S d e w base ok v xs)
    (hD : ∀ x cs, x ∈ xs → d.K w x cs → D cs.toArray) (hcc : ∀ x y cs ds, x ∈ xs → y ∈ xs → d.K w x cs → d.K w y ds → (cf cs.toArray ds.toArray < 0 ↔ c x y < 0)) (hn : xs.length ≤ 1099511627776) :
    Calls Tryd.prog 43 #[v, .func (.func f) #[] #[]] w fun e' w' =>
      (∃ r, e' = .returned r) ∧ Kd.S d e w' base ok v (Srt.isort c xs) ∧ Below base w w' ∧ w.heap.size ≤ w'.heap.size ∧ ∀ k, some k ≠ v.ownBlock → k < w.heap.size → w'.heap[k]? = w.heap[k]? := by
  obtain ⟨t, hR⟩ := h
  have hmem : ∀ p : α × Nat, p ∈ xs.zipIdx → p.1 ∈ xs := fun p hp => by
    obtain ⟨j, hj⟩ := List.getElem?_of_mem hp
    rw [List.getElem?_zipIdx, Nat.zero_add, Option.map_eq_some_iff] at hj
    obtain ⟨x, hx, rfl⟩ := hj
    exact List.mem_of_getElem? hx
  refine (sort_R (Kd.tag t d) hd f D cf hcmp hcf (fun p q => c p.1 q.1) hR (fun p cs hp hK => hD p.1 cs (hmem p hp) hK) (fun p q cs ds hp hq hK hK' => hcc p.1 q.1 cs ds (hmem p hp) (hmem q hq) hK hK') (by rw [List.length_zipIdx]; exact hn)).mono ?_
  rintro e' w' ⟨hv, hR', hr⟩
  have hp := Srt.isort_perm (fun p q : α × Nat => c p.1 q.1) xs.zipIdx
  have h2 := S_of_tags hR' ((hp.map Prod.snd).nodup_iff.2 (zip_snd_nodup xs))
  rw [Srt.isort_map c Prod.fst] at h2
  have e3 : xs.zipIdx.map Prod.fst = xs := by simp
  rw [e3] at h2
  exact ⟨hv, h2, hr⟩
end
end Go.Proofs.YtoepbjgldmgaoaaDoor

/- rank.Victims: the objects that aren't ending, each a copy, in their order; the first ones of them. -/
namespace Go.Proofs.YtoepbjgldmgaoaaDoor
open Go.RowKit Go.Proofs.YtoepbjgldmgaoaaDoorW.PrintWords Go.Proofs.YtoepbjgldmgaoaaDoorW.PrintLast
attribute [local go_sem] Go.Proofs.YtoepbjgldmgaoaaDoorW.PrintMore.max2_int Go.Proofs.YtoepbjgldmgaoaaDoorW.PrintMore.min2_int Go.Proofs.YtoepbjgldmgaoaaDoorW.PrintMore.max_two Go.Proofs.YtoepbjgldmgaoaaDoorW.PrintMore.min_two
theorem infoO : (Tryd.prog.info? 48).map (fun i => (i.zero, i.size, i.bytes)) = some (some (.agg (Ob.zero.cells (.slice none 0 0) (.slice none 0 0))), 32, 312) := by kernel_rfl
theorem infoO1 : (Tryd.prog.info? 48).map (·.size) = some 32 := by kernel_rfl
def live (l : List Ob) : List Ob := l.filter fun o => !o.ending
def sortV (l : List Ob) : List Ob := Srt.isort (fun a b => cV a.pk b.pk) l
def headN (n : Int) (len : Nat) : Nat := min n.toNat len
def victF (l : List Ob) (n : Int) : List Ob := (sortV (live l)).take (headN n (live l).length)
def ObFits (o : Ob) : Prop := o.name.size ≤ 140737488351232 ∧ o.labels.length ≤ 4398046510976 ∧ o.select.length ≤ 4398046510976
theorem kO_is {w : World} {o : Ob} {cs : List Value} (h : kO.K w o cs) (hf : ObFits o) : IsObj cs.toArray := by
  obtain ⟨v4, v27, rfl, _⟩ := h
  exact ⟨o, v4, v27, by simp, hf.1⟩
theorem cells_set (o : Ob) (v4 v27 u4 u27 : Value) : ((o.cells v4 v27).setIfInBounds 4 u4).setIfInBounds 27 u27 = o.cells u4 u27 := rfl
theorem lab_cells {e base : Nat} {ok : Nat → Prop} {w : World} {v : Value} {l : List Lab} (h : kL.R e w base ok v l) : v.cells = #[v] := by
  obtain ⟨A, c, rfl⟩ := Kd.R_slice h
  rfl
def rg21_6_T : Bool × List (List Nat × List Nat) := (true, [([], []), ([0], [0]), ([1], [1]), ([], []), ([3], [3]), ([4, 2], [4]), ([0, 1, 2, 3, 4], []), ([6, 2, 5, 0, 1, 2, 3, 4], [2, 6]), ([0, 1, 2, 3, 4, 5, 6, 7], []), ([8, 5, 7, 0, 1, 2, 3, 4, 5, 6, 7], [5, 8])])
def rg21_6_B : List Nat := [0, 1, 3, 0, 8, 31, 31, 127, 255, 511]
end Go.Proofs.YtoepbjgldmgaoaaDoor

/- SameObject, SameObjects: are two objects, two lists of them, the same? -/
namespace Go.Proofs.YtoepbjgldmgaoaaDoor
open Go.RowKit Go.Proofs.YtoepbjgldmgaoaaDoorW.PrintWords Go.Proofs.YtoepbjgldmgaoaaDoorW.PrintLast
theorem cells_at0 (o : Ob) (v4 v27 : Value) (h : 0 < (o.cells v4 v27).size) : (o.cells v4 v27)[0]'h = .int .i64 o.kind := rfl
theorem cells_at1 (o : Ob) (v4 v27 : Value) (h : 1 < (o.cells v4 v27).size) : (o.cells v4 v27)[1]'h = .string o.name := rfl
theorem cells_at2 (o : Ob) (v4 v27 : Value) (h : 2 < (o.cells v4 v27).size) : (o.cells v4 v27)[2]'h = .int .i64 o.version := rfl
theorem cells_at3 (o : Ob) (v4 v27 : Value) (h : 3 < (o.cells v4 v27).size) : (o.cells v4 v27)[3]'h = .int .i64 o.born := rfl
theorem cells_at4 (o : Ob) (v4 v27 : Value) (h : 4 < (o.cells v4 v27).size) : (o.cells v4 v27)[4]'h = v4 := rfl
theorem cells_at5 (o : Ob) (v4 v27 : Value) (h : 5 < (o.cells v4 v27).size) : (o.cells v4 v27)[5]'h = .int .i64 o.roomC := rfl
theorem cells_at6 (o : Ob) (v4 v27 : Value) (h : 6 < (o.cells v4 v27).size) : (o.cells v4 v27)[6]'h = .int .i64 o.roomM := rfl
theorem cells_at7 (o : Ob) (v4 v27 : Value) (h : 7 < (o.cells v4 v27).size) : (o.cells v4 v27)[7]'h = .bool o.cordoned := rfl
theorem cells_at8 (o : Ob) (v4 v27 : Value) (h : 8 < (o.cells v4 v27).size) : (o.cells v4 v27)[8]'h = .bool o.draining := rfl
theorem cells_at9 (o : Ob) (v4 v27 : Value) (h : 9 < (o.cells v4 v27).size) : (o.cells v4 v27)[9]'h = .bool o.lost := rfl
theorem cells_at10 (o : Ob) (v4 v27 : Value) (h : 10 < (o.cells v4 v27).size) : (o.cells v4 v27)[10]'h = .int .i64 o.beat := rfl
theorem cells_at11 (o : Ob) (v4 v27 : Value) (h : 11 < (o.cells v4 v27).size) : (o.cells v4 v27)[11]'h = .string o.deploy := rfl
theorem cells_at12 (o : Ob) (v4 v27 : Value) (h : 12 < (o.cells v4 v27).size) : (o.cells v4 v27)[12]'h = .string o.sset := rfl
theorem cells_at13 (o : Ob) (v4 v27 : Value) (h : 13 < (o.cells v4 v27).size) : (o.cells v4 v27)[13]'h = .string o.node := rfl
theorem cells_at14 (o : Ob) (v4 v27 : Value) (h : 14 < (o.cells v4 v27).size) : (o.cells v4 v27)[14]'h = .int .i64 o.phase := rfl
theorem cells_at15 (o : Ob) (v4 v27 : Value) (h : 15 < (o.cells v4 v27).size) : (o.cells v4 v27)[15]'h = .bool o.ready := rfl
theorem cells_at16 (o : Ob) (v4 v27 : Value) (h : 16 < (o.cells v4 v27).size) : (o.cells v4 v27)[16]'h = .bool o.ending := rfl
theorem cells_at17 (o : Ob) (v4 v27 : Value) (h : 17 < (o.cells v4 v27).size) : (o.cells v4 v27)[17]'h = .int .i64 o.needC := rfl
theorem cells_at18 (o : Ob) (v4 v27 : Value) (h : 18 < (o.cells v4 v27).size) : (o.cells v4 v27)[18]'h = .int .i64 o.needM := rfl
theorem cells_at19 (o : Ob) (v4 v27 : Value) (h : 19 < (o.cells v4 v27).size) : (o.cells v4 v27)[19]'h = .string o.image := rfl
theorem cells_at20 (o : Ob) (v4 v27 : Value) (h : 20 < (o.cells v4 v27).size) : (o.cells v4 v27)[20]'h = .int .i64 o.rise := rfl
theorem cells_at21 (o : Ob) (v4 v27 : Value) (h : 21 < (o.cells v4 v27).size) : (o.cells v4 v27)[21]'h = .int .i64 o.fall := rfl
theorem cells_at22 (o : Ob) (v4 v27 : Value) (h : 22 < (o.cells v4 v27).size) : (o.cells v4 v27)[22]'h = .int .i64 o.count := rfl
theorem cells_at23 (o : Ob) (v4 v27 : Value) (h : 23 < (o.cells v4 v27).size) : (o.cells v4 v27)[23]'h = .int .i64 o.surge := rfl
theorem cells_at24 (o : Ob) (v4 v27 : Value) (h : 24 < (o.cells v4 v27).size) : (o.cells v4 v27)[24]'h = .int .i64 o.slack := rfl
theorem cells_at25 (o : Ob) (v4 v27 : Value) (h : 25 < (o.cells v4 v27).size) : (o.cells v4 v27)[25]'h = .bool o.paused := rfl
theorem cells_at26 (o : Ob) (v4 v27 : Value) (h : 26 < (o.cells v4 v27).size) : (o.cells v4 v27)[26]'h = .int .u64 o.hash := rfl
theorem cells_at27 (o : Ob) (v4 v27 : Value) (h : 27 < (o.cells v4 v27).size) : (o.cells v4 v27)[27]'h = v27 := rfl
theorem cells_at28 (o : Ob) (v4 v27 : Value) (h : 28 < (o.cells v4 v27).size) : (o.cells v4 v27)[28]'h = .int .i64 o.least := rfl
theorem cells_at29 (o : Ob) (v4 v27 : Value) (h : 29 < (o.cells v4 v27).size) : (o.cells v4 v27)[29]'h = .string o.holder := rfl
theorem cells_at30 (o : Ob) (v4 v27 : Value) (h : 30 < (o.cells v4 v27).size) : (o.cells v4 v27)[30]'h = .int .i64 o.term := rfl
theorem cells_at31 (o : Ob) (v4 v27 : Value) (h : 31 < (o.cells v4 v27).size) : (o.cells v4 v27)[31]'h = .int .i64 o.till := rfl
attribute [local go_sem] cells_at0 cells_at1 cells_at2 cells_at3 cells_at4 cells_at5 cells_at6 cells_at7 cells_at8 cells_at9 cells_at10 cells_at11 cells_at12 cells_at13 cells_at14 cells_at15 cells_at16 cells_at17 cells_at18 cells_at19 cells_at20 cells_at21 cells_at22 cells_at23 cells_at24 cells_at25 cells_at26 cells_at27 cells_at28 cells_at29 cells_at30 cells_at31
theorem amt_cells {w : World} {g : Nat} {cs : Array Value} (h : ∀ j u, cs[j]? = some u → w.cell? ⟨g, j, none⟩ = some u) (k : Nat) {a b : Value} (h0 : cs[k]? = some a) (h1 : cs[k + 1]? = some b) : ∀ (j : Nat) (u : Value), (#[a, b] : Array Value)[j]? = some u → w.cell? ((⟨g, k, none⟩ : Addr).add j) = some u := by
  intro j u hu
  match j, hu with
  | 0, hu => obtain rfl : a = u := by simpa using hu
             rw [add_at]; exact h _ _ h0
  | 1, hu => obtain rfl : b = u := by simpa using hu
             rw [add_at]; exact h _ _ h1
  | j + 2, hu => simp at hu
def bareB (o p : Ob) : Bool := decide (o.kind = p.kind ∧ o.name.toList = p.name.toList ∧ o.version = p.version ∧ o.born = p.born ∧ o.roomC = p.roomC ∧ o.roomM = p.roomM ∧ o.cordoned = p.cordoned ∧ o.draining = p.draining ∧ o.lost = p.lost ∧ o.beat = p.beat ∧ o.deploy.toList = p.deploy.toList ∧ o.sset.toList = p.sset.toList ∧ o.node.toList = p.node.toList ∧ o.phase = p.phase ∧ o.ready = p.ready ∧ o.ending = p.ending ∧ o.needC = p.needC ∧ o.needM = p.needM ∧ o.image.toList = p.image.toList ∧ o.rise = p.rise ∧ o.fall = p.fall ∧ o.count = p.count ∧ o.surge = p.surge ∧ o.slack = p.slack ∧ o.paused = p.paused ∧ o.hash = p.hash ∧ o.least = p.least ∧ o.holder.toList = p.holder.toList ∧ o.term = p.term ∧ o.till = p.till)
set_option maxRecDepth 100000 in
set_option maxHeartbeats 4000000 in
theorem bare_calls (o p : Ob) (v4 v27 u4 u27 : Value) (w : World) :
    Calls Tryd.prog 75 #[.agg (o.cells v4 v27), .agg (p.cells u4 u27)] w fun e w' => e = .returned (.bool (bareB o p)) ∧ Below w.heap.size w w' := by
  obtain ⟨cs, hcs⟩ : ∃ cs, cs = o.cells v4 v27 := ⟨_, rfl⟩
  obtain ⟨ds, hds⟩ : ∃ ds, ds = p.cells u4 u27 := ⟨_, rfl⟩
  rw [← hcs, ← hds]
  have Hcs := Lib.hid hcs
  have Hds := Lib.hid hds
  clear hcs hds
  have HM := Lib.hid (Eq.refl 0)
  obtain ⟨rb, hrb⟩ : ∃ rb, rb = bareB o p := ⟨_, rfl⟩
  rw [← hrb]
  have HR := Lib.hid hrb
  clear hrb
  go_enter Tryd.func75, Tryd.ntmps75
  simp only [List.append_eq, List.cons_append, List.nil_append]
  go_wp2_with (first
    | ((with_reducible refine gate_ (.fieldAddr 48 (.tmp 2) 0) rfl ?_); clear HM; (have HW : Hid (Below w.heap.size w ((w.alloc (Obj.cells cs 48)).alloc (Obj.cells ds 48))) := Lib.hid (Go.Joins.below_alloc2 w _ _)); (have B1 : ((w.alloc (Obj.cells cs 48)).alloc (Obj.cells ds 48)).heap[w.heap.size]? = some (.cells cs 48 (0, 0)) := (heap_alloc_old _ _ (by simp)).trans (heap_alloc_new w _)); (have B2 : ((w.alloc (Obj.cells cs 48)).alloc (Obj.cells ds 48)).heap[w.heap.size + 1]? = some (.cells ds 48 (0, 0)) := heap_alloc2_new w _ _); (generalize ((w.alloc (Obj.cells cs 48)).alloc (Obj.cells ds 48)) = W0 at HW B1 B2 ⊢); obtain ⟨ga, hga⟩ : ∃ x, x = w.heap.size := ⟨_, rfl⟩; obtain ⟨gb, hgb⟩ : ∃ x, x = w.heap.size + 1 := ⟨_, rfl⟩; rw [← hgb] at B2 ⊢; rw [← hga] at B1 ⊢; clear hga hgb; rw [Hcs.out] at B1; rw [Hds.out] at B2; have HC1 : Hid (∀ j u, (o.cells v4 v27)[j]? = some u → W0.cell? ⟨ga, j, none⟩ = some u) := Lib.hid (fun j u hu => (cell_of_row _ _ j _ _ _ B1).trans hu); have HC2 : Hid (∀ j u, (p.cells u4 u27)[j]? = some u → W0.cell? ⟨gb, j, none⟩ = some u) := Lib.hid (fun j u hu => (cell_of_row _ _ j _ _ _ B2).trans hu); clear B1 B2)
    | ((with_reducible refine wpList_load_any_w ?lg 45 _ rfl ⟨ga, 5, none⟩ ?lx #[.int .i64 o.roomC, .int .i64 o.roomM] _ ?lc Tryd.underlying45 ?ld ?li ?_); (case lg => rfl); (case lx => rfl); (case lc => exact amt_cells HC1.out 5 rfl rfl); (case ld => rfl); (case li => kernel_rfl))
    | ((with_reducible refine wpList_load_any_w ?lg 45 _ rfl ⟨gb, 5, none⟩ ?lx #[.int .i64 p.roomC, .int .i64 p.roomM] _ ?lc Tryd.underlying45 ?ld ?li ?_); (case lg => rfl); (case lx => rfl); (case lc => exact amt_cells HC2.out 5 rfl rfl); (case ld => rfl); (case li => kernel_rfl))
    | ((with_reducible refine wpList_load_any_w ?lg 45 _ rfl ⟨ga, 17, none⟩ ?lx #[.int .i64 o.needC, .int .i64 o.needM] _ ?lc Tryd.underlying45 ?ld ?li ?_); (case lg => rfl); (case lx => rfl); (case lc => exact amt_cells HC1.out 17 rfl rfl); (case ld => rfl); (case li => kernel_rfl))
    | ((with_reducible refine wpList_load_any_w ?lg 45 _ rfl ⟨gb, 17, none⟩ ?lx #[.int .i64 p.needC, .int .i64 p.needM] _ ?lc Tryd.underlying45 ?ld ?li ?_); (case lg => rfl); (case lx => rfl); (case lc => exact amt_cells HC2.out 17 rfl rfl); (case ld => rfl); (case li => kernel_rfl))
    | ((with_reducible refine gate_ (.load 3 _) rfl ?_); first | refine wpList_load1_w 3 _ rfl _ rfl rfl _ _ (HC1.out _ _ rfl) Tryd.underlying3 rfl ?_ | refine wpList_load1_w 3 _ rfl _ rfl rfl _ _ (HC2.out _ _ rfl) Tryd.underlying3 rfl ?_)
    | ((with_reducible refine gate_ (.load 9 _) rfl ?_); first | refine wpList_load1_w 9 _ rfl _ rfl rfl _ _ (HC1.out _ _ rfl) Tryd.underlying9 rfl ?_ | refine wpList_load1_w 9 _ rfl _ rfl rfl _ _ (HC2.out _ _ rfl) Tryd.underlying9 rfl ?_)
    | ((with_reducible refine gate_ (.load 4 _) rfl ?_); first | refine wpList_load1_w 4 _ rfl _ rfl rfl _ _ (HC1.out _ _ rfl) Tryd.underlying4 rfl ?_ | refine wpList_load1_w 4 _ rfl _ rfl rfl _ _ (HC2.out _ _ rfl) Tryd.underlying4 rfl ?_)
    | ((with_reducible refine gate_ (.load 46 _) rfl ?_); first | refine wpList_load1_w 46 _ rfl _ rfl rfl _ _ (HC1.out _ _ rfl) Tryd.underlying46 rfl ?_ | refine wpList_load1_w 46 _ rfl _ rfl rfl _ _ (HC2.out _ _ rfl) Tryd.underlying46 rfl ?_))
  all_goals go_ret
  all_goals (refine ⟨?_, HW.out⟩; clear HC1 HC2 HW; rw [HR.out]; clear HR Hcs Hds; unfold bareB; first | (simp_all; done) | (simp_all; rw [Bool.eq_iff_iff]; simp))
end Go.Proofs.YtoepbjgldmgaoaaDoor

/- SameObject: are two objects the same, their lists too? -/
namespace Go.Proofs.YtoepbjgldmgaoaaDoor
open Go.RowKit Go.Proofs.YtoepbjgldmgaoaaDoorW.PrintWords Go.Proofs.YtoepbjgldmgaoaaDoorW.PrintLast
theorem tl_inj (s t : ByteArray) : s.toList = t.toList ↔ s = t := by
  rw [Go.Lib.toList_data, Go.Lib.toList_data]
  exact ⟨fun h => ByteArray.ext (Array.toList_inj.mp h), fun h => by rw [h]⟩
instance labDec : DecidableEq Lab := fun x y => decidable_of_iff (x.f0 = y.f0 ∧ x.f1 = y.f1) ⟨fun h => by cases x; cases y; simp_all, fun h => by rw [h]; exact ⟨rfl, rfl⟩⟩
def sameB (o p : Ob) : Bool := bareB o p && (decide (o.labels = p.labels) && decide (o.select = p.select))
theorem sameB_iff (o p : Ob) : sameB o p = true ↔ o = p := by
  constructor
  · intro h
    simp only [sameB, bareB, tl_inj, Bool.and_eq_true, decide_eq_true_eq] at h
    obtain ⟨⟨a1, a2, a3, a4, a5, a6, a7, a8, a9, a10, a11, a12, a13, a14, a15, a16, a17, a18, a19, a20, a21, a22, a23, a24, a25, a26, a27, a28, a29, a30⟩, b1, b2⟩ := h
    cases o
    cases p
    simp only at a1 a2 a3 a4 a5 a6 a7 a8 a9 a10 a11 a12 a13 a14 a15 a16 a17 a18 a19 a20 a21 a22 a23 a24 a25 a26 a27 a28 a29 a30 b1 b2
    subst_vars
    rfl
  · rintro rfl
    simp [sameB, bareB]
theorem sameLabels_l (l m : List Lab) (hl : l.length = m.length) (hb : l.length ≤ 9223372036854775807) : ∀ (d i k : Nat), l.length - i ≤ d → d < k → i ≤ l.length → QLb.flotillaref0_SameLabels.l0 k l m (i : Int) = some (decide (l.drop i = m.drop i)) := by
  intro d
  induction d with
  | zero =>
    intro i k h1 h2 h3
    obtain ⟨k, rfl⟩ : ∃ m, k = m + 1 := ⟨k - 1, by omega⟩
    simp only [QLb.flotillaref0_SameLabels.l0]
    rw [if_neg (by omega), List.drop_eq_nil_of_le (by omega), List.drop_eq_nil_of_le (by omega)]
    simp
  | succ d ih =>
    intro i k h1 h2 h3
    obtain ⟨k, rfl⟩ : ∃ m, k = m + 1 := ⟨k - 1, by omega⟩
    by_cases hi : i < l.length
    · have hm : i < m.length := by omega
      simp only [QLb.flotillaref0_SameLabels.l0]
      rw [if_pos (by omega), if_pos (by omega), if_pos (by omega)]
      have e1 : QLb.rd_T98 l (i : Int) = l[i] := by simp [QLb.rd_T98, List.getD_eq_getElem?_getD, hi]
      have e2 : QLb.rd_T98 m (i : Int) = m[i] := by simp [QLb.rd_T98, List.getD_eq_getElem?_getD, hm]
      rw [e1, e2, List.drop_eq_getElem_cons hi, List.drop_eq_getElem_cons hm]
      have ew : wrap64 ((i : Int) + 1) = ((i + 1 : Nat) : Int) := by unfold wrap64; omega
      rw [ew, ih (i + 1) k (by omega) (by omega) (by omega)]
      by_cases he : l[i] = m[i]
      · rw [if_neg (by simp [he])]
        simp only [List.cons.injEq, he, true_and]
      · rw [if_pos (by
          by_cases h0 : l[i].f0 = m[i].f0
          · have h1 : ¬ l[i].f1 = m[i].f1 := fun h1 => he (by
              cases hx : l[i]; cases hy : m[i]; simp_all)
            simp [tl_inj, h0, h1]
          · simp [tl_inj, h0])]
        simp only [List.cons.injEq, he, false_and, decide_false]
    · simp only [QLb.flotillaref0_SameLabels.l0]
      rw [if_neg (by omega), List.drop_eq_nil_of_le (by omega), List.drop_eq_nil_of_le (by omega)]
      simp
theorem sameLabels_f (l m : List Lab) (hb : l.length ≤ 9223372036854775807) : QLb.flotillaref0_SameLabels.f (l.length + 1) l m = some (decide (l = m)) := by
  unfold QLb.flotillaref0_SameLabels.f
  by_cases h : l.length = m.length
  · rw [if_pos (by omega)]
    have := sameLabels_l l m h hb l.length 0 (l.length + 1) (by omega) (by omega) (by omega)
    simpa using this
  · rw [if_neg (by omega)]
    have : ¬ l = m := fun e => h (by rw [e])
    simp [this]
theorem sameLabels_calls {w : World} {l m : List Lab} {v u : Value} (h : LabK w l v) (g : LabK w m u) : Calls Tryd.prog 76 #[v, u] w fun e w' => e = .returned (.bool (decide (l = m))) ∧ Below w.heap.size w w' := by
  obtain ⟨A, c, rfl, hl, hr⟩ := h
  obtain ⟨B, d, rfl, hm, hs⟩ := g
  exact (QLb.flotillaref0_SameLabels.calls _ A c l B d m _ w hr hl hs hm (sameLabels_f l m (Kd.C_max hr))).mono fun e w' ⟨h1, h2⟩ => ⟨h1, h2.below⟩
set_option maxRecDepth 100000 in
set_option maxHeartbeats 1000000 in
theorem sameObject_calls (o p : Ob) (v4 v27 u4 u27 : Value) (w : World) (l4 : LabK w o.labels v4) (l27 : LabK w o.select v27) (m4 : LabK w p.labels u4) (m27 : LabK w p.select u27) :
    Calls Tryd.prog 32 #[.agg (o.cells v4 v27), .agg (p.cells u4 u27)] w fun e w' => e = .returned (.bool (sameB o p)) ∧ Below w.heap.size w w' := by
  obtain ⟨cs, hcs⟩ : ∃ cs, cs = o.cells v4 v27 := ⟨_, rfl⟩
  obtain ⟨ds, hds⟩ : ∃ ds, ds = p.cells u4 u27 := ⟨_, rfl⟩
  have QB := Lib.hid (fun W => bare_calls o p v4 v27 u4 u27 W)
  rw [← hcs, ← hds] at QB ⊢
  obtain ⟨b1, hb1⟩ : ∃ b, b = bareB o p := ⟨_, rfl⟩
  obtain ⟨b2, hb2⟩ : ∃ b, b = decide (o.labels = p.labels) := ⟨_, rfl⟩
  obtain ⟨b3, hb3⟩ : ∃ b, b = decide (o.select = p.select) := ⟨_, rfl⟩
  have QL4 := Lib.hid (fun (W : World) (hW : Below w.heap.size w W) => sameLabels_calls (l4.below hW) (m4.below hW))
  have QL27 := Lib.hid (fun (W : World) (hW : Below w.heap.size w W) => sameLabels_calls (l27.below hW) (m27.below hW))
  have es : sameB o p = (b1 && (b2 && b3)) := by rw [hb1, hb2, hb3]; rfl
  rw [← hb1] at QB
  rw [← hb2] at QL4
  rw [← hb3] at QL27
  rw [es]
  have Hcs := Lib.hid hcs
  have Hds := Lib.hid hds
  have hi1 : Hid ((Tryd.prog.info? 48).map (·.size) = some cs.size) := Lib.hid (by rw [hcs, Ob.cells_size]; kernel_rfl)
  have hi2 : Hid ((Tryd.prog.info? 48).map (·.size) = some ds.size) := Lib.hid (by rw [hds, Ob.cells_size]; kernel_rfl)
  clear hcs hds hb1 hb2 hb3 es l4 l27 m4 m27
  have HM := Lib.hid (Eq.refl 0)
  go_enter Tryd.func32, Tryd.ntmps32
  go_wp2_with (first
    | ((with_reducible refine gate_ (.load 48 (.tmp 2)) rfl ?_); clear HM; (have HW : Below w.heap.size w ((w.alloc (Obj.cells cs 48)).alloc (Obj.cells ds 48)) := (Go.Joins.below_alloc2 w _ _)); (have B1 : ((w.alloc (Obj.cells cs 48)).alloc (Obj.cells ds 48)).heap[w.heap.size]? = some (.cells cs 48 (0, 0)) := (heap_alloc_old _ _ (by simp)).trans (heap_alloc_new w _)); (have B2 : ((w.alloc (Obj.cells cs 48)).alloc (Obj.cells ds 48)).heap[w.heap.size + 1]? = some (.cells ds 48 (0, 0)) := heap_alloc2_new w _ _); (generalize ((w.alloc (Obj.cells cs 48)).alloc (Obj.cells ds 48)) = W0 at HW B1 B2 ⊢); obtain ⟨ga, hga⟩ : ∃ x, x = w.heap.size := ⟨_, rfl⟩; obtain ⟨gb, hgb⟩ : ∃ x, x = w.heap.size + 1 := ⟨_, rfl⟩; rw [← hgb] at B2 ⊢; rw [← hga] at B1 ⊢; clear hga hgb)
    | ((with_reducible refine wpList_load_blk_w 48 (.tmp 2) rfl ga 48 ?l0 ?l1 cs _ ?l2 Tryd.underlying48 ?l3 ?l4 ?_); (case l0 => rfl); (case l1 => rfl); (case l2 => exact B1); (case l3 => rfl); (case l4 => exact hi1.out))
    | ((with_reducible refine wpList_load_blk_w 48 (.tmp 3) rfl gb 48 ?l0 ?l1 ds _ ?l2 Tryd.underlying48 ?l3 ?l4 ?_); (case l0 => rfl); (case l1 => rfl); (case l2 => exact B2); (case l3 => rfl); (case l4 => exact hi2.out))
    | ((with_reducible refine gate_ (.load 43 _) rfl ?_); first | refine wpList_load1_w 43 _ rfl ⟨ga, 4, none⟩ rfl rfl v4 _ (((cell_of_row _ _ 4 _ _ _ B1).trans (by rw [Hcs.out]; rfl))) Tryd.underlying43 rfl ?_ | refine wpList_load1_w 43 _ rfl ⟨ga, 27, none⟩ rfl rfl v27 _ (((cell_of_row _ _ 27 _ _ _ B1).trans (by rw [Hcs.out]; rfl))) Tryd.underlying43 rfl ?_ | refine wpList_load1_w 43 _ rfl ⟨gb, 4, none⟩ rfl rfl u4 _ (((cell_of_row _ _ 4 _ _ _ B2).trans (by rw [Hds.out]; rfl))) Tryd.underlying43 rfl ?_ | refine wpList_load1_w 43 _ rfl ⟨gb, 27, none⟩ rfl rfl u27 _ (((cell_of_row _ _ 27 _ _ _ B2).trans (by rw [Hds.out]; rfl))) Tryd.underlying43 rfl ?_)
    | (go_at_call 75; (with_reducible refine (QB.out _).mono ?_); rintro e w1 ⟨rfl, hb⟩; replace B1 := blkB hb B1; replace B2 := blkB hb B2; replace HW := belT HW hb; clear hb)
    | (go_at_call 76; (with_reducible first | refine (QL4.out _ HW).mono ?_ | refine (QL27.out _ HW).mono ?_); rintro e w1 ⟨rfl, hb⟩; replace B1 := blkB hb B1; replace B2 := blkB hb B2; replace HW := belT HW hb; clear hb))
  all_goals go_ret
  all_goals (refine ⟨?_, HW⟩; simp_all)
end Go.Proofs.YtoepbjgldmgaoaaDoor

/- Labels that are lent: a list of its own with 16 marks behind it; looked at again. -/
namespace Go.Proofs.YtoepbjgldmgaoaaDoor
open Go.RowKit Go.Proofs.YtoepbjgldmgaoaaDoorW.PrintWords Go.Proofs.YtoepbjgldmgaoaaDoorW.PrintLast
def markL (j : Int) : Lab := ⟨strOfNums ([35, (90 : Int) % 256, (90 : Int) / 256 % 256, j % 256, j / 256 % 256] : List Int), (⟨#[]⟩ : ByteArray)⟩
def marksN (n : Nat) : List Lab := (List.range n).map fun (j : Nat) => markL (j : Int)
abbrev marksL : List Lab := marksN 16
theorem marksN_length (n : Nat) : (marksN n).length = n := by simp [marksN]
theorem marksN_succ (n : Nat) : marksN (n + 1) = marksN n ++ [markL (n : Int)] := by simp [marksN, List.range_succ]
theorem marksN_at (n j : Nat) (h : j < n) : (marksN n)[j]? = some (markL (j : Int)) := by simp [marksN, h]
theorem mark_f (j : Int) : QLb.flotillakit_markLabels.f 90 j = some ((markL j).f0, (markL j).f1) := rfl
theorem full1 (l : List Lab) (hl : l.length ≤ 4398046510976) : ∀ (d j k : Nat), 16 - j ≤ d → d < k → j ≤ 16 → QLb.flotillakit_FullLabels.l1 k (l ++ marksN j) (j : Int) = some (l ++ marksL) := by
  intro d
  induction d with
  | zero =>
    intro j k h1 h2 h3
    obtain ⟨k, rfl⟩ : ∃ m, k = m + 1 := ⟨k - 1, by omega⟩
    obtain rfl : j = 16 := by omega
    simp only [QLb.flotillakit_FullLabels.l1]
    rw [if_neg (by omega)]
  | succ d ih =>
    intro j k h1 h2 h3
    obtain ⟨k, rfl⟩ : ∃ m, k = m + 1 := ⟨k - 1, by omega⟩
    by_cases hj : j < 16
    · simp only [QLb.flotillakit_FullLabels.l1]
      rw [if_pos (by omega), mark_f]
      simp only [Option.bind_some]
      rw [if_pos (by rw [List.length_append, marksN_length]; omega), List.append_assoc, ← marksN_succ, show wrap64 ((j : Int) + 1) = ((j + 1 : Nat) : Int) by unfold wrap64; omega]
      exact ih (j + 1) k (by omega) (by omega) (by omega)
    · obtain rfl : j = 16 := by omega
      simp only [QLb.flotillakit_FullLabels.l1]
      rw [if_neg (by omega)]
theorem full0 (l : List Lab) (hl : l.length ≤ 4398046510976) : ∀ (d i k : Nat), l.length - i ≤ d → d + 17 < k → i ≤ l.length → QLb.flotillakit_FullLabels.l0 k l (l.take i) (i : Int) = some (l ++ marksL) := by
  intro d
  induction d with
  | zero =>
    intro i k h1 h2 h3
    obtain ⟨k, rfl⟩ : ∃ m, k = m + 1 := ⟨k - 1, by omega⟩
    simp only [QLb.flotillakit_FullLabels.l0]
    rw [if_neg (by omega), List.take_of_length_le (by omega)]
    have := full1 l hl 16 0 k (by omega) (by omega) (by omega)
    simpa [marksN] using this
  | succ d ih =>
    intro i k h1 h2 h3
    obtain ⟨k, rfl⟩ : ∃ m, k = m + 1 := ⟨k - 1, by omega⟩
    by_cases hi : i < l.length
    · simp only [QLb.flotillakit_FullLabels.l0]
      rw [if_pos (by omega), if_pos (by omega), if_pos (by rw [List.length_take]; omega), show wrap64 ((i : Int) + 1) = ((i + 1 : Nat) : Int) by unfold wrap64; omega]
      have e1 : QLb.rd_T98 l (i : Int) = l[i] := by simp [QLb.rd_T98, List.getD_eq_getElem?_getD, hi]
      have e2 : l.take i ++ [(⟨(QLb.rd_T98 l (i : Int)).f0, (QLb.rd_T98 l (i : Int)).f1⟩ : Lab)] = l.take (i + 1) := by
        rw [e1, List.take_succ_eq_append_getElem hi]
      rw [e2]
      exact ih (i + 1) k (by omega) (by omega) (by omega)
    · simp only [QLb.flotillakit_FullLabels.l0]
      rw [if_neg (by omega), List.take_of_length_le (by omega)]
      have := full1 l hl 16 0 k (by omega) (by omega) (by omega)
      simpa [marksN] using this
theorem full_f (l : List Lab) (hl : l.length ≤ 4398046510976) : QLb.flotillakit_FullLabels.f (l.length + 18) l = some (l ++ marksL) := by
  have := full0 l hl l.length 0 (l.length + 18) (by omega) (by omega) (by omega)
  simpa [QLb.flotillakit_FullLabels.f] using this
def LentK (w : World) (l : List Lab) (v : Value) : Prop := ∃ A c, v = .slice (some A) l.length c ∧ l.length + 16 ≤ c ∧ kL.C w (some A) (l.length + 16) (l ++ marksL)
theorem LentK.below {w w1 : World} {l : List Lab} {v : Value} (h : LentK w l v) (hb : Below w.heap.size w w1) : LentK w1 l v := by
  obtain ⟨A, c, rfl, hl, hr⟩ := h
  exact ⟨A, c, rfl, hl, Kd.C_below hr hb⟩
theorem LentK.lab {w : World} {l : List Lab} {v : Value} (h : LentK w l v) : LabK w l v := by
  obtain ⟨A, c, rfl, hl, hr⟩ := h
  have hlen : (l ++ marksL).length = l.length + 16 := by rw [List.length_append, marksN_length]
  rw [← hlen] at hr
  have := Kd.C_take hr (m := l.length) (by omega)
  rw [List.take_left] at this
  exact ⟨some A, c, rfl, by omega, this⟩
def LentR (w : World) (base : Nat) (ok : Nat → Prop) (l : List Lab) (v : Value) : Prop := ∃ A c, v = .slice (some A) l.length c ∧ l.length + 16 ≤ c ∧ kL.R 98 w base ok (.slice (some A) (l.length + 16) c) (l ++ marksL)
theorem LentR.lent {w : World} {base : Nat} {ok : Nat → Prop} {l : List Lab} {v : Value} (h : LentR w base ok l v) : LentK w l v := by
  obtain ⟨A, c, rfl, hl, hr⟩ := h
  have hlen : (l ++ marksL).length = l.length + 16 := by rw [List.length_append, marksN_length]
  have := (Kd.R_reads' hr).2.2
  rw [hlen] at this
  exact ⟨A, c, rfl, hl, this⟩
theorem LentR.mono {w : World} {base : Nat} {ok ok' : Nat → Prop} {l : List Lab} {v : Value} (h : LentR w base ok l v) (hok : ∀ k, ok k → ok' k) : LentR w base ok' l v := by
  obtain ⟨A, c, rfl, hl, hr⟩ := h
  exact ⟨A, c, rfl, hl, Kd.R_mono hr hok⟩
theorem LentR.move {w w1 : World} {base : Nat} {ok : Nat → Prop} {l : List Lab} {v : Value} (h : LentR w base ok l v) (hm : ∀ k, ok k → w1.heap[k]? = w.heap[k]?) : LentR w1 base ok l v := by
  obtain ⟨A, c, rfl, hl, hr⟩ := h
  exact ⟨A, c, rfl, hl, Kd.R_move hr hm⟩
theorem LentR.lower {w : World} {base base' : Nat} {ok : Nat → Prop} {l : List Lab} {v : Value} (h : LentR w base ok l v) (hb : base' ≤ base) : LentR w base' ok l v := by
  obtain ⟨A, c, rfl, hl, hr⟩ := h
  exact ⟨A, c, rfl, hl, Kd.R_lower hr hb⟩
theorem LentR.bound {w : World} {base : Nat} {ok : Nat → Prop} {l : List Lab} {v : Value} (h : LentR w base ok l v) : LentR w base (fun k => ok k ∧ base ≤ k ∧ k < w.heap.size ∧ ∃ q, q ∈ 98 :: kL.E ∧ ∃ cells, w.heap[k]? = some (.cells cells q (0, 0))) l v := by
  obtain ⟨A, c, rfl, hl, hr⟩ := h
  exact ⟨A, c, rfl, hl, Kd.R_bound hr⟩
theorem LentR.own {w : World} {base : Nat} {ok : Nat → Prop} {l : List Lab} {v : Value} (h : LentR w base ok l v) : ∃ g, v.ownBlock = some g ∧ base ≤ g ∧ g < w.heap.size := by
  obtain ⟨A, c, rfl, hl, hr⟩ := h
  refine ⟨A.block, rfl, Kd.R_base hr A.block rfl, Kd.R_lt hr A.block rfl⟩
theorem LentR.tight {w : World} {base : Nat} {ok : Nat → Prop} {l : List Lab} {v : Value} (h : LentR w base ok l v) : LentR w base (fun k => some k = v.ownBlock) l v := by
  obtain ⟨A, c, rfl, hl, hr⟩ := h
  exact ⟨A, c, rfl, hl, Kd.R_tight rfl hr⟩
theorem LentR.cells {w : World} {base : Nat} {ok : Nat → Prop} {l : List Lab} {v : Value} (h : LentR w base ok l v) : v.cells = #[v] ∧ v.oneCell' = true := by
  obtain ⟨A, c, rfl, hl, hr⟩ := h
  exact ⟨rfl, rfl⟩
theorem lentLabels_calls {w : World} {l : List Lab} {v : Value} (h : LabK w l v) (hl : l.length ≤ 4398046510976) :
    Calls Tryd.prog 81 #[v] w fun e w' => ∃ v', e = .returned v' ∧ LentR w' w.heap.size (fun _ => True) l v' ∧ Below w.heap.size w w' := by
  obtain ⟨A, c, rfl, hc, hr⟩ := h
  have hlen : (l ++ marksL).length = l.length + 16 := by rw [List.length_append, marksN_length]
  have CF : Calls Tryd.prog 104 #[.slice A l.length c] w fun e w' => ∃ b c', e = .returned (.slice (some b) (l.length + 16) c') ∧ l.length + 16 ≤ c' ∧ Hid (kL.R 98 w' w.heap.size (fun _ => True) (.slice (some b) (l.length + 16) c') (l ++ marksL)) ∧ Below w.heap.size w w' :=
    (QLb.flotillakit_FullLabels.calls _ A c l _ w hr hc (full_f l hl)).mono fun e w' ⟨v0, he, hR, hb⟩ => by
      obtain ⟨A', c', hv, hc', hC⟩ := Kd.R_reads hR
      obtain ⟨ad, rfl, _⟩ := hC.2.2 (by rw [hlen]; omega)
      subst hv
      rw [hlen] at he hc' hR
      exact ⟨ad, c', he, hc', Lib.hid hR, hb⟩
  replace CF := Lib.hid CF
  have hn0 : (0 : Int) ≤ (l.length : Int) := by omega
  clear hr hlen
  go_enter Tryd.func81, Tryd.ntmps81
  go_wp2_with (go_at_call 104; refine CF.out.mono ?_; rintro e w1 ⟨b, c', rfl, hc', hR, hb⟩; have hc2 : (l.length : Int) ≤ (c' : Int) := by omega)
  go_ret
  exact ⟨_, rfl, ⟨b, c', rfl, hc', hR.out⟩, hb⟩
theorem eqLab (d : Nat) (w : World) (x0 x1 y0 y1 : ByteArray) :
    (Op.equalIn (d + 2) 98 (.agg #[.string x0, .string x1]) (.agg #[.string y0, .string y1])).run Tryd.prog w = .ok (x0.toList == y0.toList && x1.toList == y1.toList) w := QLb.eqA98 d w x0 y0 x1 y1
end Go.Proofs.YtoepbjgldmgaoaaDoor

/- Objects that are lent: their lists in memory of their own, marks behind them. -/
namespace Go.Proofs.YtoepbjgldmgaoaaDoor
open Go.RowKit Go.Proofs.YtoepbjgldmgaoaaDoorW.PrintWords Go.Proofs.YtoepbjgldmgaoaaDoorW.PrintLast
def kLent : Kd Ob where
  sz := 32
  E := [98]
  K := fun w o cs => ∃ v4 v27, cs = (o.cells v4 v27).toList ∧ LentK w o.labels v4 ∧ LentK w o.select v27
  M := fun w base ok o cs => ∃ v4 v27, cs = (o.cells v4 v27).toList ∧ LentR w base (fun k => ok k ∧ some k ≠ v27.ownBlock) o.labels v4 ∧ LentR w base (fun k => ok k ∧ some k ≠ v4.ownBlock) o.select v27
  K_len := by
    rintro w x cs ⟨v4, v27, rfl, _⟩
    rfl
  K_one := by
    rintro w x cs ⟨v4, v27, rfl, h4, h27⟩ u hu
    exact (Array.all_eq_true_iff_forall_mem.1 (x.cells_one h4.lab.one h27.lab.one)) u (by simpa using hu)
  K_below := by
    rintro w w1 x cs hb ⟨v4, v27, rfl, h4, h27⟩
    exact ⟨v4, v27, rfl, h4.below hb, h27.below hb⟩
  K_of_M := by
    rintro w base ok x cs ⟨v4, v27, rfl, h4, h27⟩
    exact ⟨v4, v27, rfl, h4.lent, h27.lent⟩
  M_mono := by
    rintro w base ok ok' x cs hok ⟨v4, v27, rfl, h4, h27⟩
    exact ⟨v4, v27, rfl, h4.mono (fun k hk => ⟨hok k hk.1, hk.2⟩), h27.mono (fun k hk => ⟨hok k hk.1, hk.2⟩)⟩
  M_bound := by
    rintro w base ok x cs ⟨v4, v27, rfl, h4, h27⟩
    exact ⟨v4, v27, rfl, h4.bound.mono (fun k hk => ⟨⟨hk.1.1, hk.2⟩, hk.1.2⟩), h27.bound.mono (fun k hk => ⟨⟨hk.1.1, hk.2⟩, hk.1.2⟩)⟩
  M_move := by
    rintro w w1 base ok x cs hm ⟨v4, v27, rfl, h4, h27⟩
    exact ⟨v4, v27, rfl, h4.move (fun k hk => hm k hk.1), h27.move (fun k hk => hm k hk.1)⟩
  M_lower := by
    rintro w base base' ok x cs hb ⟨v4, v27, rfl, h4, h27⟩
    exact ⟨v4, v27, rfl, h4.lower hb, h27.lower hb⟩
theorem kLent_K {w : World} {o : Ob} {cs : List Value} (h : kLent.K w o cs) : kO.K w o cs := by
  obtain ⟨v4, v27, rfl, h4, h27⟩ := h
  exact ⟨v4, v27, rfl, h4.lab, h27.lab⟩
theorem kLent_C {w : World} {A : Option Addr} {n : Nat} {l : List Ob} (h : kLent.C w A n l) : kO.C w A n l := Kd.C_imp (d := kLent) (d' := kO) rfl (fun _ _ _ => kLent_K) h
theorem cells_set4 (o : Ob) (v4 v27 u4 : Value) : (o.cells v4 v27).setIfInBounds 4 u4 = o.cells u4 v27 := rfl
theorem cells_set27 (o : Ob) (v4 v27 u27 : Value) : (o.cells v4 v27).setIfInBounds 27 u27 = o.cells v4 u27 := rfl
set_option maxRecDepth 100000 in
set_option maxHeartbeats 2000000 in
theorem lentObject_calls (o : Ob) (v4 v27 : Value) (w : World) (h4 : LabK w o.labels v4) (h27 : LabK w o.select v27) (hf : ObFits o) :
    Calls Tryd.prog 41 #[.agg (o.cells v4 v27)] w fun e w' => ∃ u4 u27, e = .returned (.agg (o.cells u4 u27)) ∧ LentR w' w.heap.size (fun k => some k ≠ u27.ownBlock) o.labels u4 ∧ LentR w' w.heap.size (fun k => some k ≠ u4.ownBlock) o.select u27 ∧ Below w.heap.size w w' := by
  obtain ⟨cs, hcs⟩ : ∃ cs, cs = o.cells v4 v27 := ⟨_, rfl⟩
  have Q4 := Lib.hid (fun (W : World) (hW : Below w.heap.size w W) => lentLabels_calls (h4.below hW) hf.2.1)
  have Q27 := Lib.hid (fun (W : World) (hW : Below w.heap.size w W) => lentLabels_calls (h27.below hW) hf.2.2)
  have h1c := o.cells_one (v4 := v4) (v27 := v27) h4.one h27.one
  rw [← hcs] at h1c ⊢
  have hs : cs.size = 32 := by rw [hcs]; rfl
  have hi1 : Hid ((Tryd.prog.info? 48).map (·.size) = some cs.size) := Lib.hid (by rw [hs]; kernel_rfl)
  have Hcs := Lib.hid (And.intro hcs (And.intro h1c hs))
  have c4 : Hid (cs[4]? = some v4) := Lib.hid (by rw [hcs]; rfl)
  have c27 : Hid (cs[27]? = some v27) := Lib.hid (by rw [hcs]; rfl)
  clear hcs h1c hs h4 h27 hf
  have HM := Lib.hid (Eq.refl 0)
  go_enter Tryd.func41, Tryd.ntmps41
  obtain ⟨zz, hzz⟩ : ∃ zz, zz = Ob.zero.cells (.slice none 0 0) (.slice none 0 0) := ⟨_, rfl⟩
  have Hzz : Hid (zz.size = 32) := Lib.hid (by rw [hzz]; rfl)
  replace hzz := Lib.hid hzz
  go_wp2_with (first
    | ((with_reducible refine gate_ (.load 48 (.tmp 1)) rfl ?_); clear HM; (have HB : Below w.heap.size w ((w.alloc (Obj.cells cs 48)).alloc (Obj.cells zz 48)) := Go.Joins.below_alloc2 w _ _); (have BA : ((w.alloc (Obj.cells cs 48)).alloc (Obj.cells zz 48)).heap[w.heap.size]? = some (.cells cs 48 (0, 0)) := (heap_alloc_old _ _ (by simp)).trans (heap_alloc_new w _)); (have BC : ((w.alloc (Obj.cells cs 48)).alloc (Obj.cells zz 48)).heap[w.heap.size + 1]? = some (.cells zz 48 (0, 0)) := heap_alloc2_new w _ _); (have hW0 : ((w.alloc (Obj.cells cs 48)).alloc (Obj.cells zz 48)) = ((w.alloc (Obj.cells cs 48)).alloc (Obj.cells (Ob.zero.cells (.slice none 0 0) (.slice none 0 0)) 48)) := by rw [hzz.out]); generalize hW1 : ((w.alloc (Obj.cells cs 48)).alloc (Obj.cells zz 48)) = W0 at HB BA BC hW0; (refine Eq.mp (congrArg (fun x => wpList _ _ _ _ _ x) hW0) ?_); clear hW0 hW1; obtain ⟨ga, hga⟩ : ∃ x, x = w.heap.size := ⟨_, rfl⟩; obtain ⟨gc, hgc⟩ : ∃ x, x = w.heap.size + 1 := ⟨_, rfl⟩; rw [← hgc] at BC ⊢; rw [← hga] at BA ⊢; (have La : w.heap.size ≤ ga := by omega); (have Lc : w.heap.size ≤ gc := by omega); (have Nac : ga ≠ gc := by omega); clear hga hgc)
    | ((with_reducible refine wpList_load_blk rfl 48 (.tmp 1) rfl ga 48 ?l1 cs _ ?l2 Tryd.underlying48 ?l3 ?l4 ?_); (case l1 => rfl); (case l2 => exact BA); (case l3 => rfl); (case l4 => exact hi1.out))
    | ((with_reducible refine wpList_store_blk rfl 48 (.tmp 3) (.tmp 4) rfl W0.heap.size 48 ?c0 cs ?c1 ?c2 ?c3 ?c4 ?c5 ?c6 ?_); (case c1 => rfl); (case c2 => rfl); (case c3 => exact heap_alloc_new _ _); (case c4 => exact hi1.out); (case c5 => exact Eq.trans (b := 32) rfl Hcs.out.2.2.symm); (case c6 => exact Hcs.out.2.1); intro w1 BX hk hb hz; have Nax : ga ≠ W0.heap.size := (by have := blkLt BA; omega); have Ncx : gc ≠ W0.heap.size := (by have := blkLt BC; omega); replace BA := (hk _ Nax).trans ((heap_alloc_old _ _ (blkLt BA)).trans BA); replace BC := (hk _ Ncx).trans ((heap_alloc_old _ _ (blkLt BC)).trans BC); have Lx := HB.size; replace HB := hb _ _ (HB.alloc HB.size _) HB.size; clear hk hb hz; obtain ⟨gx, hgx⟩ : ∃ g, g = W0.heap.size := ⟨_, rfl⟩; rw [← hgx] at BX Nax Ncx Lx ⊢; clear hgx)
    | ((with_reducible refine gate_ (.load 43 _) rfl ?_); first | refine wpList_load1_w 43 _ rfl ⟨ga, 4, none⟩ rfl rfl v4 _ ((cell_of_row _ _ 4 _ _ _ BA).trans c4.out) Tryd.underlying43 rfl ?_ | refine wpList_load1_w 43 _ rfl ⟨ga, 27, none⟩ rfl rfl v27 _ ((cell_of_row _ _ 27 _ _ _ BA).trans c27.out) Tryd.underlying43 rfl ?_)
    | (go_at_call 81; (with_reducible refine (Q4.out _ HB).mono ?_); rintro e w2 ⟨u4, rfl, H4, hb⟩; obtain ⟨g4, hg4, hb4, hl4⟩ := H4.own; have Nx4 : gx ≠ g4 := (by have := blkLt BX; omega); have Nc4 : gc ≠ g4 := (by have := blkLt BC; omega); have L4 : w.heap.size ≤ g4 := (by have := HB.size; omega); have H4t := H4.lower HB.size; clear H4 hb4; replace BA := blkB hb BA; replace BC := blkB hb BC; replace BX := blkB hb BX; replace HB := belT HB hb; clear hb Q4)
    | (go_at_call 81; (with_reducible refine (Q27.out _ HB).mono ?_); rintro e w3 ⟨u27, rfl, H27, hb⟩; obtain ⟨g27, hg27, hb27, hl27⟩ := H27.own; have Nx27 : gx ≠ g27 := (by have := blkLt BX; omega); have Nc27 : gc ≠ g27 := (by have := blkLt BC; omega); have N4 : g4 ≠ g27 := (by omega); have H27t := H27.lower HB.size; clear H27 hb27; replace H4t := H4t.tight.move (fun k hk => hb.block k (by rw [hg4] at hk; injection hk with hk; omega)); replace BA := blkB hb BA; replace BC := blkB hb BC; replace BX := blkB hb BX; replace HB := belT HB hb; clear hb Q27)
    | ((with_reducible refine wpList_store1 rfl 43 (.tmp 8) (.tmp 7) rfl gx 4 48 cs u4 ?s1 ?s2 ?s3 ?s4 ?s5 ?s6 ?s7 ?_); (case s1 => rfl); (case s2 => rfl); (case s3 => exact H4t.cells.1); (case s4 => exact BX); (case s5 => (rw [Hcs.out.2.2]; omega)); (case s6 => kernel_rfl); (case s7 => exact H4t.cells.2); intro w4 BX' hk hb hz; rw [Hcs.out.1, cells_set4] at BX'; replace BX := BX'; replace BA := (hk _ Nax).trans BA; replace BC := (hk _ Ncx).trans BC; replace H4t := H4t.tight.move (fun k hk' => hk k (by rw [hg4] at hk'; injection hk' with hk'; omega)); replace HB := hb _ _ HB Lx; have hl4' : g4 < w4.heap.size := (by omega); clear hk hb hz BX' hl4)
    | ((with_reducible refine wpList_store1 rfl 43 (.tmp 12) (.tmp 11) rfl gx 27 48 (o.cells u4 v27) u27 ?s1 ?s2 ?s3 ?s4 ?s5 ?s6 ?s7 ?_); (case s1 => rfl); (case s2 => rfl); (case s3 => exact H27t.cells.1); (case s4 => exact BX); (case s5 => (rw [Ob.cells_size]; omega)); (case s6 => kernel_rfl); (case s7 => exact H27t.cells.2); intro w5 BX' hk hb hz; rw [cells_set27] at BX'; replace BX := BX'; replace BA := (hk _ Nax).trans BA; replace BC := (hk _ Ncx).trans BC; replace H4t := H4t.tight.move (fun k hk' => hk k (by rw [hg4] at hk'; injection hk' with hk'; omega)); replace H27t := H27t.tight.move (fun k hk' => hk k (by rw [hg27] at hk'; injection hk' with hk'; omega)); replace HB := hb _ _ HB Lx; clear hk hb hz BX')
    | ((with_reducible refine wpList_load_blk rfl 48 (.tmp 3) rfl gx 48 ?l1 (o.cells u4 u27) _ ?l2 Tryd.underlying48 ?l3 ?l4 ?_); (case l1 => rfl); (case l2 => exact BX); (case l3 => rfl); (case l4 => exact infoO1))
    | ((with_reducible refine wpList_store_blk rfl 48 (.tmp 2) (.tmp 13) rfl gc 48 zz (o.cells u4 u27) ?c1 ?c2 ?c3 ?c4 ?c5 ?c6 ?_); (case c1 => rfl); (case c2 => rfl); (case c3 => exact BC); (case c4 => exact infoO1); (case c5 => exact Hzz.out); (case c6 => exact o.cells_one H4t.cells.2 H27t.cells.2); intro w6 BC' hk hb hz; replace H4t := H4t.tight.move (fun k hk' => hk k (by rw [hg4] at hk'; injection hk' with hk'; omega)); replace H27t := H27t.tight.move (fun k hk' => hk k (by rw [hg27] at hk'; injection hk' with hk'; omega)); replace HB := hb _ _ HB Lc; clear hk hb hz))
  refine bodyPost_ret (v := .agg (o.cells u4 u27)) (results_cell_row (p := 2) (ty := 48) rfl _ _ gc 48 (o.cells u4 u27) (0, 0) _ (by rfl) BC' Tryd.underlying48 rfl infoO1) rfl ?_
  refine ⟨u4, u27, rfl, H4t.mono (fun k hk e => ?_), H27t.mono (fun k hk e => ?_), HB⟩
  · rw [hg27] at e
    rw [hg4] at hk
    injection e with e
    injection hk with hk
    omega
  · rw [hg4] at e
    rw [hg27] at hk
    injection e with e
    injection hk with hk
    omega
end Go.Proofs.YtoepbjgldmgaoaaDoor

/- The chapter's pods, and what each statement of chapter 24 asks first. -/
namespace Go.Proofs.YtoepbjgldmgaoaaDoor
open Go.RowKit Go.Proofs.YtoepbjgldmgaoaaDoorW.PrintWords Go.Proofs.YtoepbjgldmgaoaaDoorW.PrintLast
def Ob.c0 (o : Ob) : Array Value := o.cells (.slice none 0 0) (.slice none 0 0)
def oA : Ob := { Ob.zero with kind := 1, name := ⟨#[97]⟩, node := ⟨#[110]⟩, phase := 1, ready := true, born := 3 }
def oB1 : Ob := { oA with name := ⟨#[98]⟩ }
def oB : Ob := { oB1 with born := 5 }
def oC : Ob := { Ob.zero with kind := 1, name := ⟨#[99]⟩, node := ⟨#[110]⟩, born := 1 }
def oD : Ob := { Ob.zero with kind := 1, name := ⟨#[100]⟩, born := 1 }
def oE1 : Ob := { oB with name := ⟨#[101]⟩ }
def oE : Ob := { oE1 with ending := true }
attribute [local irreducible] Ob.c0
end Go.Proofs.YtoepbjgldmgaoaaDoor

/- What each statement of chapter 24 asks first: of the chapter's pods the one on no node ends first. -/
namespace Go.Proofs.YtoepbjgldmgaoaaDoor
open Go.RowKit Go.Proofs.YtoepbjgldmgaoaaDoorW.PrintWords Go.Proofs.YtoepbjgldmgaoaaDoorW.PrintLast
def fiveL : List Ob := [oA, oB, oC, oD, oE]
end Go.Proofs.YtoepbjgldmgaoaaDoor

/- SameObjects: are two lists of objects the same? has, bound (chapter 24). -/
namespace Go.Proofs.YtoepbjgldmgaoaaDoor
open Go.RowKit Go.Proofs.YtoepbjgldmgaoaaDoorW.PrintWords Go.Proofs.YtoepbjgldmgaoaaDoorW.PrintLast
instance obDec : DecidableEq Ob := fun o p => decidable_of_iff (sameB o p = true) (sameB_iff o p)
theorem sameB_dec (o p : Ob) : sameB o p = decide (o = p) := by
  rw [Bool.eq_iff_iff, sameB_iff, decide_eq_true_eq]
structure ObjAt (w : World) (ad : Addr) (k : Nat) (o : Ob) (v4 v27 : Value) : Prop where
  l4 : LabK w o.labels v4
  l27 : LabK w o.select v27
  cells : ∀ (j : Nat) (u : Value), (o.cells v4 v27)[j]? = some u → w.cell? ((ad.add (k * 32)).add j) = some u
theorem ObjAt.below {w w1 : World} {ad : Addr} {k : Nat} {o : Ob} {v4 v27 : Value} (h : ObjAt w ad k o v4 v27) (hb : Below w.heap.size w w1) : ObjAt w1 ad k o v4 v27 :=
  ⟨h.l4.below hb, h.l27.below hb, fun j u hu => cell_below hb (h.cells j u hu)⟩
theorem objAt {w : World} {A : Option Addr} {n : Nat} {l : List Ob} (h : kO.C w A n l) (k : Nat) (o : Ob) (hk : l[k]? = some o) : ∃ ad v4 v27, A = some ad ∧ ObjAt w ad k o v4 v27 := by
  obtain ⟨ad, v4, v27, e, h4, h27, hc⟩ := obj_at h k o hk
  exact ⟨ad, v4, v27, e, h4, h27, fun j u hu => by rw [add_add]; exact hc j u hu⟩
theorem take_same {l m : List Ob} {k : Nat} (h : l.take k = m.take k) {o p : Ob} (ho : l[k]? = some o) (hp : m[k]? = some p) : l.take (k + 1) = m.take (k + 1) ↔ o = p := by
  rw [List.take_add_one, List.take_add_one, h, ho, hp]
  simp
def rg15_6_T : Bool × List (List Nat × List Nat) := (true, [([], []), ([], []), ([0, 1], [0, 1]), ([2], [2]), ([], []), ([], []), ([4, 5], [4, 5]), ([6], [6]), ([3, 7], [3, 7]), ([8], [8])])
def rg15_6_B : List Nat := [0, 0, 3, 7, 0, 0, 48, 112, 255, 511]
theorem rg15_6_tab : rtab .any (opsOf Tryd.f15 6) = rg15_6_T := by kernel_rfl
theorem rg15_6_bits : waitsOk rg15_6_T.2 rg15_6_B = true := by kernel_rfl
def rg24_4_T : Bool × List (List Nat × List Nat) := (true, [([], []), ([], []), ([0, 1], [0, 1]), ([2], [2]), ([], []), ([3, 4], [3, 4])])
def rg24_4_B : List Nat := [0, 0, 3, 7, 0, 31]
set_option maxHeartbeats 1600000 in
set_option maxRecDepth 100000 in
theorem sameObjects_eq (A B : Option Addr) (l m : List Ob) (c d n : Nat) (w : World) (hr : kO.C w A l.length l) (hs : kO.C w B m.length m) (hl : l.length = n) (hm : m.length = n) (hn : n ≤ 1000000) :
    Calls Tryd.prog 15 #[.slice A n c, .slice B n d] w fun e w' => e = .returned (.bool (decide (l = m))) ∧ Below w.heap.size w w' := by
  have HR := Lib.hid hr
  have HS := Lib.hid hs
  have HL := Lib.hid (And.intro hl hm)
  clear hr hs hl hm
  go_enter Tryd.func15, Tryd.ntmps15
  go_wp2
  go_loopw [5] (fun v5 wr => ∃ k : Nat, k ≤ n ∧ v5 = .int .i64 k ∧ Hid (l.take k = m.take k ∧ Below w.heap.size w wr)) (fun v5 _ => n - (intOf v5).toNat)
  case atStart => exact ⟨0, Nat.zero_le _, rfl, Lib.hid ⟨by simp, Below.refl _ _⟩⟩
  case round =>
    obtain ⟨k, hk, rfl, hI⟩ := hrel
    by_cases hlt : k < n
    · obtain ⟨o, ho⟩ : ∃ o, l[k]? = some o := ⟨_, List.getElem?_eq_getElem (by have := HL.out; omega)⟩
      obtain ⟨p, hp⟩ : ∃ p, m[k]? = some p := ⟨_, List.getElem?_eq_getElem (by have := HL.out; omega)⟩
      obtain ⟨ad, v4, v27, rfl, hO⟩ := objAt (Kd.C_below HR.out hI.out.2) k o ho
      obtain ⟨bd, u4, u27, rfl, hP⟩ := objAt (Kd.C_below HS.out hI.out.2) k p hp
      obtain ⟨cs, hcs⟩ : ∃ cs, cs = o.cells v4 v27 := ⟨_, rfl⟩
      obtain ⟨ds, hds⟩ : ∃ ds, ds = p.cells u4 u27 := ⟨_, rfl⟩
      have hi1 : Hid ((Tryd.prog.info? 48).map (·.size) = some cs.size) := Lib.hid (by rw [hcs, Ob.cells_size]; kernel_rfl)
      have hi2 : Hid ((Tryd.prog.info? 48).map (·.size) = some ds.size) := Lib.hid (by rw [hds, Ob.cells_size]; kernel_rfl)
      have B1 := hO.cells
      have B2 := hP.cells
      rw [← hcs] at B1
      rw [← hds] at B2
      obtain ⟨rb, hrb⟩ : ∃ rb, rb = sameB o p := ⟨_, rfl⟩
      have QS := Lib.hid (fun (W : World) (hW : Below wr.heap.size wr W) => sameObject_calls o p v4 v27 u4 u27 W (hO.l4.below hW) (hO.l27.below hW) (hP.l4.below hW) (hP.l27.below hW))
      rw [← hrb, ← hcs, ← hds] at QS
      have HT := Lib.hid (And.intro ho (And.intro hp hrb))
      replace B1 := Lib.hid (fun (W : World) (hW : Below wr.heap.size wr W) j u hu => cell_below hW (B1 j u hu))
      replace B2 := Lib.hid (fun (W : World) (hW : Below wr.heap.size wr W) j u hu => cell_below hW (B2 j u hu))
      clear ho hp hrb hcs hds hO hP
      have HB : Below wr.heap.size wr wr := Below.refl _ _
      replace HB := below_drew HB
      have hlk : (k : Int) < (n : Int) := by omega
      go_upto_region 6 with (fail)
      refine start_ (n := 10) (S := fun w' => Below wr.heap.size wr w') (ds := []) (bs 10 0) (by kernel_rfl) rfl (by kernel_rfl) HB (fun hHeld => ?_)
      refine with_tabW rg15_6_tab rg15_6_bits (fun HT_ HW_ => ?_)
      refine pu 0 (some 17) (bs 10 1) HT_ rfl rfl (by kernel_rfl) (fun _ _ _ _ h => h) ⟨_, .inl ⟨by rfl, fun _ => by go_simp; with_reducible rfl⟩, _, by simp only [Act.put, sA, sB, sC, i64_w, i32_w]; rfl, ?_⟩
      refine pu 1 (some 18) (bs 10 3) HT_ rfl rfl (by kernel_rfl) (fun _ _ _ _ h => h) ⟨_, .inl ⟨by rfl, fun _ => by go_simp; with_reducible rfl⟩, _, by simp only [Act.put, sA, sB, sC, i64_w, i32_w]; rfl, ?_⟩
      refine pu 2 (some 19) (bs 10 7) HT_ rfl rfl (by kernel_rfl) (fun _ _ _ _ h => h) ⟨_, .inl ⟨by rfl, fun _ => by go_simp; with_reducible rfl⟩, _, by simp only [Act.put, sA, sB, sC, i64_w, i32_w]; rfl, ?_⟩
      refine pu 4 (some 21) (bs 10 23) HT_ rfl rfl (by kernel_rfl) (fun _ _ _ _ h => h) ⟨_, .inl ⟨by rfl, fun _ => by go_simp; with_reducible rfl⟩, _, by simp only [Act.put, sA, sB, sC, i64_w, i32_w]; rfl, ?_⟩
      refine pu 5 (some 22) (bs 10 55) HT_ rfl rfl (by kernel_rfl) (fun _ _ _ _ h => h) ⟨_, .inl ⟨by rfl, fun _ => by go_simp; with_reducible rfl⟩, _, by simp only [Act.put, sA, sB, sC, i64_w, i32_w]; rfl, ?_⟩
      refine pu 6 (some 23) (bs 10 119) HT_ rfl rfl (by kernel_rfl) (fun _ _ _ _ h => h) ⟨_, .inl ⟨by rfl, fun _ => by go_simp; with_reducible rfl⟩, _, by simp only [Act.put, sA, sB, sC, i64_w, i32_w]; rfl, ?_⟩
      refine tk 3 (some 20) (bs 10 127) HT_ HW_ rfl rfl (by kernel_rfl) (fun _ _ _ _ h => h) hHeld ⟨_, .inl ⟨by rfl, by rintro w' s0; refine load_any_ (x := .tmp 19) (p := ad.add (k * 32)) ?_ ?_ (B1.out _ s0) Tryd.underlying48 rfl hi1.out <;> rfl⟩, _, by simp only [Act.put, sA, sB, sC, i64_w, i32_w]; rfl, ?_⟩
      refine tk 7 (some 24) (bs 10 255) HT_ HW_ rfl rfl (by kernel_rfl) (fun _ _ _ _ h => h) hHeld ⟨_, .inl ⟨by rfl, by rintro w' s0; refine load_any_ (x := .tmp 23) (p := bd.add (k * 32)) ?_ ?_ (B2.out _ s0) Tryd.underlying48 rfl hi2.out <;> rfl⟩, _, by simp only [Act.put, sA, sB, sC, i64_w, i32_w]; rfl, ?_⟩
      refine on1 8 (some 25) (bs 10 511) HT_ rfl rfl (by kernel_rfl) (by decide) (fun K hK => ?_)
      refine goes_ Tryd.func32 (by kernel_rfl) rfl #[.agg cs, .agg ds] (by rfl) rfl rfl (by (try simp only [List.map_toArray, List.map_cons, List.map_nil]); first | done | rfl) ?_
      with_reducible refine (QS.out _ HB).mono ?_
      rintro e w1 ⟨rfl, hb⟩
      replace HB := belT HB hb
      clear hb
      refine ⟨_, rfl, ?_⟩
      refine hK.out _ _ HB (fun hHeld => ?_)
      clear hK K
      refine nm ⟨_, show Act.put _ (some 25) _ = _ by simp only [Act.put, sA, sB, sC, i64_w, i32_w]; rfl, ?_⟩
      refine pu 9 (some 26) (bs 10 1023) HT_ rfl rfl (by kernel_rfl) (fun _ _ _ _ h => h) ⟨_, .inl ⟨by rfl, fun _ => by go_simp; with_reducible rfl⟩, _, by simp only [Act.put, sA, sB, sC, i64_w, i32_w]; rfl, ?_⟩
      refine done_ (done_of HT_.out (by kernel_rfl)) ?_
      cases rb
      · go_wp2
        go_ret
        refine ⟨?_, belT hI.out.2 HB⟩
        have e : ¬ l = m := fun e => by
          subst e
          obtain ⟨h1, h2, h3⟩ := HT.out
          rw [h1] at h2
          injection h2 with h2
          subst h2
          rw [sameB_dec] at h3
          simp at h3
        rw [decide_eq_false e]
        rfl
      · go_wp2
        go_roundw
        case rel =>
          obtain ⟨h1, h2, h3⟩ := HT.out
          rw [sameB_dec] at h3
          exact ⟨k + 1, by omega, by go_num, Lib.hid ⟨(take_same hI.out.1 h1 h2).2 (of_decide_eq_true h3.symm), belT hI.out.2 HB⟩⟩
        case measure => simp [intOf]; omega
    · obtain rfl : k = n := by omega
      go_wp2
      go_ret
      refine ⟨?_, hI.out.2⟩
      obtain ⟨h1, h2⟩ := HL.out
      have h := hI.out.1
      rw [← h1, List.take_length, h1, ← h2, List.take_length] at h
      rw [decide_eq_true h]
      rfl
theorem sameObjects_calls (A B : Option Addr) (l m : List Ob) (c d : Nat) (w : World) (hr : kO.C w A l.length l) (hs : kO.C w B m.length m) (hn : l.length ≤ 1000000) :
    Calls Tryd.prog 15 #[.slice A l.length c, .slice B m.length d] w fun e w' => e = .returned (.bool (decide (l = m))) ∧ Below w.heap.size w w' := by
  by_cases h : l.length = m.length
  · have := sameObjects_eq A B l m c d l.length w hr hs rfl h.symm hn
    rw [← h]
    exact this
  · have hne : ¬ l = m := fun e => h (by rw [e])
    rw [decide_eq_false hne]
    have e1 : ((l.length : Int) != (m.length : Int)) = true := by simp; omega
    clear hr hs hne
    go_enter Tryd.func15, Tryd.ntmps15
    go_wp2
    go_ret
    exact ⟨rfl, Below.refl _ _⟩
def boundB : Bool → List Ob → Bool
  | _, [] => true
  | r, o :: l => if o.node.toList = [] ∨ ¬ o.phase = 1 then boundB r l else if r = true ∧ o.ready = false then false else boundB (r || o.ready) l
end Go.Proofs.YtoepbjgldmgaoaaDoor

/- LentObjects: each object lent, in a list of its own. -/
namespace Go.Proofs.YtoepbjgldmgaoaaDoor
open Go.RowKit Go.Proofs.YtoepbjgldmgaoaaDoorW.PrintWords Go.Proofs.YtoepbjgldmgaoaaDoorW.PrintLast
theorem lent_step {w wr w1 w2 : World} {v : Value} {xs : List Ob} {o : Ob} {u4 u27 : Value} (hR : Kd.R kLent 48 wr w.heap.size (fun _ => True) v xs) (hB : Below w.heap.size w wr) (hb1 : Below wr.heap.size wr w1)
    (H4 : LentR w1 wr.heap.size (fun k => some k ≠ u27.ownBlock) o.labels u4) (H27 : LentR w1 wr.heap.size (fun k => some k ≠ u4.ownBlock) o.select u27) {x : Obj}
    (hk : ∀ k, k ≠ w1.heap.size → w2.heap[k]? = (w1.alloc x).heap[k]?) (hb2 : Below wr.heap.size wr w2) :
    (kLent.M w2 w.heap.size (fun k => some k = u4.ownBlock ∨ some k = u27.ownBlock) o (o.cells u4 u27).toList ∧ Kd.R kLent 48 w2 w.heap.size (fun _ => True) v xs ∧ ∀ k, (some k = u4.ownBlock ∨ some k = u27.ownBlock) → True ∧ some k ≠ v.ownBlock) ∧ Below w.heap.size w w2 := by
  obtain ⟨g4, e4, b4, l4⟩ := H4.own
  obtain ⟨g27, e27, b27, l27⟩ := H27.own
  have ne : g4 ≠ g27 := fun e => by
    obtain ⟨A, c, rfl, _, hr⟩ := H4
    have := hr.1 g4 e4
    rw [e27] at this
    exact this (by rw [e])
  have same : ∀ k, k < w1.heap.size → w2.heap[k]? = w1.heap[k]? := fun k hlt => (hk k (by omega)).trans (heap_alloc_old _ _ hlt)
  have hw := hB.size
  refine ⟨⟨⟨u4, u27, rfl, ?_, ?_⟩, Kd.R_below hR hb2, ?_⟩, belT hB hb2⟩
  · exact ((H4.tight.move (fun k hk' => same k (by rw [e4] at hk'; injection hk' with hk'; omega))).lower hw).mono (fun k hk' => ⟨.inl hk', fun e => ne (by rw [e4] at hk'; rw [e27] at e; injection hk' with hk'; injection e with e; omega)⟩)
  · exact ((H27.tight.move (fun k hk' => same k (by rw [e27] at hk'; injection hk' with hk'; omega))).lower hw).mono (fun k hk' => ⟨.inr hk', fun e => ne (by rw [e27] at hk'; rw [e4] at e; injection hk' with hk'; injection e with e; omega)⟩)
  · rintro k (h | h) <;> refine ⟨trivial, fun e => ?_⟩ <;> have := Kd.R_lt hR k e.symm
    · rw [e4] at h; injection h with h; omega
    · rw [e27] at h; injection h with h; omega
set_option maxHeartbeats 2000000 in
set_option maxRecDepth 100000 in
theorem lentObjects_calls (A : Option Addr) (c n : Nat) (l : List Ob) (w : World) (hr : kO.C w A l.length l) (hln : l.length = n) (hl : n ≤ 1000000) (hf : ∀ o ∈ l, ObFits o) :
    Calls Tryd.prog 12 #[.slice A n c] w fun e w' => ∃ A', e = .returned (.slice A' n n) ∧ kLent.C w' A' n l ∧ Below w.heap.size w w' := by
  have HR := Lib.hid hr
  have HL := Lib.hid hln
  have HF := Lib.hid hf
  clear hr hln hf
  go_enter Tryd.func12, Tryd.ntmps12
  go_wp2
  go_loopw [3, 4] (fun v3 v4 wr => ∃ k : Nat, v4 = .int .i64 k ∧ k ≤ n ∧ Hid (Kd.R kLent 48 wr w.heap.size (fun _ => True) v3 (l.take k) ∧ Below w.heap.size w wr)) (fun _ v4 _ => n - (intOf v4).toNat)
  case atStart => exact ⟨0, rfl, Nat.zero_le _, Lib.hid ⟨Kd.R_nil _ _ _ _ _, Below.refl _ _⟩⟩
  case round =>
    obtain ⟨k, rfl, hk, hI⟩ := hrel
    by_cases hlt : k < n
    · obtain ⟨o, ho⟩ : ∃ o, l[k]? = some o := ⟨_, List.getElem?_eq_getElem (by have := HL.out; omega)⟩
      obtain ⟨ad, v4, v27, rfl, hO⟩ := objAt (Kd.C_below HR.out hI.out.2) k o ho
      have hlk : (k : Int) < (n : Int) := by omega
      obtain ⟨cs, hcs⟩ : ∃ cs, cs = o.cells v4 v27 := ⟨_, rfl⟩
      have hi1 : Hid ((Tryd.prog.info? 48).map (·.size) = some cs.size) := Lib.hid (by rw [hcs, Ob.cells_size]; kernel_rfl)
      have B1 := hO.cells
      have QL := Lib.hid (lentObject_calls o v4 v27 wr hO.l4 hO.l27 (HF.out o (List.mem_of_getElem? ho)))
      rw [← hcs] at B1 QL
      replace B1 := Lib.hid B1
      have hsn : l.take (k + 1) = l.take k ++ [o] := by rw [List.take_add_one, ho]; rfl
      have HT := Lib.hid hsn
      have hkl : (l.take k).length ≤ 1000000 := by rw [List.length_take]; omega
      have hlen : ((l.take k).length + 1) * 312 ≤ 140737488355328 := by omega
      clear ho hO hcs hsn hkl
      go_wp2_with (first
        | ((with_reducible refine wpList_load_any rfl 48 (.tmp 14) rfl (ad.add (k * 32)) ?l1 cs _ ?l2 Tryd.underlying48 ?l3 ?l4 ?_); (case l1 => rfl); (case l2 => exact B1.out); (case l3 => rfl); (case l4 => exact hi1.out))
        | (go_at_call 41; (with_reducible refine QL.out.mono ?_); rintro e w1 ⟨u4, u27, rfl, H4, H27, hb1⟩; clear QL)
        | ((with_reducible refine wpList_store_blk rfl 48 (.tmp 5) (.tmp 16) rfl w1.heap.size 48 ?c0 (o.cells u4 u27) ?c1 ?c2 ?c3 ?c4 ?c5 ?c6 ?_); (case c1 => rfl); (case c2 => rfl); (case c3 => exact heap_alloc_new _ _); (case c4 => exact infoO1); (case c5 => rfl); (case c6 => exact o.cells_one H4.cells.2 H27.cells.2); intro w2 G hk hb hz; obtain ⟨hA, hB2⟩ := lent_step hI.out.1 hI.out.2 hb1 H4 H27 hk (hb _ _ (Below.alloc (hb1.mono (Nat.le_refl _)) hb1.size _) hb1.size); have HA := Lib.hid hA; have HG := Lib.hid G; have HB2 := Lib.hid hB2; have hw2 : Hid (w.heap.size ≤ w2.heap.size) := Lib.hid hB2.size; obtain ⟨gx, hgx⟩ : ∃ g, g = w1.heap.size := ⟨_, rfl⟩; rw [← hgx] at HG ⊢; clear G hk hb hz hA hB2 hgx H4 H27 hb1)
        | ((with_reducible refine wpList_load_blk rfl 48 (.tmp 5) rfl gx 48 ?m1 (o.cells u4 u27) _ ?m2 Tryd.underlying48 ?m3 ?m4 ?_); (case m1 => rfl); (case m2 => exact HG.out); (case m3 => rfl); (case m4 => exact infoO1))
        | ((with_reducible refine wpList_build1 rfl 22 48 (.tmp 18) rfl (o.cells u4 u27) ?d1 ?d2 32 312 Tryd.underlying22 ?d3 ?d4 (by omega) (by omega) ?d5 ?_); (case d1 => rfl); (case d3 => exact infoO); (case d4 => rfl); (case d5 => rfl))
        | (at_builtin; refine Kd.R_append kLent (w0 := w) (W := w2) w.heap.size rfl (.tmp 17) (.tmp 19) 22 48 (.agg (Ob.zero.cells (.slice none 0 0) (.slice none 0 0))) 312 rfl Tryd.underlying22 infoO rfl (by decide) (by omega) u3 (l.take k) o (o.cells u4 u27).toList (fun _ => True) (fun k => some k = u4.ownBlock ∨ some k = u27.ownBlock) rfl rfl HA.out.1 HA.out.2.2 (fun _ _ => trivial) HA.out.2.1 HB2.out hw2.out hlen ?_; intro v1 w6 hR6 hB6 hg6 hat6))
      go_roundw
      case rel => exact ⟨k + 1, by go_num, by omega, Lib.hid ⟨by rw [HT.out]; exact hR6, hB6⟩⟩
      case measure => simp [intOf]; omega
    · obtain rfl : n = k := by omega
      obtain ⟨A5, c5, rfl⟩ := Kd.R_slice hI.out.1
      have h1 := (Kd.R_reads' hI.out.1)
      have hll : (l.take n).length = n := by rw [List.length_take]; have := HL.out; omega
      have hle : n ≤ c5 := by have := h1.2.1; omega
      have hle2 : (n : Int) ≤ (c5 : Int) := by omega
      have HI := Lib.hid (And.intro h1.2.2 hll)
      rw [hll]
      clear h1 hll
      go_wp2
      go_ret
      refine ⟨A5, rfl, ?_, hI.out.2⟩
      obtain ⟨h2, h3⟩ := HI.out
      rw [h3] at h2
      have e : l.take n = l := List.take_of_length_le (Nat.le_of_eq HL.out)
      rw [e] at h2
      exact h2
end Go.Proofs.YtoepbjgldmgaoaaDoor

/- CopyLabels, CopyObject, CopyObjects: the same, in memory of their own. -/
namespace Go.Proofs.YtoepbjgldmgaoaaDoor
open Go.RowKit Go.Proofs.YtoepbjgldmgaoaaDoorW.PrintWords Go.Proofs.YtoepbjgldmgaoaaDoorW.PrintLast
theorem copy0 (l : List Lab) (hl : l.length ≤ 4398046510976) : ∀ (d i k : Nat), l.length - i ≤ d → d < k → i ≤ l.length → QLb.flotillaref0_CopyLabels.l0 k l (l.take i) (i : Int) = some l := by
  intro d
  induction d with
  | zero =>
    intro i k h1 h2 h3
    obtain ⟨k, rfl⟩ : ∃ m, k = m + 1 := ⟨k - 1, by omega⟩
    simp only [QLb.flotillaref0_CopyLabels.l0]
    rw [if_neg (by omega), List.take_of_length_le (by omega)]
  | succ d ih =>
    intro i k h1 h2 h3
    obtain ⟨k, rfl⟩ : ∃ m, k = m + 1 := ⟨k - 1, by omega⟩
    by_cases hi : i < l.length
    · simp only [QLb.flotillaref0_CopyLabels.l0]
      rw [if_pos (by omega), if_pos (by omega), if_pos (by rw [List.length_take]; omega), show wrap64 ((i : Int) + 1) = ((i + 1 : Nat) : Int) by unfold wrap64; omega]
      have e1 : QLb.rd_T98 l (i : Int) = l[i] := by simp [QLb.rd_T98, List.getD_eq_getElem?_getD, hi]
      have e2 : l.take i ++ [(⟨(QLb.rd_T98 l (i : Int)).f0, (QLb.rd_T98 l (i : Int)).f1⟩ : Lab)] = l.take (i + 1) := by
        rw [e1, List.take_succ_eq_append_getElem hi]
      rw [e2]
      exact ih (i + 1) k (by omega) (by omega) (by omega)
    · simp only [QLb.flotillaref0_CopyLabels.l0]
      rw [if_neg (by omega), List.take_of_length_le (by omega)]
theorem copyLabels_calls {w : World} {l : List Lab} {v : Value} (h : LabK w l v) (hl : l.length ≤ 4398046510976) :
    Calls Tryd.prog 86 #[v] w fun e w' => ∃ v', e = .returned v' ∧ kL.R 98 w' w.heap.size (fun _ => True) v' l ∧ Below w.heap.size w w' := by
  obtain ⟨A, c, rfl, hc, hr⟩ := h
  have hf : QLb.flotillaref0_CopyLabels.f (l.length + 1) l = some l := by
    have := copy0 l hl l.length 0 (l.length + 1) (by omega) (by omega) (by omega)
    simpa [QLb.flotillaref0_CopyLabels.f] using this
  exact QLb.flotillaref0_CopyLabels.calls _ A c l l w hr hc hf
set_option maxRecDepth 100000 in
set_option maxHeartbeats 2000000 in
theorem copyObject_calls (o : Ob) (v4 v27 : Value) (w : World) (h4 : LabK w o.labels v4) (h27 : LabK w o.select v27) (hf : ObFits o) :
    Calls Tryd.prog 50 #[.agg (o.cells v4 v27)] w fun e w' => ∃ u4 u27, e = .returned (.agg (o.cells u4 u27)) ∧ kO.M w' w.heap.size (fun _ => True) o (o.cells u4 u27).toList ∧ Below w.heap.size w w' := by
  obtain ⟨cs, hcs⟩ : ∃ cs, cs = o.cells v4 v27 := ⟨_, rfl⟩
  have Q4 := Lib.hid (fun (W : World) (hW : Below w.heap.size w W) => copyLabels_calls (h4.below hW) hf.2.1)
  have Q27 := Lib.hid (fun (W : World) (hW : Below w.heap.size w W) => copyLabels_calls (h27.below hW) hf.2.2)
  have h1c := o.cells_one (v4 := v4) (v27 := v27) h4.one h27.one
  rw [← hcs] at h1c ⊢
  have hs : cs.size = 32 := by rw [hcs]; rfl
  have hi1 : Hid ((Tryd.prog.info? 48).map (·.size) = some cs.size) := Lib.hid (by rw [hs]; kernel_rfl)
  have Hcs := Lib.hid (And.intro hcs (And.intro h1c hs))
  have c4 : Hid (cs[4]? = some v4) := Lib.hid (by rw [hcs]; rfl)
  have c27 : Hid (cs[27]? = some v27) := Lib.hid (by rw [hcs]; rfl)
  clear hcs h1c hs h4 h27 hf
  have HM := Lib.hid (Eq.refl 0)
  go_enter Tryd.func50, Tryd.ntmps50
  obtain ⟨zz, hzz⟩ : ∃ zz, zz = Ob.zero.cells (.slice none 0 0) (.slice none 0 0) := ⟨_, rfl⟩
  have Hzz : Hid (zz.size = 32) := Lib.hid (by rw [hzz]; rfl)
  replace hzz := Lib.hid hzz
  go_wp2_with (first
    | ((with_reducible refine gate_ (.load 48 (.tmp 1)) rfl ?_); clear HM; (have HB : Below w.heap.size w ((w.alloc (Obj.cells cs 48)).alloc (Obj.cells zz 48)) := Go.Joins.below_alloc2 w _ _); (have BA : ((w.alloc (Obj.cells cs 48)).alloc (Obj.cells zz 48)).heap[w.heap.size]? = some (.cells cs 48 (0, 0)) := (heap_alloc_old _ _ (by simp)).trans (heap_alloc_new w _)); (have BC : ((w.alloc (Obj.cells cs 48)).alloc (Obj.cells zz 48)).heap[w.heap.size + 1]? = some (.cells zz 48 (0, 0)) := heap_alloc2_new w _ _); (have hW0 : ((w.alloc (Obj.cells cs 48)).alloc (Obj.cells zz 48)) = ((w.alloc (Obj.cells cs 48)).alloc (Obj.cells (Ob.zero.cells (.slice none 0 0) (.slice none 0 0)) 48)) := by rw [hzz.out]); generalize hW1 : ((w.alloc (Obj.cells cs 48)).alloc (Obj.cells zz 48)) = W0 at HB BA BC hW0; (refine Eq.mp (congrArg (fun x => wpList _ _ _ _ _ x) hW0) ?_); clear hW0 hW1; obtain ⟨ga, hga⟩ : ∃ x, x = w.heap.size := ⟨_, rfl⟩; obtain ⟨gc, hgc⟩ : ∃ x, x = w.heap.size + 1 := ⟨_, rfl⟩; rw [← hgc] at BC ⊢; rw [← hga] at BA ⊢; (have La : w.heap.size ≤ ga := by omega); (have Lc : w.heap.size ≤ gc := by omega); (have Nac : ga ≠ gc := by omega); clear hga hgc)
    | ((with_reducible refine wpList_load_blk rfl 48 (.tmp 1) rfl ga 48 ?l1 cs _ ?l2 Tryd.underlying48 ?l3 ?l4 ?_); (case l1 => rfl); (case l2 => exact BA); (case l3 => rfl); (case l4 => exact hi1.out))
    | ((with_reducible refine wpList_store_blk rfl 48 (.tmp 3) (.tmp 4) rfl W0.heap.size 48 ?c0 cs ?c1 ?c2 ?c3 ?c4 ?c5 ?c6 ?_); (case c1 => rfl); (case c2 => rfl); (case c3 => exact heap_alloc_new _ _); (case c4 => exact hi1.out); (case c5 => exact Eq.trans (b := 32) rfl Hcs.out.2.2.symm); (case c6 => exact Hcs.out.2.1); intro w1 BX hk hb hz; have Nax : ga ≠ W0.heap.size := (by have := blkLt BA; omega); have Ncx : gc ≠ W0.heap.size := (by have := blkLt BC; omega); replace BA := (hk _ Nax).trans ((heap_alloc_old _ _ (blkLt BA)).trans BA); replace BC := (hk _ Ncx).trans ((heap_alloc_old _ _ (blkLt BC)).trans BC); have Lx := HB.size; replace HB := hb _ _ (HB.alloc HB.size _) HB.size; clear hk hb hz; obtain ⟨gx, hgx⟩ : ∃ g, g = W0.heap.size := ⟨_, rfl⟩; rw [← hgx] at BX Nax Ncx Lx ⊢; clear hgx)
    | ((with_reducible refine gate_ (.load 43 _) rfl ?_); first | refine wpList_load1_w 43 _ rfl ⟨ga, 4, none⟩ rfl rfl v4 _ ((cell_of_row _ _ 4 _ _ _ BA).trans c4.out) Tryd.underlying43 rfl ?_ | refine wpList_load1_w 43 _ rfl ⟨ga, 27, none⟩ rfl rfl v27 _ ((cell_of_row _ _ 27 _ _ _ BA).trans c27.out) Tryd.underlying43 rfl ?_)
    | (go_at_call 86; (with_reducible refine (Q4.out _ HB).mono ?_); rintro e w2 ⟨u4, rfl, H4, hb⟩; have X4 : ∀ k, u4.ownBlock = some k → gx < k ∧ gc < k := (fun k hk => by have := Kd.R_base H4 k hk; have := blkLt BX; have := blkLt BC; omega); have Y4 : ∀ k, u4.ownBlock = some k → k < w2.heap.size := Kd.R_lt H4; have H4t := Kd.R_tight rfl (Kd.R_lower H4 HB.size); have V4 := Kd.R_val H4; have U4 := lab_cells H4; clear H4; replace BA := blkB hb BA; replace BC := blkB hb BC; replace BX := blkB hb BX; replace HB := belT HB hb; clear hb Q4)
    | (go_at_call 86; (with_reducible refine (Q27.out _ HB).mono ?_); rintro e w3 ⟨u27, rfl, H27, hb⟩; have X27 : ∀ k, u27.ownBlock = some k → gx < k ∧ gc < k := (fun k hk => by have := Kd.R_base H27 k hk; have := blkLt BX; have := blkLt BC; omega); have N4 : ∀ k, u4.ownBlock = some k → u27.ownBlock ≠ some k := (fun k hk hk' => by have := Kd.R_base H27 k hk'; have := Y4 k hk; omega); have H27t := Kd.R_tight rfl (Kd.R_lower H27 HB.size); have V27 := Kd.R_val H27; have U27 := lab_cells H27; clear H27; replace H4t := Kd.R_move H4t (fun k hk => hb.block k (Y4 k hk.symm)); replace BA := blkB hb BA; replace BC := blkB hb BC; replace BX := blkB hb BX; replace HB := belT HB hb; clear hb Q27)
    | ((with_reducible refine wpList_store1 rfl 43 (.tmp 8) (.tmp 7) rfl gx 4 48 cs u4 ?s1 ?s2 ?s3 ?s4 ?s5 ?s6 ?s7 ?_); (case s1 => rfl); (case s2 => rfl); (case s3 => exact U4); (case s4 => exact BX); (case s5 => (rw [Hcs.out.2.2]; omega)); (case s6 => kernel_rfl); (case s7 => exact V4.2); intro w4 BX' hk hb hz; rw [Hcs.out.1, cells_set4] at BX'; replace BX := BX'; replace BA := (hk _ Nax).trans BA; replace BC := (hk _ Ncx).trans BC; replace H4t := Kd.R_move H4t (fun k hk' => hk k (by have := X4 k hk'.symm; omega)); replace HB := hb _ _ HB Lx; replace Y4 : ∀ k, u4.ownBlock = some k → k < w4.heap.size := (fun k hk' => by have := Y4 k hk'; omega); clear hk hb hz BX')
    | ((with_reducible refine wpList_store1 rfl 43 (.tmp 12) (.tmp 11) rfl gx 27 48 (o.cells u4 v27) u27 ?s1 ?s2 ?s3 ?s4 ?s5 ?s6 ?s7 ?_); (case s1 => rfl); (case s2 => rfl); (case s3 => exact U27); (case s4 => exact BX); (case s5 => (rw [Ob.cells_size]; omega)); (case s6 => kernel_rfl); (case s7 => exact V27.2); intro w5 BX' hk hb hz; rw [cells_set27] at BX'; replace BX := BX'; replace BA := (hk _ Nax).trans BA; replace BC := (hk _ Ncx).trans BC; replace H4t := Kd.R_move H4t (fun k hk' => hk k (by have := X4 k hk'.symm; omega)); replace H27t := Kd.R_move H27t (fun k hk' => hk k (by have := X27 k hk'.symm; omega)); replace HB := hb _ _ HB Lx; clear hk hb hz BX')
    | ((with_reducible refine wpList_load_blk rfl 48 (.tmp 3) rfl gx 48 ?l1 (o.cells u4 u27) _ ?l2 Tryd.underlying48 ?l3 ?l4 ?_); (case l1 => rfl); (case l2 => exact BX); (case l3 => rfl); (case l4 => exact infoO1))
    | ((with_reducible refine wpList_store_blk rfl 48 (.tmp 2) (.tmp 13) rfl gc 48 zz (o.cells u4 u27) ?c1 ?c2 ?c3 ?c4 ?c5 ?c6 ?_); (case c1 => rfl); (case c2 => rfl); (case c3 => exact BC); (case c4 => exact infoO1); (case c5 => exact Hzz.out); (case c6 => exact o.cells_one V4.2 V27.2); intro w6 BC' hk hb hz; replace H4t := Kd.R_move H4t (fun k hk' => hk k (by have := X4 k hk'.symm; omega)); replace H27t := Kd.R_move H27t (fun k hk' => hk k (by have := X27 k hk'.symm; omega)); replace HB := hb _ _ HB Lc; clear hk hb hz))
  refine bodyPost_ret (v := .agg (o.cells u4 u27)) (results_cell_row (p := 2) (ty := 48) rfl _ _ gc 48 (o.cells u4 u27) (0, 0) _ (by rfl) BC' Tryd.underlying48 rfl infoO1) rfl ?_
  exact ⟨u4, u27, rfl, ⟨u4, u27, rfl, Kd.R_mono H4t (fun k hk => ⟨trivial, fun e => N4 k hk.symm e.symm⟩), Kd.R_mono H27t (fun k hk => ⟨trivial, fun e => N4 k e.symm hk.symm⟩)⟩, HB⟩
theorem copy_step {w wr w1 w2 : World} {v : Value} {xs : List Ob} {o : Ob} {cs : List Value} (hR : Kd.R kO 48 wr w.heap.size (fun _ => True) v xs) (hB : Below w.heap.size w wr) (hb1 : Below wr.heap.size wr w1)
    (HM : kO.M w1 wr.heap.size (fun _ => True) o cs) {x : Obj}
    (hk : ∀ k, k ≠ w1.heap.size → w2.heap[k]? = (w1.alloc x).heap[k]?) (hb2 : Below wr.heap.size wr w2) :
    (kO.M w2 w.heap.size (fun k => wr.heap.size ≤ k) o cs ∧ Kd.R kO 48 w2 w.heap.size (fun _ => True) v xs ∧ ∀ k, wr.heap.size ≤ k → True ∧ some k ≠ v.ownBlock) ∧ Below w.heap.size w w2 := by
  have same : ∀ k, k < w1.heap.size → w2.heap[k]? = w1.heap[k]? := fun k hlt => (hk k (by omega)).trans (heap_alloc_old _ _ hlt)
  refine ⟨⟨?_, Kd.R_below hR hb2, fun k hle => ⟨trivial, fun e => by have := Kd.R_lt hR k e.symm; omega⟩⟩, belT hB hb2⟩
  exact kO.M_mono (fun k hk => hk.2.1) (kO.M_lower hB.size (kO.M_move (fun k hk => same k hk.2.2.1) (kO.M_bound HM)))
set_option maxHeartbeats 2000000 in
set_option maxRecDepth 100000 in
theorem copyObjects_calls (A : Option Addr) (c n : Nat) (l : List Ob) (w : World) (hr : kO.C w A l.length l) (hln : l.length = n) (hl : n ≤ 1000000) (hf : ∀ o ∈ l, ObFits o) :
    Calls Tryd.prog 49 #[.slice A n c] w fun e w' => ∃ v, e = .returned v ∧ kO.R 48 w' w.heap.size (fun _ => True) v l ∧ Below w.heap.size w w' := by
  have HR := Lib.hid hr
  have HL := Lib.hid hln
  have HF := Lib.hid hf
  clear hr hln hf
  go_enter Tryd.func49, Tryd.ntmps49
  go_wp2
  go_loopw [3, 4] (fun v3 v4 wr => ∃ k : Nat, v4 = .int .i64 k ∧ k ≤ n ∧ Hid (Kd.R kO 48 wr w.heap.size (fun _ => True) v3 (l.take k) ∧ Below w.heap.size w wr)) (fun _ v4 _ => n - (intOf v4).toNat)
  case atStart => exact ⟨0, rfl, Nat.zero_le _, Lib.hid ⟨Kd.R_nil _ _ _ _ _, Below.refl _ _⟩⟩
  case round =>
    obtain ⟨k, rfl, hk, hI⟩ := hrel
    by_cases hlt : k < n
    · obtain ⟨o, ho⟩ : ∃ o, l[k]? = some o := ⟨_, List.getElem?_eq_getElem (by have := HL.out; omega)⟩
      obtain ⟨ad, v4, v27, rfl, hO⟩ := objAt (Kd.C_below HR.out hI.out.2) k o ho
      have hlk : (k : Int) < (n : Int) := by omega
      obtain ⟨cs, hcs⟩ : ∃ cs, cs = o.cells v4 v27 := ⟨_, rfl⟩
      have hi1 : Hid ((Tryd.prog.info? 48).map (·.size) = some cs.size) := Lib.hid (by rw [hcs, Ob.cells_size]; kernel_rfl)
      have B1 := hO.cells
      have QL := Lib.hid (copyObject_calls o v4 v27 wr hO.l4 hO.l27 (HF.out o (List.mem_of_getElem? ho)))
      rw [← hcs] at B1 QL
      replace B1 := Lib.hid B1
      have hsn : l.take (k + 1) = l.take k ++ [o] := by rw [List.take_add_one, ho]; rfl
      have HT := Lib.hid hsn
      have hkl : (l.take k).length ≤ 1000000 := by rw [List.length_take]; omega
      have hlen : ((l.take k).length + 1) * 312 ≤ 140737488355328 := by omega
      clear ho hO hcs hsn hkl
      go_wp2_with (first
        | ((with_reducible refine wpList_load_any rfl 48 (.tmp 14) rfl (ad.add (k * 32)) ?l1 cs _ ?l2 Tryd.underlying48 ?l3 ?l4 ?_); (case l1 => rfl); (case l2 => exact B1.out); (case l3 => rfl); (case l4 => exact hi1.out))
        | (go_at_call 50; (with_reducible refine QL.out.mono ?_); rintro e w1 ⟨u4, u27, rfl, HM, hb1⟩; have hc1 : (o.cells u4 u27).all (·.oneCell') = true := (Array.all_eq_true_iff_forall_mem.2 fun u hu => kO.K_one (kO.K_of_M HM) u (by simpa using hu)); replace HM := Lib.hid HM; clear QL)
        | ((with_reducible refine wpList_store_blk rfl 48 (.tmp 5) (.tmp 16) rfl w1.heap.size 48 ?c0 (o.cells u4 u27) ?c1 ?c2 ?c3 ?c4 ?c5 ?c6 ?_); (case c1 => rfl); (case c2 => rfl); (case c3 => exact heap_alloc_new _ _); (case c4 => exact infoO1); (case c5 => rfl); (case c6 => exact hc1); intro w2 G hk hb hz; obtain ⟨hA, hB2⟩ := copy_step hI.out.1 hI.out.2 hb1 HM.out hk (hb _ _ (Below.alloc (hb1.mono (Nat.le_refl _)) hb1.size _) hb1.size); have HA := Lib.hid hA; have HG := Lib.hid G; have HB2 := Lib.hid hB2; have hw2 : Hid (w.heap.size ≤ w2.heap.size) := Lib.hid hB2.size; obtain ⟨gx, hgx⟩ : ∃ g, g = w1.heap.size := ⟨_, rfl⟩; rw [← hgx] at HG ⊢; clear G hk hb hz hA hB2 hgx HM hb1 hc1)
        | ((with_reducible refine wpList_load_blk rfl 48 (.tmp 5) rfl gx 48 ?m1 (o.cells u4 u27) _ ?m2 Tryd.underlying48 ?m3 ?m4 ?_); (case m1 => rfl); (case m2 => exact HG.out); (case m3 => rfl); (case m4 => exact infoO1))
        | ((with_reducible refine wpList_build1 rfl 22 48 (.tmp 18) rfl (o.cells u4 u27) ?d1 ?d2 32 312 Tryd.underlying22 ?d3 ?d4 (by omega) (by omega) ?d5 ?_); (case d1 => rfl); (case d3 => exact infoO); (case d4 => rfl); (case d5 => rfl))
        | (at_builtin; refine Kd.R_append kO (w0 := w) (W := w2) w.heap.size rfl (.tmp 17) (.tmp 19) 22 48 (.agg (Ob.zero.cells (.slice none 0 0) (.slice none 0 0))) 312 rfl Tryd.underlying22 infoO rfl (by decide) (by omega) u3 (l.take k) o (o.cells u4 u27).toList (fun _ => True) (fun k => wr.heap.size ≤ k) rfl rfl HA.out.1 HA.out.2.2 (fun _ _ => trivial) HA.out.2.1 HB2.out hw2.out hlen ?_; intro v1 w6 hR6 hB6 hg6 hat6))
      go_roundw
      case rel => exact ⟨k + 1, by go_num, by omega, Lib.hid ⟨by rw [HT.out]; exact hR6, hB6⟩⟩
      case measure => simp [intOf]; omega
    · obtain rfl : n = k := by omega
      have hI1 := hI.out.1
      rw [List.take_of_length_le (Nat.le_of_eq HL.out)] at hI1
      replace hI1 := Lib.hid hI1
      go_wp2
      go_ret
      exact ⟨_, rfl, hI1.out, hI.out.2⟩
end Go.Proofs.YtoepbjgldmgaoaaDoor

/- The order of objects by their kinds and names: what object.Sorted hands to the sort, and the document's Below. -/
namespace Go.Proofs.YtoepbjgldmgaoaaDoor
open Go.RowKit Go.Proofs.YtoepbjgldmgaoaaDoorW.PrintWords Go.Proofs.YtoepbjgldmgaoaaDoorW.PrintLast
def cS (p q : Int × ByteArray) : Int := if Wc.lessI p.1 q.1 = 0 then Wc.cmpW p.2 q.2 else Wc.lessI p.1 q.1
theorem cS_cmp : Wc.IsCmp cS := (Wc.lessI_cmp.on Prod.fst).then_ (Wc.cmpW_cmp.on Prod.snd)
def Ob.kn (o : Ob) : Int × ByteArray := (o.kind, o.name)
def knOf (x : Array Value) : Int × ByteArray := (intAt x 0, strAt x 1)
def cSa (x y : Array Value) : Int := cS (knOf x) (knOf y)
theorem cSa_cmp : Wc.IsCmp cSa := cS_cmp.on knOf
def sortK (l : List Ob) : List Ob := Srt.isort (fun a b => cS a.kn b.kn) l
theorem or2 (x y : Int) : QWc.cmp_Or_int.f 4 [x, y] = some (if x = 0 then y else x) := by
  unfold QWc.cmp_Or_int.f
  simp only [QWc.cmp_Or_int.l0, List.length_cons, List.length_nil]
  have r0 : rd [x, y] 0 = x := rfl
  have r1 : rd [x, y] 1 = y := rfl
  have w1 : wrap64 1 = 1 := by unfold wrap64; omega
  have w2 : wrap64 2 = 2 := by unfold wrap64; omega
  by_cases h : x = 0
  · subst h
    by_cases g : y = 0
    · subst g
      simp [r0, r1, w1, w2]
    · simp [r0, r1, w1, w2, g]
  · simp [r0, r1, w1, w2, h]
theorem drawn_below {w w' : World} (h : Drawn0 w w') : Below w.heap.size w w' := by
  obtain ⟨n, rfl⟩ := h.out
  exact pw_below_drewN (Below.refl _ _) n
def rg44_1_T : Bool × List (List Nat × List Nat) := (true, [([], []), ([0], [0]), ([], []), ([2], [2]), ([1, 3], [1, 3]), ([], []), ([5], [5]), ([], []), ([7], [7]), ([6, 8, 4], [6, 8]), ([4, 9], [4, 9]), ([10, 9], [10]), ([11, 11, 0, 1, 2, 3, 4, 5, 6, 7, 8, 9, 10, 11], [11])])
def rg44_1_B : List Nat := [0, 1, 0, 4, 15, 0, 32, 0, 128, 511, 1023, 2047, 4095]
theorem rg44_1_tab : rtab .any (opsOf Tryd.f44 1) = rg44_1_T := by kernel_rfl
theorem rg44_1_bits : waitsOk rg44_1_T.2 rg44_1_B = true := by kernel_rfl
set_option maxHeartbeats 4000000 in
set_option maxRecDepth 100000 in
theorem srt1_calls (o p : Ob) (v4 v27 u4 u27 : Value) (m1 : o.name.size ≤ 140737488351232) (m2 : p.name.size ≤ 140737488351232) (w : World) :
    Calls Tryd.prog 44 #[.agg (o.cells v4 v27), .agg (p.cells u4 u27)] w fun e w' => e = .returned (.int .i64 (cS o.kn p.kn)) ∧ Below w.heap.size w w' := by
  obtain ⟨k1, hk1⟩ : ∃ k, k = o.kind := ⟨_, rfl⟩
  obtain ⟨k2, hk2⟩ : ∃ k, k = p.kind := ⟨_, rfl⟩
  obtain ⟨n1, hn1⟩ : ∃ k, k = o.name := ⟨_, rfl⟩
  obtain ⟨n2, hn2⟩ : ∃ k, k = p.name := ⟨_, rfl⟩
  obtain ⟨ci, hci⟩ : ∃ c, c = Wc.lessI k1 k2 := ⟨_, rfl⟩
  obtain ⟨cw, hcw⟩ : ∃ c, c = Wc.cmpW n1 n2 := ⟨_, rfl⟩
  have hres : cS o.kn p.kn = if ci = 0 then cw else ci := by rw [hci, hcw, hk1, hk2, hn1, hn2]; rfl
  rw [hres]
  obtain ⟨r, hr⟩ : ∃ r, r = if ci = 0 then cw else ci := ⟨_, rfl⟩
  rw [← hr]
  have QW := Lib.hid (fun W => Wc.words_calls n1 n2 cw W (by rw [hn1, hn2] at hcw ⊢; unfold Wc.cmpO; rw [if_pos ⟨m1, m2⟩, hcw]))
  have QI := Lib.hid (fun W => QWc.cmp_Compare_int.calls k1 k2 ci W (by rw [hci]; exact Wc.less1 _ _))
  have QO := Lib.hid (fun (A : Option Addr) (c : Nat) W (hc : Kd.C (Kd.int .i64) W A 2 [ci, cw]) (hl : 2 ≤ c) => show Calls Tryd.prog 45 #[.slice A 2 c] W _ from QWc.cmp_Or_int.calls 4 A c [ci, cw] r W hc hl (by rw [or2, hr]))
  obtain ⟨cs, hcs⟩ : ∃ cs, cs = o.cells v4 v27 := ⟨_, rfl⟩
  obtain ⟨ds, hds⟩ : ∃ cs, cs = p.cells u4 u27 := ⟨_, rfl⟩
  have e0 : cs[0]? = some (.int .i64 k1) := by rw [hcs, hk1]; rfl
  have e1 : cs[1]? = some (.string n1) := by rw [hcs, hn1]; rfl
  have f0 : ds[0]? = some (.int .i64 k2) := by rw [hds, hk2]; rfl
  have f1 : ds[1]? = some (.string n2) := by rw [hds, hn2]; rfl
  have HE := Lib.hid (And.intro e0 (And.intro e1 (And.intro f0 f1)))
  rw [← hcs, ← hds]
  clear hk1 hk2 hn1 hn2 hci hcw hres hr hcs hds e0 e1 f0 f1 m1 m2
  go_enter Tryd.func44, Tryd.ntmps44
  go_upto_region 1 with (fail)
  have HW : Below w.heap.size w ((w.alloc (Obj.cells cs 48)).alloc (Obj.cells ds 48)) := Go.Joins.below_alloc2 w _ _
  have B1 : ((w.alloc (Obj.cells cs 48)).alloc (Obj.cells ds 48)).heap[w.heap.size]? = some (.cells cs 48 (0, 0)) := (heap_alloc_old _ _ (by simp)).trans (heap_alloc_new w _)
  have B2 : ((w.alloc (Obj.cells cs 48)).alloc (Obj.cells ds 48)).heap[w.heap.size + 1]? = some (.cells ds 48 (0, 0)) := heap_alloc2_new w _ _
  generalize ((w.alloc (Obj.cells cs 48)).alloc (Obj.cells ds 48)) = W0 at HW B1 B2 ⊢
  obtain ⟨ga, hga⟩ : ∃ x, x = w.heap.size := ⟨_, rfl⟩
  obtain ⟨gb, hgb⟩ : ∃ x, x = w.heap.size + 1 := ⟨_, rfl⟩
  rw [← hgb] at B2 ⊢
  rw [← hga] at B1 ⊢
  have HB : Below W0.heap.size W0 W0.drew := below_drew (Below.refl _ _)
  replace HW := Lib.hid HW
  have C1 : W0.drew.cell? ⟨ga, 0, none⟩ = some (.int .i64 k1) := (cell_of_row _ _ 0 _ _ _ B1).trans HE.out.1
  have C2 : W0.drew.cell? ⟨ga, 1, none⟩ = some (.string n1) := (cell_of_row _ _ 1 _ _ _ B1).trans HE.out.2.1
  have C3 : W0.drew.cell? ⟨gb, 0, none⟩ = some (.int .i64 k2) := (cell_of_row _ _ 0 _ _ _ B2).trans HE.out.2.2.1
  have C4 : W0.drew.cell? ⟨gb, 1, none⟩ = some (.string n2) := (cell_of_row _ _ 1 _ _ _ B2).trans HE.out.2.2.2
  clear hga hgb B1 B2
  refine start_ (n := 13) (S := fun w' => w'.cell? ⟨ga, 0, none⟩ = some (.int .i64 k1) ∧ w'.cell? ⟨ga, 1, none⟩ = some (.string n1) ∧ w'.cell? ⟨gb, 0, none⟩ = some (.int .i64 k2) ∧ w'.cell? ⟨gb, 1, none⟩ = some (.string n2)) (ds := [10, 11]) (bs 13 0) (by kernel_rfl) rfl (by kernel_rfl) ⟨C1, C2, C3, C4⟩ (fun hHeld => ?_)
  refine with_tabW rg44_1_tab rg44_1_bits (fun HT_ HW_ => ?_)
  refine pu 0 (some 5) (bs 13 1) HT_ rfl rfl (by kernel_rfl) (fun _ _ _ _ h => h) ⟨_, .inl ⟨by rfl, fun _ => by go_simp; with_reducible rfl⟩, _, by simp only [Act.put, sA, sB, sC, i64_w, i32_w]; rfl, ?_⟩
  refine pu 2 (some 7) (bs 13 5) HT_ rfl rfl (by kernel_rfl) (fun _ _ _ _ h => h) ⟨_, .inl ⟨by rfl, fun _ => by go_simp; with_reducible rfl⟩, _, by simp only [Act.put, sA, sB, sC, i64_w, i32_w]; rfl, ?_⟩
  refine pu 5 (some 10) (bs 13 37) HT_ rfl rfl (by kernel_rfl) (fun _ _ _ _ h => h) ⟨_, .inl ⟨by rfl, fun _ => by go_simp; with_reducible rfl⟩, _, by simp only [Act.put, sA, sB, sC, i64_w, i32_w]; rfl, ?_⟩
  refine pu 7 (some 12) (bs 13 165) HT_ rfl rfl (by kernel_rfl) (fun _ _ _ _ h => h) ⟨_, .inl ⟨by rfl, fun _ => by go_simp; with_reducible rfl⟩, _, by simp only [Act.put, sA, sB, sC, i64_w, i32_w]; rfl, ?_⟩
  refine tk 1 (some 6) (bs 13 167) HT_ HW_ rfl rfl (by kernel_rfl) (fun _ _ _ _ h => h) hHeld ⟨_, .inl ⟨by rfl, by rintro w' ⟨s0, s1, s2, s3⟩; go_simp; with_reducible rfl⟩, _, by simp only [Act.put, sA, sB, sC, i64_w, i32_w]; rfl, ?_⟩
  refine tk 3 (some 8) (bs 13 175) HT_ HW_ rfl rfl (by kernel_rfl) (fun _ _ _ _ h => h) hHeld ⟨_, .inl ⟨by rfl, by rintro w' ⟨s0, s1, s2, s3⟩; go_simp; with_reducible rfl⟩, _, by simp only [Act.put, sA, sB, sC, i64_w, i32_w]; rfl, ?_⟩
  refine tk 6 (some 11) (bs 13 239) HT_ HW_ rfl rfl (by kernel_rfl) (fun _ _ _ _ h => h) hHeld ⟨_, .inl ⟨by rfl, by rintro w' ⟨s0, s1, s2, s3⟩; go_simp; with_reducible rfl⟩, _, by simp only [Act.put, sA, sB, sC, i64_w, i32_w]; rfl, ?_⟩
  refine tk 8 (some 13) (bs 13 495) HT_ HW_ rfl rfl (by kernel_rfl) (fun _ _ _ _ h => h) hHeld ⟨_, .inl ⟨by rfl, by rintro w' ⟨s0, s1, s2, s3⟩; go_simp; with_reducible rfl⟩, _, by simp only [Act.put, sA, sB, sC, i64_w, i32_w]; rfl, ?_⟩
  refine on1 4 (some 9) (bs 13 511) HT_ rfl rfl (by kernel_rfl) (by decide) (fun K hK => ?_)
  refine goes_ Tryd.func46 (by kernel_rfl) rfl #[.int .i64 k1, .int .i64 k2] (by rfl) rfl rfl (by (try simp only [List.map_toArray, List.map_cons, List.map_nil]); first | done | rfl) ?_
  with_reducible refine (QI.out _).mono ?_
  rintro e w1 ⟨rfl, hd⟩
  have hb := drawn_below hd
  replace C1 := cell_below hb C1
  replace C2 := cell_below hb C2
  replace C3 := cell_below hb C3
  replace C4 := cell_below hb C4
  replace HB := belT HB hb
  clear hb hd
  refine ⟨_, rfl, ?_⟩
  refine hK.out _ _ ⟨C1, C2, C3, C4⟩ (fun hHeld => ?_)
  clear hK K
  refine nm ⟨_, show Act.put _ (some 9) _ = _ by simp only [Act.put, sA, sB, sC, i64_w, i32_w]; rfl, ?_⟩
  refine on1 9 (some 14) (bs 13 1023) HT_ rfl rfl (by kernel_rfl) (by decide) (fun K hK => ?_)
  refine goes_ Tryd.func47 (by kernel_rfl) rfl #[.string n1, .string n2] (by rfl) rfl rfl (by (try simp only [List.map_toArray, List.map_cons, List.map_nil]); first | done | rfl) ?_
  with_reducible refine (QW.out _).mono ?_
  rintro e w2 ⟨rfl, hb⟩
  replace C1 := cell_below hb C1
  replace C2 := cell_below hb C2
  replace C3 := cell_below hb C3
  replace C4 := cell_below hb C4
  replace HB := belT HB hb
  clear hb
  refine ⟨_, rfl, ?_⟩
  refine hK.out _ _ ⟨C1, C2, C3, C4⟩ (fun hHeld => ?_)
  clear hK K
  refine nm ⟨_, show Act.put _ (some 14) _ = _ by simp only [Act.put, sA, sB, sC, i64_w, i32_w]; rfl, ?_⟩
  refine la1 10 (some 15) (bs 13 2047) HT_ rfl rfl (by kernel_rfl) (by decide) (fun K hK => ?_)
  refine Kd.R_lit_step (Kd.int .i64) (w0 := _) _ 3 (by rfl) (N := 15) rfl (xs := ([ci, cw] : List Int)) (inner := [.int .i64 ci, .int .i64 cw]) (ok := fun _ => True) (okp := fun _ => True) ?zr ?zp (fun _ hk => hk) trivial (Below.refl _ _) (Nat.le_refl _) (by simp) ?zh
  case zp => exact (Reps.one (show Kd.M (Kd.int .i64) _ _ _ ci [.int .i64 ci] from rfl) (Reps.one (show Kd.M (Kd.int .i64) _ _ _ cw [.int .i64 cw] from rfl) (Reps.none _ _)))
  case zr => first | (go_simp; done) | (go_simp; rfl)
  intro v1 w3 hR hB3 hg3 ho3
  obtain ⟨A3, c3, rfl⟩ := Kd.R_slice hR
  have hC3 := (Kd.R_reads' hR).2
  have hL3 : 2 ≤ c3 := hC3.1
  have hD3 : Kd.C (Kd.int .i64) w3 A3 2 [ci, cw] := hC3.2
  replace HB := belT HB hB3
  refine hK.out _ _ ?_
  clear hK K
  refine nm ⟨_, show Act.put _ (some 15) _ = _ by simp only [Act.put, sA, sB, sC, i64_w, i32_w]; rfl, ?_⟩
  refine la1 11 (some 16) (bs 13 4095) HT_ rfl rfl (by kernel_rfl) (by decide) (fun K hK => ?_)
  refine goes_ Tryd.func45 (by kernel_rfl) rfl #[.slice A3 2 c3] (by rfl) rfl rfl (by (try simp only [List.map_toArray, List.map_cons, List.map_nil]); first | done | rfl) ?_
  with_reducible refine (QO.out A3 c3 w3 hD3 hL3).mono ?_
  rintro e w4 ⟨rfl, hd⟩
  have hb := drawn_below hd
  replace HB := belT HB hb
  clear hb hd
  refine ⟨_, rfl, ?_⟩
  refine hK.out _ _ ?_
  clear hK K
  refine nm ⟨_, show Act.put _ (some 16) _ = _ by simp only [Act.put, sA, sB, sC, i64_w, i32_w]; rfl, ?_⟩
  refine pu 12 (some 4) (bs 13 8191) HT_ rfl rfl (by kernel_rfl) (fun _ _ _ _ h => h) ⟨_, .inl ⟨by rfl, fun _ => by go_simp; with_reducible rfl⟩, _, by simp only [Act.put, sA, sB, sC, i64_w, i32_w]; rfl, ?_⟩
  refine done_ (done_of HT_.out (by kernel_rfl)) ?_
  go_wp2
  go_ret
  exact ⟨rfl, belT HW.out HB⟩
theorem srt1_at : CmpAt 44 IsObj cSa where
  fn := ⟨_, Tryd.func44, by kernel_rfl, by kernel_rfl⟩
  calls := by
    rintro x y ⟨o, v4, v27, rfl, m1⟩ ⟨p, u4, u27, rfl, m2⟩ W
    exact srt1_calls o p v4 v27 u4 u27 m1 m2 W
theorem below_calls (o p : Ob) (v4 v27 u4 u27 : Value) (m1 : o.name.size ≤ 140737488351232) (m2 : p.name.size ≤ 140737488351232) (w : World) :
    Calls Tryd.prog 48 #[.agg (o.cells v4 v27), .agg (p.cells u4 u27)] w fun e w' => e = .returned (.bool (decide (cS o.kn p.kn < 0))) ∧ Below w.heap.size w w' := by
  obtain ⟨k1, hk1⟩ : ∃ k, k = o.kind := ⟨_, rfl⟩
  obtain ⟨k2, hk2⟩ : ∃ k, k = p.kind := ⟨_, rfl⟩
  obtain ⟨n1, hn1⟩ : ∃ k, k = o.name := ⟨_, rfl⟩
  obtain ⟨n2, hn2⟩ : ∃ k, k = p.name := ⟨_, rfl⟩
  obtain ⟨cw, hcw⟩ : ∃ c, c = Wc.cmpW n1 n2 := ⟨_, rfl⟩
  have hres : cS o.kn p.kn = if Wc.lessI k1 k2 = 0 then cw else Wc.lessI k1 k2 := by rw [hcw, hk1, hk2, hn1, hn2]; rfl
  rw [hres]
  have QW := Lib.hid (fun W => Wc.ref_calls n1 n2 cw W (by rw [hn1, hn2] at hcw ⊢; unfold Wc.cmpO; rw [if_pos ⟨m1, m2⟩, hcw]))
  obtain ⟨cs, hcs⟩ : ∃ cs, cs = o.cells v4 v27 := ⟨_, rfl⟩
  obtain ⟨ds, hds⟩ : ∃ cs, cs = p.cells u4 u27 := ⟨_, rfl⟩
  have e0 : cs[0]? = some (.int .i64 k1) := by rw [hcs, hk1]; rfl
  have e1 : cs[1]? = some (.string n1) := by rw [hcs, hn1]; rfl
  have f0 : ds[0]? = some (.int .i64 k2) := by rw [hds, hk2]; rfl
  have f1 : ds[1]? = some (.string n2) := by rw [hds, hn2]; rfl
  have B1 : ((w.alloc (Obj.cells cs 48)).alloc (Obj.cells ds 48)).heap[w.heap.size]? = some (.cells cs 48 (0, 0)) := (heap_alloc_old _ _ (by simp)).trans (heap_alloc_new w _)
  have B2 : ((w.alloc (Obj.cells cs 48)).alloc (Obj.cells ds 48)).heap[w.heap.size + 1]? = some (.cells ds 48 (0, 0)) := heap_alloc2_new w _ _
  have C1 : ((w.alloc (Obj.cells cs 48)).alloc (Obj.cells ds 48)).cell? ⟨w.heap.size, 0, none⟩ = some (.int .i64 k1) := (cell_of_row _ _ 0 _ _ _ B1).trans e0
  have C2 : ((w.alloc (Obj.cells cs 48)).alloc (Obj.cells ds 48)).cell? ⟨w.heap.size, 1, none⟩ = some (.string n1) := (cell_of_row _ _ 1 _ _ _ B1).trans e1
  have C3 : ((w.alloc (Obj.cells cs 48)).alloc (Obj.cells ds 48)).cell? ⟨w.heap.size + 1, 0, none⟩ = some (.int .i64 k2) := (cell_of_row _ _ 0 _ _ _ B2).trans f0
  have C4 : ((w.alloc (Obj.cells cs 48)).alloc (Obj.cells ds 48)).cell? ⟨w.heap.size + 1, 1, none⟩ = some (.string n2) := (cell_of_row _ _ 1 _ _ _ B2).trans f1
  have HB := Lib.hid (Go.Joins.below_alloc2 w (Obj.cells cs 48) (Obj.cells ds 48))
  rw [← hcs, ← hds]
  clear hk1 hk2 hn1 hn2 hcw hres hcs hds e0 e1 f0 f1 m1 m2 B1 B2
  rcases Int.lt_trichotomy k1 k2 with h | h | h
  · have d1 : decide (k1 < k2) = true := decide_eq_true h
    have hl : (if Wc.lessI k1 k2 = 0 then cw else Wc.lessI k1 k2) = -1 := by unfold Wc.lessI; rw [if_pos h]; rfl
    rw [hl]
    go_enter Tryd.func48, Tryd.ntmps48
    go_wp2
    go_ret
    exact ⟨rfl, HB.out⟩
  · subst h
    have d1 : decide (k1 < k1) = false := by simp
    have hl : (if Wc.lessI k1 k1 = 0 then cw else Wc.lessI k1 k1) = cw := by unfold Wc.lessI; simp
    rw [hl]
    go_enter Tryd.func48, Tryd.ntmps48
    go_wp2_with (first
      | (go_at_call 67; (with_reducible refine (QW.out _).mono ?_); rintro e w7 ⟨rfl, hb7⟩))
    go_ret
    exact ⟨rfl, belT HB.out hb7⟩
  · have d1 : decide (k1 < k2) = false := decide_eq_false (by omega)
    have d2 : decide (k1 = k2) = false := decide_eq_false (by omega)
    have d3 : (k1 == k2) = false := by simpa using (show ¬ k1 = k2 by omega)
    have hl : (if Wc.lessI k1 k2 = 0 then cw else Wc.lessI k1 k2) = 1 := by rw [Wc.lessI_gt h]; rfl
    rw [hl]
    go_enter Tryd.func48, Tryd.ntmps48
    go_wp2
    go_ret
    exact ⟨rfl, HB.out⟩
end Go.Proofs.YtoepbjgldmgaoaaDoor

/- object.clone; an object stored into a list of one's own; object.Sorted. -/
namespace Go.Proofs.YtoepbjgldmgaoaaDoor
open Go.RowKit Go.Proofs.YtoepbjgldmgaoaaDoorW.PrintWords Go.Proofs.YtoepbjgldmgaoaaDoorW.PrintLast
def rg42_1_T : Bool × List (List Nat × List Nat) := (true, [([], []), ([0], [0]), ([1], [1]), ([], []), ([3], [3]), ([4, 2], [4]), ([0, 1, 2, 3, 4], []), ([6, 2, 5, 0, 1, 2, 3, 4], [2, 6]), ([0, 1, 2, 3, 4, 5, 6, 7], []), ([8, 5, 7, 0, 1, 2, 3, 4, 5, 6, 7], [5, 8])])
def rg42_1_B : List Nat := [0, 1, 3, 0, 8, 31, 31, 127, 255, 511]
theorem rg42_1_tab : rtab .any (opsOf Tryd.f42 1) = rg42_1_T := by kernel_rfl
theorem rg42_1_bits : waitsOk rg42_1_T.2 rg42_1_B = true := by kernel_rfl
set_option maxHeartbeats 4000000 in
set_option maxRecDepth 100000 in
theorem objClone_calls (o : Ob) (v4 v27 : Value) (w : World) (h4 : LabK w o.labels v4) (h27 : LabK w o.select v27) (hf : ObFits o) :
    Calls Tryd.prog 42 #[.agg (o.cells v4 v27)] w fun e w' => ∃ u4 u27, e = .returned (.agg (o.cells u4 u27)) ∧ kO.M w' w.heap.size (fun _ => True) o (o.cells u4 u27).toList ∧ Below w.heap.size w w' := by
  obtain ⟨A4, c4, rfl, hl4, hr4⟩ := h4
  obtain ⟨A27, c27, rfl, hl27, hr27⟩ := h27
  have Q4 := Lib.hid (fun W (hW : Below w.heap.size w W) => clone_calls A4 c4 o.labels W (Kd.C_below hr4 hW) (Nat.le_trans hf.2.1 (by decide)))
  have Q27 := Lib.hid (fun W (hW : Below w.heap.size w W) => clone_calls A27 c27 o.select W (Kd.C_below hr27 hW) (Nat.le_trans hf.2.2 (by decide)))
  obtain ⟨cs, hcs⟩ : ∃ cs, cs = o.cells (.slice A4 o.labels.length c4) (.slice A27 o.select.length c27) := ⟨_, rfl⟩
  have e4 : cs[4]? = some (.slice A4 o.labels.length c4) := by rw [hcs]; rfl
  have e27 : cs[27]? = some (.slice A27 o.select.length c27) := by rw [hcs]; rfl
  have hsz : cs.size = 32 := by rw [hcs]; rfl
  have HCS := Lib.hid (And.intro hcs (And.intro e4 (And.intro e27 hsz)))
  obtain ⟨n4, hn4⟩ : ∃ n, n = o.labels.length := ⟨_, rfl⟩
  obtain ⟨n27, hn27⟩ : ∃ n, n = o.select.length := ⟨_, rfl⟩
  rw [← hcs]
  clear hcs e4 e27 hsz hl4 hr4 hl27 hr27 hf hn4 hn27
  go_enter Tryd.func42, Tryd.ntmps42
  obtain ⟨zz, hzz⟩ : ∃ zz, zz = Ob.zero.cells (.slice none 0 0) (.slice none 0 0) := ⟨_, rfl⟩
  have Hzz : Hid (zz.size = 32) := Lib.hid (by rw [hzz]; rfl)
  go_upto_region 1 with (fail)
  rw [show ((w.alloc (Obj.cells cs 48)).alloc _) = (w.alloc (Obj.cells cs 48)).alloc (Obj.cells zz 48) by rw [hzz]; rfl]
  have HBW : Below w.heap.size w ((w.alloc (Obj.cells cs 48)).alloc (Obj.cells zz 48)) := Go.Joins.below_alloc2 w _ _
  have BA : ((w.alloc (Obj.cells cs 48)).alloc (Obj.cells zz 48)).heap[w.heap.size]? = some (.cells cs 48 (0, 0)) := (heap_alloc_old _ _ (by simp)).trans (heap_alloc_new w _)
  have BC : ((w.alloc (Obj.cells cs 48)).alloc (Obj.cells zz 48)).heap[w.heap.size + 1]? = some (.cells zz 48 (0, 0)) := heap_alloc2_new w _ _
  generalize ((w.alloc (Obj.cells cs 48)).alloc (Obj.cells zz 48)) = W0 at HBW BA BC ⊢
  obtain ⟨g, hg⟩ : ∃ x, x = w.heap.size := ⟨_, rfl⟩
  obtain ⟨gc, hgc⟩ : ∃ x, x = w.heap.size + 1 := ⟨_, rfl⟩
  have hgg : g < gc := by omega
  have hgw : w.heap.size ≤ g := by omega
  have hgcw : w.heap.size ≤ gc := by omega
  rw [← hgc] at BC ⊢
  rw [← hg] at BA ⊢
  have HBD := below_drew HBW
  have G : W0.drew.heap[g]? = some (.cells cs 48 (0, 0)) := BA
  have GC : W0.drew.heap[gc]? = some (.cells zz 48 (0, 0)) := BC
  have C4 : W0.drew.cell? ⟨g, 4, none⟩ = some (.slice A4 o.labels.length c4) := (cell_of_row _ _ 4 _ _ _ G).trans HCS.out.2.1
  have C27 : W0.drew.cell? ⟨g, 27, none⟩ = some (.slice A27 o.select.length c27) := (cell_of_row _ _ 27 _ _ _ G).trans HCS.out.2.2.1
  clear BA BC HBW hg hgc hzz
  refine start_ (n := 10) (S := fun w' => w'.heap[g]? = some (.cells cs 48 (0, 0)) ∧ w'.cell? ⟨g, 4, none⟩ = some (.slice A4 o.labels.length c4) ∧ w'.cell? ⟨g, 27, none⟩ = some (.slice A27 o.select.length c27)) (ds := [7, 9]) (bs 10 0) (by kernel_rfl) rfl (by kernel_rfl) ⟨G, C4, C27⟩ (fun hHeld => ?_)
  refine with_tabW rg42_1_tab rg42_1_bits (fun HT_ HW_ => ?_)
  refine pu 0 (some 3) (bs 10 1) HT_ rfl rfl (by kernel_rfl) (fun _ _ _ _ h => h) ⟨_, .inl ⟨by rfl, fun _ => by go_simp; with_reducible rfl⟩, _, by simp only [Act.put, sA, sB, sC, i64_w, i32_w]; rfl, ?_⟩
  refine pu 3 (some 6) (bs 10 9) HT_ rfl rfl (by kernel_rfl) (fun _ _ _ _ h => h) ⟨_, .inl ⟨by rfl, fun _ => by go_simp; with_reducible rfl⟩, _, by simp only [Act.put, sA, sB, sC, i64_w, i32_w]; rfl, ?_⟩
  refine tk 1 (some 4) (bs 10 11) HT_ HW_ rfl rfl (by kernel_rfl) (fun _ _ _ _ h => h) hHeld ⟨_, .inl ⟨by rfl, by rintro w' ⟨s0, s1, s2⟩; go_simp; with_reducible rfl⟩, _, by simp only [Act.put, sA, sB, sC, i64_w, i32_w]; rfl, ?_⟩
  refine tk 4 (some 7) (bs 10 27) HT_ HW_ rfl rfl (by kernel_rfl) (fun _ _ _ _ h => h) hHeld ⟨_, .inl ⟨by rfl, by rintro w' ⟨s0, s1, s2⟩; go_simp; with_reducible rfl⟩, _, by simp only [Act.put, sA, sB, sC, i64_w, i32_w]; rfl, ?_⟩
  refine on1 2 (some 5) (bs 10 31) HT_ rfl rfl (by kernel_rfl) (by decide) (fun K hK => ?_)
  refine goes_ Tryd.func68 (by kernel_rfl) rfl #[.slice A4 o.labels.length c4] (by rfl) rfl rfl (by (try simp only [List.map_toArray, List.map_cons, List.map_nil]); first | done | rfl) ?_
  with_reducible refine (Q4.out _ HBD).mono ?_
  rintro e w2 ⟨v5, rfl, H5, hb⟩
  have K5 : ∀ k, v5.ownBlock = some k → gc < k := fun k hk => Nat.lt_of_lt_of_le (blkLt GC) (Kd.R_base H5 k hk)
  have B5 := HBD.size
  replace G := blkB hb G
  replace GC := blkB hb GC
  replace C4 := cell_below hb C4
  replace C27 := cell_below hb C27
  replace HBD := belT HBD hb
  clear hb
  refine ⟨_, rfl, ?_⟩
  refine hK.out _ _ ⟨G, C4, C27⟩ (fun hHeld => ?_)
  clear hK K
  refine nm ⟨_, show Act.put _ (some 5) _ = _ by simp only [Act.put, sA, sB, sC, i64_w, i32_w]; rfl, ?_⟩
  refine pu 6 (some 9) (bs 10 95) HT_ rfl rfl (by kernel_rfl) (fun _ _ _ _ h => h) ⟨_, .inl ⟨by rfl, fun _ => by go_simp; with_reducible rfl⟩, _, by simp only [Act.put, sA, sB, sC, i64_w, i32_w]; rfl, ?_⟩
  refine on1 5 (some 8) (bs 10 127) HT_ rfl rfl (by kernel_rfl) (by decide) (fun K hK => ?_)
  refine goes_ Tryd.func68 (by kernel_rfl) rfl #[.slice A27 o.select.length c27] (by rfl) rfl rfl (by (try simp only [List.map_toArray, List.map_cons, List.map_nil]); first | done | rfl) ?_
  with_reducible refine (Q27.out _ HBD).mono ?_
  rintro e w3 ⟨v8, rfl, H8, hb⟩
  have K8 : ∀ k, v8.ownBlock = some k → gc < k := fun k hk => Nat.lt_of_lt_of_le (blkLt GC) (Kd.R_base H8 k hk)
  have L5 := Kd.R_lt H5
  have L8 := Kd.R_base H8
  have B8 := HBD.size
  replace H5 := Kd.R_below H5 hb
  replace G := blkB hb G
  replace GC := blkB hb GC
  replace C4 := cell_below hb C4
  replace C27 := cell_below hb C27
  replace HBD := belT HBD hb
  clear hb
  refine ⟨_, rfl, ?_⟩
  refine hK.out _ _ ⟨G, C4, C27⟩ (fun hHeld => ?_)
  clear hK K
  refine nm ⟨_, show Act.put _ (some 8) _ = _ by simp only [Act.put, sA, sB, sC, i64_w, i32_w]; rfl, ?_⟩
  refine la1 7 (none) (bs 10 255) HT_ rfl rfl (by kernel_rfl) (by decide) (fun K hK => ?_)
  refine store1_ (g := g) (i := 4) (x := .tmp 9) (y := .tmp 5) (u := v5) (by rfl) rfl rfl rfl rfl (lab_cells H5) G (by rw [HCS.out.2.2.2]; omega) (by kernel_rfl) (Kd.R_val H5).2 ?_
  intro w4 G4 hk4 hb4
  refine hK.out _ _ ?_
  clear hK K
  refine pu 8 (some 10) (bs 10 511) HT_ rfl rfl (by kernel_rfl) (fun _ _ _ _ h => h) ⟨_, .inl ⟨by rfl, fun _ => by go_simp; with_reducible rfl⟩, _, by simp only [Act.put, sA, sB, sC, i64_w, i32_w]; rfl, ?_⟩
  refine la1 9 (none) (bs 10 1023) HT_ rfl rfl (by kernel_rfl) (by decide) (fun K hK => ?_)
  refine store1_ (g := g) (i := 27) (x := .tmp 10) (y := .tmp 8) (u := v8) (by rfl) rfl rfl rfl rfl (lab_cells H8) G4 (by rw [Array.size_setIfInBounds, HCS.out.2.2.2]; omega) (by kernel_rfl) (Kd.R_val H8).2 ?_
  intro w5 G5 hk5 hb5
  refine hK.out _ _ ?_
  clear hK K
  refine done_ (done_of HT_.out (by kernel_rfl)) ?_
  rw [HCS.out.1, cells_set] at G5
  have HB5 : Below w.heap.size w w5 := hb5 _ _ (hb4 _ _ HBD hgw) hgw
  have hst : ∀ k, k ≠ g → w5.heap[k]? = w3.heap[k]? := fun k hk => (hk5 k hk).trans (hk4 k hk)
  have N5 : ∀ k, v5.ownBlock = some k → v8.ownBlock ≠ some k := fun k hk hk' => by
    have := L5 k hk
    have := L8 k hk'
    omega
  have R5 : kL.R 98 w5 w.heap.size (fun k => some k = v5.ownBlock) v5 o.labels := Kd.R_lower (Kd.R_step (Kd.R_tight rfl H5) (fun k hk _ => hst k (by have := K5 k hk.symm; omega))) B5
  have R8 : kL.R 98 w5 w.heap.size (fun k => some k = v8.ownBlock) v8 o.select := Kd.R_lower (Kd.R_step (Kd.R_tight rfl H8) (fun k hk _ => hst k (by have := K8 k hk.symm; omega))) B8
  have GC5 : w5.heap[gc]? = some (.cells zz 48 (0, 0)) := (hst gc (by omega)).trans GC
  have one4 := (Kd.R_val H5).2
  have one27 := (Kd.R_val H8).2
  have HA := Lib.hid (And.intro R5 (And.intro R8 (And.intro N5 (And.intro K5 (And.intro K8 (And.intro HB5 (And.intro GC5 (And.intro G5 (And.intro one4 one27)))))))))
  clear R5 R8 N5 K5 K8 HB5 GC5 G5 hst HBD G GC C4 C27 H5 H8 L5 L8 B5 B8 G4 hk4 hb4 hk5 hb5 Q4 Q27 one4 one27
  go_wp2_with (first
    | ((with_reducible refine wpList_load_blk rfl 48 (.tmp 1) rfl g 48 ?l1 (o.cells v5 v8) _ ?l2 Tryd.underlying48 ?l3 ?l4 ?_); (case l1 => rfl); (case l2 => exact HA.out.2.2.2.2.2.2.2.1); (case l3 => rfl); (case l4 => exact infoO1))
    | ((with_reducible refine wpList_store_blk rfl 48 (.tmp 2) (.tmp 11) rfl gc 48 zz (o.cells v5 v8) ?c1 ?c2 ?c3 ?c4 ?c5 ?c6 ?_); (case c1 => rfl); (case c2 => rfl); (case c3 => exact HA.out.2.2.2.2.2.2.1); (case c4 => exact infoO1); (case c5 => exact Hzz.out); (case c6 => exact o.cells_one HA.out.2.2.2.2.2.2.2.2.1 HA.out.2.2.2.2.2.2.2.2.2); intro w6 BC' hk hb hz))
  refine bodyPost_ret (v := .agg (o.cells v5 v8)) (results_cell_row (p := 2) (ty := 48) rfl _ _ gc 48 (o.cells v5 v8) (0, 0) _ (by rfl) BC' Tryd.underlying48 rfl infoO1) rfl ?_
  refine ⟨v5, v8, rfl, ⟨v5, v8, rfl, Kd.R_mono (Kd.R_move HA.out.1 (fun k hk' => hk k (by have := HA.out.2.2.2.1 k hk'.symm; omega))) (fun k hk' => ⟨trivial, fun e => HA.out.2.2.1 k hk'.symm e.symm⟩), Kd.R_mono (Kd.R_move HA.out.2.1 (fun k hk' => hk k (by have := HA.out.2.2.2.2.1 k hk'.symm; omega))) (fun k hk' => ⟨trivial, fun e => HA.out.2.2.1 k e.symm hk'.symm⟩)⟩, hb _ _ HA.out.2.2.2.2.2.1 hgcw⟩
section
variable {P : Program}
theorem wpList_storeS {ops : Array Oper} {rest : List Oper} {op : Oper} {a : Act} {W : World} {Q : Exit → Act → World → Prop} (hgd : op.guard = none) (p x : Operand) (ho : op.op = .store 48 p x) (g i n cap N0 base : Nat) (xs : List Ob) (o : Ob) (cs : Array Value)
    (haddr : a.eval p = .pointer (some ⟨g, i * 32, none⟩)) (hx : a.eval x = .agg cs) (hinfo : (P.info? 48).map (·.size) = some 32) (hS : Kd.S kO 48 W base (fun k => k < N0) (.slice (some ⟨g, 0, none⟩) n cap) xs) (hi : i < n) (hM : kO.M W base (fun k => N0 ≤ k) o cs.toList)
    (h : ∀ w1, Kd.S kO 48 w1 base (fun _ => True) (.slice (some ⟨g, 0, none⟩) n cap) (xs.set i o) → W.grownBy w1 (some g) → wpList P ops Q rest (a.put op.dst undef) w1) : wpList P ops Q (op :: rest) a W := by
  have hcl := kO.K_len (kO.K_of_M hM)
  have hone := kO.K_one (kO.K_of_M hM)
  have hgN : g < N0 := by
    obtain ⟨f, h0, _⟩ := hS
    exact h0 g rfl
  obtain ⟨f, h0, inner, hown, hr⟩ := id hS
  rw [List.length_zipIdx] at hown
  have hS' : Kd.S kO 48 W base (fun k => True ∧ ¬ N0 ≤ k) (.slice (some ⟨g, 0, none⟩) n cap) xs := Kd.S_mono hS (fun k hk => ⟨trivial, by omega⟩)
  obtain ⟨oki, c, hc1, hM1, hcc, _, hoki, hH⟩ := Kd.S_elem hS' Ob.zero (i : Int) (Int.natCast_nonneg _) (by omega)
  have hsz : kO.sz = 32 := rfl
  have e : c.take 0 ++ cs.toList ++ c.drop (0 + cs.toList.length) = cs.toList := by
    rw [List.take_zero, List.nil_append, Nat.zero_add, hcl, ← hc1, List.drop_length, List.append_nil]
  obtain ⟨hs, hg⟩ := Kd.S_seg (okg := fun k => N0 ≤ k) hH (Int.natCast_nonneg _) (by omega) (seg := cs.toList) (j := 0) (by rw [hcl]; exact Nat.le_of_eq (Nat.zero_add _)) (x' := o) (okp := fun k => N0 ≤ k) (by rw [e]; exact hM) (fun k hk => Or.inr hk) (fun k hk => ⟨trivial, by omega⟩)
  rw [Int.toNat_natCast, hsz, Nat.add_zero] at hs hg
  refine wpList_plain hgd fun K hK => ?_
  rcases hown.2 with ⟨hv, _⟩ | ⟨g', cap', cur, hv, hb, hh, hnc, hcm, hcs, ht⟩
  · cases hv
  · injection hv with hv1 hv2 hv3
    injection hv1 with hv1
    injection hv1 with hv1
    subst hv1
    have hsz2 : (Kd.tag f kO).sz = 32 := rfl
    rw [hsz2] at hcs
    rw [hsz] at hcl
    have hst := run_store_run (P := P) (w := W) (g := g) (o := i * 32) 48 (.agg cs) cs.toList hh rfl (by rw [hcl]; exact hinfo) (by rw [hcl, hcs]; omega) hone
    unfold Oper.wp execOp
    simp only [ho, haddr, hx, hst, Sem.run_bind, Sem.run_pure, Result.andThen_ok]
    exact hK _ _ (h _ hs hg)
end
theorem kO_kn {w : World} {o : Ob} {cs : List Value} (h : kO.K w o cs) : knOf cs.toArray = o.kn := by
  obtain ⟨v4, v27, rfl, _⟩ := h
  simp only [Array.toArray_toList]
  rfl
theorem made_form {w1 : World} {base n : Nat} {v1 : Value} {W : World} (hS : Kd.S kO 48 w1 base (fun _ => True) v1 (List.replicate (n : Int).toNat Ob.zero)) (hat : ∃ b, v1.ownBlock = some b ∧ W.heap.size ≤ b) :
    ∃ g c, v1 = .slice (some ⟨g, 0, none⟩) n c ∧ Kd.S kO 48 w1 base (fun _ => True) (.slice (some ⟨g, 0, none⟩) n c) (List.replicate n Ob.zero) := by
  rw [Int.toNat_natCast] at hS
  obtain ⟨A, c, e⟩ := Kd.S_slice hS
  rw [List.length_replicate] at e
  subst e
  obtain ⟨b, hb, _⟩ := hat
  cases A with
  | none => simp [Value.ownBlock] at hb
  | some ad =>
    obtain ⟨g, rfl⟩ := Kd.R_head (Kd.S_R hS)
    exact ⟨g, c, rfl, hS⟩
theorem srt_round {w wr w4 w5 : World} {v : Value} {xs : List Ob} {o : Ob} {cs : List Value} (hS : Kd.S kO 48 wr w.heap.size (fun _ => True) v xs) (hB : Below w.heap.size w wr) (h4 : Below wr.heap.size wr w4) (h5 : Below w4.heap.size w4 w5) (hM : kO.M w5 w4.heap.size (fun _ => True) o cs) :
    Kd.S kO 48 w5 w.heap.size (fun k => k < wr.heap.size) v xs ∧ kO.M w5 w.heap.size (fun k => wr.heap.size ≤ k) o cs ∧ Below w.heap.size w w5 := by
  have h45 := belT h4 h5
  have h6 := h4.size
  have h7 := hB.size
  refine ⟨Kd.S_below (Kd.S_mono (Kd.S_bound hS) (fun k hk => hk.2.2.1)) h45, kO.M_lower (by omega) (kO.M_mono (fun k hk => by have := hk.2.1; omega) (kO.M_bound hM)), belT hB h45⟩
theorem srt_grown {w w5 w6 : World} {g : Nat} (h : Below w.heap.size w w5) (hg : w5.grownBy w6 (some g)) (hb : w.heap.size ≤ g) : Below w.heap.size w w6 :=
  ⟨hg.os.trans h.os, hg.tape.trans h.tape, hg.output.trans h.output, Nat.le_trans h.size hg.size, fun k hk => (hg.block k (Nat.lt_of_lt_of_le hk h.size) (fun e => by injection e with e; omega)).trans (h.block k hk)⟩
theorem zero_M (w : World) (base : Nat) : kO.M w base (fun _ => False) Ob.zero (Value.agg (Ob.zero.cells (.slice none 0 0) (.slice none 0 0))).cells.toList := ⟨_, _, rfl, Kd.R_nil _ _ _ _ _, Kd.R_nil _ _ _ _ _⟩
theorem fill_set {l : List Ob} {k n : Nat} {o : Ob} (hl : l.length = n) (hk : k < n) (ho : l[k]? = some o) : (l.take k ++ List.replicate (n - k) Ob.zero).set k o = l.take (k + 1) ++ List.replicate (n - (k + 1)) Ob.zero := by
  have hlk : (l.take k).length = k := by rw [List.length_take]; omega
  rw [List.set_append_right _ _ (by rw [hlk]; exact Nat.le_refl _), hlk, Nat.sub_self, show n - k = (n - (k + 1)) + 1 by omega, List.replicate_succ, List.set_cons_zero, List.take_add_one, ho]
  simp
set_option maxHeartbeats 4000000 in
set_option maxRecDepth 100000 in
theorem sorted_calls (A : Option Addr) (c n : Nat) (l : List Ob) (w : World) (hr : kO.C w A n l) (hl : l.length = n) (hn : n ≤ 1000000) (hf : ∀ o ∈ l, ObFits o) :
    Calls Tryd.prog 13 #[.slice A n c] w fun e w' => ∃ A' c', e = .returned (.slice A' n c') ∧ Kd.S kO 48 w' w.heap.size (fun _ => True) (.slice A' n c') (sortK l) ∧ Below w.heap.size w w' := by
  have HR := Lib.hid (And.intro hr (And.intro hl (And.intro hf (And.intro (zero_M w w.heap.size) (show (n : Int).toNat * 312 ≤ 281474976710656 by omega)))))
  clear hr hl hf
  go_enter Tryd.func13, Tryd.ntmps13
  go_wp2_with (first
    | ((with_reducible refine gate_ (.makeSlice 22 (.tmp 7) (.tmp 7)) rfl ?_); refine Kd.S_make kO (w0 := w) (W := w) w.heap.size 48 rfl (N := 8) rfl 22 (.tmp 7) (.tmp 7) rfl (n : Int) rfl rfl Tryd.underlying22 (.agg (Ob.zero.cells (.slice none 0 0) (.slice none 0 0))) 312 infoO rfl (by decide) (by decide) Ob.zero (ok := fun _ => True) (okp := fun _ => False) HR.out.2.2.2.1 (fun _ h => h.elim) trivial (Int.natCast_nonneg _) HR.out.2.2.2.2 (Below.refl _ _) (Nat.le_refl _) ?_; intro v1 w1 hS hB hg hat; obtain ⟨g, c3, hv1, hS1⟩ := made_form hS hat; have HS := Lib.hid (And.intro hS1 hB); clear hS hB hg hat hS1; subst hv1))
  go_loopw [11] (fun v11 wr => ∃ k : Nat, k ≤ n ∧ v11 = .int .i64 k ∧ Hid (Kd.S kO 48 wr w.heap.size (fun _ => True) (.slice (some ⟨g, 0, none⟩) n c3) (l.take k ++ List.replicate (n - k) Ob.zero) ∧ Below w.heap.size w wr)) (fun v11 _ => n - (intOf v11).toNat)
  case atStart => exact ⟨0, Nat.zero_le _, rfl, Lib.hid ⟨by simpa using HS.out.1, HS.out.2⟩⟩
  case round =>
    obtain ⟨k, hk, rfl, hI⟩ := hrel
    by_cases hkn : k < n
    · obtain ⟨o, ho⟩ : ∃ o, l[k]? = some o := ⟨_, List.getElem?_eq_getElem (by rw [HR.out.2.1]; exact hkn)⟩
      obtain ⟨ad, v4, v27, rfl, h4, h27, hcell0⟩ := obj_at (Kd.C_below HR.out.1 hI.out.2) k o ho
      have hlk : (k : Int) < (n : Int) := by omega
      have hone := o.cells_one (v4 := v4) (v27 := v27) h4.one h27.one
      obtain ⟨cs, hcs⟩ : ∃ cs, cs = o.cells v4 v27 := ⟨_, rfl⟩
      have QC := Lib.hid (fun W (hW : Below wr.heap.size wr W) => objClone_calls o v4 v27 W (h4.below hW) (h27.below hW) (HR.out.2.2.1 o (List.mem_of_getElem? ho)))
      rw [← hcs] at hcell0 hone
      have HO := Lib.hid (And.intro hcell0 (And.intro hone (And.intro (show cs.size = 32 by rw [hcs]; rfl) (And.intro hcs ho))))
      clear hcell0 hone hcs ho h4 h27
      go_wp2_with (first
        | ((with_reducible refine wpList_load_any rfl 48 (.tmp 14) rfl (ad.add (k * 32)) ?c1 cs _ ?c2 Tryd.underlying48 ?c3 ?c4 ?_); (case c1 => rfl); (case c2 => intro j u hu; rw [add_add]; exact HO.out.1 j u hu); (case c3 => rfl); (case c4 => rw [HO.out.2.2.1]; exact infoO1))
        | ((with_reducible refine wpList_store_blk rfl 48 (.tmp 5) (.tmp 15) rfl wr.heap.size 48 (Ob.zero.cells (.slice none 0 0) (.slice none 0 0)) cs ?s1 ?s2 ?s3 ?s4 ?s5 ?s6 ?_); (case s1 => rfl); (case s2 => rfl); (case s3 => exact heap_alloc_new _ _); (case s4 => rw [HO.out.2.2.1]; exact infoO1); (case s5 => rw [HO.out.2.2.1]; rfl); (case s6 => exact HO.out.2.1); intro w4 hG hk4 hb4 hz4; obtain ⟨g5, hg5⟩ : ∃ x, x = wr.heap.size := ⟨_, rfl⟩; rw [← hg5] at hG ⊢; have H4 := Lib.hid (And.intro hG (hb4 _ _ (below_alloc (Below.refl _ _) _) (Nat.le_refl _))); clear hG hk4 hb4 hz4 hg5)
        | ((with_reducible refine wpList_load_blk (op := ⟨some 18, _, _, _, _, _⟩) rfl 48 (.tmp 5) rfl g5 48 ?l1 cs _ ?l2 Tryd.underlying48 ?l3 ?l4 ?_); (case l1 => rfl); (case l2 => exact H4.out.1); (case l3 => rfl); (case l4 => rw [HO.out.2.2.1]; exact infoO1))
        | (go_at_call 42; rw [HO.out.2.2.2.1]; (with_reducible refine (QC.out _ H4.out.2).mono ?_); rintro e w5 ⟨u4, u27, rfl, hM, hb⟩; have H5 := Lib.hid (srt_round hI.out.1 hI.out.2 H4.out.2 hb hM); clear hM hb)
        | ((with_reducible refine wpList_storeS rfl (.tmp 20) (.tmp 19) rfl g k n c3 wr.heap.size w.heap.size (l.take k ++ List.replicate (n - k) Ob.zero) o (o.cells u4 u27) ?z1 ?z2 infoO1 H5.out.1 hkn H5.out.2.1 ?_); (case z1 => rfl); (case z2 => rfl); intro w6 hS6 hg6; rw [fill_set HR.out.2.1 hkn HO.out.2.2.2.2] at hS6; have H6 := Lib.hid (And.intro hS6 (srt_grown H5.out.2.2 hg6 (Kd.S_base hI.out.1 g rfl))); clear hS6 hg6))
      go_roundw
      case rel => exact ⟨k + 1, by omega, by go_num, H6⟩
      case measure => simp [intOf]; omega
    · obtain rfl : k = n := by omega
      have hS := hI.out.1
      rw [Nat.sub_self, List.replicate_zero, List.append_nil, List.take_of_length_le (Nat.le_of_eq HR.out.2.1)] at hS
      have QS := Lib.hid (sort_S kO rfl 44 IsObj cSa srt1_at cSa_cmp (fun a b => cS a.kn b.kn) hS (fun x cs hx hK => kO_is hK (HR.out.2.2.1 x hx)) (fun x y cs ds hx hy hK hK' => by unfold cSa; rw [kO_kn hK, kO_kn hK']) (by rw [HR.out.2.1]; omega))
      have HI := Lib.hid hI.out.2
      clear hS
      go_wp2_with (first
        | (go_at_call 43; (with_reducible refine QS.out.mono ?_); rintro e w7 ⟨⟨r7, rfl⟩, hS7, hB7, hz7, hk7⟩; have H7 := Lib.hid (And.intro hS7 (HI.out.trans hB7)); clear hS7 hB7 hz7 hk7))
      go_ret
      exact ⟨_, _, rfl, H7.out.1, H7.out.2⟩
end Go.Proofs.YtoepbjgldmgaoaaDoor

/- One struct laid into a new block, in a region that draws its order; a slice of objects cut off below. -/
namespace Go.Proofs.YtoepbjgldmgaoaaDoor
open Go.RowKit Go.Proofs.YtoepbjgldmgaoaaDoorW.PrintWords Go.Proofs.YtoepbjgldmgaoaaDoorW.PrintLast
section
variable {P : Program}
theorem build1_ {ops : Array Oper} {op : Oper} {N : Option Tmp} {a : Act} {w : World} {K : Act → World → Prop} {Q : Exit → Act → World → Prop} (hw : Region.wanted op (yielded ops a.tmps) = true) (hN : op.dst = N) (t e : TypeId) (x : Operand) (ho : op.op = .buildSlice t 1 #[(0, x)]) (cs : Array Value) (hx : a.eval x = .agg cs)
    (z : Value) (n bytes : Nat) (hu : P.underlying t = some (.slice e)) (hinfo : (P.info? e).map (fun i => (i.zero, i.size, i.bytes)) = some (some z, n, bytes)) (hs : cs.size = n) (h0 : 0 < n) (hn : n ≤ 1000) (hz : z.cells.size = n)
    (h : K (a.put N (.slice (some ⟨w.heap.size, 0, none⟩) 1 1)) (w.alloc (.cells cs e))) : if Region.wanted op (yielded ops a.tmps) = true then Oper.wp P op a w K Q else K (a.put N undef) w := by
  rw [if_pos hw]
  subst hN
  obtain ⟨i0, hi, hzz⟩ := Option.map_eq_some_iff.1 hinfo
  simp only [Prod.mk.injEq] at hzz
  obtain ⟨hz0, hz1, hz2⟩ := hzz
  refine wp_buildSlice t e 1 #[(0, x)] ho cs i0 z hu hi hz0 (by rw [hz1]; omega) (by rw [hz1]; omega) ?_ h
  have hf := Great.fill_whole (s := n) h0 [Value.agg cs] ((Array.range (1 * i0.size)).map (z.cells[· % z.cells.size]!)) (fun v hv => by rw [List.mem_singleton.1 hv]; exact hs) (by simp [hz1])
  rw [hz1] at hf ⊢
  simpa [hx, Value.cells] using hf
end
theorem cut_low (A : Option Addr) (n c m : Nat) (hm : m ≤ n) (hc : n ≤ c) :
    ∃ A' : Option Addr, (∀ W : World, (Instr.slice 22 (.slice A n c) (some (.int .i64 (m : Int))) none none).run Tryd.prog W = .ok (.slice A' (n - m) (c - m)) W) ∧
      ∀ (w : World) (xs : List Ob), xs.length = n → kO.C w A n xs → kO.C w A' (xs.drop m).length (xs.drop m) := by
  have ht := Tryd.underlying22
  obtain ⟨i0, hi, hzz⟩ := Option.map_eq_some_iff.1 infoO
  simp only [Prod.mk.injEq] at hzz
  obtain ⟨_, hz1, _⟩ := hzz
  refine ⟨if c = m then A else A.map (·.add (m * 32)), fun W => ?_, fun w xs hl h => ?_⟩
  · have hel : Tryd.prog.elem 22 = 48 := by simp [Program.elem, ht]
    have hu : Tryd.prog.underlying 22 = some (.slice (Tryd.prog.elem 22)) := by rw [hel]; exact ht
    rw [run_slice_l W 22 A n c hu .i64 (m : Int) (Int.natCast_nonneg _) (by omega), hel]
    simp [sizeOf, typeInfo, hi, hz1, sliced, Result.andThen]
  · subst hl
    exact Kd.C_drop (k := kO) h hm hc
end Go.Proofs.YtoepbjgldmgaoaaDoor

/- RankOrder walked: which pods end first is an order. -/
namespace Go.Proofs.YtoepbjgldmgaoaaDoor
open Go.RowKit Go.Proofs.YtoepbjgldmgaoaaDoorW.PrintWords Go.Proofs.YtoepbjgldmgaoaaDoorW.PrintLast
abbrev LessIs (x y : Array Value) (b : Bool) : Prop := ∀ w : World, Calls Tryd.prog 19 #[.agg x, .agg y] w fun e w' => e = .returned (.bool b) ∧ Below w.heap.size w w'
def rg6_6_T : Bool × List (List Nat × List Nat) := (true, [([], []), ([0], [0]), ([1], [1]), ([2], [2]), ([2], [2]), ([3, 4, 2, 2], [2, 3, 4]), ([2], [2]), ([2], [2]), ([6, 7, 5, 2], [2, 6, 7]), ([5, 8, 2], [2, 5, 8]), ([9, 8, 2], [2, 9]), ([10], [10]), ([10], [10]), ([11, 12, 10, 10], [10, 11, 12]), ([10], [10]), ([10], [10]), ([14, 15, 13, 10], [10, 14, 15]), ([13, 16, 10], [10, 13, 16]), ([10, 17, 2], [2, 10, 17]), ([2, 18], [2, 18]), ([19, 16, 0, 1, 2, 3, 4, 5, 6, 7, 8, 9, 10, 11, 12, 13, 14, 15, 16, 17, 18, 19], [19])])
def rg6_6_B : List Nat := [0, 1, 3, 7, 7, 31, 7, 7, 255, 511, 1023, 2047, 2047, 8191, 2047, 2047, 65535, 131071, 262143, 524287, 1048575]
structure PodV (x : Array Value) (p : PK) : Prop where
  pod : Pod x p.name p.born p.node p.phase p.ready
  fits : p.name.size ≤ 140737488351232
end Go.Proofs.YtoepbjgldmgaoaaDoor

/- RankFirst walked: fewer victims are the first ones of more, none that is left ends ahead of one of them; of those that run on a node the ready ones end last. -/
namespace Go.Proofs.YtoepbjgldmgaoaaDoor
open Go.RowKit Go.Proofs.YtoepbjgldmgaoaaDoorW.PrintWords Go.Proofs.YtoepbjgldmgaoaaDoorW.PrintLast
attribute [local go_sem] Go.Proofs.YtoepbjgldmgaoaaDoorW.PrintMore.max_two Go.Proofs.YtoepbjgldmgaoaaDoorW.PrintMore.min_two
def cO (a b : Ob) : Int := cV a.pk b.pk
def runs (o : Ob) : Prop := ¬ (o.node.toList = [] ∨ ¬ o.phase = 1)
def rg7_19_T : Bool × List (List Nat × List Nat) := (true, [([], []), ([], []), ([0, 1], [0, 1]), ([2], [2]), ([3], [3]), ([4], [4]), ([5], [5]), ([5], [5]), ([5], [5]), ([7, 8, 5], [5, 7, 8]), ([9, 5], [5, 9]), ([6, 10, 5, 5], [5, 6, 10]), ([11, 5], [5, 11]), ([5, 12], [5, 12]), ([13, 11], [13]), ([14], [14]), ([15, 14], [14, 15]), ([16, 14, 14], [14, 16]), ([17], [17]), ([17], [17]), ([18, 19, 17], [17, 18, 19]), ([20, 17], [17, 20]), ([17], [17]), ([17], [17]), ([23, 17], [17, 23]), ([22, 24, 17], [17, 22, 24]), ([25, 17], [17, 25]), ([21, 26, 17, 17], [17, 21, 26]), ([17, 27, 14], [14, 17, 27]), ([14, 28], [14, 28])])
def rg7_19_B : List Nat := [0, 0, 3, 7, 15, 31, 63, 63, 63, 447, 959, 2047, 4095, 8191, 16383, 32767, 65535, 131071, 262143, 262143, 1048575, 2097151, 262143, 262143, 8650751, 29622271, 63176703, 134217727, 268435455, 536870911]
end Go.Proofs.YtoepbjgldmgaoaaDoor

/- An object that is an argument, opened: the parts that rank.Less looks at. -/
namespace Go.Proofs.YtoepbjgldmgaoaaDoor
open Go.ChangeShapes Go.WideShapes Go.RowKit
end Go.Proofs.YtoepbjgldmgaoaaDoor

/- Objects, and lists of objects, that are arguments: opened. -/
namespace Go.Proofs.YtoepbjgldmgaoaaDoor
set_option maxRecDepth 100000
open Go.ChangeShapes Go.WideShapes Go.RowKit Go.Proofs.YtoepbjgldmgaoaaDoorW.PrintWords
theorem weights_mem_all {H : Type} {P : Program} {e : TypeId} : ∀ {ds : List (DataW H)} {j : Nat} {d : DataW H}, ds[j]? = some d → ∀ n ∈ d.weights P e, n ∈ DataW.weightsAll P e ds
  | [], _, _, h, _, _ => by simp at h
  | d0 :: ds, 0, d, h, n, hn => by
    obtain rfl : d0 = d := by simpa using h
    simp only [DataW.weightsAll, List.mem_append]
    exact .inl hn
  | d0 :: ds, j + 1, d, h, n, hn => by
    simp only [DataW.weightsAll, List.mem_append]
    exact .inr (weights_mem_all (by simpa using h) n hn)
section
variable {H : Type} {enc : TypeId × Value → H} {W : World} {base : Nat} {spare : Nat → Bool} {held : Bool}
set_option maxRecDepth 100000 in
theorem open_labels {fuel : Nat} {cs : List Value} {x : DataW H × List MemPlace} (hw : ∀ n ∈ x.1.weights Tryd.prog 43, n ≤ reachBytes) (h : DataW.trod enc Tryd.prog W base spare held fuel 43 cs = some x) :
    ∃ v l, cs = [v] ∧ LabK W l v ∧ l.length ≤ 4398046510976 := by
  rcases Deep.open_slice_pairs Tryd.underlying43 Tryd.underlying98 (by kernel_rfl) rfl rfl (by kernel_rfl) (by kernel_rfl) h with ⟨hcs, hx⟩ | ⟨a, len, cap, m, n, V0, V1, D0, D1, P0, P1, hcs, hb, hl, hm, hmm, hx, hc⟩
  · subst hcs
    exact ⟨_, [], rfl, ⟨none, 0, rfl, Nat.le_refl _, Kd.C_nil _ _⟩, by simp⟩
  · subst hcs
    subst hx
    have hlm : len ≤ m := by rw [hmm]; split <;> omega
    have z : (len + (m - len)) * Tryd.prog.bytesOf 98 ≤ reachBytes := hw _ (by
      unfold DataW.weights
      rw [Tryd.underlying43]
      simp)
    rw [show Tryd.prog.bytesOf 98 = 32 by kernel_rfl] at z
    have each : ∀ i, i < len → ∃ p : Lab, W.cell? (a.add (i * 2)) = some (.string p.f0) ∧ W.cell? (a.add (i * 2 + 1)) = some (.string p.f1) := by
      intro i hi
      obtain ⟨h1, h2, h3, h4⟩ := hc i (by omega)
      obtain ⟨a0, e0, _, _⟩ := DataW.trod_string Tryd.underlying9 h3
      obtain ⟨a1, e1, _, _⟩ := DataW.trod_string Tryd.underlying9 h4
      simp at e0 e1
      exact ⟨⟨a0, a1⟩, by rw [h1, e0], by rw [h2, e1]⟩
    haveI : Inhabited Lab := ⟨⟨ByteArray.empty, ByteArray.empty⟩⟩
    obtain ⟨f, hf'⟩ := Deep.choose_lt each
    have hlen : ((List.range len).map f).length = len := by simp
    unfold reachBytes at z
    refine ⟨_, (List.range len).map f, rfl, ⟨some a, cap, by rw [hlen], by rw [hlen]; exact hl, ?_⟩, by rw [hlen]; omega⟩
    rw [hlen]
    refine ⟨hlen, by omega, fun _ => ⟨a, rfl, fun j p hj => ?_⟩⟩
    have hjl : j < len := by have := (List.getElem?_eq_some_iff.1 hj).1; rw [hlen] at this; exact this
    have hp : f j = p := by simpa [List.getElem?_range hjl] using hj
    subst hp
    refine ⟨[.string (f j).f0, .string (f j).f1], rfl, QLb.k98_mk W (f j), fun i u hu => ?_⟩
    match i with
    | 0 => obtain rfl : Value.string (f j).f0 = u := by simpa using hu
           exact (hf' j hjl).1
    | 1 => obtain rfl : Value.string (f j).f1 = u := by simpa using hu
           exact (hf' j hjl).2
    | i + 2 => simp at hu
def Ob.ints (o : Ob) : List Int := [o.kind, o.version, o.born, o.roomC, o.roomM, o.beat, o.phase, o.needC, o.needM, o.rise, o.fall, o.count, o.surge, o.slack, o.least, o.term, o.till]
def ObInts (o : Ob) : Prop := ∀ z ∈ o.ints, -9223372036854775808 ≤ z ∧ z ≤ 9223372036854775807
set_option maxRecDepth 100000 in
set_option maxHeartbeats 1000000 in
theorem open_obj {fuel : Nat} {cs : List Value} {x : DataW H × List MemPlace} (hw : ∀ n ∈ x.1.weights Tryd.prog 48, n ≤ reachBytes) (h : DataW.trod enc Tryd.prog W base spare held fuel 48 cs = some x) :
    ∃ o v4 v27, cs = (o.cells v4 v27).toList ∧ LabK W o.labels v4 ∧ LabK W o.select v27 ∧ ObFits o ∧ ObInts o := by
  have hu := Tryd.underlying48
  obtain ⟨xs, m, _, hx, hlen, hl, hfd⟩ := DataW.trod_struct hu h
  rw [show Tryd.prog.cellsOf 48 = 32 by kernel_rfl] at hlen
  have hwd : ∀ (j : Nat) (t : TypeId) (y : DataW H × List MemPlace), xs[j]? = some y → (Program.underlying Tryd.prog 48).elim none (fun d => match d with | .struct fs => (fs.toList.map (·.type))[j]? | _ => none) = some t → ∀ n ∈ y.1.weights Tryd.prog t, n ≤ reachBytes := fun j t y hy ht n hn => hw n (by
    rw [hx]
    unfold DataW.weights
    rw [hu] at ht ⊢
    exact DataW.weights_mem_each (j := j) (t := t) (d := y.1) ht (by simp [hy]) n hn)
  rw [hu] at hwd
  have c1 : Tryd.prog.cellsOf 9 = 1 := by kernel_rfl
  have c2 : Tryd.prog.cellsOf 3 = 1 := by kernel_rfl
  have c3 : Tryd.prog.cellsOf 4 = 1 := by kernel_rfl
  have c4 : Tryd.prog.cellsOf 46 = 1 := by kernel_rfl
  have c5 : Tryd.prog.cellsOf 43 = 1 := by kernel_rfl
  have c6 : Tryd.prog.cellsOf 45 = 2 := by kernel_rfl
  have ex : ∀ j, j < 30 → ∃ y, xs[j]? = some y := fun j hj => ⟨_, List.getElem?_eq_getElem (by rw [hl]; exact hj)⟩
  have f0 : DataW.trod enc Tryd.prog W base spare held m 3 ((cs.drop 0).take (Tryd.prog.cellsOf 3)) = xs[0]? := hfd 0 _ rfl
  rw [c2] at f0
  obtain ⟨y0, e0⟩ := ex 0 (by omega)
  rw [e0] at f0
  clear e0
  have f1 : DataW.trod enc Tryd.prog W base spare held m 9 ((cs.drop 1).take (Tryd.prog.cellsOf 9)) = xs[1]? := hfd 1 _ rfl
  rw [c1] at f1
  obtain ⟨y1, e1⟩ := ex 1 (by omega)
  rw [e1] at f1
  have w1 := hwd 1 9 y1 e1 rfl
  clear e1
  have f2 : DataW.trod enc Tryd.prog W base spare held m 3 ((cs.drop 2).take (Tryd.prog.cellsOf 3)) = xs[2]? := hfd 2 _ rfl
  rw [c2] at f2
  obtain ⟨y2, e2⟩ := ex 2 (by omega)
  rw [e2] at f2
  clear e2
  have f3 : DataW.trod enc Tryd.prog W base spare held m 3 ((cs.drop 3).take (Tryd.prog.cellsOf 3)) = xs[3]? := hfd 3 _ rfl
  rw [c2] at f3
  obtain ⟨y3, e3⟩ := ex 3 (by omega)
  rw [e3] at f3
  clear e3
  have f4 : DataW.trod enc Tryd.prog W base spare held m 43 ((cs.drop 4).take (Tryd.prog.cellsOf 43)) = xs[4]? := hfd 4 _ rfl
  rw [c5] at f4
  obtain ⟨y4, e4⟩ := ex 4 (by omega)
  rw [e4] at f4
  have w4 := hwd 4 43 y4 e4 rfl
  clear e4
  have f5 : DataW.trod enc Tryd.prog W base spare held m 45 ((cs.drop 5).take (Tryd.prog.cellsOf 45)) = xs[5]? := hfd 5 _ rfl
  rw [c6] at f5
  obtain ⟨y5, e5⟩ := ex 5 (by omega)
  rw [e5] at f5
  clear e5
  have f6 : DataW.trod enc Tryd.prog W base spare held m 4 ((cs.drop 7).take (Tryd.prog.cellsOf 4)) = xs[6]? := hfd 6 _ rfl
  rw [c3] at f6
  obtain ⟨y6, e6⟩ := ex 6 (by omega)
  rw [e6] at f6
  clear e6
  have f7 : DataW.trod enc Tryd.prog W base spare held m 4 ((cs.drop 8).take (Tryd.prog.cellsOf 4)) = xs[7]? := hfd 7 _ rfl
  rw [c3] at f7
  obtain ⟨y7, e7⟩ := ex 7 (by omega)
  rw [e7] at f7
  clear e7
  have f8 : DataW.trod enc Tryd.prog W base spare held m 4 ((cs.drop 9).take (Tryd.prog.cellsOf 4)) = xs[8]? := hfd 8 _ rfl
  rw [c3] at f8
  obtain ⟨y8, e8⟩ := ex 8 (by omega)
  rw [e8] at f8
  clear e8
  have f9 : DataW.trod enc Tryd.prog W base spare held m 3 ((cs.drop 10).take (Tryd.prog.cellsOf 3)) = xs[9]? := hfd 9 _ rfl
  rw [c2] at f9
  obtain ⟨y9, e9⟩ := ex 9 (by omega)
  rw [e9] at f9
  clear e9
  have f10 : DataW.trod enc Tryd.prog W base spare held m 9 ((cs.drop 11).take (Tryd.prog.cellsOf 9)) = xs[10]? := hfd 10 _ rfl
  rw [c1] at f10
  obtain ⟨y10, e10⟩ := ex 10 (by omega)
  rw [e10] at f10
  have w10 := hwd 10 9 y10 e10 rfl
  clear e10
  have f11 : DataW.trod enc Tryd.prog W base spare held m 9 ((cs.drop 12).take (Tryd.prog.cellsOf 9)) = xs[11]? := hfd 11 _ rfl
  rw [c1] at f11
  obtain ⟨y11, e11⟩ := ex 11 (by omega)
  rw [e11] at f11
  have w11 := hwd 11 9 y11 e11 rfl
  clear e11
  have f12 : DataW.trod enc Tryd.prog W base spare held m 9 ((cs.drop 13).take (Tryd.prog.cellsOf 9)) = xs[12]? := hfd 12 _ rfl
  rw [c1] at f12
  obtain ⟨y12, e12⟩ := ex 12 (by omega)
  rw [e12] at f12
  have w12 := hwd 12 9 y12 e12 rfl
  clear e12
  have f13 : DataW.trod enc Tryd.prog W base spare held m 3 ((cs.drop 14).take (Tryd.prog.cellsOf 3)) = xs[13]? := hfd 13 _ rfl
  rw [c2] at f13
  obtain ⟨y13, e13⟩ := ex 13 (by omega)
  rw [e13] at f13
  clear e13
  have f14 : DataW.trod enc Tryd.prog W base spare held m 4 ((cs.drop 15).take (Tryd.prog.cellsOf 4)) = xs[14]? := hfd 14 _ rfl
  rw [c3] at f14
  obtain ⟨y14, e14⟩ := ex 14 (by omega)
  rw [e14] at f14
  clear e14
  have f15 : DataW.trod enc Tryd.prog W base spare held m 4 ((cs.drop 16).take (Tryd.prog.cellsOf 4)) = xs[15]? := hfd 15 _ rfl
  rw [c3] at f15
  obtain ⟨y15, e15⟩ := ex 15 (by omega)
  rw [e15] at f15
  clear e15
  have f16 : DataW.trod enc Tryd.prog W base spare held m 45 ((cs.drop 17).take (Tryd.prog.cellsOf 45)) = xs[16]? := hfd 16 _ rfl
  rw [c6] at f16
  obtain ⟨y16, e16⟩ := ex 16 (by omega)
  rw [e16] at f16
  clear e16
  have f17 : DataW.trod enc Tryd.prog W base spare held m 9 ((cs.drop 19).take (Tryd.prog.cellsOf 9)) = xs[17]? := hfd 17 _ rfl
  rw [c1] at f17
  obtain ⟨y17, e17⟩ := ex 17 (by omega)
  rw [e17] at f17
  have w17 := hwd 17 9 y17 e17 rfl
  clear e17
  have f18 : DataW.trod enc Tryd.prog W base spare held m 3 ((cs.drop 20).take (Tryd.prog.cellsOf 3)) = xs[18]? := hfd 18 _ rfl
  rw [c2] at f18
  obtain ⟨y18, e18⟩ := ex 18 (by omega)
  rw [e18] at f18
  clear e18
  have f19 : DataW.trod enc Tryd.prog W base spare held m 3 ((cs.drop 21).take (Tryd.prog.cellsOf 3)) = xs[19]? := hfd 19 _ rfl
  rw [c2] at f19
  obtain ⟨y19, e19⟩ := ex 19 (by omega)
  rw [e19] at f19
  clear e19
  have f20 : DataW.trod enc Tryd.prog W base spare held m 3 ((cs.drop 22).take (Tryd.prog.cellsOf 3)) = xs[20]? := hfd 20 _ rfl
  rw [c2] at f20
  obtain ⟨y20, e20⟩ := ex 20 (by omega)
  rw [e20] at f20
  clear e20
  have f21 : DataW.trod enc Tryd.prog W base spare held m 3 ((cs.drop 23).take (Tryd.prog.cellsOf 3)) = xs[21]? := hfd 21 _ rfl
  rw [c2] at f21
  obtain ⟨y21, e21⟩ := ex 21 (by omega)
  rw [e21] at f21
  clear e21
  have f22 : DataW.trod enc Tryd.prog W base spare held m 3 ((cs.drop 24).take (Tryd.prog.cellsOf 3)) = xs[22]? := hfd 22 _ rfl
  rw [c2] at f22
  obtain ⟨y22, e22⟩ := ex 22 (by omega)
  rw [e22] at f22
  clear e22
  have f23 : DataW.trod enc Tryd.prog W base spare held m 4 ((cs.drop 25).take (Tryd.prog.cellsOf 4)) = xs[23]? := hfd 23 _ rfl
  rw [c3] at f23
  obtain ⟨y23, e23⟩ := ex 23 (by omega)
  rw [e23] at f23
  clear e23
  have f24 : DataW.trod enc Tryd.prog W base spare held m 46 ((cs.drop 26).take (Tryd.prog.cellsOf 46)) = xs[24]? := hfd 24 _ rfl
  rw [c4] at f24
  obtain ⟨y24, e24⟩ := ex 24 (by omega)
  rw [e24] at f24
  clear e24
  have f25 : DataW.trod enc Tryd.prog W base spare held m 43 ((cs.drop 27).take (Tryd.prog.cellsOf 43)) = xs[25]? := hfd 25 _ rfl
  rw [c5] at f25
  obtain ⟨y25, e25⟩ := ex 25 (by omega)
  rw [e25] at f25
  have w25 := hwd 25 43 y25 e25 rfl
  clear e25
  have f26 : DataW.trod enc Tryd.prog W base spare held m 3 ((cs.drop 28).take (Tryd.prog.cellsOf 3)) = xs[26]? := hfd 26 _ rfl
  rw [c2] at f26
  obtain ⟨y26, e26⟩ := ex 26 (by omega)
  rw [e26] at f26
  clear e26
  have f27 : DataW.trod enc Tryd.prog W base spare held m 9 ((cs.drop 29).take (Tryd.prog.cellsOf 9)) = xs[27]? := hfd 27 _ rfl
  rw [c1] at f27
  obtain ⟨y27, e27⟩ := ex 27 (by omega)
  rw [e27] at f27
  have w27 := hwd 27 9 y27 e27 rfl
  clear e27
  have f28 : DataW.trod enc Tryd.prog W base spare held m 3 ((cs.drop 30).take (Tryd.prog.cellsOf 3)) = xs[28]? := hfd 28 _ rfl
  rw [c2] at f28
  obtain ⟨y28, e28⟩ := ex 28 (by omega)
  rw [e28] at f28
  clear e28
  have f29 : DataW.trod enc Tryd.prog W base spare held m 3 ((cs.drop 31).take (Tryd.prog.cellsOf 3)) = xs[29]? := hfd 29 _ rfl
  rw [c2] at f29
  obtain ⟨y29, e29⟩ := ex 29 (by omega)
  rw [e29] at f29
  clear e29
  clear hwd hw hx hfd ex h
  match cs, hlen with
  | [c0, c1, c2, c3, c4, c5, c6, c7, c8, c9, c10, c11, c12, c13, c14, c15, c16, c17, c18, c19, c20, c21, c22, c23, c24, c25, c26, c27, c28, c29, c30, c31], _ =>
    simp only [List.drop_succ_cons, List.drop_zero, List.take_succ_cons, List.take_zero] at f0
    obtain ⟨g0, h0, _, b0⟩ := DataW.trod_int Tryd.underlying3 f0
    obtain rfl : c0 = _ := by simpa using h0
    simp only [List.drop_succ_cons, List.drop_zero, List.take_succ_cons, List.take_zero] at f1
    obtain ⟨g1, h1, x1, _⟩ := DataW.trod_string Tryd.underlying9 f1
    obtain rfl : c1 = _ := by simpa using h1
    simp only [List.drop_succ_cons, List.drop_zero, List.take_succ_cons, List.take_zero] at f2
    obtain ⟨g2, h2, _, b2⟩ := DataW.trod_int Tryd.underlying3 f2
    obtain rfl : c2 = _ := by simpa using h2
    simp only [List.drop_succ_cons, List.drop_zero, List.take_succ_cons, List.take_zero] at f3
    obtain ⟨g3, h3, _, b3⟩ := DataW.trod_int Tryd.underlying3 f3
    obtain rfl : c3 = _ := by simpa using h3
    simp only [List.drop_succ_cons, List.drop_zero, List.take_succ_cons, List.take_zero] at f4
    obtain ⟨g4, l4, h4, K4, z4⟩ := open_labels w4 f4
    obtain rfl : c4 = _ := by simpa using h4
    simp only [List.drop_succ_cons, List.drop_zero, List.take_succ_cons, List.take_zero] at f5
    obtain ⟨p5, q5, m5, _, _, s5, t5⟩ := trod_struct2 Tryd.underlying45 f5
    simp only [c2, List.drop_succ_cons, List.drop_zero, List.take_succ_cons, List.take_zero] at s5 t5
    obtain ⟨g5, h5, _, b5⟩ := DataW.trod_int Tryd.underlying3 s5
    obtain ⟨g5', h5', _, b5'⟩ := DataW.trod_int Tryd.underlying3 t5
    obtain rfl : c5 = _ := by simpa using h5
    obtain rfl : c6 = _ := by simpa using h5'
    simp only [List.drop_succ_cons, List.drop_zero, List.take_succ_cons, List.take_zero] at f6
    obtain ⟨g6, h6, _⟩ := DataW.trod_bool Tryd.underlying4 f6
    obtain rfl : c7 = _ := by simpa using h6
    simp only [List.drop_succ_cons, List.drop_zero, List.take_succ_cons, List.take_zero] at f7
    obtain ⟨g7, h7, _⟩ := DataW.trod_bool Tryd.underlying4 f7
    obtain rfl : c8 = _ := by simpa using h7
    simp only [List.drop_succ_cons, List.drop_zero, List.take_succ_cons, List.take_zero] at f8
    obtain ⟨g8, h8, _⟩ := DataW.trod_bool Tryd.underlying4 f8
    obtain rfl : c9 = _ := by simpa using h8
    simp only [List.drop_succ_cons, List.drop_zero, List.take_succ_cons, List.take_zero] at f9
    obtain ⟨g9, h9, _, b9⟩ := DataW.trod_int Tryd.underlying3 f9
    obtain rfl : c10 = _ := by simpa using h9
    simp only [List.drop_succ_cons, List.drop_zero, List.take_succ_cons, List.take_zero] at f10
    obtain ⟨g10, h10, x10, _⟩ := DataW.trod_string Tryd.underlying9 f10
    obtain rfl : c11 = _ := by simpa using h10
    simp only [List.drop_succ_cons, List.drop_zero, List.take_succ_cons, List.take_zero] at f11
    obtain ⟨g11, h11, x11, _⟩ := DataW.trod_string Tryd.underlying9 f11
    obtain rfl : c12 = _ := by simpa using h11
    simp only [List.drop_succ_cons, List.drop_zero, List.take_succ_cons, List.take_zero] at f12
    obtain ⟨g12, h12, x12, _⟩ := DataW.trod_string Tryd.underlying9 f12
    obtain rfl : c13 = _ := by simpa using h12
    simp only [List.drop_succ_cons, List.drop_zero, List.take_succ_cons, List.take_zero] at f13
    obtain ⟨g13, h13, _, b13⟩ := DataW.trod_int Tryd.underlying3 f13
    obtain rfl : c14 = _ := by simpa using h13
    simp only [List.drop_succ_cons, List.drop_zero, List.take_succ_cons, List.take_zero] at f14
    obtain ⟨g14, h14, _⟩ := DataW.trod_bool Tryd.underlying4 f14
    obtain rfl : c15 = _ := by simpa using h14
    simp only [List.drop_succ_cons, List.drop_zero, List.take_succ_cons, List.take_zero] at f15
    obtain ⟨g15, h15, _⟩ := DataW.trod_bool Tryd.underlying4 f15
    obtain rfl : c16 = _ := by simpa using h15
    simp only [List.drop_succ_cons, List.drop_zero, List.take_succ_cons, List.take_zero] at f16
    obtain ⟨p16, q16, m16, _, _, s16, t16⟩ := trod_struct2 Tryd.underlying45 f16
    simp only [c2, List.drop_succ_cons, List.drop_zero, List.take_succ_cons, List.take_zero] at s16 t16
    obtain ⟨g16, h16, _, b16⟩ := DataW.trod_int Tryd.underlying3 s16
    obtain ⟨g16', h16', _, b16'⟩ := DataW.trod_int Tryd.underlying3 t16
    obtain rfl : c17 = _ := by simpa using h16
    obtain rfl : c18 = _ := by simpa using h16'
    simp only [List.drop_succ_cons, List.drop_zero, List.take_succ_cons, List.take_zero] at f17
    obtain ⟨g17, h17, x17, _⟩ := DataW.trod_string Tryd.underlying9 f17
    obtain rfl : c19 = _ := by simpa using h17
    simp only [List.drop_succ_cons, List.drop_zero, List.take_succ_cons, List.take_zero] at f18
    obtain ⟨g18, h18, _, b18⟩ := DataW.trod_int Tryd.underlying3 f18
    obtain rfl : c20 = _ := by simpa using h18
    simp only [List.drop_succ_cons, List.drop_zero, List.take_succ_cons, List.take_zero] at f19
    obtain ⟨g19, h19, _, b19⟩ := DataW.trod_int Tryd.underlying3 f19
    obtain rfl : c21 = _ := by simpa using h19
    simp only [List.drop_succ_cons, List.drop_zero, List.take_succ_cons, List.take_zero] at f20
    obtain ⟨g20, h20, _, b20⟩ := DataW.trod_int Tryd.underlying3 f20
    obtain rfl : c22 = _ := by simpa using h20
    simp only [List.drop_succ_cons, List.drop_zero, List.take_succ_cons, List.take_zero] at f21
    obtain ⟨g21, h21, _, b21⟩ := DataW.trod_int Tryd.underlying3 f21
    obtain rfl : c23 = _ := by simpa using h21
    simp only [List.drop_succ_cons, List.drop_zero, List.take_succ_cons, List.take_zero] at f22
    obtain ⟨g22, h22, _, b22⟩ := DataW.trod_int Tryd.underlying3 f22
    obtain rfl : c24 = _ := by simpa using h22
    simp only [List.drop_succ_cons, List.drop_zero, List.take_succ_cons, List.take_zero] at f23
    obtain ⟨g23, h23, _⟩ := DataW.trod_bool Tryd.underlying4 f23
    obtain rfl : c25 = _ := by simpa using h23
    simp only [List.drop_succ_cons, List.drop_zero, List.take_succ_cons, List.take_zero] at f24
    obtain ⟨g24, h24, _, b24⟩ := DataW.trod_int Tryd.underlying46 f24
    obtain rfl : c26 = _ := by simpa using h24
    simp only [List.drop_succ_cons, List.drop_zero, List.take_succ_cons, List.take_zero] at f25
    obtain ⟨g25, l25, h25, K25, z25⟩ := open_labels w25 f25
    obtain rfl : c27 = _ := by simpa using h25
    simp only [List.drop_succ_cons, List.drop_zero, List.take_succ_cons, List.take_zero] at f26
    obtain ⟨g26, h26, _, b26⟩ := DataW.trod_int Tryd.underlying3 f26
    obtain rfl : c28 = _ := by simpa using h26
    simp only [List.drop_succ_cons, List.drop_zero, List.take_succ_cons, List.take_zero] at f27
    obtain ⟨g27, h27, x27, _⟩ := DataW.trod_string Tryd.underlying9 f27
    obtain rfl : c29 = _ := by simpa using h27
    simp only [List.drop_succ_cons, List.drop_zero, List.take_succ_cons, List.take_zero] at f28
    obtain ⟨g28, h28, _, b28⟩ := DataW.trod_int Tryd.underlying3 f28
    obtain rfl : c30 = _ := by simpa using h28
    simp only [List.drop_succ_cons, List.drop_zero, List.take_succ_cons, List.take_zero] at f29
    obtain ⟨g29, h29, _, b29⟩ := DataW.trod_int Tryd.underlying3 f29
    obtain rfl : c31 = _ := by simpa using h29
    refine ⟨⟨g0, g1, g2, g3, l4, g5, g5', g6, g7, g8, g9, g10, g11, g12, g13, g14, g15, g16, g16', g17, g18, g19, g20, g21, g22, g23, g24, l25, g26, g27, g28, g29⟩, c4, c27, rfl, K4, K25, ⟨?_, z4, z25⟩, ?_⟩
    · have hz : g1.data.toList.length ≤ reachBytes := w1 _ (by rw [x1]; simp [DataW.weights])
      rw [Array.length_toList] at hz
      exact hz
    · intro z hz
      simp only [Ob.ints, List.mem_cons, List.not_mem_nil, or_false] at hz
      rcases hz with rfl | rfl | rfl | rfl | rfl | rfl | rfl | rfl | rfl | rfl | rfl | rfl | rfl | rfl | rfl | rfl | rfl
      all_goals (first | exact bounds_i64 b0 | exact bounds_i64 b2 | exact bounds_i64 b3 | exact bounds_i64 b5 | exact bounds_i64 b5' | exact bounds_i64 b9 | exact bounds_i64 b13 | exact bounds_i64 b16 | exact bounds_i64 b16' | exact bounds_i64 b18 | exact bounds_i64 b19 | exact bounds_i64 b20 | exact bounds_i64 b21 | exact bounds_i64 b22 | exact bounds_i64 b26 | exact bounds_i64 b28 | exact bounds_i64 b29)
set_option maxRecDepth 100000 in
theorem open_objs {fuel : Nat} {cs : List Value} {x : DataW H × List MemPlace} (hw : ∀ n ∈ x.1.weights Tryd.prog 22, n ≤ reachBytes) (h : DataW.trod enc Tryd.prog W base spare held fuel 22 cs = some x) :
    ∃ A c l, cs = [.slice A l.length c] ∧ l.length ≤ c ∧ kO.C W A l.length l ∧ (∀ o ∈ l, ObFits o ∧ ObInts o) ∧ l.length * 312 ≤ 140737488351232 := by
  rcases Deep.open_slice Tryd.underlying22 h with ⟨hcs, hx⟩ | ⟨a, len, cap, m, n, D, Pl, hcs, hb, hl, hm, hmm, hx, hc⟩
  · subst hcs
    exact ⟨none, 0, [], rfl, Nat.le_refl _, Kd.C_nil _ _, fun o ho => absurd ho List.not_mem_nil, by simp⟩
  · subst hcs
    subst hx
    have hlm : len ≤ m := by rw [hmm]; split <;> omega
    have z : (len + (m - len)) * Tryd.prog.bytesOf 48 ≤ reachBytes := hw _ (by
      unfold DataW.weights
      rw [Tryd.underlying22]
      simp)
    rw [show Tryd.prog.bytesOf 48 = 312 by kernel_rfl] at z
    unfold reachBytes at z
    have each : ∀ i, i < len → ∃ q : Ob × Value × Value, LabK W q.1.labels q.2.1 ∧ LabK W q.1.select q.2.2 ∧ (∀ j u, (q.1.cells q.2.1 q.2.2)[j]? = some u → W.cell? (a.add (i * 32 + j)) = some u) ∧ ObFits q.1 ∧ ObInts q.1 := by
      intro i hi
      obtain ⟨cs', h1, h2⟩ := hc i (by omega)
      rw [show Tryd.prog.cellsOf 48 = 32 by kernel_rfl] at h1
      obtain ⟨_, hlen, hcell⟩ := World.cells?_some h1
      obtain ⟨o, v4, v27, rfl, k4, k27, hf, hi'⟩ := open_obj (x := (D i, Pl i)) (fun n hn => hw n (by
        unfold DataW.weights
        rw [Tryd.underlying22]
        refine List.mem_cons_of_mem _ (List.mem_append.2 (.inl ?_))
        exact weights_mem_all (j := i) (d := D i) (by simp [hi]) n hn)) h2
      refine ⟨(o, v4, v27), k4, k27, fun j u hu => ?_, hf, hi'⟩
      have hj : j < 32 := by
        have := (Array.getElem?_eq_some_iff.1 hu).1
        rwa [Ob.cells_size] at this
      have := hcell j hj
      rw [add_add] at this
      rw [this]
      simpa using hu
    haveI : Inhabited (Ob × Value × Value) := ⟨(Ob.zero, .slice none 0 0, .slice none 0 0)⟩
    obtain ⟨f, hf'⟩ := Deep.choose_lt each
    have hlen : ((List.range len).map fun i => (f i).1).length = len := by simp
    refine ⟨some a, cap, (List.range len).map fun i => (f i).1, by rw [hlen], by rw [hlen]; exact hl, ?_, ?_, by rw [hlen]; omega⟩
    · rw [hlen]
      refine ⟨hlen, by omega, fun _ => ⟨a, rfl, fun j p hj => ?_⟩⟩
      have hjl : j < len := by have := (List.getElem?_eq_some_iff.1 hj).1; rw [hlen] at this; exact this
      have hp : (f j).1 = p := by simpa [List.getElem?_range hjl] using hj
      subst hp
      obtain ⟨k4, k27, hcell, _, _⟩ := hf' j hjl
      exact ⟨((f j).1.cells (f j).2.1 (f j).2.2).toList, by rw [Array.length_toList, Ob.cells_size]; rfl, ⟨_, _, rfl, k4, k27⟩, fun i u hu => hcell i u (by simpa using hu)⟩
    · intro o ho
      obtain ⟨j, hj, rfl⟩ := List.mem_map.1 ho
      exact ⟨(hf' j (List.mem_range.1 hj)).2.2.2.1, (hf' j (List.mem_range.1 hj)).2.2.2.2⟩
theorem open_objsV {v : Value} {d : DataW H} {ps : List MemPlace} (hval : ∃ a len cap, v = .slice a len cap) (hw : ∀ n ∈ d.weights Tryd.prog 22, n ≤ reachBytes) (h : DataW.Trod enc Tryd.prog W base spare held 22 v d ps) :
    ∃ A c l, v = .slice A l.length c ∧ l.length ≤ c ∧ kO.C W A l.length l ∧ (∀ o ∈ l, ObFits o ∧ ObInts o) ∧ l.length * 312 ≤ 140737488351232 := by
  obtain ⟨a, len, cap, rfl⟩ := hval
  obtain ⟨fuel, hf⟩ := h
  obtain ⟨A, c, l, e, h1, h2, h3, h4⟩ := open_objs (x := (d, ps)) hw hf
  simp [Value.cells] at e
  obtain ⟨rfl, rfl, rfl⟩ := e
  exact ⟨_, _, l, rfl, h1, h2, h3, h4⟩
end
end Go.Proofs.YtoepbjgldmgaoaaDoor

/- flotillaref24.Victims: each object that isn't ending is put in from behind; the first ones of them. -/
namespace Go.Proofs.YtoepbjgldmgaoaaDoor
open Go.RowKit Go.Proofs.YtoepbjgldmgaoaaDoorW.PrintWords Go.Proofs.YtoepbjgldmgaoaaDoorW.PrintLast
attribute [local go_sem] Go.Proofs.YtoepbjgldmgaoaaDoorW.PrintMore.max_two Go.Proofs.YtoepbjgldmgaoaaDoorW.PrintMore.min_two
theorem lab_ne_obj {w : World} {k : Nat} (h : ∃ cells, w.heap[k]? = some (.cells cells 98 (0, 0))) (g : ∃ cells, w.heap[k]? = some (.cells cells 48 (0, 0))) : False := by
  obtain ⟨a, ha⟩ := h
  obtain ⟨b, hb⟩ := g
  rw [ha] at hb
  injection hb with hb
  injection hb with _ hb
  exact absurd hb (by decide)
theorem ref_rows {wo w4 w5 w6 : World} {base : Nat} {A5 : Option Addr} {t c5 : Nat} {acc ys : List Ob} {v8 : Value} (hR : kO.R 48 wo base (fun _ => True) (.slice A5 acc.length c5) acc) (hV : kO.R 48 w4 wo.heap.size (fun _ => True) v8 ys) (hb : Below w4.heap.size w4 w5)
    (hg : w5.grownBy w6 (Value.slice A5 t c5).ownBlock) (hbase : base ≤ wo.heap.size) :
    ∃ A c, v8 = .slice A ys.length c ∧ ReadsRow (fun x cs => kO.M w6 base (fun k => ∃ cells, w6.heap[k]? = some (.cells cells 98 (0, 0))) x cs) kO.sz w6 A ys.length ys := by
  have h5 : kO.R 48 w5 wo.heap.size (fun k => wo.heap.size ≤ k ∧ k < w5.heap.size) v8 ys := Kd.R_mono (Kd.R_bound (Kd.R_below hV hb)) (fun k hk => ⟨hk.2.1, hk.2.2.1⟩)
  have hne : ∀ k, wo.heap.size ≤ k → some k ≠ (Value.slice A5 t c5).ownBlock := fun k hk e => by
    have := Kd.R_lt hR k (by rw [e]; cases A5 <;> rfl)
    omega
  have h6 : kO.R 48 w6 wo.heap.size (fun k => wo.heap.size ≤ k ∧ k < w5.heap.size) v8 ys := Kd.R_move h5 (fun k hk => hg.block k hk.2 (hne k hk.1))
  obtain ⟨h0, inner, ho, hr⟩ := h6
  obtain ⟨A, c, e, hrow⟩ := own_reads_row ho (hr.imp_ (fun p cs hp => kO.M_mono (ok' := fun k => ∃ cells, w6.heap[k]? = some (.cells cells 98 (0, 0))) (fun k hk => by
    obtain ⟨_, _, _, q, hq, cells, hc⟩ := hk
    obtain rfl : q = 98 := by simpa [kO] using hq
    exact ⟨cells, hc⟩) (kO.M_lower hbase (kO.M_bound hp)))) rfl
  exact ⟨A, c, e, hrow⟩
def rg22_7_T : Bool × List (List Nat × List Nat) := (true, [([], []), ([0], [0]), ([1], [1]), ([2], [2]), ([2], [2]), ([3, 4, 2], [2, 3, 4]), ([5, 2], [2, 5]), ([2], [2]), ([2], [2]), ([8, 2], [2, 8]), ([7, 9, 2], [2, 7, 9]), ([10, 2], [2, 10]), ([6, 11, 2, 2], [2, 6, 11]), ([2, 12], [2, 12])])
def rg22_7_B : List Nat := [0, 1, 3, 7, 7, 31, 63, 7, 7, 263, 903, 1927, 4095, 8191]
def rg22_10_T : Bool × List (List Nat × List Nat) := (true, [([], []), ([], []), ([0, 1], [0, 1]), ([], []), ([], []), ([3, 4], [3, 4]), ([5], [5]), ([6], [6]), ([7], [7]), ([2, 8, 7], [2, 8]), ([9, 9, 0, 1, 2, 3, 4, 5, 6, 7, 8, 9], [0, 9])])
def rg22_10_B : List Nat := [0, 0, 3, 0, 0, 24, 56, 120, 248, 511, 1023]
end Go.Proofs.YtoepbjgldmgaoaaDoor

/- flotillaref08.Sorted: each object is put in from behind, by kind and name. -/
namespace Go.Proofs.YtoepbjgldmgaoaaDoor
open Go.RowKit Go.Proofs.YtoepbjgldmgaoaaDoorW.PrintWords Go.Proofs.YtoepbjgldmgaoaaDoorW.PrintLast
attribute [local go_sem] Go.Proofs.YtoepbjgldmgaoaaDoorW.PrintMore.max_two Go.Proofs.YtoepbjgldmgaoaaDoorW.PrintMore.min_two
def cSO (o p : Ob) : Int := cS o.kn p.kn
theorem cSO_cmp : Wc.IsCmp cSO := cS_cmp.on Ob.kn
theorem below_obj {o p : Ob} {v4 v27 u4 u27 : Value} (ho : ObFits o) (hp : ObFits p) (w : World) :
    Calls Tryd.prog 48 #[.agg (o.cells v4 v27), .agg (p.cells u4 u27)] w fun e w' => e = .returned (.bool (decide (cSO o p < 0))) ∧ Below w.heap.size w w' := below_calls o p v4 v27 u4 u27 ho.1 hp.1 w
def rg14_6_T : Bool × List (List Nat × List Nat) := (true, [([], []), ([0], [0]), ([1], [1]), ([2], [2]), ([2], [2]), ([3, 4, 2], [2, 3, 4]), ([5, 2], [2, 5]), ([2], [2]), ([2], [2]), ([8, 2], [2, 8]), ([7, 9, 2], [2, 7, 9]), ([10, 2], [2, 10]), ([6, 11, 2, 2], [2, 6, 11]), ([2, 12], [2, 12])])
def rg14_6_B : List Nat := [0, 1, 3, 7, 7, 31, 63, 7, 7, 263, 903, 1927, 4095, 8191]
theorem rg14_6_tab : rtab .any (opsOf Tryd.f14 6) = rg14_6_T := by kernel_rfl
theorem rg14_6_bits : waitsOk rg14_6_T.2 rg14_6_B = true := by kernel_rfl
def rg14_9_T : Bool × List (List Nat × List Nat) := (true, [([], []), ([], []), ([0, 1], [0, 1]), ([], []), ([], []), ([3, 4], [3, 4]), ([5], [5]), ([6], [6]), ([7], [7]), ([2, 8, 7], [2, 8]), ([9, 9, 0, 1, 2, 3, 4, 5, 6, 7, 8, 9], [0, 9])])
def rg14_9_B : List Nat := [0, 0, 3, 0, 0, 24, 56, 120, 248, 511, 1023]
theorem rg14_9_tab : rtab .any (opsOf Tryd.f14 9) = rg14_9_T := by kernel_rfl
theorem rg14_9_bits : waitsOk rg14_9_T.2 rg14_9_B = true := by kernel_rfl
set_option maxHeartbeats 8000000 in
set_option maxRecDepth 100000 in
theorem refSorted_calls (A : Option Addr) (c n : Nat) (l : List Ob) (w : World) (hr : kO.C w A l.length l) (hln : l.length = n) (hn : n ≤ 1000000) (hf : ∀ o ∈ l, ObFits o) :
    Calls Tryd.prog 14 #[.slice A n c] w fun e w' => ∃ A' c', e = .returned (.slice A' n c') ∧ n ≤ c' ∧ kO.C w' A' n (sortK l) ∧ Below w.heap.size w w' := by
  have HR := Lib.hid hr
  have HFl := Lib.hid hf
  have HL := Lib.hid (And.intro hln trivial)
  clear hr hln hf
  go_enter Tryd.func14, Tryd.ntmps14
  go_wp2
  go_loopw [3, 4] (fun v5 v6 wr => ∃ i : Nat, i ≤ n ∧ v6 = .int .i64 i ∧ Hid (Kd.R kO 48 wr w.heap.size (fun _ => True) v5 (Srt.isort cSO (l.take i)) ∧ Below w.heap.size w wr)) (fun _ v6 _ => n - (intOf v6).toNat)
  case atStart => exact ⟨0, Nat.zero_le _, rfl, Lib.hid ⟨Kd.R_nil _ _ _ _ _, Below.refl _ _⟩⟩
  case round =>
    obtain ⟨i, hi, rfl, hI⟩ := hrel
    by_cases hit : i < n
    · obtain ⟨o, ho⟩ : ∃ o, l[i]? = some o := ⟨_, List.getElem?_eq_getElem (by have := HL.out.1; omega)⟩
      obtain ⟨ad, v4, v27, rfl, hO⟩ := objAt (Kd.C_below HR.out hI.out.2) i o ho
      have hlk : (i : Int) < (n : Int) := by omega
      have hol := HFl.out o (List.mem_of_getElem? ho)
      have hsn : l.take (i + 1) = l.take i ++ [o] := by rw [List.take_add_one, ho]; rfl
      obtain ⟨acc, hacc⟩ : ∃ acc, acc = Srt.isort cSO (l.take i) := ⟨_, rfl⟩
      have hI1 := hI.out.1
      rw [← hacc] at hI1
      obtain ⟨A5, c5, rfl⟩ := Kd.R_slice hI1
      have hle5 : acc.length ≤ c5 := (Kd.R_reads' hI1).2.1
      have HC := Lib.hid (Kd.R_reads' hI1).2.2
      have HRo := Lib.hid hI1
      have HBo := Lib.hid hI.out.2
      have hal : acc.length ≤ 1000000 := by
        rw [hacc, Srt.isort_length, List.length_take]
        have := HL.out.1
        omega
      have HF : Hid (∀ x ∈ acc, ObFits x) := Lib.hid (fun x hx => by
        rw [hacc, Srt.mem_isort] at hx
        exact HFl.out x (List.mem_of_mem_take hx))
      have HT : Hid (∀ t, t ≤ acc.length ∧ Srt.back (fun a b => decide (cSO a b < 0)) o acc acc.length = t → Srt.isort cSO (l.take (i + 1)) = acc.take t ++ [o] ++ acc.drop t) := Lib.hid (fun t ht => by
        rw [hsn, Srt.isort_snoc, ← hacc]
        have h := Srt.back_ins cSO_cmp o acc (by rw [hacc]; exact Srt.isort_sorted cSO_cmp _) acc.length (Nat.le_refl _) (fun j y hj hy => by
          have := (List.getElem?_eq_some_iff.1 hy).1
          omega)
        rw [ht.2] at h
        rw [← h, List.append_assoc]
        rfl)
      obtain ⟨cs, hcs⟩ : ∃ cs, cs = o.cells v4 v27 := ⟨_, rfl⟩
      have hi1 : Hid ((Tryd.prog.info? 48).map (·.size) = some cs.size) := Lib.hid (by rw [hcs, Ob.cells_size]; kernel_rfl)
      have B1 := hO.cells
      have QC := Lib.hid (fun (W : World) (hW : Below wr.heap.size wr W) => copyObject_calls o v4 v27 W (hO.l4.below hW) (hO.l27.below hW) hol)
      have QLL := Lib.hid (fun (p : Ob) (u4 u27 : Value) (hp : ObFits p) (W : World) => below_obj (v4 := v4) (v27 := v27) (u4 := u4) (u27 := u27) hol hp W)
      rw [← hcs] at B1 QC QLL
      replace B1 := Lib.hid (fun (W : World) (hW : Below wr.heap.size wr W) j u hu => cell_below hW (B1 j u hu))
      clear ho hO hsn hol hcs hI1 hacc hI
      go_wp2
      rename World => wo
      go_loopw [5] (fun v7 wr => ∃ t : Nat, t ≤ acc.length ∧ v7 = .int .i64 t ∧ Hid (Srt.back (fun a b => decide (cSO a b < 0)) o acc acc.length = Srt.back (fun a b => decide (cSO a b < 0)) o acc t ∧ Below wo.heap.size wo wr)) (fun v7 _ => (intOf v7).toNat)
      case atStart => exact ⟨acc.length, Nat.le_refl _, rfl, Lib.hid ⟨rfl, Below.refl _ _⟩⟩
      case round =>
        obtain ⟨t, ht, rfl, hJ⟩ := hrel
        have HB1 : Below wo.heap.size wo wr := hJ.out.2
        replace HB1 := below_drew HB1
        by_cases ht0 : t = 0
        · have HE : Hid (t ≤ acc.length ∧ Srt.back (fun a b => decide (cSO a b < 0)) o acc acc.length = t) := Lib.hid ⟨ht, by rw [hJ.out.1, ht0]; rfl⟩
          have g4 : decide ((0 : Int) < (t : Int)) = false := decide_eq_false (by omega)
          have g5 : decide (0 < t) = false := decide_eq_false (by omega)
          clear hJ ht0
          go_upto_region 6 with (fail)
          refine start_ (n := 14) (S := fun w' => Below wo.heap.size wo w') (ds := []) (bs 14 0) (by kernel_rfl) rfl (by kernel_rfl) HB1 (fun hHeld => ?_)
          refine with_tabW rg14_6_tab rg14_6_bits (fun HT_ HW_ => ?_)
          refine pu 0 (some 15) (bs 14 1) HT_ rfl rfl (by kernel_rfl) (fun _ _ _ _ h => h) ⟨_, .inl ⟨by rfl, fun _ => by go_simp; with_reducible rfl⟩, _, by simp only [Act.put, sA, sB, sC, i64_w, i32_w]; rfl, ?_⟩
          refine pu 1 (some 16) (bs 14 3) HT_ rfl rfl (by kernel_rfl) (fun _ _ _ _ h => h) ⟨_, .inl ⟨by rfl, fun _ => by go_simp; with_reducible rfl⟩, _, by simp only [Act.put, sA, sB, sC, i64_w, i32_w]; rfl, ?_⟩
          refine pu 2 (some 17) (bs 14 7) HT_ rfl rfl (by kernel_rfl) (fun _ _ _ _ h => h) ⟨_, .inl ⟨by rfl, fun _ => by go_simp; with_reducible rfl⟩, _, by simp only [Act.put, sA, sB, sC, i64_w, i32_w]; rfl, ?_⟩
          refine pu 3 (some 18) (bs 14 15) HT_ rfl rfl (by kernel_rfl) (fun _ _ _ _ h => h) ⟨_, .inr ⟨by rfl, rfl⟩, _, by simp only [Act.put, sA, sB, sC, i64_w, i32_w]; rfl, ?_⟩
          refine pu 4 (some 19) (bs 14 31) HT_ rfl rfl (by kernel_rfl) (fun _ _ _ _ h => h) ⟨_, .inr ⟨by rfl, rfl⟩, _, by simp only [Act.put, sA, sB, sC, i64_w, i32_w]; rfl, ?_⟩
          refine pu 5 (some 20) (bs 14 63) HT_ rfl rfl (by kernel_rfl) (fun _ _ _ _ h => h) ⟨_, .inr ⟨by rfl, rfl⟩, _, by simp only [Act.put, sA, sB, sC, i64_w, i32_w]; rfl, ?_⟩
          refine pu 6 (some 21) (bs 14 127) HT_ rfl rfl (by kernel_rfl) (fun _ _ _ _ h => h) ⟨_, .inr ⟨by rfl, rfl⟩, _, by simp only [Act.put, sA, sB, sC, i64_w, i32_w]; rfl, ?_⟩
          refine pu 7 (some 22) (bs 14 255) HT_ rfl rfl (by kernel_rfl) (fun _ _ _ _ h => h) ⟨_, .inr ⟨by rfl, rfl⟩, _, by simp only [Act.put, sA, sB, sC, i64_w, i32_w]; rfl, ?_⟩
          refine pu 8 (some 23) (bs 14 511) HT_ rfl rfl (by kernel_rfl) (fun _ _ _ _ h => h) ⟨_, .inr ⟨by rfl, rfl⟩, _, by simp only [Act.put, sA, sB, sC, i64_w, i32_w]; rfl, ?_⟩
          refine pu 9 (some 24) (bs 14 1023) HT_ rfl rfl (by kernel_rfl) (fun _ _ _ _ h => h) ⟨_, .inr ⟨by rfl, rfl⟩, _, by simp only [Act.put, sA, sB, sC, i64_w, i32_w]; rfl, ?_⟩
          refine pu 10 (some 25) (bs 14 2047) HT_ rfl rfl (by kernel_rfl) (fun _ _ _ _ h => h) ⟨_, .inr ⟨by rfl, rfl⟩, _, by simp only [Act.put, sA, sB, sC, i64_w, i32_w]; rfl, ?_⟩
          refine pu 11 (some 26) (bs 14 4095) HT_ rfl rfl (by kernel_rfl) (fun _ _ _ _ h => h) ⟨_, .inr ⟨by rfl, rfl⟩, _, by simp only [Act.put, sA, sB, sC, i64_w, i32_w]; rfl, ?_⟩
          refine pu 12 (some 27) (bs 14 8191) HT_ rfl rfl (by kernel_rfl) (fun _ _ _ _ h => h) ⟨_, .inr ⟨by rfl, rfl⟩, _, by simp only [Act.put, sA, sB, sC, i64_w, i32_w]; rfl, ?_⟩
          refine pu 13 (some 28) (bs 14 16383) HT_ rfl rfl (by kernel_rfl) (fun _ _ _ _ h => h) ⟨_, .inl ⟨by rfl, fun _ => by go_simp; with_reducible rfl⟩, _, by simp only [Act.put, sA, sB, sC, i64_w, i32_w]; rfl, ?_⟩
          refine done_ (done_of HT_.out (by kernel_rfl)) ?_
          have htl : t ≤ acc.length := ht
          obtain ⟨A9, hcut, hC9⟩ := cut_low A5 acc.length c5 (t) htl hle5
          have hcut2 : ((t : Nat) : Int) ≤ (c5 : Int) := by omega
          have Q9 := Lib.hid (fun (W : World) (hW : Below wo.heap.size wo W) => copyObjects_calls A9 (c5 - t) (acc.length - t) (acc.drop (t)) W (hC9 W acc rfl (Kd.C_below HC.out hW)) List.length_drop (by omega) (fun x hx => HF.out x (List.mem_of_mem_drop hx)))
          clear hC9
          go_wp2_with (first
            | (go_at_call 49; (with_reducible refine (Q9.out _ HB1).mono ?_); rintro e w4 ⟨v8, rfl, hV8, hb4⟩; have hs8 := HB1.size; replace HB1 := belT HB1 hb4; replace hV8 := Lib.hid (And.intro (Kd.R_lower hV8 hs8) HB1); clear hb4 hs8))
          have HB4 := below_drew (Below.refl w4.heap.size w4)
          replace HB1 := Lib.hid HB1
          clear Q9
          refine start_ (n := 11) (S := fun w' => Below w4.heap.size w4 w') (ds := [9]) (bs 11 0) (by kernel_rfl) rfl (by kernel_rfl) HB4 (fun hHeld => ?_)
          refine with_tabW rg14_9_tab rg14_9_bits (fun HT_ HW_ => ?_)
          refine pu 0 (some 35) (bs 11 1) HT_ rfl rfl (by kernel_rfl) (fun _ _ _ _ h => h) ⟨_, .inl ⟨by rfl, fun _ => by go_simp; with_reducible rfl⟩, _, by simp only [Act.put, sA, sB, sC, i64_w, i32_w]; rfl, ?_⟩
          refine pu 1 (some 36) (bs 11 3) HT_ rfl rfl (by kernel_rfl) (fun _ _ _ _ h => h) ⟨_, .inl ⟨by rfl, fun _ => by go_simp; with_reducible rfl⟩, _, by simp only [Act.put, sA, sB, sC, i64_w, i32_w]; rfl, ?_⟩
          refine pu 2 (some 37) (bs 11 7) HT_ rfl rfl (by kernel_rfl) (fun _ _ _ _ h => h) ⟨_, .inl ⟨by rfl, fun _ => by go_simp; with_reducible rfl⟩, _, by simp only [Act.put, sA, sB, sC, i64_w, i32_w]; rfl, ?_⟩
          refine pu 3 (some 38) (bs 11 15) HT_ rfl rfl (by kernel_rfl) (fun _ _ _ _ h => h) ⟨_, .inl ⟨by rfl, fun _ => by go_simp; with_reducible rfl⟩, _, by simp only [Act.put, sA, sB, sC, i64_w, i32_w]; rfl, ?_⟩
          refine pu 4 (some 39) (bs 11 31) HT_ rfl rfl (by kernel_rfl) (fun _ _ _ _ h => h) ⟨_, .inl ⟨by rfl, fun _ => by go_simp; with_reducible rfl⟩, _, by simp only [Act.put, sA, sB, sC, i64_w, i32_w]; rfl, ?_⟩
          refine pu 5 (some 40) (bs 11 63) HT_ rfl rfl (by kernel_rfl) (fun _ _ _ _ h => h) ⟨_, .inl ⟨by rfl, fun _ => by go_simp; with_reducible rfl⟩, _, by simp only [Act.put, sA, sB, sC, i64_w, i32_w]; rfl, ?_⟩
          refine tk 6 (some 41) (bs 11 127) HT_ HW_ rfl rfl (by kernel_rfl) (fun _ _ _ _ h => h) hHeld ⟨_, .inl ⟨by rfl, by rintro w' s0; refine load_any_ (x := .tmp 40) (p := ad.add (i * 32)) ?_ ?_ (B1.out _ (belT HB1.out s0)) Tryd.underlying48 rfl hi1.out <;> rfl⟩, _, by simp only [Act.put, sA, sB, sC, i64_w, i32_w]; rfl, ?_⟩
          refine on1 7 (some 42) (bs 11 255) HT_ rfl rfl (by kernel_rfl) (by decide) (fun K hK => ?_)
          refine goes_ Tryd.func50 (by kernel_rfl) rfl #[.agg cs] (by rfl) rfl rfl (by (try simp only [List.map_toArray, List.map_cons, List.map_nil]); first | done | rfl) ?_
          with_reducible refine (QC.out _ (belT HB1.out HB4)).mono ?_
          rintro e w5 ⟨u4, u27, rfl, HM5, hb⟩
          have hs5 := (belT HB1.out HB4).size
          replace HM5 := Lib.hid (kO.M_mono (fun k hk => hk.2.1) (kO.M_bound (kO.M_lower hs5 HM5)))
          replace HB4 := belT HB4 hb
          have HB5 := Lib.hid (And.intro (belT HB1.out HB4) HB4)
          clear hb hs5
          refine ⟨_, rfl, ?_⟩
          refine hK.out _ _ HB4 (fun hHeld => ?_)
          clear hK K
          refine nm ⟨_, show Act.put _ (some 42) _ = _ by simp only [Act.put, sA, sB, sC, i64_w, i32_w]; rfl, ?_⟩
          refine on1 8 (some 43) (bs 11 511) HT_ rfl rfl (by kernel_rfl) (by decide) (fun K hK => ?_)
          refine build1_ (by rfl) rfl 22 48 (.tmp 42) rfl (o.cells u4 u27) rfl (.agg (Ob.zero.cells (.slice none 0 0) (.slice none 0 0))) 32 312 Tryd.underlying22 infoO (Ob.cells_size _ _ _) (by omega) (by omega) rfl ?_
          refine hK.out _ _ (HB4.alloc HB4.size _) (fun hHeld => ?_)
          clear hK K
          refine nm ⟨_, show Act.put _ (some 43) _ = _ by simp only [Act.put, sA, sB, sC, i64_w, i32_w]; rfl, ?_⟩
          refine la1 9 (some 44) (bs 11 1023) HT_ rfl rfl (by kernel_rfl) (by decide) (fun K hK => ?_)
          refine Kd.R_append_step kO (w0 := w) (W := w5) w.heap.size (by rfl) (.tmp 37) (.tmp 43) 22 48 (.agg (Ob.zero.cells (.slice none 0 0) (.slice none 0 0))) 312 rfl Tryd.underlying22 infoO rfl (by decide) (by omega) (.slice A5 (t) c5) (acc.take (t)) o (o.cells u4 u27).toList (fun _ => True) (fun k => wo.heap.size ≤ k) rfl rfl (kO.M_lower HBo.out.size HM5.out) (fun k hk => ⟨trivial, fun e => by have := Kd.R_lt HRo.out k (by first | exact e.symm | (cases A5 <;> exact e.symm)); omega⟩) (fun _ _ => trivial) (Kd.R_take (Kd.R_below HRo.out HB5.out.1) htl) (belT HBo.out HB5.out.1) (by have := HBo.out.size; have := HB5.out.1.size; omega) (by rw [List.length_take]; omega) ?_
          intro v1 w6 hR6 hB6 hg6 hat6
          refine hK.out _ _ ?_
          clear hK K
          refine nm ⟨_, show Act.put _ (some 44) _ = _ by simp only [Act.put, sA, sB, sC, i64_w, i32_w]; rfl, ?_⟩
          refine pu 10 (some 3) (bs 11 2047) HT_ rfl rfl (by kernel_rfl) (fun _ _ _ _ h => h) ⟨_, .inl ⟨by rfl, fun _ => by go_simp; with_reducible rfl⟩, _, by simp only [Act.put, sA, sB, sC, i64_w, i32_w]; rfl, ?_⟩
          refine done_ (done_of HT_.out (by kernel_rfl)) ?_
          obtain ⟨A8, c8, rfl, hrow⟩ := ref_rows (wo := wo) HRo.out hV8.out.1 HB5.out.2 hg6 HBo.out.size
          replace hrow := Lib.hid hrow
          have hty6 := Kd.R_typed hR6
          replace hty6 := Lib.hid hty6
          replace hR6 := Lib.hid hR6
          replace hB6 := Lib.hid hB6
          have hw6 : Hid (w.heap.size ≤ w6.heap.size) := Lib.hid hB6.out.size
          have hl6 : ((acc.take (t) ++ [o]).length + (acc.drop (t)).length) * 312 ≤ 140737488355328 := by rw [List.length_append, List.length_take, List.length_drop, List.length_singleton]; omega
          clear hg6 hat6 HM5 HB5 hV8 QC B1 hi1 HB1 HB4
          go_wp2_with (first
            | (at_builtin; refine Kd.R_append_rows kO (w0 := w) (Rr := fun x cs => kO.M w6 w.heap.size (fun k => ∃ cells, w6.heap[k]? = some (.cells cells 98 (0, 0))) x cs) w.heap.size rfl (.tmp 45) (.tmp 46) 22 48 (.agg (Ob.zero.cells (.slice none 0 0) (.slice none 0 0))) 312 rfl Tryd.underlying22 infoO rfl (by decide) (by omega) v1 (acc.take (t) ++ [o]) (acc.drop (t)) A8 (acc.drop (t)).length c8 (fun _ => True) (fun k => ∃ cells, w6.heap[k]? = some (.cells cells 98 (0, 0))) rfl rfl hR6.out hrow.out (fun _ _ h => h) (fun k hk => ⟨trivial, fun e => lab_ne_obj hk (hty6.out k e.symm)⟩) (fun _ _ => trivial) hB6.out hw6.out hl6 ?_; intro v2 w7 hR7 hB7 hg7 hat7))
          go_roundw
          case rel => exact ⟨i + 1, by omega, by go_num, Lib.hid ⟨by rw [HT.out _ HE.out]; exact hR7, hB7⟩⟩
          case measure => simp [intOf]; omega
        · obtain ⟨a, ha⟩ : ∃ a, a + 1 = t := ⟨t - 1, by omega⟩
          obtain ⟨p, hp⟩ : ∃ p, acc[a]? = some p := ⟨_, List.getElem?_eq_getElem (by omega)⟩
          obtain ⟨ad5, u4, u27, rfl, hP⟩ := objAt HC.out a p hp
          obtain ⟨ds, hds⟩ : ∃ ds, ds = p.cells u4 u27 := ⟨_, rfl⟩
          have hi2 : Hid ((Tryd.prog.info? 48).map (·.size) = some ds.size) := Lib.hid (by rw [hds, Ob.cells_size]; kernel_rfl)
          have B2 := hP.cells
          have QL := QLL.out p u4 u27 (HF.out p (List.mem_of_getElem? hp))
          rw [← hds] at B2 QL
          obtain ⟨lb, hlb⟩ : ∃ b, b = decide (cSO o p < 0) := ⟨_, rfl⟩
          rw [← hlb] at QL
          replace QL := Lib.hid QL
          have hbk : Srt.back (fun a b => decide (cSO a b < 0)) o acc (a + 1) = if lb = true then Srt.back (fun a b => decide (cSO a b < 0)) o acc a else a + 1 := by
            simp only [Srt.back, hp, hlb]
          rw [ha, ← hJ.out.1] at hbk
          have HJ := Lib.hid hbk
          obtain ⟨z, hz⟩ : ∃ z : Int, z = (t : Int) := ⟨_, rfl⟩
          obtain ⟨z1, hz1⟩ : ∃ z : Int, z = (a : Int) := ⟨_, rfl⟩
          have hw : wrap64 (z - 1) = z1 := by rw [hz, hz1]; unfold wrap64; omega
          have g2 : (0 ≤ z1) = True := eq_true (by omega)
          have g3 : (z1 < (acc.length : Int)) = True := eq_true (by omega)
          have g4 : decide (0 < z) = true := decide_eq_true (by omega)
          have ez1 : z1.toNat = a := by omega
          rw [← ez1] at B2
          rw [← hz]
          replace B2 := Lib.hid (fun (W : World) (hW : Below wo.heap.size wo W) j u hu => cell_below hW (B2 j u hu))
          have HZ := Lib.hid (And.intro hz (And.intro hz1 (And.intro ha ht)))
          clear hP hp hds hlb hbk hz hz1 ez1 ha ht ht0 hJ
          go_upto_region 6 with (fail)
          refine start_ (n := 14) (S := fun w' => Below wo.heap.size wo w') (ds := []) (bs 14 0) (by kernel_rfl) rfl (by kernel_rfl) HB1 (fun hHeld => ?_)
          refine with_tabW rg14_6_tab rg14_6_bits (fun HT_ HW_ => ?_)
          refine pu 0 (some 15) (bs 14 1) HT_ rfl rfl (by kernel_rfl) (fun _ _ _ _ h => h) ⟨_, .inl ⟨by rfl, fun _ => by go_simp; with_reducible rfl⟩, _, by simp only [Act.put, sA, sB, sC, i64_w, i32_w]; rfl, ?_⟩
          refine pu 1 (some 16) (bs 14 3) HT_ rfl rfl (by kernel_rfl) (fun _ _ _ _ h => h) ⟨_, .inl ⟨by rfl, fun _ => by go_simp; with_reducible rfl⟩, _, by simp only [Act.put, sA, sB, sC, i64_w, i32_w]; rfl, ?_⟩
          refine pu 2 (some 17) (bs 14 7) HT_ rfl rfl (by kernel_rfl) (fun _ _ _ _ h => h) ⟨_, .inl ⟨by rfl, fun _ => by go_simp; with_reducible rfl⟩, _, by simp only [Act.put, sA, sB, sC, i64_w, i32_w]; rfl, ?_⟩
          refine pu 3 (some 18) (bs 14 15) HT_ rfl rfl (by kernel_rfl) (fun _ _ _ _ h => h) ⟨_, .inl ⟨by rfl, fun _ => by go_simp; with_reducible rfl⟩, _, by simp only [Act.put, sA, sB, sC, i64_w, i32_w]; rfl, ?_⟩
          refine pu 4 (some 19) (bs 14 31) HT_ rfl rfl (by kernel_rfl) (fun _ _ _ _ h => h) ⟨_, .inl ⟨by rfl, fun _ => by go_simp; with_reducible rfl⟩, _, by simp only [Act.put, sA, sB, sC, i64_w, i32_w]; rfl, ?_⟩
          refine pu 5 (some 20) (bs 14 63) HT_ rfl rfl (by kernel_rfl) (fun _ _ _ _ h => h) ⟨_, .inl ⟨by rfl, fun _ => by go_simp; with_reducible rfl⟩, _, by simp only [Act.put, sA, sB, sC, i64_w, i32_w]; rfl, ?_⟩
          refine pu 7 (some 22) (bs 14 191) HT_ rfl rfl (by kernel_rfl) (fun _ _ _ _ h => h) ⟨_, .inl ⟨by rfl, fun _ => by go_simp; with_reducible rfl⟩, _, by simp only [Act.put, sA, sB, sC, i64_w, i32_w]; rfl, ?_⟩
          refine pu 8 (some 23) (bs 14 447) HT_ rfl rfl (by kernel_rfl) (fun _ _ _ _ h => h) ⟨_, .inl ⟨by rfl, fun _ => by go_simp; with_reducible rfl⟩, _, by simp only [Act.put, sA, sB, sC, i64_w, i32_w]; rfl, ?_⟩
          refine pu 9 (some 24) (bs 14 959) HT_ rfl rfl (by kernel_rfl) (fun _ _ _ _ h => h) ⟨_, .inl ⟨by rfl, fun _ => by go_simp; with_reducible rfl⟩, _, by simp only [Act.put, sA, sB, sC, i64_w, i32_w]; rfl, ?_⟩
          refine pu 10 (some 25) (bs 14 1983) HT_ rfl rfl (by kernel_rfl) (fun _ _ _ _ h => h) ⟨_, .inl ⟨by rfl, fun _ => by go_simp; with_reducible rfl⟩, _, by simp only [Act.put, sA, sB, sC, i64_w, i32_w]; rfl, ?_⟩
          refine tk 6 (some 21) (bs 14 2047) HT_ HW_ rfl rfl (by kernel_rfl) (fun _ _ _ _ h => h) hHeld ⟨_, .inl ⟨by rfl, by rintro w' s0; refine load_any_ (x := .tmp 20) (p := ad.add (i * 32)) ?_ ?_ (B1.out _ s0) Tryd.underlying48 rfl hi1.out <;> rfl⟩, _, by simp only [Act.put, sA, sB, sC, i64_w, i32_w]; rfl, ?_⟩
          refine tk 11 (some 26) (bs 14 4095) HT_ HW_ rfl rfl (by kernel_rfl) (fun _ _ _ _ h => h) hHeld ⟨_, .inl ⟨by rfl, by rintro w' s0; refine load_any_ (x := .tmp 25) (p := ad5.add (z1.toNat * 32)) ?_ ?_ (B2.out _ s0) Tryd.underlying48 rfl hi2.out <;> rfl⟩, _, by simp only [Act.put, sA, sB, sC, i64_w, i32_w]; rfl, ?_⟩
          refine on1 12 (some 27) (bs 14 8191) HT_ rfl rfl (by kernel_rfl) (by decide) (fun K hK => ?_)
          refine goes_ Tryd.func48 (by kernel_rfl) rfl #[.agg cs, .agg ds] (by rfl) rfl rfl (by (try simp only [List.map_toArray, List.map_cons, List.map_nil]); first | done | rfl) ?_
          with_reducible refine (QL.out _).mono ?_
          rintro e w5 ⟨rfl, hb⟩
          replace HB1 := belT HB1 hb
          clear hb
          refine ⟨_, rfl, ?_⟩
          refine hK.out _ _ HB1 (fun hHeld => ?_)
          clear hK K
          refine nm ⟨_, show Act.put _ (some 27) _ = _ by simp only [Act.put, sA, sB, sC, i64_w, i32_w]; rfl, ?_⟩
          refine pu 13 (some 28) (bs 14 16383) HT_ rfl rfl (by kernel_rfl) (fun _ _ _ _ h => h) ⟨_, .inl ⟨by rfl, fun _ => by go_simp; with_reducible rfl⟩, _, by simp only [Act.put, sA, sB, sC, i64_w, i32_w]; rfl, ?_⟩
          refine done_ (done_of HT_.out (by kernel_rfl)) ?_
          clear B2 QL hi2
          cases lb
          · have HE : Hid (t ≤ acc.length ∧ Srt.back (fun a b => decide (cSO a b < 0)) o acc acc.length = t) := Lib.hid ⟨HZ.out.2.2.2, by rw [HJ.out, if_neg (by simp)]⟩
            have htt := HZ.out.2.2.2
            clear hw g2 g3 g4 HJ
            have hz := HZ.out.1
            clear HZ
            subst hz
            have htl : t ≤ acc.length := htt
            obtain ⟨A9, hcut, hC9⟩ := cut_low (some ad5) acc.length c5 (t) htl hle5
            have hcut2 : ((t : Nat) : Int) ≤ (c5 : Int) := by omega
            have Q9 := Lib.hid (fun (W : World) (hW : Below wo.heap.size wo W) => copyObjects_calls A9 (c5 - t) (acc.length - t) (acc.drop (t)) W (hC9 W acc rfl (Kd.C_below HC.out hW)) List.length_drop (by omega) (fun x hx => HF.out x (List.mem_of_mem_drop hx)))
            clear hC9
            go_wp2_with (first
              | (go_at_call 49; (with_reducible refine (Q9.out _ HB1).mono ?_); rintro e w4 ⟨v8, rfl, hV8, hb4⟩; have hs8 := HB1.size; replace HB1 := belT HB1 hb4; replace hV8 := Lib.hid (And.intro (Kd.R_lower hV8 hs8) HB1); clear hb4 hs8))
            have HB4 := below_drew (Below.refl w4.heap.size w4)
            replace HB1 := Lib.hid HB1
            clear Q9
            refine start_ (n := 11) (S := fun w' => Below w4.heap.size w4 w') (ds := [9]) (bs 11 0) (by kernel_rfl) rfl (by kernel_rfl) HB4 (fun hHeld => ?_)
            refine with_tabW rg14_9_tab rg14_9_bits (fun HT_ HW_ => ?_)
            refine pu 0 (some 35) (bs 11 1) HT_ rfl rfl (by kernel_rfl) (fun _ _ _ _ h => h) ⟨_, .inl ⟨by rfl, fun _ => by go_simp; with_reducible rfl⟩, _, by simp only [Act.put, sA, sB, sC, i64_w, i32_w]; rfl, ?_⟩
            refine pu 1 (some 36) (bs 11 3) HT_ rfl rfl (by kernel_rfl) (fun _ _ _ _ h => h) ⟨_, .inl ⟨by rfl, fun _ => by go_simp; with_reducible rfl⟩, _, by simp only [Act.put, sA, sB, sC, i64_w, i32_w]; rfl, ?_⟩
            refine pu 2 (some 37) (bs 11 7) HT_ rfl rfl (by kernel_rfl) (fun _ _ _ _ h => h) ⟨_, .inl ⟨by rfl, fun _ => by go_simp; with_reducible rfl⟩, _, by simp only [Act.put, sA, sB, sC, i64_w, i32_w]; rfl, ?_⟩
            refine pu 3 (some 38) (bs 11 15) HT_ rfl rfl (by kernel_rfl) (fun _ _ _ _ h => h) ⟨_, .inl ⟨by rfl, fun _ => by go_simp; with_reducible rfl⟩, _, by simp only [Act.put, sA, sB, sC, i64_w, i32_w]; rfl, ?_⟩
            refine pu 4 (some 39) (bs 11 31) HT_ rfl rfl (by kernel_rfl) (fun _ _ _ _ h => h) ⟨_, .inl ⟨by rfl, fun _ => by go_simp; with_reducible rfl⟩, _, by simp only [Act.put, sA, sB, sC, i64_w, i32_w]; rfl, ?_⟩
            refine pu 5 (some 40) (bs 11 63) HT_ rfl rfl (by kernel_rfl) (fun _ _ _ _ h => h) ⟨_, .inl ⟨by rfl, fun _ => by go_simp; with_reducible rfl⟩, _, by simp only [Act.put, sA, sB, sC, i64_w, i32_w]; rfl, ?_⟩
            refine tk 6 (some 41) (bs 11 127) HT_ HW_ rfl rfl (by kernel_rfl) (fun _ _ _ _ h => h) hHeld ⟨_, .inl ⟨by rfl, by rintro w' s0; refine load_any_ (x := .tmp 40) (p := ad.add (i * 32)) ?_ ?_ (B1.out _ (belT HB1.out s0)) Tryd.underlying48 rfl hi1.out <;> rfl⟩, _, by simp only [Act.put, sA, sB, sC, i64_w, i32_w]; rfl, ?_⟩
            refine on1 7 (some 42) (bs 11 255) HT_ rfl rfl (by kernel_rfl) (by decide) (fun K hK => ?_)
            refine goes_ Tryd.func50 (by kernel_rfl) rfl #[.agg cs] (by rfl) rfl rfl (by (try simp only [List.map_toArray, List.map_cons, List.map_nil]); first | done | rfl) ?_
            with_reducible refine (QC.out _ (belT HB1.out HB4)).mono ?_
            rintro e w5 ⟨u4, u27, rfl, HM5, hb⟩
            have hs5 := (belT HB1.out HB4).size
            replace HM5 := Lib.hid (kO.M_mono (fun k hk => hk.2.1) (kO.M_bound (kO.M_lower hs5 HM5)))
            replace HB4 := belT HB4 hb
            have HB5 := Lib.hid (And.intro (belT HB1.out HB4) HB4)
            clear hb hs5
            refine ⟨_, rfl, ?_⟩
            refine hK.out _ _ HB4 (fun hHeld => ?_)
            clear hK K
            refine nm ⟨_, show Act.put _ (some 42) _ = _ by simp only [Act.put, sA, sB, sC, i64_w, i32_w]; rfl, ?_⟩
            refine on1 8 (some 43) (bs 11 511) HT_ rfl rfl (by kernel_rfl) (by decide) (fun K hK => ?_)
            refine build1_ (by rfl) rfl 22 48 (.tmp 42) rfl (o.cells u4 u27) rfl (.agg (Ob.zero.cells (.slice none 0 0) (.slice none 0 0))) 32 312 Tryd.underlying22 infoO (Ob.cells_size _ _ _) (by omega) (by omega) rfl ?_
            refine hK.out _ _ (HB4.alloc HB4.size _) (fun hHeld => ?_)
            clear hK K
            refine nm ⟨_, show Act.put _ (some 43) _ = _ by simp only [Act.put, sA, sB, sC, i64_w, i32_w]; rfl, ?_⟩
            refine la1 9 (some 44) (bs 11 1023) HT_ rfl rfl (by kernel_rfl) (by decide) (fun K hK => ?_)
            refine Kd.R_append_step kO (w0 := w) (W := w5) w.heap.size (by rfl) (.tmp 37) (.tmp 43) 22 48 (.agg (Ob.zero.cells (.slice none 0 0) (.slice none 0 0))) 312 rfl Tryd.underlying22 infoO rfl (by decide) (by omega) (.slice (some ad5) (t) c5) (acc.take (t)) o (o.cells u4 u27).toList (fun _ => True) (fun k => wo.heap.size ≤ k) rfl rfl (kO.M_lower HBo.out.size HM5.out) (fun k hk => ⟨trivial, fun e => by have := Kd.R_lt HRo.out k (by first | exact e.symm | (cases A5 <;> exact e.symm)); omega⟩) (fun _ _ => trivial) (Kd.R_take (Kd.R_below HRo.out HB5.out.1) htl) (belT HBo.out HB5.out.1) (by have := HBo.out.size; have := HB5.out.1.size; omega) (by rw [List.length_take]; omega) ?_
            intro v1 w6 hR6 hB6 hg6 hat6
            refine hK.out _ _ ?_
            clear hK K
            refine nm ⟨_, show Act.put _ (some 44) _ = _ by simp only [Act.put, sA, sB, sC, i64_w, i32_w]; rfl, ?_⟩
            refine pu 10 (some 3) (bs 11 2047) HT_ rfl rfl (by kernel_rfl) (fun _ _ _ _ h => h) ⟨_, .inl ⟨by rfl, fun _ => by go_simp; with_reducible rfl⟩, _, by simp only [Act.put, sA, sB, sC, i64_w, i32_w]; rfl, ?_⟩
            refine done_ (done_of HT_.out (by kernel_rfl)) ?_
            obtain ⟨A8, c8, rfl, hrow⟩ := ref_rows (wo := wo) HRo.out hV8.out.1 HB5.out.2 hg6 HBo.out.size
            replace hrow := Lib.hid hrow
            have hty6 := Kd.R_typed hR6
            replace hty6 := Lib.hid hty6
            replace hR6 := Lib.hid hR6
            replace hB6 := Lib.hid hB6
            have hw6 : Hid (w.heap.size ≤ w6.heap.size) := Lib.hid hB6.out.size
            have hl6 : ((acc.take (t) ++ [o]).length + (acc.drop (t)).length) * 312 ≤ 140737488355328 := by rw [List.length_append, List.length_take, List.length_drop, List.length_singleton]; omega
            clear hg6 hat6 HM5 HB5 hV8 QC B1 hi1 HB1 HB4
            go_wp2_with (first
              | (at_builtin; refine Kd.R_append_rows kO (w0 := w) (Rr := fun x cs => kO.M w6 w.heap.size (fun k => ∃ cells, w6.heap[k]? = some (.cells cells 98 (0, 0))) x cs) w.heap.size rfl (.tmp 45) (.tmp 46) 22 48 (.agg (Ob.zero.cells (.slice none 0 0) (.slice none 0 0))) 312 rfl Tryd.underlying22 infoO rfl (by decide) (by omega) v1 (acc.take (t) ++ [o]) (acc.drop (t)) A8 (acc.drop (t)).length c8 (fun _ => True) (fun k => ∃ cells, w6.heap[k]? = some (.cells cells 98 (0, 0))) rfl rfl hR6.out hrow.out (fun _ _ h => h) (fun k hk => ⟨trivial, fun e => lab_ne_obj hk (hty6.out k e.symm)⟩) (fun _ _ => trivial) hB6.out hw6.out hl6 ?_; intro v2 w7 hR7 hB7 hg7 hat7))
            go_roundw
            case rel => exact ⟨i + 1, by omega, by go_num, Lib.hid ⟨by rw [HT.out _ HE.out]; exact hR7, hB7⟩⟩
            case measure => simp [intOf]; omega
          · clear QC QLL
            go_wp2
            go_roundw
            case rel => exact ⟨a, by have := HZ.out.2.2; omega, by rw [hw, HZ.out.2.1], Lib.hid ⟨by rw [HJ.out, if_pos rfl], HB1⟩⟩
            case measure =>
              have h1 := HZ.out
              rw [hw, h1.1, h1.2.1]
              simp [intOf]
              omega
    · obtain rfl : n = i := by omega
      have hI1 := hI.out.1
      rw [List.take_of_length_le (Nat.le_of_eq HL.out.1)] at hI1
      obtain ⟨A5, c5, e5⟩ := Kd.R_slice hI1
      rw [Srt.isort_length, HL.out.1] at e5
      subst e5
      have h3 := Kd.R_reads' hI1
      rw [Srt.isort_length, HL.out.1] at h3
      have HX := Lib.hid (And.intro h3.2.1 (And.intro h3.2.2 hI.out.2))
      clear hI hI1 h3
      go_wp2
      go_ret
      exact ⟨_, _, rfl, HX.out.1, HX.out.2.1, HX.out.2.2⟩
end Go.Proofs.YtoepbjgldmgaoaaDoor

/- Objects without their versions: fleet.plain, and the document's; those of a kind. -/
namespace Go.Proofs.YtoepbjgldmgaoaaDoor
open Go.RowKit Go.Proofs.YtoepbjgldmgaoaaDoorW.PrintWords Go.Proofs.YtoepbjgldmgaoaaDoorW.PrintLast
def plainO (o : Ob) : Ob := { o with version := 0, born := 0 }
theorem plain_set (o : Ob) (v4 v27 : Value) : ((o.cells v4 v27).setIfInBounds 2 (.int .i64 0)).setIfInBounds 3 (.int .i64 0) = (plainO o).cells v4 v27 := rfl
theorem plain_M {w : World} {base : Nat} {ok : Nat → Prop} {o : Ob} {v4 v27 : Value} (h : kO.M w base ok o (o.cells v4 v27).toList) : kO.M w base ok (plainO o) ((plainO o).cells v4 v27).toList := by
  obtain ⟨a, b, e, h1, h2⟩ := h
  have e4 : (o.cells v4 v27).toList[4]? = (o.cells a b).toList[4]? := by rw [e]
  have e27 : (o.cells v4 v27).toList[27]? = (o.cells a b).toList[27]? := by rw [e]
  obtain rfl : v4 = a := by simpa [Ob.cells] using e4
  obtain rfl : v27 = b := by simpa [Ob.cells] using e27
  exact ⟨v4, v27, rfl, h1, h2⟩
theorem fits_plain {o : Ob} (h : ObFits o) : ObFits (plainO o) := h
def ofK (z : Int) (l : List Ob) : List Ob := (l.filter fun o => o.kind == z).map plainO
theorem ofK_snoc (z : Int) {l : List Ob} {k : Nat} {o : Ob} (h : l[k]? = some o) : ofK z (l.take (k + 1)) = ofK z (l.take k) ++ if o.kind = z then [plainO o] else [] := by
  have e : l.take (k + 1) = l.take k ++ [o] := by rw [List.take_add_one, h]; rfl
  unfold ofK
  rw [e, List.filter_append, List.map_append]
  congr 1
  by_cases g : o.kind = z <;> simp [g]
theorem ofK_len (z : Int) (l : List Ob) : (ofK z l).length ≤ l.length := by
  unfold ofK
  rw [List.length_map]
  exact List.length_filter_le _ _
theorem ofK_mem {z : Int} {l : List Ob} {o : Ob} (h : o ∈ ofK z l) : ∃ p ∈ l, o = plainO p := by
  obtain ⟨p, hp, rfl⟩ := List.mem_map.1 h
  exact ⟨p, (List.mem_filter.1 hp).1, rfl⟩
def rg102_1_T : Bool × List (List Nat × List Nat) := (true, [([], []), ([0], [0]), ([1], [1]), ([], []), ([3], [3]), ([4, 2], [4]), ([0, 1, 2, 3, 4], []), ([6, 2, 5, 0, 1, 2, 3, 4], [2, 6]), ([0, 1, 2, 3, 4, 5, 6, 7], []), ([8, 5, 7, 0, 1, 2, 3, 4, 5, 6, 7], [5, 8])])
def rg102_1_B : List Nat := [0, 1, 3, 0, 8, 31, 31, 127, 255, 511]
theorem rg102_1_tab : rtab .any (opsOf Tryd.f102 1) = rg102_1_T := by kernel_rfl
theorem rg102_1_bits : waitsOk rg102_1_T.2 rg102_1_B = true := by kernel_rfl
theorem rp_new {w w2 w3 : World} {gx : Nat} {z zz : Array Value} (hx : gx = w2.heap.size) (hk : ∀ k, k ≠ gx → w3.heap[k]? = (w2.alloc (.cells z 48)).heap[k]?) (hb : ∀ B w0, Below B w0 (w2.alloc (.cells z 48)) → B ≤ gx → Below B w0 w3) (hB : Below w.heap.size w w2)
    (hC : w2.heap[w.heap.size + 1]? = some (.cells zz 48 (0, 0))) : Below w.heap.size w w3 ∧ w3.heap[w.heap.size + 1]? = some (.cells zz 48 (0, 0)) ∧ ∀ k, k < w2.heap.size → w3.heap[k]? = w2.heap[k]? := by
  subst hx
  have h := hB.size
  have h3 : ∀ k, k < w2.heap.size → w3.heap[k]? = w2.heap[k]? := fun k hk1 => (hk k (by omega)).trans (heap_alloc_old _ _ hk1)
  exact ⟨hb _ _ (hB.alloc h _) h, (h3 _ (blkLt hC)).trans hC, h3⟩
theorem of_round {w wr w2 : World} {v : Value} {xs : List Ob} {o : Ob} {cs : List Value} (hR : kO.R 48 wr w.heap.size (fun _ => True) v xs) (hB : Below w.heap.size w wr) (hb : Below wr.heap.size wr w2) (hM : kO.M w2 wr.heap.size (fun _ => True) o cs) :
    kO.R 48 w2 w.heap.size (fun _ => True) v xs ∧ kO.M w2 w.heap.size (fun k => wr.heap.size ≤ k) o cs ∧ (∀ k, wr.heap.size ≤ k → True ∧ some k ≠ v.ownBlock) ∧ Below w.heap.size w w2 := by
  refine ⟨Kd.R_below hR hb, kO.M_lower hB.size (kO.M_mono (fun k hk => hk.2.1) (kO.M_bound hM)), fun k hk => ⟨trivial, fun e => by have := Kd.R_lt hR k e.symm; omega⟩, belT hB hb⟩
set_option maxHeartbeats 4000000 in
set_option maxRecDepth 100000 in
theorem fltClone_calls (o : Ob) (v4 v27 : Value) (w : World) (h4 : LabK w o.labels v4) (h27 : LabK w o.select v27) (hf : ObFits o) :
    Calls Tryd.prog 102 #[.agg (o.cells v4 v27)] w fun e w' => ∃ u4 u27, e = .returned (.agg (o.cells u4 u27)) ∧ kO.M w' w.heap.size (fun _ => True) o (o.cells u4 u27).toList ∧ Below w.heap.size w w' := by
  obtain ⟨A4, c4, rfl, hl4, hr4⟩ := h4
  obtain ⟨A27, c27, rfl, hl27, hr27⟩ := h27
  have Q4 := Lib.hid (fun W (hW : Below w.heap.size w W) => clone_calls A4 c4 o.labels W (Kd.C_below hr4 hW) (Nat.le_trans hf.2.1 (by decide)))
  have Q27 := Lib.hid (fun W (hW : Below w.heap.size w W) => clone_calls A27 c27 o.select W (Kd.C_below hr27 hW) (Nat.le_trans hf.2.2 (by decide)))
  obtain ⟨cs, hcs⟩ : ∃ cs, cs = o.cells (.slice A4 o.labels.length c4) (.slice A27 o.select.length c27) := ⟨_, rfl⟩
  have e4 : cs[4]? = some (.slice A4 o.labels.length c4) := by rw [hcs]; rfl
  have e27 : cs[27]? = some (.slice A27 o.select.length c27) := by rw [hcs]; rfl
  have hsz : cs.size = 32 := by rw [hcs]; rfl
  have HCS := Lib.hid (And.intro hcs (And.intro e4 (And.intro e27 hsz)))
  obtain ⟨n4, hn4⟩ : ∃ n, n = o.labels.length := ⟨_, rfl⟩
  obtain ⟨n27, hn27⟩ : ∃ n, n = o.select.length := ⟨_, rfl⟩
  rw [← hcs]
  clear hcs e4 e27 hsz hl4 hr4 hl27 hr27 hf hn4 hn27
  go_enter Tryd.func102, Tryd.ntmps102
  obtain ⟨zz, hzz⟩ : ∃ zz, zz = Ob.zero.cells (.slice none 0 0) (.slice none 0 0) := ⟨_, rfl⟩
  have Hzz : Hid (zz.size = 32) := Lib.hid (by rw [hzz]; rfl)
  go_upto_region 1 with (fail)
  rw [show ((w.alloc (Obj.cells cs 48)).alloc _) = (w.alloc (Obj.cells cs 48)).alloc (Obj.cells zz 48) by rw [hzz]; rfl]
  have HBW : Below w.heap.size w ((w.alloc (Obj.cells cs 48)).alloc (Obj.cells zz 48)) := Go.Joins.below_alloc2 w _ _
  have BA : ((w.alloc (Obj.cells cs 48)).alloc (Obj.cells zz 48)).heap[w.heap.size]? = some (.cells cs 48 (0, 0)) := (heap_alloc_old _ _ (by simp)).trans (heap_alloc_new w _)
  have BC : ((w.alloc (Obj.cells cs 48)).alloc (Obj.cells zz 48)).heap[w.heap.size + 1]? = some (.cells zz 48 (0, 0)) := heap_alloc2_new w _ _
  generalize ((w.alloc (Obj.cells cs 48)).alloc (Obj.cells zz 48)) = W0 at HBW BA BC ⊢
  obtain ⟨g, hg⟩ : ∃ x, x = w.heap.size := ⟨_, rfl⟩
  obtain ⟨gc, hgc⟩ : ∃ x, x = w.heap.size + 1 := ⟨_, rfl⟩
  have hgg : g < gc := by omega
  have hgw : w.heap.size ≤ g := by omega
  have hgcw : w.heap.size ≤ gc := by omega
  rw [← hgc] at BC ⊢
  rw [← hg] at BA ⊢
  have HBD := below_drew HBW
  have G : W0.drew.heap[g]? = some (.cells cs 48 (0, 0)) := BA
  have GC : W0.drew.heap[gc]? = some (.cells zz 48 (0, 0)) := BC
  have C4 : W0.drew.cell? ⟨g, 4, none⟩ = some (.slice A4 o.labels.length c4) := (cell_of_row _ _ 4 _ _ _ G).trans HCS.out.2.1
  have C27 : W0.drew.cell? ⟨g, 27, none⟩ = some (.slice A27 o.select.length c27) := (cell_of_row _ _ 27 _ _ _ G).trans HCS.out.2.2.1
  clear BA BC HBW hg hgc hzz
  refine start_ (n := 10) (S := fun w' => w'.heap[g]? = some (.cells cs 48 (0, 0)) ∧ w'.cell? ⟨g, 4, none⟩ = some (.slice A4 o.labels.length c4) ∧ w'.cell? ⟨g, 27, none⟩ = some (.slice A27 o.select.length c27)) (ds := [7, 9]) (bs 10 0) (by kernel_rfl) rfl (by kernel_rfl) ⟨G, C4, C27⟩ (fun hHeld => ?_)
  refine with_tabW rg102_1_tab rg102_1_bits (fun HT_ HW_ => ?_)
  refine pu 0 (some 3) (bs 10 1) HT_ rfl rfl (by kernel_rfl) (fun _ _ _ _ h => h) ⟨_, .inl ⟨by rfl, fun _ => by go_simp; with_reducible rfl⟩, _, by simp only [Act.put, sA, sB, sC, i64_w, i32_w]; rfl, ?_⟩
  refine pu 3 (some 6) (bs 10 9) HT_ rfl rfl (by kernel_rfl) (fun _ _ _ _ h => h) ⟨_, .inl ⟨by rfl, fun _ => by go_simp; with_reducible rfl⟩, _, by simp only [Act.put, sA, sB, sC, i64_w, i32_w]; rfl, ?_⟩
  refine tk 1 (some 4) (bs 10 11) HT_ HW_ rfl rfl (by kernel_rfl) (fun _ _ _ _ h => h) hHeld ⟨_, .inl ⟨by rfl, by rintro w' ⟨s0, s1, s2⟩; go_simp; with_reducible rfl⟩, _, by simp only [Act.put, sA, sB, sC, i64_w, i32_w]; rfl, ?_⟩
  refine tk 4 (some 7) (bs 10 27) HT_ HW_ rfl rfl (by kernel_rfl) (fun _ _ _ _ h => h) hHeld ⟨_, .inl ⟨by rfl, by rintro w' ⟨s0, s1, s2⟩; go_simp; with_reducible rfl⟩, _, by simp only [Act.put, sA, sB, sC, i64_w, i32_w]; rfl, ?_⟩
  refine on1 2 (some 5) (bs 10 31) HT_ rfl rfl (by kernel_rfl) (by decide) (fun K hK => ?_)
  refine goes_ Tryd.func68 (by kernel_rfl) rfl #[.slice A4 o.labels.length c4] (by rfl) rfl rfl (by (try simp only [List.map_toArray, List.map_cons, List.map_nil]); first | done | rfl) ?_
  with_reducible refine (Q4.out _ HBD).mono ?_
  rintro e w2 ⟨v5, rfl, H5, hb⟩
  have K5 : ∀ k, v5.ownBlock = some k → gc < k := fun k hk => Nat.lt_of_lt_of_le (blkLt GC) (Kd.R_base H5 k hk)
  have B5 := HBD.size
  replace G := blkB hb G
  replace GC := blkB hb GC
  replace C4 := cell_below hb C4
  replace C27 := cell_below hb C27
  replace HBD := belT HBD hb
  clear hb
  refine ⟨_, rfl, ?_⟩
  refine hK.out _ _ ⟨G, C4, C27⟩ (fun hHeld => ?_)
  clear hK K
  refine nm ⟨_, show Act.put _ (some 5) _ = _ by simp only [Act.put, sA, sB, sC, i64_w, i32_w]; rfl, ?_⟩
  refine pu 6 (some 9) (bs 10 95) HT_ rfl rfl (by kernel_rfl) (fun _ _ _ _ h => h) ⟨_, .inl ⟨by rfl, fun _ => by go_simp; with_reducible rfl⟩, _, by simp only [Act.put, sA, sB, sC, i64_w, i32_w]; rfl, ?_⟩
  refine on1 5 (some 8) (bs 10 127) HT_ rfl rfl (by kernel_rfl) (by decide) (fun K hK => ?_)
  refine goes_ Tryd.func68 (by kernel_rfl) rfl #[.slice A27 o.select.length c27] (by rfl) rfl rfl (by (try simp only [List.map_toArray, List.map_cons, List.map_nil]); first | done | rfl) ?_
  with_reducible refine (Q27.out _ HBD).mono ?_
  rintro e w3 ⟨v8, rfl, H8, hb⟩
  have K8 : ∀ k, v8.ownBlock = some k → gc < k := fun k hk => Nat.lt_of_lt_of_le (blkLt GC) (Kd.R_base H8 k hk)
  have L5 := Kd.R_lt H5
  have L8 := Kd.R_base H8
  have B8 := HBD.size
  replace H5 := Kd.R_below H5 hb
  replace G := blkB hb G
  replace GC := blkB hb GC
  replace C4 := cell_below hb C4
  replace C27 := cell_below hb C27
  replace HBD := belT HBD hb
  clear hb
  refine ⟨_, rfl, ?_⟩
  refine hK.out _ _ ⟨G, C4, C27⟩ (fun hHeld => ?_)
  clear hK K
  refine nm ⟨_, show Act.put _ (some 8) _ = _ by simp only [Act.put, sA, sB, sC, i64_w, i32_w]; rfl, ?_⟩
  refine la1 7 (none) (bs 10 255) HT_ rfl rfl (by kernel_rfl) (by decide) (fun K hK => ?_)
  refine store1_ (g := g) (i := 4) (x := .tmp 9) (y := .tmp 5) (u := v5) (by rfl) rfl rfl rfl rfl (lab_cells H5) G (by rw [HCS.out.2.2.2]; omega) (by kernel_rfl) (Kd.R_val H5).2 ?_
  intro w4 G4 hk4 hb4
  refine hK.out _ _ ?_
  clear hK K
  refine pu 8 (some 10) (bs 10 511) HT_ rfl rfl (by kernel_rfl) (fun _ _ _ _ h => h) ⟨_, .inl ⟨by rfl, fun _ => by go_simp; with_reducible rfl⟩, _, by simp only [Act.put, sA, sB, sC, i64_w, i32_w]; rfl, ?_⟩
  refine la1 9 (none) (bs 10 1023) HT_ rfl rfl (by kernel_rfl) (by decide) (fun K hK => ?_)
  refine store1_ (g := g) (i := 27) (x := .tmp 10) (y := .tmp 8) (u := v8) (by rfl) rfl rfl rfl rfl (lab_cells H8) G4 (by rw [Array.size_setIfInBounds, HCS.out.2.2.2]; omega) (by kernel_rfl) (Kd.R_val H8).2 ?_
  intro w5 G5 hk5 hb5
  refine hK.out _ _ ?_
  clear hK K
  refine done_ (done_of HT_.out (by kernel_rfl)) ?_
  rw [HCS.out.1, cells_set] at G5
  have HB5 : Below w.heap.size w w5 := hb5 _ _ (hb4 _ _ HBD hgw) hgw
  have hst : ∀ k, k ≠ g → w5.heap[k]? = w3.heap[k]? := fun k hk => (hk5 k hk).trans (hk4 k hk)
  have N5 : ∀ k, v5.ownBlock = some k → v8.ownBlock ≠ some k := fun k hk hk' => by
    have := L5 k hk
    have := L8 k hk'
    omega
  have R5 : kL.R 98 w5 w.heap.size (fun k => some k = v5.ownBlock) v5 o.labels := Kd.R_lower (Kd.R_step (Kd.R_tight rfl H5) (fun k hk _ => hst k (by have := K5 k hk.symm; omega))) B5
  have R8 : kL.R 98 w5 w.heap.size (fun k => some k = v8.ownBlock) v8 o.select := Kd.R_lower (Kd.R_step (Kd.R_tight rfl H8) (fun k hk _ => hst k (by have := K8 k hk.symm; omega))) B8
  have GC5 : w5.heap[gc]? = some (.cells zz 48 (0, 0)) := (hst gc (by omega)).trans GC
  have one4 := (Kd.R_val H5).2
  have one27 := (Kd.R_val H8).2
  have HA := Lib.hid (And.intro R5 (And.intro R8 (And.intro N5 (And.intro K5 (And.intro K8 (And.intro HB5 (And.intro GC5 (And.intro G5 (And.intro one4 one27)))))))))
  clear R5 R8 N5 K5 K8 HB5 GC5 G5 hst HBD G GC C4 C27 H5 H8 L5 L8 B5 B8 G4 hk4 hb4 hk5 hb5 Q4 Q27 one4 one27
  go_wp2_with (first
    | ((with_reducible refine wpList_load_blk rfl 48 (.tmp 1) rfl g 48 ?l1 (o.cells v5 v8) _ ?l2 Tryd.underlying48 ?l3 ?l4 ?_); (case l1 => rfl); (case l2 => exact HA.out.2.2.2.2.2.2.2.1); (case l3 => rfl); (case l4 => exact infoO1))
    | ((with_reducible refine wpList_store_blk rfl 48 (.tmp 2) (.tmp 11) rfl gc 48 zz (o.cells v5 v8) ?c1 ?c2 ?c3 ?c4 ?c5 ?c6 ?_); (case c1 => rfl); (case c2 => rfl); (case c3 => exact HA.out.2.2.2.2.2.2.1); (case c4 => exact infoO1); (case c5 => exact Hzz.out); (case c6 => exact o.cells_one HA.out.2.2.2.2.2.2.2.2.1 HA.out.2.2.2.2.2.2.2.2.2); intro w6 BC' hk hb hz))
  refine bodyPost_ret (v := .agg (o.cells v5 v8)) (results_cell_row (p := 2) (ty := 48) rfl _ _ gc 48 (o.cells v5 v8) (0, 0) _ (by rfl) BC' Tryd.underlying48 rfl infoO1) rfl ?_
  refine ⟨v5, v8, rfl, ⟨v5, v8, rfl, Kd.R_mono (Kd.R_move HA.out.1 (fun k hk' => hk k (by have := HA.out.2.2.2.1 k hk'.symm; omega))) (fun k hk' => ⟨trivial, fun e => HA.out.2.2.1 k hk'.symm e.symm⟩), Kd.R_mono (Kd.R_move HA.out.2.1 (fun k hk' => hk k (by have := HA.out.2.2.2.2.1 k hk'.symm; omega))) (fun k hk' => ⟨trivial, fun e => HA.out.2.2.1 k e.symm hk'.symm⟩)⟩, hb _ _ HA.out.2.2.2.2.2.1 hgcw⟩
set_option maxHeartbeats 4000000 in
set_option maxRecDepth 100000 in
theorem fltPlain_calls (o : Ob) (v4 v27 : Value) (w : World) (h4 : LabK w o.labels v4) (h27 : LabK w o.select v27) (hf : ObFits o) :
    Calls Tryd.prog 79 #[.agg (o.cells v4 v27)] w fun e w' => ∃ u4 u27, e = .returned (.agg ((plainO o).cells u4 u27)) ∧ kO.M w' w.heap.size (fun _ => True) (plainO o) ((plainO o).cells u4 u27).toList ∧ Below w.heap.size w w' := by
  have Q := (fun W (hW : Below w.heap.size w W) => fltClone_calls o v4 v27 W (h4.below hW) (h27.below hW) hf)
  obtain ⟨cs, hcs⟩ : ∃ cs, cs = o.cells v4 v27 := ⟨_, rfl⟩
  obtain ⟨zz, hzz⟩ : ∃ zz, zz = Ob.zero.cells (.slice none 0 0) (.slice none 0 0) := ⟨_, rfl⟩
  have HCS := Lib.hid (And.intro hcs (And.intro (show cs.size = 32 by rw [hcs]; rfl) (And.intro hzz (show zz.size = 32 by rw [hzz]; rfl))))
  rw [← hcs] at Q ⊢
  replace Q := Lib.hid Q
  clear hcs hzz h4 h27 hf
  have HB0 := Lib.hid (Go.Joins.below_alloc2 w (.cells cs 48) (.cells zz 48))
  have BA : Hid (((w.alloc (Obj.cells cs 48)).alloc (Obj.cells zz 48)).heap[w.heap.size]? = some (.cells cs 48 (0, 0))) := Lib.hid ((heap_alloc_old _ _ (by simp)).trans (heap_alloc_new w _))
  have BC : Hid (((w.alloc (Obj.cells cs 48)).alloc (Obj.cells zz 48)).heap[w.heap.size + 1]? = some (.cells zz 48 (0, 0))) := Lib.hid (heap_alloc2_new w _ _)
  have HS0 : Hid (((w.alloc (Obj.cells cs 48)).alloc (Obj.cells zz 48)).heap.size = w.heap.size + 2) := Lib.hid (by simp)
  go_enter Tryd.func79, Tryd.ntmps79
  go_wp2_with (first
    | ((with_reducible refine gate_ (.load 48 (.tmp 1)) rfl ?_); rw [show ((w.alloc (Obj.cells cs 48)).alloc _) = (w.alloc (Obj.cells cs 48)).alloc (Obj.cells zz 48) by rw [HCS.out.2.2.1]; rfl]; generalize ((w.alloc (Obj.cells cs 48)).alloc (Obj.cells zz 48)) = W0 at HB0 BA BC HS0 ⊢; (with_reducible refine wpList_load_blk (op := ⟨some 3, _, _, _, _, _⟩) rfl 48 (.tmp 1) rfl w.heap.size 48 ?l1 cs _ ?l2 Tryd.underlying48 ?l3 ?l4 ?_); (case l1 => rfl); (case l2 => exact BA.out); (case l3 => rfl); (case l4 => rw [HCS.out.2.1]; exact infoO1))
    | (go_at_call 102; (with_reducible refine (Q.out _ HB0.out).mono ?_); rintro e w2 ⟨u4, u27, rfl, hM, hb⟩; have H2 := Lib.hid (And.intro hM (And.intro (belT HB0.out hb) (And.intro ((hb.block _ (blkLt BA.out)).trans BA.out) ((hb.block _ (blkLt BC.out)).trans BC.out)))); clear hM hb)
    | ((with_reducible refine wpList_store_blk rfl 48 (.tmp 1) (.tmp 4) rfl w.heap.size 48 cs (o.cells u4 u27) ?c1 ?c2 ?c3 ?c4 ?c5 ?c6 ?_); (case c1 => rfl); (case c2 => rfl); (case c3 => exact H2.out.2.2.1); (case c4 => exact infoO1); (case c5 => exact HCS.out.2.1); (case c6 => exact all_oneCell_toArray (kO.K_one (kO.K_of_M H2.out.1))); intro w3 G3 hk3 hb3 hz3)
    | ((with_reducible refine wpList_store1 rfl 3 (.tmp 5) (.const (.int .i64 0)) rfl w.heap.size 2 48 (o.cells u4 u27) (.int .i64 0) ?n1 ?n2 ?n3 ?n4 ?n5 ?n6 ?n7 ?_); (case n1 => rfl); (case n2 => rfl); (case n3 => rfl); (case n4 => exact G3); (case n5 => exact (show 2 < 32 by decide)); (case n6 => kernel_rfl); (case n7 => rfl); intro w4 G4 hk4 hb4 hz4)
    | ((with_reducible refine wpList_store1 rfl 3 (.tmp 6) (.const (.int .i64 0)) rfl w.heap.size 3 48 ((o.cells u4 u27).setIfInBounds 2 (.int .i64 0)) (.int .i64 0) ?m1 ?m2 ?m3 ?m4 ?m5 ?m6 ?m7 ?_); (case m1 => rfl); (case m2 => rfl); (case m3 => rfl); (case m4 => exact G4); (case m5 => exact (show 3 < 32 by decide)); (case m6 => kernel_rfl); (case m7 => rfl); intro w5 G5 hk5 hb5 hz5; rw [plain_set] at G5)
    | ((with_reducible refine wpList_load_blk (op := ⟨some 7, _, _, _, _, _⟩) rfl 48 (.tmp 1) rfl w.heap.size 48 ?t1 ((plainO o).cells u4 u27) _ ?t2 Tryd.underlying48 ?t3 ?t4 ?_); (case t1 => rfl); (case t2 => exact G5); (case t3 => rfl); (case t4 => exact infoO1))
    | ((with_reducible refine wpList_store_blk rfl 48 (.tmp 2) (.tmp 7) rfl (w.heap.size + 1) 48 zz ((plainO o).cells u4 u27) ?y1 ?y2 ?y3 ?y4 ?y5 ?y6 ?_); (case y1 => rfl); (case y2 => rfl); (case y3 => exact (hk5 _ (by omega)).trans ((hk4 _ (by omega)).trans ((hk3 _ (by omega)).trans H2.out.2.2.2))); (case y4 => exact infoO1); (case y5 => exact HCS.out.2.2.2); (case y6 => exact all_oneCell_toArray (kO.K_one (kO.K_of_M (plain_M H2.out.1)))); intro w6 BC' hk6 hb6 hz6))
  refine bodyPost_ret (v := .agg ((plainO o).cells u4 u27)) (results_cell_row (p := 2) (ty := 48) rfl _ _ (w.heap.size + 1) 48 ((plainO o).cells u4 u27) (0, 0) _ (by rfl) BC' Tryd.underlying48 rfl infoO1) rfl ?_
  have hmv : ∀ k, w.heap.size + 2 ≤ k → w6.heap[k]? = w2.heap[k]? := fun k hk => (hk6 k (by omega)).trans ((hk5 k (by omega)).trans ((hk4 k (by omega)).trans (hk3 k (by omega))))
  have hsz2 := HS0.out
  refine ⟨u4, u27, rfl, ?_, hb6 _ _ (hb5 _ _ (hb4 _ _ (hb3 _ _ H2.out.2.1 (Nat.le_refl _)) (Nat.le_refl _)) (Nat.le_refl _)) (Nat.le_succ _)⟩
  exact kO.M_mono (fun _ _ => trivial) (kO.M_lower (by rw [hsz2]; omega) (kO.M_move (fun k hk => hmv k (by rw [← hsz2]; exact hk.2.1)) (kO.M_bound (plain_M H2.out.1))))
set_option maxHeartbeats 4000000 in
set_option maxRecDepth 100000 in
theorem refPlain_calls (o : Ob) (v4 v27 : Value) (w : World) (h4 : LabK w o.labels v4) (h27 : LabK w o.select v27) (hf : ObFits o) :
    Calls Tryd.prog 103 #[.agg (o.cells v4 v27)] w fun e w' => ∃ u4 u27, e = .returned (.agg ((plainO o).cells u4 u27)) ∧ kO.M w' w.heap.size (fun _ => True) (plainO o) ((plainO o).cells u4 u27).toList ∧ Below w.heap.size w w' := by
  have Q := (fun W (hW : Below w.heap.size w W) => copyObject_calls o v4 v27 W (h4.below hW) (h27.below hW) hf)
  obtain ⟨cs, hcs⟩ : ∃ cs, cs = o.cells v4 v27 := ⟨_, rfl⟩
  obtain ⟨zz, hzz⟩ : ∃ zz, zz = Ob.zero.cells (.slice none 0 0) (.slice none 0 0) := ⟨_, rfl⟩
  have HCS := Lib.hid (And.intro hcs (And.intro (show cs.size = 32 by rw [hcs]; rfl) (And.intro hzz (show zz.size = 32 by rw [hzz]; rfl))))
  rw [← hcs] at Q ⊢
  replace Q := Lib.hid Q
  clear hcs hzz h4 h27 hf
  have HB0 := Lib.hid (Go.Joins.below_alloc2 w (.cells cs 48) (.cells zz 48))
  have BA : Hid (((w.alloc (Obj.cells cs 48)).alloc (Obj.cells zz 48)).heap[w.heap.size]? = some (.cells cs 48 (0, 0))) := Lib.hid ((heap_alloc_old _ _ (by simp)).trans (heap_alloc_new w _))
  have BC : Hid (((w.alloc (Obj.cells cs 48)).alloc (Obj.cells zz 48)).heap[w.heap.size + 1]? = some (.cells zz 48 (0, 0))) := Lib.hid (heap_alloc2_new w _ _)
  have HS0 : Hid (((w.alloc (Obj.cells cs 48)).alloc (Obj.cells zz 48)).heap.size = w.heap.size + 2) := Lib.hid (by simp)
  go_enter Tryd.func103, Tryd.ntmps103
  go_wp2_with (first
    | ((with_reducible refine gate_ (.load 48 (.tmp 1)) rfl ?_); rw [show ((w.alloc (Obj.cells cs 48)).alloc _) = (w.alloc (Obj.cells cs 48)).alloc (Obj.cells zz 48) by rw [HCS.out.2.2.1]; rfl]; generalize ((w.alloc (Obj.cells cs 48)).alloc (Obj.cells zz 48)) = W0 at HB0 BA BC HS0 ⊢; (with_reducible refine wpList_load_blk (op := ⟨some 4, _, _, _, _, _⟩) rfl 48 (.tmp 1) rfl w.heap.size 48 ?l1 cs _ ?l2 Tryd.underlying48 ?l3 ?l4 ?_); (case l1 => rfl); (case l2 => exact BA.out); (case l3 => rfl); (case l4 => rw [HCS.out.2.1]; exact infoO1))
    | (go_at_call 50; (with_reducible refine (Q.out _ HB0.out).mono ?_); rintro e w2 ⟨u4, u27, rfl, hM, hb⟩; have H2 := Lib.hid (And.intro hM (And.intro (belT HB0.out hb) (And.intro ((hb.block _ (blkLt BC.out)).trans BC.out) (Nat.le_trans (Nat.le_of_eq HS0.out.symm) hb.size)))); clear hM hb)
    | ((with_reducible refine wpList_store_blk rfl 48 (.tmp 3) (.tmp 5) rfl w2.heap.size 48 ?c0 (o.cells u4 u27) ?c1 ?c2 ?c3 ?c4 ?c5 ?c6 ?_); (case c1 => rfl); (case c2 => rfl); (case c3 => exact heap_alloc_new _ _); (case c4 => exact infoO1); (case c5 => rfl); (case c6 => exact all_oneCell_toArray (kO.K_one (kO.K_of_M H2.out.1))); intro w3 G3 hk3 hb3 hz3; obtain ⟨gx, hgx⟩ : ∃ x, x = w2.heap.size := ⟨_, rfl⟩; rw [← hgx] at G3 hk3 hb3 ⊢; have H3 := Lib.hid (rp_new hgx hk3 hb3 H2.out.2.1 H2.out.2.2.1); have HX := Lib.hid hgx; clear hk3 hb3 hz3 hgx)
    | ((with_reducible refine wpList_store1 rfl 3 (.tmp 6) (.const (.int .i64 0)) rfl gx 2 48 (o.cells u4 u27) (.int .i64 0) ?n1 ?n2 ?n3 ?n4 ?n5 ?n6 ?n7 ?_); (case n1 => rfl); (case n2 => rfl); (case n3 => rfl); (case n4 => exact G3); (case n5 => exact (show 2 < 32 by decide)); (case n6 => kernel_rfl); (case n7 => rfl); intro w4 G4 hk4 hb4 hz4)
    | ((with_reducible refine wpList_store1 rfl 3 (.tmp 7) (.const (.int .i64 0)) rfl gx 3 48 ((o.cells u4 u27).setIfInBounds 2 (.int .i64 0)) (.int .i64 0) ?m1 ?m2 ?m3 ?m4 ?m5 ?m6 ?m7 ?_); (case m1 => rfl); (case m2 => rfl); (case m3 => rfl); (case m4 => exact G4); (case m5 => exact (show 3 < 32 by decide)); (case m6 => kernel_rfl); (case m7 => rfl); intro w5 G5 hk5 hb5 hz5; rw [plain_set] at G5)
    | ((with_reducible refine wpList_load_blk (op := ⟨some 8, _, _, _, _, _⟩) rfl 48 (.tmp 3) rfl gx 48 ?t1 ((plainO o).cells u4 u27) _ ?t2 Tryd.underlying48 ?t3 ?t4 ?_); (case t1 => rfl); (case t2 => exact G5); (case t3 => rfl); (case t4 => exact infoO1))
    | ((with_reducible refine wpList_store_blk rfl 48 (.tmp 2) (.tmp 8) rfl (w.heap.size + 1) 48 zz ((plainO o).cells u4 u27) ?y1 ?y2 ?y3 ?y4 ?y5 ?y6 ?_); (case y1 => rfl); (case y2 => rfl); (case y3 => (have hne : w.heap.size + 1 ≠ gx := (by have := HX.out; have := H2.out.2.2.2; omega)); exact (hk5 _ hne).trans ((hk4 _ hne).trans H3.out.2.1)); (case y4 => exact infoO1); (case y5 => exact HCS.out.2.2.2); (case y6 => exact all_oneCell_toArray (kO.K_one (kO.K_of_M (plain_M H2.out.1)))); intro w6 BC' hk6 hb6 hz6))
  refine bodyPost_ret (v := .agg ((plainO o).cells u4 u27)) (results_cell_row (p := 2) (ty := 48) rfl _ _ (w.heap.size + 1) 48 ((plainO o).cells u4 u27) (0, 0) _ (by rfl) BC' Tryd.underlying48 rfl infoO1) rfl ?_
  have hsz2 := HS0.out
  have hx := HX.out
  have h22 := H2.out.2.2.2
  have hmv : ∀ k, w.heap.size + 2 ≤ k → k < w2.heap.size → w6.heap[k]? = w2.heap[k]? := fun k hk hlt => (hk6 k (by omega)).trans ((hk5 k (by omega)).trans ((hk4 k (by omega)).trans (H3.out.2.2 k hlt)))
  refine ⟨u4, u27, rfl, ?_, hb6 _ _ (hb5 _ _ (hb4 _ _ H3.out.1 (by omega)) (by omega)) (Nat.le_succ _)⟩
  exact kO.M_mono (fun _ _ => trivial) (kO.M_lower (by rw [hsz2]; omega) (kO.M_move (fun k hk => hmv k (by rw [← hsz2]; exact hk.2.1) hk.2.2.1) (kO.M_bound (plain_M H2.out.1))))
set_option maxHeartbeats 4000000 in
set_option maxRecDepth 100000 in
theorem refOf_calls (A : Option Addr) (c n : Nat) (z : Int) (l : List Ob) (w : World) (hr : kO.C w A n l) (hl : l.length = n) (hn : n ≤ 1000000) (hf : ∀ o ∈ l, ObFits o) :
    Calls Tryd.prog 80 #[.slice A n c, .int .i64 z] w fun e w' => ∃ v, e = .returned v ∧ kO.R 48 w' w.heap.size (fun _ => True) v (ofK z l) ∧ Below w.heap.size w w' := by
  have HR := Lib.hid (And.intro hr (And.intro hl hf))
  clear hr hl hf
  go_enter Tryd.func80, Tryd.ntmps80
  go_wp2
  go_loopw [5, 6] (fun v5 v6 wr => ∃ k : Nat, k ≤ n ∧ v6 = .int .i64 k ∧ Hid (kO.R 48 wr w.heap.size (fun _ => True) v5 (ofK z (l.take k)) ∧ Below w.heap.size w wr)) (fun _ v6 _ => n - (intOf v6).toNat)
  case atStart => exact ⟨0, Nat.zero_le _, rfl, Lib.hid ⟨Kd.R_nil _ _ _ _ _, Below.refl _ _⟩⟩
  case round =>
    obtain ⟨k, hk, rfl, hI⟩ := hrel
    by_cases hkn : k < n
    · obtain ⟨o, ho⟩ : ∃ o, l[k]? = some o := ⟨_, List.getElem?_eq_getElem (by rw [HR.out.2.1]; exact hkn)⟩
      obtain ⟨ad, v4, v27, rfl, hO⟩ := objAt (Kd.C_below HR.out.1 hI.out.2) k o ho
      have hlk : (k : Int) < (n : Int) := by omega
      have q0 : wr.cell? (ad.add (k * 32)) = some (.int .i64 o.kind) := hO.cells 0 (.int .i64 o.kind) rfl
      have hsn := ofK_snoc z ho
      have hof := HR.out.2.2 o (List.mem_of_getElem? ho)
      have QP := Lib.hid (fun W (hW : Below wr.heap.size wr W) => refPlain_calls o v4 v27 W (hO.l4.below hW) (hO.l27.below hW) hof)
      have HO := Lib.hid hO.cells
      have hlen : ((ofK z (l.take k)).length + 1) * 312 ≤ 140737488355328 := by
        have h1 := ofK_len z (l.take k)
        rw [List.length_take] at h1
        omega
      have HL := Lib.hid hlen
      clear ho hO hof hlen
      by_cases hz : o.kind = z
      · have d1 : decide (o.kind = z) = true := decide_eq_true hz
        have d2 : (o.kind == z) = true := by simpa using hz
        rw [if_pos hz] at hsn
        have HS := Lib.hid hsn
        clear hsn
        go_wp2_with (first
          | ((with_reducible refine wpList_load_any rfl 48 (.tmp 23) rfl (ad.add (k * 32)) ?c1 (o.cells v4 v27) _ ?c2 Tryd.underlying48 ?c3 ?c4 ?_); (case c1 => rfl); (case c2 => exact HO.out); (case c3 => rfl); (case c4 => exact infoO1))
          | (go_at_call 103; (with_reducible refine (QP.out _ (Below.refl _ _)).mono ?_); rintro e w2 ⟨u4, u27, rfl, hM, hb⟩; have H2 := Lib.hid (of_round hI.out.1 hI.out.2 hb hM); clear hM hb)
          | ((with_reducible refine wpList_build1 rfl 22 48 (.tmp 25) rfl ((plainO o).cells u4 u27) ?d1 (.agg (Ob.zero.cells (.slice none 0 0) (.slice none 0 0))) 32 312 Tryd.underlying22 ?d3 ?d4 (by omega) (by omega) ?d5 ?_); (case d1 => rfl); (case d3 => exact infoO); (case d4 => rfl); (case d5 => rfl))
          | (at_builtin; refine Kd.R_append kO (w0 := w) (W := w2) w.heap.size rfl (.tmp 20) (.tmp 26) 22 48 (.agg (Ob.zero.cells (.slice none 0 0) (.slice none 0 0))) 312 rfl Tryd.underlying22 infoO rfl (by decide) (by omega) u5 (ofK z (l.take k)) (plainO o) ((plainO o).cells u4 u27).toList (fun _ => True) (fun k => wr.heap.size ≤ k) rfl rfl H2.out.2.1 H2.out.2.2.1 (fun _ _ => trivial) H2.out.1 H2.out.2.2.2 H2.out.2.2.2.size HL.out ?_; intro v1 w6 hR6 hB6 hg6 hat6))
        go_roundw
        case rel => exact ⟨k + 1, by omega, by go_num, Lib.hid ⟨by rw [HS.out]; exact hR6, hB6⟩⟩
        case measure => simp [intOf]; omega
      · have d1 : decide (o.kind = z) = false := decide_eq_false hz
        have d2 : (o.kind == z) = false := by simpa using hz
        rw [if_neg hz, List.append_nil] at hsn
        have HS := Lib.hid hsn
        clear hsn
        go_wp2
        go_roundw
        case rel => exact ⟨k + 1, by omega, by go_num, Lib.hid ⟨by rw [HS.out]; exact hI.out.1, hI.out.2⟩⟩
        case measure => simp [intOf]; omega
    · obtain rfl : k = n := by omega
      have hI1 := hI.out
      rw [List.take_of_length_le (Nat.le_of_eq HR.out.2.1)] at hI1
      have HI := Lib.hid hI1
      clear hI1
      go_wp2
      go_ret
      exact ⟨_, rfl, HI.out.1, HI.out.2⟩
end Go.Proofs.YtoepbjgldmgaoaaDoor

/- fleet.Of: sorted objects, put into the list of their kind. -/
namespace Go.Proofs.YtoepbjgldmgaoaaDoor
open Go.RowKit Go.Proofs.YtoepbjgldmgaoaaDoorW.PrintWords Go.Proofs.YtoepbjgldmgaoaaDoorW.PrintLast
def fltK (j : Nat) : Int := match j with | 0 => 0 | 1 => 1 | 2 => 2 | _ => 4
def kindIx (z : Int) : Option Nat := if z = 0 then some 0 else if z = 1 then some 1 else if z = 2 then some 2 else if z = 4 then some 3 else none
theorem kindIx_iff {z : Int} {j : Nat} (hj : j < 4) : kindIx z = some j ↔ z = fltK j := by
  unfold kindIx
  match j, hj with
  | 0, _ => simp only [fltK]; split <;> (try split) <;> (try split) <;> (try split) <;> simp_all
  | 1, _ => simp only [fltK]; split <;> (try split) <;> (try split) <;> (try split) <;> simp_all
  | 2, _ => simp only [fltK]; split <;> (try split) <;> (try split) <;> (try split) <;> simp_all
  | 3, _ => simp only [fltK]; split <;> (try split) <;> (try split) <;> (try split) <;> simp_all
theorem kindIx_lt {z : Int} {j : Nat} (h : kindIx z = some j) : j < 4 := by
  unfold kindIx at h
  split at h
  · injection h with h; omega
  · split at h
    · injection h with h; omega
    · split at h
      · injection h with h; omega
      · split at h
        · injection h with h; omega
        · cases h
def ptrIx (gy : Nat) : Option Nat → Value
  | some j => .pointer (some ⟨gy, j, none⟩)
  | none => .pointer none
theorem list_calls (gy : Nat) (z : Int) (w : World) : Calls Tryd.prog 78 #[.pointer (some ⟨gy, 0, none⟩), .int .i64 z] w fun e w' => e = .returned (ptrIx gy (kindIx z)) ∧ w' = w := by
  by_cases h0 : z = 0
  · subst h0
    go_enter Tryd.func78, Tryd.ntmps78
    go_wp2
    go_ret
    exact ⟨rfl, rfl⟩
  · by_cases h1 : z = 1
    · subst h1
      go_enter Tryd.func78, Tryd.ntmps78
      go_wp2
      go_ret
      exact ⟨rfl, rfl⟩
    · by_cases h2 : z = 2
      · subst h2
        go_enter Tryd.func78, Tryd.ntmps78
        go_wp2
        go_ret
        exact ⟨rfl, rfl⟩
      · by_cases h4 : z = 4
        · subst h4
          go_enter Tryd.func78, Tryd.ntmps78
          go_wp2
          go_ret
          exact ⟨rfl, rfl⟩
        · have e : kindIx z = none := by unfold kindIx; rw [if_neg h0, if_neg h1, if_neg h2, if_neg h4]
          rw [e]
          have d0 : decide (z = 0) = false := decide_eq_false h0
          have d1 : decide (z = 1) = false := decide_eq_false h1
          have d2 : decide (z = 2) = false := decide_eq_false h2
          have d4 : decide (z = 4) = false := decide_eq_false h4
          have b0 : (z == 0) = false := by simpa using h0
          have b1 : (z == 1) = false := by simpa using h1
          have b2 : (z == 2) = false := by simpa using h2
          have b4 : (z == 4) = false := by simpa using h4
          go_enter Tryd.func78, Tryd.ntmps78
          go_wp2
          go_ret
          exact ⟨rfl, rfl⟩
def upd {α : Type} (V : Nat → α) (j : Nat) (v : α) : Nat → α := fun i => if i = j then v else V i
def arr4 (V : Nat → Value) : Array Value := #[V 0, V 1, V 2, V 3]
theorem arr4_set (V : Nat → Value) {j : Nat} (hj : j < 4) (v : Value) : (arr4 V).setIfInBounds j v = arr4 (upd V j v) := by
  match j, hj with
  | 0, _ => rfl
  | 1, _ => rfl
  | 2, _ => rfl
  | 3, _ => rfl
theorem arr4_at (V : Nat → Value) {j : Nat} (hj : j < 4) : (arr4 V)[j]? = some (V j) := by
  match j, hj with
  | 0, _ => rfl
  | 1, _ => rfl
  | 2, _ => rfl
  | 3, _ => rfl
structure Yd (w : World) (base gy : Nat) (F : Nat → Nat) (V : Nat → Value) (L : Nat → List Ob) : Prop where
  heap : w.heap[gy]? = some (.cells (arr4 V) 104 (0, 0))
  rows : ∀ j, j < 4 → Kd.S kO 48 w base (fun b => F b = j) (V j) (L j)
  low : gy < base
theorem Yd.cell {w : World} {base gy : Nat} {F : Nat → Nat} {V : Nat → Value} {L : Nat → List Ob} (h : Yd w base gy F V L) {j : Nat} (hj : j < 4) : w.cell? ⟨gy, j, none⟩ = some (V j) := by
  rw [cell_of_row w gy j _ _ _ h.heap]
  exact arr4_at V hj
theorem Yd.below {w w1 : World} {base gy : Nat} {F : Nat → Nat} {V : Nat → Value} {L : Nat → List Ob} (h : Yd w base gy F V L) (hb : Below w.heap.size w w1) : Yd w1 base gy F V L := ⟨(hb.block gy (blkLt h.heap)).trans h.heap, fun j hj => Kd.S_below (h.rows j hj) hb, h.low⟩
def newF (F : Nat → Nat) (N0 j : Nat) : Nat → Nat := fun b => if N0 ≤ b then j else F b
theorem Yd.pre {w w1 : World} {base gy : Nat} {F : Nat → Nat} {V : Nat → Value} {L : Nat → List Ob} (h : Yd w base gy F V L) (hb : Below w.heap.size w w1) {j : Nat} (hj : j < 4) :
    Kd.S kO 48 w1 base (fun b => newF F w.heap.size j b = j ∧ ¬ w.heap.size ≤ b) (V j) (L j) ∧ (∀ b, w.heap.size ≤ b → newF F w.heap.size j b = j ∧ some b ≠ (V j).ownBlock) := by
  have hS := h.rows j hj
  refine ⟨Kd.S_below (Kd.S_mono (Kd.S_bound hS) (fun b hk => ?_)) hb, fun b hk => ⟨if_pos hk, fun e => ?_⟩⟩
  · have h1 := hk.2.2.1
    have hn : ¬ w.heap.size ≤ b := by omega
    exact ⟨by unfold newF; rw [if_neg hn]; exact hk.1, hn⟩
  · have := Kd.S_lt hS b e.symm
    omega
theorem Yd.step {w w6 w7 w8 : World} {base gy : Nat} {F : Nat → Nat} {V : Nat → Value} {L : Nat → List Ob} (h : Yd w base gy F V L) (hb : Below w.heap.size w w6) {j : Nat} (hj : j < 4) {v1 : Value} {o : Ob} (hS : Kd.S kO 48 w7 base (fun b => newF F w.heap.size j b = j) v1 (L j ++ [o])) (hg : w6.grownBy w7 (V j).ownBlock)
    (h8 : w8.heap[gy]? = some (.cells (arr4 (upd V j v1)) 104 (0, 0))) (hk : ∀ k, k ≠ gy → w8.heap[k]? = w7.heap[k]?) : Yd w8 base gy (newF F w.heap.size j) (upd V j v1) (upd L j (L j ++ [o])) := by
  refine ⟨h8, fun i hi => ?_, h.low⟩
  by_cases e : i = j
  · subst e
    have e1 : upd V i v1 i = v1 := if_pos rfl
    have e2 : upd L i (L i ++ [o]) i = L i ++ [o] := if_pos rfl
    rw [e1, e2]
    exact Kd.S_mono (Kd.S_move (Kd.S_bound hS) (fun k hk2 => hk k (by have := hk2.2.1; have := h.low; omega))) (fun k hk2 => hk2.1)
  · have e1 : upd V j v1 i = V i := if_neg e
    have e2 : upd L j (L j ++ [o]) i = L i := if_neg e
    rw [e1, e2]
    have hi0 := Kd.S_bound (h.rows i hi)
    refine Kd.S_mono (Kd.S_move hi0 (fun k hk2 => ?_)) (fun k hk2 => ?_)
    · have hlt := hk2.2.2.1
      have hbase := hk2.2.1
      refine (hk k (by have := h.low; omega)).trans ((hg.block k (Nat.lt_of_lt_of_le hlt hb.size) (fun e3 => ?_)).trans (hb.block k hlt))
      have := (h.rows j hj)
      obtain ⟨f, h0, _⟩ := this
      have := h0 k e3.symm
      have := hk2.1
      omega
    · have hlt := hk2.2.2.1
      unfold newF
      rw [if_neg (by omega)]
      exact hk2.1
theorem upd_ofK {l : List Ob} {k j : Nat} {o : Ob} (hj : j < 4) (h : l[k]? = some o) (hz : kindIx o.kind = some j) : ∀ i, i < 4 → upd (fun i => ofK (fltK i) (l.take k)) j (ofK (fltK j) (l.take k) ++ [plainO o]) i = ofK (fltK i) (l.take (k + 1)) := by
  intro i hi
  rw [ofK_snoc (fltK i) h]
  by_cases e : i = j
  · subst e
    rw [if_pos ((kindIx_iff hi).1 hz)]
    exact if_pos rfl
  · have hne : ¬ o.kind = fltK i := fun e2 => by
      have := (kindIx_iff hi).2 e2
      rw [hz] at this
      injection this with this
      exact e this.symm
    rw [if_neg hne, List.append_nil]
    exact if_neg e
theorem none_ofK {l : List Ob} {k : Nat} {o : Ob} (h : l[k]? = some o) (hz : kindIx o.kind = none) : ∀ i, i < 4 → ofK (fltK i) (l.take k) = ofK (fltK i) (l.take (k + 1)) := by
  intro i hi
  rw [ofK_snoc (fltK i) h, if_neg (fun e2 => by rw [(kindIx_iff hi).2 e2] at hz; cases hz), List.append_nil]
theorem Yd.congr {w : World} {base gy : Nat} {F : Nat → Nat} {V : Nat → Value} {L M : Nat → List Ob} (h : Yd w base gy F V L) (e : ∀ i, i < 4 → L i = M i) : Yd w base gy F V M := ⟨h.heap, fun j hj => by rw [← e j hj]; exact h.rows j hj, h.low⟩
structure FI (w wr : World) (B1 gy n : Nat) (F : Nat → Nat) (V : Nat → Value) (L : Nat → List Ob) (v8 : Value) (ls : List Ob) : Prop where
  yd : Yd wr B1 gy F V L
  srt : Kd.S kO 48 wr w.heap.size (fun b => b < B1 ∧ b ≠ gy) v8 ls
  bel : Below w.heap.size w wr
  le : B1 ≤ wr.heap.size
  gyw : w.heap.size ≤ gy
theorem FI.below {w wr w1 : World} {B1 gy n : Nat} {F : Nat → Nat} {V : Nat → Value} {L : Nat → List Ob} {v8 : Value} {ls : List Ob} (h : FI w wr B1 gy n F V L v8 ls) (hb : Below wr.heap.size wr w1) : FI w w1 B1 gy n F V L v8 ls := ⟨h.yd.below hb, Kd.S_below h.srt hb, belT h.bel hb, Nat.le_trans h.le hb.size, h.gyw⟩
theorem FI.congr {w wr : World} {B1 gy n : Nat} {F : Nat → Nat} {V : Nat → Value} {L M : Nat → List Ob} {v8 : Value} {ls : List Ob} (h : FI w wr B1 gy n F V L v8 ls) (e : ∀ i, i < 4 → L i = M i) : FI w wr B1 gy n F V M v8 ls := ⟨h.yd.congr e, h.srt, h.bel, h.le, h.gyw⟩
theorem FI.step {w w5 w6 w7 w8 : World} {B1 gy n : Nat} {F : Nat → Nat} {V : Nat → Value} {L : Nat → List Ob} {v8 : Value} {ls : List Ob} (h : FI w w5 B1 gy n F V L v8 ls) (hb : Below w5.heap.size w5 w6) {j : Nat} (hj : j < 4) {v1 : Value} {o : Ob} (hS : Kd.S kO 48 w7 B1 (fun b => newF F w5.heap.size j b = j) v1 (L j ++ [o])) (hg : w6.grownBy w7 (V j).ownBlock)
    (h8 : w8.heap[gy]? = some (.cells (arr4 (upd V j v1)) 104 (0, 0))) (hk : ∀ k, k ≠ gy → w8.heap[k]? = w7.heap[k]?) (hbel : ∀ B w0, Below B w0 w7 → B ≤ gy → Below B w0 w8) : FI w w8 B1 gy n (newF F w5.heap.size j) (upd V j v1) (upd L j (L j ++ [o])) v8 ls := by
  have hown : ∀ k, (V j).ownBlock = some k → B1 ≤ k := fun k hk2 => Kd.S_base (h.yd.rows j hj) k hk2
  have h67 : Below B1 w6 w7 := ⟨hg.os, hg.tape, hg.output, hg.size, fun k hk2 => hg.block k (Nat.lt_of_lt_of_le hk2 (Nat.le_trans h.le hb.size)) (fun e => by have := hown k e.symm; omega)⟩
  have h57 : Below B1 w5 w7 := (hb.mono h.le).trans h67
  refine ⟨h.yd.step hb hj hS hg h8 hk, Kd.S_move h.srt (fun k hk2 => (hk k hk2.2).trans (h57.block k hk2.1)), hbel _ _ (h.bel.trans (h57.mono (Nat.le_trans h.gyw (Nat.le_of_lt h.yd.low)))) h.gyw, Nat.le_trans h.le (Nat.le_trans h57.size (hbel 0 w7 (Below.refl _ _) (Nat.zero_le _)).size), h.gyw⟩
end Go.Proofs.YtoepbjgldmgaoaaDoor

/- fleet.Of walked. -/
namespace Go.Proofs.YtoepbjgldmgaoaaDoor
open Go.RowKit Go.Proofs.YtoepbjgldmgaoaaDoorW.PrintWords Go.Proofs.YtoepbjgldmgaoaaDoorW.PrintLast
theorem infoF1 : (Tryd.prog.info? 59).map (·.size) = some 4 := by kernel_rfl
def nil4 : Nat → Value := fun _ => .slice none 0 0
theorem flt_start {w w1 W0 : World} {gy n : Nat} {A8 : Option Addr} {c8 : Nat} {ls : List Ob} (hW : W0.heap[gy]? = some (.cells (arr4 nil4) 104 (0, 0))) (hB0 : Below w.heap.size w W0) (hgy : w.heap.size ≤ gy) (hS : Kd.S kO 48 w1 W0.heap.size (fun _ => True) (.slice A8 n c8) ls) (hb : Below W0.heap.size W0 w1) :
    FI w w1 w1.heap.size gy n (fun _ => 0) nil4 (fun i => ofK (fltK i) (ls.take 0)) (.slice A8 n c8) ls := by
  have hl := blkLt hW
  refine ⟨⟨(hb.block gy hl).trans hW, fun j hj => ?_, Nat.lt_of_lt_of_le hl hb.size⟩, ?_, belT hB0 hb, Nat.le_refl _, hgy⟩
  · have e : ofK (fltK j) (ls.take 0) = [] := rfl
    rw [e]
    exact Kd.S_nil _ _ _ _ _
  · exact Kd.S_lower (Kd.S_mono (Kd.S_bound hS) (fun k hk => ⟨hk.2.2.1, by have := hk.2.1; omega⟩)) hB0.size
theorem flt_M {w4 w5 w6 : World} {B1 : Nat} {o : Ob} {cs : List Value} (hM : kO.M w6 w5.heap.size (fun _ => True) o cs) (h45 : Below w4.heap.size w4 w5) (h : B1 ≤ w4.heap.size) : kO.M w6 B1 (fun b => w4.heap.size ≤ b) o cs :=
  kO.M_lower (Nat.le_trans h h45.size) (kO.M_mono (fun k hk => Nat.le_trans h45.size hk.2.1) (kO.M_bound hM))
theorem flt_yard {w w4 w6 w7 : World} {B1 gy n : Nat} {F : Nat → Nat} {V : Nat → Value} {L : Nat → List Ob} {v8 : Value} {ls : List Ob} (h : FI w w4 B1 gy n F V L v8 ls) (hb : Below w4.heap.size w4 w6) {j : Nat} (hj : j < 4) (hg : w6.grownBy w7 (V j).ownBlock) : w7.heap[gy]? = some (.cells (arr4 V) 104 (0, 0)) :=
  (hg.block gy (Nat.lt_of_lt_of_le (blkLt h.yd.heap) hb.size) (fun e => by
    have := Kd.S_base (h.yd.rows j hj) gy e.symm
    have := h.yd.low
    omega)).trans ((hb.block gy (blkLt h.yd.heap)).trans h.yd.heap)
theorem flt_next {w w4 w6 w7 w8 : World} {B1 n k : Nat} {F : Nat → Nat} {V : Nat → Value} {v8 vj v1 : Value} {ls lj : List Ob} {o : Ob} (h : FI w w4 B1 (w.heap.size + 1) n F V (fun i => ofK (fltK i) (ls.take k)) v8 ls) (hb : Below w4.heap.size w4 w6) {j : Nat} (hj : j < 4) (hv : vj = V j) (hlj : lj = ofK (fltK j) (ls.take k))
    (hS : Kd.S kO 48 w7 B1 (fun b => newF F w4.heap.size j b = j) v1 (lj ++ [plainO o])) (hg : w6.grownBy w7 vj.ownBlock) (h8 : w8.heap[w.heap.size + 1]? = some (.cells (arr4 (upd V j v1)) 104 (0, 0))) (hk : ∀ k, k ≠ w.heap.size + 1 → w8.heap[k]? = w7.heap[k]?) (hbel : ∀ B w0, Below B w0 w7 → B ≤ w.heap.size + 1 → Below B w0 w8)
    (ho : ls[k]? = some o) (hz : kindIx o.kind = some j) (hr : w4.heap[w.heap.size]? = some (.cells (arr4 nil4) 59 (0, 0))) :
    FI w w8 B1 (w.heap.size + 1) n (newF F w4.heap.size j) (upd V j v1) (fun i => ofK (fltK i) (ls.take (k + 1))) v8 ls ∧ w8.heap[w.heap.size]? = some (.cells (arr4 nil4) 59 (0, 0)) := by
  subst hv
  subst hlj
  refine ⟨(h.step hb hj hS hg h8 hk hbel).congr (upd_ofK hj ho hz), (hk _ (by omega)).trans ((hg.block _ (Nat.lt_of_lt_of_le (blkLt hr) hb.size) (fun e => ?_)).trans ((hb.block _ (blkLt hr)).trans hr))⟩
  have := Kd.S_base (h.yd.rows j hj) _ e.symm
  have := h.yd.low
  omega
theorem flt_one {w : World} {base gy : Nat} {F : Nat → Nat} {V : Nat → Value} {L : Nat → List Ob} (h : Yd w base gy F V L) : (arr4 V).all (·.oneCell') = true := by
  have h1 : ∀ j, j < 4 → (V j).oneCell' = true := fun j hj => by
    obtain ⟨A, c, e⟩ := Kd.S_slice (h.rows j hj)
    rw [e]
    rfl
  unfold arr4
  simp [h1 0 (by omega), h1 1 (by omega), h1 2 (by omega), h1 3 (by omega)]
theorem flt_end {w wr w6 : World} {B1 n : Nat} {F : Nat → Nat} {V : Nat → Value} {L : Nat → List Ob} {v8 : Value} {ls : List Ob} (h : FI w wr B1 (w.heap.size + 1) n F V L v8 ls) {j : Nat} (hj : j < 4) (hk : ∀ k, k ≠ w.heap.size → w6.heap[k]? = wr.heap[k]?) : Kd.S kO 48 w6 w.heap.size (fun b => F b = j) (V j) (L j) := by
  have hlow := h.yd.low
  exact Kd.S_lower (Kd.S_mono (Kd.S_move (Kd.S_bound (h.yd.rows j hj)) (fun k hk2 => hk k (by have := hk2.2.1; omega))) (fun k hk2 => hk2.1)) (by omega)
def rg37_7_T : Bool × List (List Nat × List Nat) := (true, [([], []), ([], []), ([1], [1]), ([2], [2]), ([], []), ([4], [4]), ([5], [5]), ([3, 6, 5], [3, 6]), ([0, 0, 1, 2, 3, 4, 5, 6, 7], [0]), ([8, 7, 7, 0, 1, 2, 3, 4, 5, 6, 7], [7, 8])])
def rg37_7_B : List Nat := [0, 0, 2, 6, 0, 16, 48, 126, 255, 511]
theorem rg37_7_tab : rtab .any (opsOf Tryd.f37 7) = rg37_7_T := by kernel_rfl
theorem rg37_7_bits : waitsOk rg37_7_T.2 rg37_7_B = true := by kernel_rfl
set_option maxHeartbeats 4000000 in
set_option maxRecDepth 100000 in
theorem fleetOf_calls (A : Option Addr) (c n : Nat) (l : List Ob) (w : World) (hr : kO.C w A n l) (hl : l.length = n) (hn : n ≤ 1000000) (hf : ∀ o ∈ l, ObFits o) :
    Calls Tryd.prog 37 #[.slice A n c] w fun e w' => ∃ (V : Nat → Value) (F : Nat → Nat), e = .returned (.agg (arr4 V)) ∧ (∀ j, j < 4 → Kd.S kO 48 w' w.heap.size (fun b => F b = j) (V j) (ofK (fltK j) (sortK l))) ∧ Below w.heap.size w w' := by
  have hls : (sortK l).length = n := by unfold sortK; rw [Srt.isort_length, hl]
  have hfs : ∀ o ∈ sortK l, ObFits o := fun o ho => hf o ((Srt.mem_isort o l).1 ho)
  obtain ⟨ls, hlse⟩ : ∃ ls, ls = sortK l := ⟨_, rfl⟩
  rw [← hlse] at hls hfs ⊢
  have Q0 := (fun W (hW : Below w.heap.size w W) => sorted_calls A c n l W (Kd.C_below hr hW) hl hn hf)
  rw [← hlse] at Q0
  have HQ := Lib.hid Q0
  have HL := Lib.hid (And.intro hls hfs)
  clear hr hl hf hls hfs hlse Q0
  have HB0 := Lib.hid (Go.Joins.below_alloc2 w (.cells (arr4 nil4) 59) (.cells (arr4 nil4) 104))
  have BR : Hid (((w.alloc (Obj.cells (arr4 nil4) 59)).alloc (Obj.cells (arr4 nil4) 104)).heap[w.heap.size]? = some (.cells (arr4 nil4) 59 (0, 0))) := Lib.hid ((heap_alloc_old _ _ (by simp)).trans (heap_alloc_new w _))
  have BY : Hid (((w.alloc (Obj.cells (arr4 nil4) 59)).alloc (Obj.cells (arr4 nil4) 104)).heap[w.heap.size + 1]? = some (.cells (arr4 nil4) 104 (0, 0))) := Lib.hid (heap_alloc2_new w _ _)
  go_enter Tryd.func37, Tryd.ntmps37
  go_wp2_with (first
    | (go_at_call 13; rw [show (#[Value.slice none 0 0, Value.slice none 0 0, Value.slice none 0 0, Value.slice none 0 0] : Array Value) = arr4 nil4 from rfl]; generalize ((w.alloc (Obj.cells (arr4 nil4) 59)).alloc (Obj.cells (arr4 nil4) 104)) = W0 at HB0 BR BY ⊢; (with_reducible refine (HQ.out W0 HB0.out).mono ?_); rintro e w1 ⟨A8, c8, rfl, hS, hb⟩; have HI0 := Lib.hid (And.intro (flt_start BY.out HB0.out (Nat.le_succ _) hS hb) ((hb.block _ (blkLt BR.out)).trans BR.out)); clear hS hb))
  go_loopw [10] (fun v10 wr => ∃ k : Nat, k ≤ n ∧ v10 = .int .i64 k ∧ ∃ (F : Nat → Nat) (V : Nat → Value), Hid (FI w wr w1.heap.size (w.heap.size + 1) n F V (fun i => ofK (fltK i) (ls.take k)) (.slice A8 n c8) ls ∧ wr.heap[w.heap.size]? = some (.cells (arr4 nil4) 59 (0, 0)))) (fun v10 _ => n - (intOf v10).toNat)
  case atStart => exact ⟨0, Nat.zero_le _, rfl, _, _, HI0⟩
  case round =>
    obtain ⟨k, hk, rfl, F, V, hI⟩ := hrel
    by_cases hkn : k < n
    · obtain ⟨o, ho⟩ : ∃ o, ls[k]? = some o := ⟨_, List.getElem?_eq_getElem (by rw [HL.out.1]; exact hkn)⟩
      have hC := (Kd.S_reads' hI.out.1.srt).2.2
      rw [HL.out.1] at hC
      obtain ⟨ad, v4, v27, rfl, h4, h27, hcell0⟩ := obj_at hC k o ho
      have hlk : (k : Int) < (n : Int) := by omega
      have hone := o.cells_one (v4 := v4) (v27 := v27) h4.one h27.one
      obtain ⟨cs, hcs⟩ : ∃ cs, cs = o.cells v4 v27 := ⟨_, rfl⟩
      have QP := (fun W (hW : Below wr.heap.size wr W) => fltPlain_calls o v4 v27 W (h4.below hW) (h27.below hW) (HL.out.2 o (List.mem_of_getElem? ho)))
      rw [← hcs] at hcell0 hone QP
      replace QP := Lib.hid QP
      obtain ⟨z, hz⟩ : ∃ z, z = o.kind := ⟨_, rfl⟩
      have hk0 : cs[0]? = some (.int .i64 z) := by rw [hcs, hz]; rfl
      have HO := Lib.hid (And.intro hcell0 (And.intro hone (And.intro (show cs.size = 32 by rw [hcs]; rfl) (And.intro hk0 ho))))
      have HZ := Lib.hid hz
      clear hcell0 hone hcs ho h4 h27 hC hk0 hz
      cases hx : kindIx z with
      | none =>
        have hx' := Lib.hid hx
        go_wp2_with (first
          | ((with_reducible refine wpList_load_any rfl 48 (.tmp 12) rfl (ad.add (k * 32)) ?c1 cs _ ?c2 Tryd.underlying48 ?c3 ?c4 ?_); (case c1 => rfl); (case c2 => intro j u hu; rw [add_add]; exact HO.out.1 j u hu); (case c3 => rfl); (case c4 => rw [HO.out.2.2.1]; exact infoO1))
          | ((with_reducible refine wpList_store_blk rfl 48 (.tmp 5) (.tmp 13) rfl wr.heap.size 48 (Ob.zero.cells (.slice none 0 0) (.slice none 0 0)) cs ?s1 ?s2 ?s3 ?s4 ?s5 ?s6 ?_); (case s1 => rfl); (case s2 => rfl); (case s3 => exact heap_alloc_new _ _); (case s4 => rw [HO.out.2.2.1]; exact infoO1); (case s5 => rw [HO.out.2.2.1]; rfl); (case s6 => exact HO.out.2.1); intro w4 hG hk4 hb4 hz4; obtain ⟨g5, hg5⟩ : ∃ x, x = wr.heap.size := ⟨_, rfl⟩; rw [← hg5] at hG ⊢; have C0 : w4.cell? ⟨g5, 0, none⟩ = some (.int .i64 z) := (cell_of_row _ _ 0 _ _ _ hG).trans HO.out.2.2.2.1; have H4 := Lib.hid (hb4 _ _ (below_alloc (Below.refl _ _) _) (Nat.le_refl _)); clear hG hk4 hb4 hz4 hg5)
          | (go_at_call 78; (with_reducible refine (list_calls (w.heap.size + 1) z _).mono ?_); rintro e w5 ⟨rfl, rfl⟩; rw [hx, show ptrIx (w.heap.size + 1) none = .pointer none from rfl]))
        go_roundw
        case rel => exact ⟨k + 1, by omega, by go_num, F, V, Lib.hid ⟨(hI.out.1.below H4.out).congr (none_ofK HO.out.2.2.2.2 (by rw [← HZ.out]; exact hx'.out)), (H4.out.block _ (blkLt hI.out.2)).trans hI.out.2⟩⟩
        case measure => simp [intOf]; omega
      | some j =>
        have hj4 := kindIx_lt hx
        have hx' := Lib.hid hx
        go_upto_region 7 with (first
          | ((with_reducible refine wpList_load_any rfl 48 (.tmp 12) rfl (ad.add (k * 32)) ?c1 cs _ ?c2 Tryd.underlying48 ?c3 ?c4 ?_); (case c1 => rfl); (case c2 => intro j u hu; rw [add_add]; exact HO.out.1 j u hu); (case c3 => rfl); (case c4 => rw [HO.out.2.2.1]; exact infoO1))
          | ((with_reducible refine wpList_store_blk rfl 48 (.tmp 5) (.tmp 13) rfl wr.heap.size 48 (Ob.zero.cells (.slice none 0 0) (.slice none 0 0)) cs ?s1 ?s2 ?s3 ?s4 ?s5 ?s6 ?_); (case s1 => rfl); (case s2 => rfl); (case s3 => exact heap_alloc_new _ _); (case s4 => rw [HO.out.2.2.1]; exact infoO1); (case s5 => rw [HO.out.2.2.1]; rfl); (case s6 => exact HO.out.2.1); intro w4 hG hk4 hb4 hz4; obtain ⟨g5, hg5⟩ : ∃ x, x = wr.heap.size := ⟨_, rfl⟩; rw [← hg5] at hG ⊢; have C0 : w4.cell? ⟨g5, 0, none⟩ = some (.int .i64 z) := (cell_of_row _ _ 0 _ _ _ hG).trans HO.out.2.2.2.1; have H4 := Lib.hid (And.intro (hb4 _ _ (below_alloc (Below.refl _ _) _) (Nat.le_refl _)) hG); clear hG hk4 hb4 hz4 hg5)
          | (go_at_call 78; (with_reducible refine (list_calls (w.heap.size + 1) z _).mono ?_); rintro e w5 ⟨rfl, rfl⟩; rw [hx, show ptrIx (w.heap.size + 1) (some j) = .pointer (some ⟨w.heap.size + 1, j, none⟩) from rfl]))
        have HBD := below_drew (Below.refl w5.heap.size w5)
        have HF4 := Lib.hid (hI.out.1.below H4.out.1)
        have CY : w5.drew.cell? ⟨w.heap.size + 1, j, none⟩ = some (V j) := HF4.out.yd.cell hj4
        have CG : w5.drew.heap[g5]? = some (.cells cs 48 (0, 0)) := H4.out.2
        have HYB : Hid (w5.drew.heap[w.heap.size + 1]? = some (.cells (arr4 V) 104 (0, 0))) := Lib.hid HF4.out.yd.heap
        have hi1 : Hid ((Tryd.prog.info? 48).map (·.size) = some cs.size) := Lib.hid (by rw [HO.out.2.2.1]; exact infoO1)
        have HLN : Hid (((ofK (fltK j) (ls.take k)).length + 1) * 312 ≤ 140737488355328) := Lib.hid (by
          have h1 := ofK_len (fltK j) (ls.take k)
          rw [List.length_take] at h1
          omega)
        obtain ⟨vj, hvj⟩ : ∃ vj, vj = V j := ⟨_, rfl⟩
        rw [← hvj] at CY
        have HVJ := Lib.hid hvj
        obtain ⟨lj, hlj⟩ : ∃ lj, lj = ofK (fltK j) (ls.take k) := ⟨_, rfl⟩
        have HLJ := Lib.hid hlj
        rw [← hlj] at HLN
        clear hvj hlj hx
        refine start_ (n := 10) (S := fun w' => w'.cell? ⟨w.heap.size + 1, j, none⟩ = some vj ∧ w'.heap[g5]? = some (.cells cs 48 (0, 0))) (ds := [7, 9]) (bs 10 0) (by kernel_rfl) rfl (by kernel_rfl) ⟨CY, CG⟩ (fun hHeld => ?_)
        refine with_tabW rg37_7_tab rg37_7_bits (fun HT_ HW_ => ?_)
        refine pu 0 (some 19) (bs 10 1) HT_ rfl rfl (by kernel_rfl) (fun _ _ _ _ h => h) ⟨_, .inl ⟨by rfl, fun _ => by go_simp; with_reducible rfl⟩, _, by simp only [Act.put, sA, sB, sC, i64_w, i32_w]; rfl, ?_⟩
        refine pu 1 (some 20) (bs 10 3) HT_ rfl rfl (by kernel_rfl) (fun _ _ _ _ h => h) ⟨_, .inl ⟨by rfl, fun _ => by go_simp; with_reducible rfl⟩, _, by simp only [Act.put, sA, sB, sC, i64_w, i32_w]; rfl, ?_⟩
        refine pu 2 (some 21) (bs 10 7) HT_ rfl rfl (by kernel_rfl) (fun _ _ _ _ h => h) ⟨_, .inl ⟨by rfl, fun _ => by go_simp; with_reducible rfl⟩, _, by simp only [Act.put, sA, sB, sC, i64_w, i32_w]; rfl, ?_⟩
        refine tk 3 (some 22) (bs 10 15) HT_ HW_ rfl rfl (by kernel_rfl) (fun _ _ _ _ h => h) hHeld ⟨_, .inl ⟨by rfl, by rintro w' ⟨s0, s1⟩; go_simp; with_reducible rfl⟩, _, by simp only [Act.put, sA, sB, sC, i64_w, i32_w]; rfl, ?_⟩
        refine tk 4 (some 23) (bs 10 31) HT_ HW_ rfl rfl (by kernel_rfl) (fun _ _ _ _ h => h) hHeld ⟨_, .inl ⟨by rfl, by rintro w' ⟨s0, s1⟩; refine load_row (x := .tmp 5) ?_ ?_ s1 Tryd.underlying48 rfl hi1.out <;> rfl⟩, _, by simp only [Act.put, sA, sB, sC, i64_w, i32_w]; rfl, ?_⟩
        refine on1 5 (some 24) (bs 10 63) HT_ rfl rfl (by kernel_rfl) (by decide) (fun K hK => ?_)
        refine goes_ Tryd.func79 (by kernel_rfl) rfl #[.agg cs] (by rfl) rfl rfl (by (try simp only [List.map_toArray, List.map_cons, List.map_nil]); first | done | rfl) ?_
        with_reducible refine (QP.out _ (belT H4.out.1 HBD)).mono ?_
        rintro e w6 ⟨u4, u27, rfl, hM, hb⟩
        have HM6 := Lib.hid (flt_M hM HBD HF4.out.le)
        have HB6 := Lib.hid (belT HBD hb)
        replace CY := cell_below hb CY
        replace CG := blkB hb CG
        clear hM hb HBD
        refine ⟨_, rfl, ?_⟩
        refine hK.out _ _ ⟨CY, CG⟩ (fun hHeld => ?_)
        clear hK K
        refine nm ⟨_, show Act.put _ (some 24) _ = _ by simp only [Act.put, sA, sB, sC, i64_w, i32_w]; rfl, ?_⟩
        refine on1 6 (some 25) (bs 10 127) HT_ rfl rfl (by kernel_rfl) (by decide) (fun K hK => ?_)
        refine build1_ (by rfl) rfl 22 48 (.tmp 24) rfl ((plainO o).cells u4 u27) rfl (.agg (Ob.zero.cells (.slice none 0 0) (.slice none 0 0))) 32 312 Tryd.underlying22 infoO (Ob.cells_size _ _ _) (by omega) (by omega) rfl ?_
        refine hK.out _ _ ⟨cell_below (below_alloc (Below.refl _ _) _) CY, blkB (below_alloc (Below.refl _ _) _) CG⟩ (fun hHeld => ?_)
        clear hK K
        refine nm ⟨_, show Act.put _ (some 25) _ = _ by simp only [Act.put, sA, sB, sC, i64_w, i32_w]; rfl, ?_⟩
        refine la1 7 (some 26) (bs 10 255) HT_ rfl rfl (by kernel_rfl) (by decide) (fun K hK => ?_)
        refine Kd.S_append_step kO (w0 := w6) (W := w6) w1.heap.size (by rfl) (.tmp 22) (.tmp 25) 22 48 (.agg (Ob.zero.cells (.slice none 0 0) (.slice none 0 0))) 312 rfl Tryd.underlying22 infoO rfl (by decide) (by omega) vj lj (plainO o) ((plainO o).cells u4 u27).toList (fun b => newF F w5.heap.size j b = j) (fun b => w5.heap.size ≤ b) rfl rfl HM6.out (by rw [HVJ.out]; exact (HF4.out.yd.pre HB6.out hj4).2) (fun b hb => if_pos (Nat.le_trans HB6.out.size hb)) (by rw [HVJ.out, HLJ.out]; exact (HF4.out.yd.pre HB6.out hj4).1) (Below.refl _ _) (Nat.le_trans HF4.out.le HB6.out.size) HLN.out ?_
        intro v1 w7 hS7 hB7 hg7 hat7
        obtain ⟨A7, c7, e7⟩ := Kd.S_slice hS7
        have hv7 : v1.cells = #[v1] ∧ v1.oneCell' = true := by rw [e7]; exact ⟨rfl, rfl⟩
        have HA7 := Lib.hid (And.intro hS7 (And.intro hg7 hv7))
        have HG7 := Lib.hid (flt_yard HF4.out HB6.out hj4 (by rw [← HVJ.out]; exact hg7))
        clear hS7 hB7 hg7 hat7 e7 hv7
        refine hK.out _ _ ?_
        clear hK K
        refine nm ⟨_, show Act.put _ (some 26) _ = _ by simp only [Act.put, sA, sB, sC, i64_w, i32_w]; rfl, ?_⟩
        refine pu 8 (some 27) (bs 10 511) HT_ rfl rfl (by kernel_rfl) (fun _ _ _ _ h => h) ⟨_, .inl ⟨by rfl, fun _ => by go_simp; with_reducible rfl⟩, _, by simp only [Act.put, sA, sB, sC, i64_w, i32_w]; rfl, ?_⟩
        refine la1 9 (none) (bs 10 1023) HT_ rfl rfl (by kernel_rfl) (by decide) (fun K hK => ?_)
        refine store1_ (g := w.heap.size + 1) (i := j) (x := .tmp 27) (y := .tmp 26) (u := v1) (by rfl) rfl rfl rfl rfl HA7.out.2.2.1 HG7.out (by exact hj4) (by kernel_rfl) HA7.out.2.2.2 ?_
        intro w8 G8 hk8 hb8
        refine hK.out _ _ ?_
        clear hK K
        refine done_ (done_of HT_.out (by kernel_rfl)) ?_
        rw [arr4_set V hj4] at G8
        have H8 := Lib.hid (flt_next HF4.out HB6.out hj4 HVJ.out HLJ.out HA7.out.1 HA7.out.2.1 G8 hk8 hb8 HO.out.2.2.2.2 (by rw [← HZ.out]; exact hx'.out) ((H4.out.1.block _ (blkLt hI.out.2)).trans hI.out.2))
        clear G8 hk8 hb8
        go_wp2
        go_roundw
        case rel => exact ⟨k + 1, by omega, by go_num, _, _, H8⟩
        case measure => simp [intOf]; omega
    · obtain rfl : k = n := by omega
      have hI1 := hI.out
      rw [List.take_of_length_le (Nat.le_of_eq HL.out.1)] at hI1
      have HI := Lib.hid hI1
      clear hI1
      go_wp2_with (first
        | ((with_reducible refine wpList_load_any_w ?g0 59 (.tmp 29) rfl ⟨w.heap.size + 1, 0, none⟩ ?g1 (arr4 V) _ ?g2 Tryd.underlying59 rfl ?g3 ?_); (case g0 => rfl); (case g1 => rfl); (case g2 => intro j u hu; rw [add_at, Nat.zero_add, cell_of_row _ _ j _ _ _ HI.out.1.yd.heap]; exact hu); (case g3 => exact infoF1))
        | ((with_reducible refine wpList_store_blk rfl 59 (.tmp 2) (.tmp 30) rfl w.heap.size 59 (arr4 nil4) (arr4 V) ?y1 ?y2 ?y3 ?y4 ?y5 ?y6 ?_); (case y1 => rfl); (case y2 => rfl); (case y3 => exact HI.out.2); (case y4 => exact infoF1); (case y5 => rfl); (case y6 => exact flt_one HI.out.1.yd); intro w6 BC' hk6 hb6 hz6))
      refine bodyPost_ret (v := .agg (arr4 V)) (results_cell_row (p := 2) (ty := 59) rfl _ _ w.heap.size 59 (arr4 V) (0, 0) _ (by rfl) BC' Tryd.underlying59 rfl infoF1) rfl ?_
      exact ⟨V, F, rfl, fun j hj => flt_end HI.out.1 hj hk6, hb6 _ _ HI.out.1.bel (Nat.le_refl _)⟩
end Go.Proofs.YtoepbjgldmgaoaaDoor

/- Labels and objects that were lent: are they as they were? -/
namespace Go.Proofs.YtoepbjgldmgaoaaDoor
open Go.RowKit Go.Proofs.YtoepbjgldmgaoaaDoorW.PrintWords Go.Proofs.YtoepbjgldmgaoaaDoorW.PrintLast
section
attribute [local go_sem high] eqLab
theorem labAt {w : World} {b : Addr} {n k : Nat} {xs : List Lab} {p : Lab} (h : kL.C w (some b) n xs) (hp : xs[k]? = some p) :
    w.cell? (b.add (k * 2)) = some (.string p.f0) ∧ w.cell? ⟨(b.add (k * 2)).block, (b.add (k * 2)).off + 1, none⟩ = some (.string p.f1) := by
  have hk : k < xs.length := (List.getElem?_eq_some_iff.1 hp).1
  have hn := h.1
  obtain ⟨ad, e, h0, h1⟩ := QLb.at_T98 h (k : Int) (by omega) (by omega)
  obtain rfl := Option.some.inj e
  have hr : QLb.rd_T98 xs (k : Int) = p := by simp [QLb.rd_T98, List.getD_eq_getElem?_getD, hp]
  rw [hr] at h0 h1
  simpa using ⟨h0, h1⟩
theorem markLabels_calls (j : Int) (w : World) : ∃ s0 s1, markL j = ⟨s0, s1⟩ ∧ Calls Tryd.prog 93 #[.int .i64 90, .int .i64 j] w fun e w' => e = .returned (.agg #[.string s0, .string s1]) ∧ Below w.heap.size w w' :=
  ⟨_, _, rfl, QLb.flotillakit_markLabels.calls 90 j _ _ w (mark_f j)⟩
set_option maxHeartbeats 1600000 in
theorem keptFullLabels (l : List Lab) (b0 : Addr) (A1 : Option Addr) (c0 c1 n0 : Nat) (w : World) (h0 : kL.C w (some b0) (l.length + 16) (l ++ marksL)) (h1 : kL.C w A1 l.length l) (hn0 : n0 = l.length + 16) (hbd : l.length ≤ 4398046510976) :
    Calls Tryd.prog 111 #[.slice (some b0) n0 c0, .slice A1 l.length c1] w fun e w' => e = .returned (.bool true) ∧ Below w.heap.size w w' := by
  rw [← hn0] at h0
  have H0 := Lib.hid h0
  have H1 := Lib.hid h1
  have e1 : ((n0 : Int) != (l.length : Int) + 16) = false := by simp; omega
  have hk16 : n0 ≤ l.length + 16 := by omega
  have hk17 : l.length + 16 ≤ n0 := by omega
  clear h0 h1 hn0
  go_enter Tryd.func111, Tryd.ntmps111
  go_wp2
  go_loopw [5] (fun v5 wr => ∃ k : Nat, k ≤ n0 ∧ v5 = .int .i64 k ∧ Below w.heap.size w wr) (fun v5 _ => n0 - (intOf v5).toNat)
  case atStart => exact ⟨0, Nat.zero_le _, rfl, Below.refl _ _⟩
  case round =>
    obtain ⟨k, hk, rfl, hB⟩ := hrel
    have hC0 : Hid (kL.C wr (some b0) n0 (l ++ marksL)) := Lib.hid (Kd.C_below H0.out hB)
    have hC1 : Hid (kL.C wr A1 l.length l) := Lib.hid (Kd.C_below H1.out hB)
    by_cases hlt : k < n0
    · obtain ⟨s0, s1, hm, QM⟩ := markLabels_calls ((k : Int) - (l.length : Int)) wr
      by_cases hl1 : k < l.length
      · obtain ⟨p, hp⟩ : ∃ p, l[k]? = some p := ⟨l[k], List.getElem?_eq_getElem hl1⟩
        have hp0 : Hid ((l ++ marksL)[k]? = some p) := Lib.hid (by rw [List.getElem?_append_left hl1]; exact hp)
        have hp1 : Hid (l[k]? = some p) := Lib.hid hp
        have HQ := Lib.hid QM
        clear hp hm QM
        obtain ⟨b1, rfl⟩ : ∃ b1, A1 = some b1 := by obtain ⟨ad, e, _⟩ := hC1.out.2.2 (by omega); exact ⟨ad, e⟩
        go_wp2_with (go_at_call 93; refine HQ.out.mono ?_; rintro e w1 ⟨rfl, hb1⟩; have q0 := fun X => (labAt (Kd.C_below hC0.out (below_alloc hb1 X)) hp0.out).1; have q1 := fun X => (labAt (Kd.C_below hC0.out (below_alloc hb1 X)) hp0.out).2; have r0 := fun X => (labAt (Kd.C_below hC1.out (below_alloc hb1 X)) hp1.out).1; have r1 := fun X => (labAt (Kd.C_below hC1.out (below_alloc hb1 X)) hp1.out).2)
        go_quiet (fail)
        go_wp2
        go_roundw
        case rel => exact ⟨k + 1, by omega, by go_num, hB.trans ((pw_below_drewN (below_alloc hb1 _) _).mono hB.size)⟩
        case measure => simp [intOf]; omega
      · have hp0 : Hid ((l ++ marksL)[k]? = some ⟨s0, s1⟩) := Lib.hid (by
          rw [List.getElem?_append_right (by omega), marksN_at 16 _ (by omega), ← hm]
          have e : ((k - l.length : Nat) : Int) = (k : Int) - (l.length : Int) := by omega
          rw [e])
        have HQ := Lib.hid QM
        clear hm QM
        go_wp2_with (go_at_call 93; refine HQ.out.mono ?_; rintro e w1 ⟨rfl, hb1⟩; have q0 := fun X => (labAt (Kd.C_below hC0.out (below_alloc hb1 X)) hp0.out).1; have q1 := fun X => (labAt (Kd.C_below hC0.out (below_alloc hb1 X)) hp0.out).2)
        go_quiet (fail)
        go_wp2
        go_roundw
        case rel => exact ⟨k + 1, by omega, by go_num, hB.trans ((pw_below_drewN (below_alloc hb1 _) _).mono hB.size)⟩
        case measure => simp [intOf]; omega
    · go_wp2
      go_ret
      exact ⟨rfl, hB⟩
theorem keptLabels_calls {w : World} {l : List Lab} {v u : Value} (h : LentK w l v) (g : LabK w l u) (hbd : l.length ≤ 4398046510976) :
    Calls Tryd.prog 98 #[v, u] w fun e w' => e = .returned (.bool true) ∧ Below w.heap.size w w' := by
  obtain ⟨b0, c0, rfl, hc0, h0⟩ := h
  obtain ⟨A1, c1, rfl, hc1', h1⟩ := g
  have hc1 : (l.length : Int) + 16 ≤ (c0 : Int) := by omega
  have hn : ((l.length : Int) + 16).toNat = l.length + 16 := by omega
  have HC := Lib.hid (keptFullLabels l b0 A1 c0 c1 (l.length + 16) w h0 h1 rfl hbd)
  clear h0 h1 hc0
  go_enter Tryd.func98, Tryd.ntmps98
  go_wp2_with (go_at_call 111; refine HC.out.mono ?_; rintro e w1 ⟨rfl, hb1⟩)
  go_ret
  exact ⟨rfl, hb1⟩
end
end Go.Proofs.YtoepbjgldmgaoaaDoor

/- ApartLabels: lists of labels, each in memory of its own, are written over, and hold what was written. (Under way.) -/
namespace Go.Proofs.YtoepbjgldmgaoaaDoor
open Go.RowKit Go.Proofs.YtoepbjgldmgaoaaDoorW.PrintWords Go.Proofs.YtoepbjgldmgaoaaDoorW.PrintLast
def markK (k i : Nat) : Lab := ⟨strOfNums ([35, (k : Int) % 256, (k : Int) / 256 % 256, (i : Int) % 256, (i : Int) / 256 % 256] : List Int), (⟨#[]⟩ : ByteArray)⟩
def marksK (k n : Nat) : List Lab := (List.range n).map (markK k)
theorem marksK_length (k n : Nat) : (marksK k n).length = n := by simp [marksK]
theorem marksK_succ (k n : Nat) : marksK k (n + 1) = marksK k n ++ [markK k n] := by simp [marksK, List.range_succ]
theorem marksK_at (k n i : Nat) (h : i < n) : (marksK k n)[i]? = some (markK k i) := by simp [marksK, h]
theorem markK_calls (k i : Nat) (w : World) : Calls Tryd.prog 93 #[.int .i64 k, .int .i64 i] w fun e w' => e = .returned (.agg #[.string (markK k i).f0, .string (markK k i).f1]) ∧ Below w.heap.size w w' :=
  QLb.flotillakit_markLabels.calls k i _ _ w rfl
structure OnlyB (G : Nat → Prop) (w w' : World) : Prop where
  os : w'.os = w.os
  tape : w'.tape = w.tape
  output : w'.output = w.output
  size : w.heap.size ≤ w'.heap.size
  block : ∀ k, k < w.heap.size → ¬ G k → w'.heap[k]? = w.heap[k]?
theorem OnlyB.refl (G : Nat → Prop) (w : World) : OnlyB G w w := ⟨rfl, rfl, rfl, Nat.le_refl _, fun _ _ _ => rfl⟩
theorem OnlyB.of_below {G : Nat → Prop} {w w' : World} (h : Below w.heap.size w w') : OnlyB G w w' := ⟨h.os, h.tape, h.output, h.size, fun k hk _ => h.block k hk⟩
theorem OnlyB.trans {G : Nat → Prop} {a b c : World} (h : OnlyB G a b) (k : OnlyB G b c) : OnlyB G a c :=
  ⟨k.os.trans h.os, k.tape.trans h.tape, k.output.trans h.output, Nat.le_trans h.size k.size, fun i hi hg => (k.block i (Nat.lt_of_lt_of_le hi h.size) hg).trans (h.block i hi hg)⟩
theorem OnlyB.of_grown {G : Nat → Prop} {w w' : World} {row : Option Nat} (h : w.grownBy w' row) (hr : ∀ k, row = some k → G k) : OnlyB G w w' :=
  ⟨h.os, h.tape, h.output, h.size, fun k hk hg => h.block k hk (fun e => hg (hr k e.symm))⟩
theorem OnlyB.below {G : Nat → Prop} {B : Nat} {a b c : World} (h : Below B a b) (k : OnlyB G b c) (hB : ∀ k, G k → B ≤ k) (hs : B ≤ b.heap.size) : Below B a c :=
  ⟨k.os.trans h.os, k.tape.trans h.tape, k.output.trans h.output, Nat.le_trans h.size k.size, fun i hi => (k.block i (by omega) (fun hg => by have := hB i hg; omega)).trans (h.block i hi)⟩
structure Bk (w : World) (base : Nat) (V : List Value) (L : Nat → List Lab) : Prop where
  row : ∀ k v, V[k]? = some v → kL.R 98 w base (fun b => some b = v.ownBlock) v (L k)
def ApartV (V : List Value) : Prop := ∀ (j k : Nat) (v u : Value), j ≠ k → V[j]? = some v → V[k]? = some u → ∀ b, v.ownBlock = some b → u.ownBlock ≠ some b
def inV (V : List Value) (b : Nat) : Prop := ∃ v ∈ V, v.ownBlock = some b
theorem Bk.below {w w1 : World} {base : Nat} {V : List Value} {L : Nat → List Lab} (h : Bk w base V L) (hb : Below w.heap.size w w1) : Bk w1 base V L := ⟨fun k v hv => Kd.R_below (h.row k v hv) hb⟩
theorem Bk.congr {w : World} {base : Nat} {V : List Value} {L M : Nat → List Lab} (h : Bk w base V L) (e : ∀ k, k < V.length → L k = M k) : Bk w base V M := ⟨fun k v hv => by rw [← e k (List.getElem?_eq_some_iff.1 hv).1]; exact h.row k v hv⟩
theorem Bk.turn {w w1 : World} {base : Nat} {V : List Value} {L : Nat → List Lab} (h : Bk w base V L) (ha : ApartV V) {k : Nat} {v : Value} (hk : V[k]? = some v) (hg : w.grownBy w1 v.ownBlock) {l : List Lab} (hR : kL.R 98 w1 base (fun b => some b = v.ownBlock) v l) : Bk w1 base V (fun j => if j = k then l else L j) := by
  refine ⟨fun j u hu => ?_⟩
  by_cases hj : j = k
  · subst hj
    rw [hk] at hu
    obtain rfl := Option.some.inj hu
    rw [if_pos rfl]
    exact hR
  · rw [if_neg hj]
    have hr := h.row j u hu
    refine Kd.R_move hr (fun b hb => hg.block b (Kd.R_lt hr b hb.symm) (fun e => ?_))
    exact ha k j v u (fun e => hj e.symm) hk hu b e.symm hb.symm
section
variable {P : Program}
theorem storeLab_ {ops : Array Oper} {oi : Oper} {a : Act} {W : World} {K : Act → World → Prop} {Q : Exit → Act → World → Prop} {base g n cap i : Nat} {ok : Nat → Prop} {xs : List Lab} {p x : Operand} {s0 s1 : ByteArray} (hinfo : (P.info? 98).map (·.size) = some 2) (hw : Region.wanted oi (yielded ops a.tmps) = true) (hN : oi.dst = none) (ho : oi.op = .store 98 p x)
    (haddr : a.eval p = .pointer (some ⟨g, i * 2, none⟩)) (hx : a.eval x = .agg #[.string s0, .string s1]) (HO : kL.R 98 W base ok (.slice (some ⟨g, 0, none⟩) n cap) xs) (hi : i < n)
    (h : ∀ w1, kL.R 98 w1 base ok (.slice (some ⟨g, 0, none⟩) n cap) (xs.set i ⟨s0, s1⟩) → W.grownBy w1 (some g) → K a w1) :
    if Region.wanted oi (yielded ops a.tmps) = true then Oper.wp P oi a W K Q else K (a.put none undef) W := by
  obtain ⟨hn, _, hC⟩ := Kd.R_reads' HO
  have hil : i < xs.length := by omega
  obtain ⟨p0, hp0⟩ : ∃ p0, xs[i]? = some p0 := ⟨_, List.getElem?_eq_getElem hil⟩
  obtain ⟨c0, c1⟩ := labAt hC hp0
  rw [add_at, Nat.zero_add] at c0 c1
  have hs := Kd.R_seg HO (i : Int) (by omega) (by omega) (c := [.string p0.f0, .string p0.f1]) (seg := [.string s0, .string s1]) (j := 0) rfl (fun j u hu => by
    match j, hu with
    | 0, hu => obtain rfl : Value.string p0.f0 = u := by simpa using hu
               exact c0
    | 1, hu => obtain rfl : Value.string p0.f1 = u := by simpa using hu
               exact c1
    | j + 2, hu => simp at hu) (Nat.le_refl 2) (x' := ⟨s0, s1⟩) (okp := fun _ => False) (QLb.k98_mkM _ _ _ _) (fun _ hk => hk.elim)
  simp only [Nat.add_zero, Int.toNat_natCast] at hs
  have hsz : kL.sz = 2 := rfl
  rw [hsz] at hs
  refine skip_ hw hN (w1 := W.setCells g (i * 2) [.string s0, .string s1]) ?_ (h _ hs.1 hs.2)
  obtain ⟨hok, inner, hown, hr⟩ := HO
  rcases hown.2 with ⟨hv, _⟩ | ⟨g', cap', cur, hv, hb, hh, hnc', hcm, hcs, ht⟩
  · cases hv
  · injection hv with hv1 hv2 hv3
    injection hv1 with hv1
    injection hv1 with hv1
    subst hv1
    have hst := run_store_run (P := P) (w := W) (g := g) (o := i * 2) 98 (.agg #[.string s0, .string s1]) [.string s0, .string s1] hh rfl hinfo (by
      rw [hcs]
      show i * 2 + 2 ≤ _
      rw [hsz]
      omega) (fun q hq => by
      simp only [List.mem_cons, List.not_mem_nil, or_false] at hq
      rcases hq with rfl | rfl <;> rfl)
    unfold execOp
    simp [ho, haddr, hx, hst]
end
end Go.Proofs.YtoepbjgldmgaoaaDoor

/- append to a row of one's own: what it held stays where it lay, whether the row moves or not. -/
namespace Go.Proofs.YtoepbjgldmgaoaaDoor
open Go.RowKit Go.Proofs.YtoepbjgldmgaoaaDoorW.PrintWords Go.Proofs.YtoepbjgldmgaoaaDoorW.PrintLast
section
variable {P : Program}
theorem run_append_keep (w : World) (base : Nat) (t ty e : TypeId) (i : TypeInfo) (z : Value) (size bytes : Nat) (ht : P.underlying t = some (.slice e)) (hi : P.info? e = some i) (hz : i.zero = some z)
    (hsize : i.size = size) (hby : i.bytes = bytes) (hzs : z.cells.size = size) (hsz : 0 < size)
    (v : Value) (n : Nat) (xs : List Value) (hown : w.ownsRow base e size v n xs)
    (a : Addr) (m c : Nat) (news : List Value) (hl : news.length = m * size) (hnews : ∀ j u, news[j]? = some u → w.cell? (a.add j) = some u) (h1 : ∀ u ∈ news, u.oneCell' = true)
    (h63 : n + m ≤ maxLen) (hbytes : (n + m) * bytes ≤ 140737488355328) (hbase : base ≤ w.heap.size) :
    ∃ v' w', (Builtin.append_ #[t, t] ty #[v, .slice (some a) m c]).run P w = .ok v' w' ∧ w'.ownsRow base e size v' (n + m) (xs ++ news) ∧ w.grownBy w' v.ownBlock ∧
      (v'.ownBlock = v.ownBlock ∨ v'.ownBlock = some w.heap.size) ∧ ∀ g q, v.ownBlock = some g → q < n * size → w'.cell? ⟨g, q, none⟩ = w.cell? ⟨g, q, none⟩ := by
  obtain ⟨v', w', hr, h2, h3, _, h5⟩ := run_append_own_at (P := P) w base t ty e i z size bytes ht hi hz hsize hby hzs hsz v n xs hown a m c news hl hnews h1 h63 hbytes hbase
  refine ⟨v', w', hr, h2, h3, h5, fun g q hg hq => ?_⟩
  subst hsize
  subst hby
  have hsmall : n + m ≤ 9223372036854775807 := by simp only [maxLen] at h63; omega
  have hown' := hown
  rcases hown.2 with ⟨rfl, _⟩ | ⟨g0, cap, cur, rfl, hbg, hh, hnc, hcm, hcs, htake⟩
  · simp [Value.ownBlock] at hg
  · obtain rfl : g0 = g := by simpa [Value.ownBlock] using hg
    have hqc : q < cur.size := by
      rw [hcs]
      exact Nat.lt_of_lt_of_le hq (Nat.mul_le_mul_right _ hnc)
    by_cases hroom : n + m ≤ cap
    · have hfit : n * i.size + news.length ≤ cur.size := by rw [hl, hcs, ← Nat.add_mul]; exact Nat.mul_le_mul_right _ hroom
      have hr2 := run_append_room (P := P) w t ty e i ht hi g0 n cap cur hh a m c news hl hnews h1 hroom hfit
      rw [hr] at hr2
      injection hr2 with _ hw
      subst hw
      rw [cell_of_row _ g0 q _ e _ (setRow_heap w g0 cur _ e _ hh), cell_of_row _ g0 q cur e _ hh]
      have : q < (cur.toList.take (n * i.size)).length := by rw [List.length_take, Array.length_toList]; omega
      simp [List.getElem?_append_left this, List.getElem?_take, hq]
    · have holds : ∀ j u, xs[j]? = some u → w.cell? ((⟨g0, 0, none⟩ : Addr).add j) = some u := hown.cells (g := g0) rfl
      have hr2 := run_append_grow (P := P) w t ty e i z ht hi hz ⟨g0, 0, none⟩ n cap xs hown.1 holds a m c news hl hnews (by omega) (by omega) (growslice_fits (by omega) hbytes)
      rw [hr] at hr2
      injection hr2 with _ hw
      subst hw
      have hlt : g0 < w.heap.size := blkLt hh
      have e1 : ∀ o, (w.drew.alloc o).heap[g0]? = w.drew.heap[g0]? := fun o => heap_alloc_old w.drew o hlt
      unfold World.cell?
      simp only [e1]
      rfl
theorem R_append_keep {ops : Array Oper} {rest : List Oper} {o : Oper} {a : Act} {Q : Exit → Act → World → Prop} {α : Type} (d : Kd α) {w0 W : World} (base : Nat) (hgd : o.guard = none) (s x : Operand) (t e : TypeId) (z : Value) (bytes : Nat)
    (ho : o.op = .call { callee := .builtin .append, args := #[s, x], argTypes := #[t, t] })
    (ht : P.underlying t = some (.slice e)) (hinfo : (P.info? e).map (fun i => (i.zero, i.size, i.bytes)) = some (some z, d.sz, bytes)) (hz : z.cells.size = d.sz) (hs0 : 0 < d.sz) (hb0 : 0 < bytes)
    (v : Value) (xs : List α) (p : α) (cs : List Value) (ok okp : Nat → Prop) (hs : a.eval s = v) (hx : a.eval x = .slice (some ⟨W.heap.size, 0, none⟩) 1 1) (hp : d.M W base okp p cs) (hokp : ∀ k, okp k → ok k ∧ some k ≠ v.ownBlock) (hfresh : ∀ k, W.heap.size ≤ k → ok k)
    (HO : d.R e W base ok v xs) (HB : Below base w0 W) (hbase : base ≤ W.heap.size) (hl : (xs.length + 1) * bytes ≤ 140737488355328)
    (h : ∀ v1 w1, d.R e w1 base ok v1 (xs ++ [p]) → Below base w0 w1 → W.grownBy w1 v.ownBlock → (v1.ownBlock = v.ownBlock ∨ ∃ b, v1.ownBlock = some b ∧ W.heap.size ≤ b) → (∀ g q, v.ownBlock = some g → q < xs.length * d.sz → w1.cell? ⟨g, q, none⟩ = W.cell? ⟨g, q, none⟩) → wpList P ops Q rest (a.put o.dst v1) w1) :
    wpList P ops Q (o :: rest) a (W.alloc (.cells cs.toArray e)) := by
  obtain ⟨h0, inner, hown, hr⟩ := HO
  obtain ⟨i0, hi, hzz⟩ := Option.map_eq_some_iff.1 hinfo
  simp only [Prod.mk.injEq] at hzz
  obtain ⟨hz0, hz1, hz2⟩ := hzz
  have hlen : xs.length + 1 ≤ 140737488355328 := Nat.le_trans (Nat.le_mul_of_pos_right _ hb0) hl
  have hcl : cs.length = d.sz := d.K_len (d.K_of_M hp)
  have hown0 := hown
  obtain ⟨v1, w1, hrun, hown1, hg1, hat1, hkeep⟩ := run_append_keep (P := P) (W.alloc (.cells cs.toArray e)) base t o.type e i0 z d.sz bytes ht hi hz0 hz1 hz2 hz hs0 v xs.length inner (hown.alloc _) ⟨W.heap.size, 0, none⟩ 1 1 cs (by rw [hcl, Nat.one_mul])
    (by simpa using World.news_of_block (cs := cs.toArray) (t := e) (fr := (0, 0)) (heap_alloc_new W _)) (d.K_one (d.K_of_M hp)) (by simp only [maxLen]; omega) hl (by simp; omega)
  refine wpList_plain hgd fun K hK => ?_
  unfold Oper.wp execOp
  simp only [ho, resolve, invoke, builtin, Sem.run_bind, Sem.run_pure, Result.andThen_ok, List.map_toArray, List.map_cons, List.map_nil, hs, hx, hrun]
  have hat : v1.ownBlock = v.ownBlock ∨ ∃ b, v1.ownBlock = some b ∧ W.heap.size ≤ b := by
    rcases hat1 with hat | hat
    · exact .inl hat
    · exact .inr ⟨_, hat, by simp⟩
  have hg : W.grownBy w1 v.ownBlock := World.grownBy.trans (World.grownBy_alloc W _ _) hg1
  refine hK _ _ (h v1 w1 (Kd.R_appended h0 hr hp hokp hfresh hown1 hg hat) ((HB.alloc hbase _).grown hg1 (by simp; omega) (own_base hown0)) hg hat (fun g q hgb hq => ?_))
  rw [hkeep g q hgb hq]
  unfold World.cell?
  rw [heap_alloc_old W _ (own_lt hown0 g hgb)]
end
end Go.Proofs.YtoepbjgldmgaoaaDoor

/- ApartLabels' second loop, plainly: lists that are appended to, in place or moved. -/
namespace Go.Proofs.YtoepbjgldmgaoaaDoor
open Go.RowKit Go.Proofs.YtoepbjgldmgaoaaDoorW.PrintWords Go.Proofs.YtoepbjgldmgaoaaDoorW.PrintLast
theorem cell_same {w w' : World} {a : Addr} (h : w'.heap[a.block]? = w.heap[a.block]?) : w'.cell? a = w.cell? a := by
  unfold World.cell?
  rw [h]
theorem add_block (a : Addr) (k : Nat) : (a.add k).block = a.block := by unfold Addr.add; split <;> rfl
theorem OnlyB.grown' {G : Nat → Prop} {w W w1 : World} {row : Option Nat} (h : OnlyB G w W) (hg : W.grownBy w1 row) (hr : ∀ k, row = some k → G k ∨ w.heap.size ≤ k) : OnlyB G w w1 :=
  ⟨hg.os.trans h.os, hg.tape.trans h.tape, hg.output.trans h.output, Nat.le_trans h.size hg.size, fun k hk hn => (hg.block k (Nat.lt_of_lt_of_le hk h.size) (fun e => by
    rcases hr k e.symm with h1 | h1
    · exact hn h1
    · omega)).trans (h.block k hk hn)⟩
structure Gs (w wa : World) (base : Nat) (V G : List Value) (n : Nat → Nat) : Prop where
  row : ∀ (j : Nat) (u : Value), G[j]? = some u → kL.R 98 w base (fun b => some b = u.ownBlock) u (marksK j (n j + 64))
  old : ∀ (j : Nat) (u v : Value), G[j]? = some u → V[j]? = some v → ∀ b, u.ownBlock = some b → v.ownBlock = some b ∨ wa.heap.size ≤ b
theorem Gs.below {w wa w1 : World} {base : Nat} {V G : List Value} {n : Nat → Nat} (h : Gs w wa base V G n) (hb : Below w.heap.size w w1) : Gs w1 wa base V G n := ⟨fun j u hu => Kd.R_below (h.row j u hu) hb, h.old⟩
theorem Gs.other {wa wo W w1 : World} {base k : Nat} {V G : List Value} {n : Nat → Nat} (h : Gs W wa base V G n) (hG : Gs wo wa base V G n) (hl : G.length = k) (ha : ApartV V) {v u : Value} (hv : V[k]? = some v) (hvl : ∀ b, v.ownBlock = some b → b < wa.heap.size) (hlt : G.length ≤ V.length)
    (hu : ∀ b, u.ownBlock = some b → v.ownBlock = some b ∨ wo.heap.size ≤ b) (hg : W.grownBy w1 u.ownBlock) : Gs w1 wa base V G n := by
  refine ⟨fun j x hx => ?_, h.old⟩
  have hr := h.row j x hx
  refine Kd.R_move hr (fun b hb => hg.block b (Kd.R_lt hr b hb.symm) (fun e => ?_))
  have hj : j < G.length := (List.getElem?_eq_some_iff.1 hx).1
  obtain ⟨vj, hvj⟩ : ∃ vj, V[j]? = some vj := ⟨_, List.getElem?_eq_getElem (by omega)⟩
  rcases hu b e.symm with h1 | h1
  · rcases h.old j x vj hx hvj b hb.symm with h2 | h2
    · exact ha j k vj v (by omega) hvj hv b h2 h1
    · have := hvl b h1
      omega
  · have := Kd.R_lt (hG.row j x hx) b hb.symm
    omega
theorem LabK.keep {w w1 : World} {l : List Lab} {v : Value} (h : LabK w l v) (hs : ∀ ad c, v = .slice (some ad) l.length c → ∀ q, q < l.length * 2 → w1.cell? (ad.add q) = w.cell? (ad.add q)) : LabK w1 l v := by
  obtain ⟨A, c, rfl, hl, hr⟩ := h
  refine ⟨A, c, rfl, hl, hr.1, hr.2.1, fun hp => ?_⟩
  obtain ⟨ad, e, hc⟩ := hr.2.2 hp
  subst e
  refine ⟨ad, rfl, fun j p hj => ?_⟩
  obtain ⟨cs, h1, h2, h3⟩ := hc j p hj
  have hjl : j < l.length := (List.getElem?_eq_some_iff.1 hj).1
  refine ⟨cs, h1, QLb.k98_open h2 ▸ QLb.k98_mk w1 p, fun i u hu => ?_⟩
  have hi : i < 2 := by
    have := (List.getElem?_eq_some_iff.1 hu).1
    rw [h1] at this
    exact this
  have hsz : kL.sz = 2 := rfl
  rw [hsz] at h3 ⊢
  rw [hs ad c rfl (j * 2 + i) (by omega)]
  exact h3 i u hu
theorem LabK.same {w w1 : World} {l : List Lab} {v : Value} (h : LabK w l v) (hs : ∀ b, v.ownBlock = some b → w1.heap[b]? = w.heap[b]?) : LabK w1 l v :=
  h.keep fun ad c e q _ => cell_same (a := ad.add q) (by rw [add_block]; exact hs ad.block (by rw [e]; rfl))
structure BI (w wa W : World) (base : Nat) (V G : List Value) (n : Nat → Nat) (v5 : Value) (m : Nat) : Prop where
  rd : ∀ (j : Nat) (v : Value), V[j]? = some v → LabK W (marksK j (n j)) v
  todo : ∀ (j : Nat) (v : Value), m ≤ j → V[j]? = some v → kL.R 98 W base (fun b => some b = v.ownBlock) v (marksK j (n j))
  gs : Gs W wa base V G n
  row : (Kd.raw 1).R 43 W wa.heap.size (fun _ => True) v5 (G.map fun u => [u])
  only : OnlyB (inV V) w W
theorem BI.below {w wa W w1 : World} {base : Nat} {V G : List Value} {n : Nat → Nat} {v5 : Value} {m : Nat} (h : BI w wa W base V G n v5 m) (hb : Below W.heap.size W w1) : BI w wa w1 base V G n v5 m :=
  ⟨fun j v hv => (h.rd j v hv).below hb, fun j v hm hv => Kd.R_below (h.todo j v hm hv) hb, h.gs.below hb, Kd.R_below h.row hb, h.only.trans (OnlyB.of_below hb)⟩
theorem BI.step {w wa wo W w1 : World} {base k : Nat} {V G : List Value} {n : Nat → Nat} {v5 u v : Value} {xs : List Lab} (h : BI w wa W base V G n v5 (k + 1)) (hG : Gs wo wa base V G n) (hl : G.length = k) (ha : ApartV V) (hv : V[k]? = some v) (hV : ∀ x ∈ V, ∀ b, x.ownBlock = some b → b < wa.heap.size) (hww : w.heap.size ≤ wa.heap.size) (hwo : wa.heap.size ≤ wo.heap.size) (hwW : wo.heap.size ≤ W.heap.size)
    (hv0 : ∀ ad c, v = .slice (some ad) (n k) c → ad.off = 0 ∧ ad = ⟨ad.block, 0, none⟩)
    (hu : ∀ b, u.ownBlock = some b → v.ownBlock = some b ∨ wo.heap.size ≤ b) (hR : kL.R 98 W base (fun _ => True) u xs) (hxs : n k ≤ xs.length) (hg : W.grownBy w1 u.ownBlock)
    (hkeep : ∀ g q, u.ownBlock = some g → q < xs.length * 2 → w1.cell? ⟨g, q, none⟩ = W.cell? ⟨g, q, none⟩) : BI w wa w1 base V G n v5 (k + 1) := by
  have hVo : ∀ j x, V[j]? = some x → j ≠ k → ∀ b, x.ownBlock = some b → u.ownBlock ≠ some b := fun j x hx hj b hb e => by
    rcases hu b e with h1 | h1
    · exact ha k j v x (fun e => hj e.symm) hv hx b h1 hb
    · have := hV x (List.mem_of_getElem? hx) b hb
      omega
  have hlt : ∀ x ∈ V, ∀ b, x.ownBlock = some b → b < W.heap.size := fun x hx b hb => by
    have := hV x hx b hb
    omega
  refine ⟨fun j x hx => ?_, fun j x hm hx => ?_, ?_, ?_, ?_⟩
  · by_cases hj : j = k
    · subst hj
      rw [hv] at hx
      obtain rfl := Option.some.inj hx
      have h0 := h.rd j v hv
      refine h0.keep fun ad c e q hq => ?_
      rw [marksK_length] at e hq
      obtain ⟨_, e2⟩ := hv0 ad c e
      by_cases hub : u.ownBlock = some ad.block
      · rw [e2, add_at, Nat.zero_add]
        exact hkeep ad.block q hub (by omega)
      · refine cell_same (a := ad.add q) ?_
        rw [add_block]
        exact hg.block _ (hlt v (List.mem_of_getElem? hv) _ (by rw [e]; rfl)) (fun e' => hub e'.symm)
    · exact (h.rd j x hx).same fun b hb => hg.block b (hlt x (List.mem_of_getElem? hx) b hb) (fun e => hVo j x hx hj b hb e.symm)
  · have hr := h.todo j x hm hx
    exact Kd.R_move hr (fun b hb => hg.block b (Kd.R_lt hr b hb.symm) (fun e => hVo j x hx (by omega) b hb.symm e.symm))
  · exact h.gs.other hG hl ha hv (fun b hb => hV v (List.mem_of_getElem? hv) b hb) (by rw [hl]; exact Nat.le_of_lt (List.getElem?_eq_some_iff.1 hv).1) hu hg
  · exact Kd.R_over' h.row (Kd.R_typed hR) (fun q hq => by
      rcases List.mem_cons.1 hq with rfl | hq
      · decide
      · cases hq) hg
  · exact h.only.grown' hg (fun b hb => by
      rcases hu b hb with h1 | h1
      · exact .inl ⟨v, List.mem_of_getElem? hv, h1⟩
      · exact .inr (by omega))
theorem BI.next {w wa wo W w1 : World} {base k : Nat} {V G : List Value} {n : Nat → Nat} {v5 v5' u v : Value} (h : BI w wa W base V G n v5 (k + 1)) (hl : G.length = k) (hv : V[k]? = some v) (hwa : wa.heap.size ≤ wo.heap.size)
    (hu : ∀ b, u.ownBlock = some b → v.ownBlock = some b ∨ wo.heap.size ≤ b) (hR : kL.R 98 W base (fun _ => True) u (marksK k (n k + 64)))
    (hV : ∀ x ∈ V, ∀ b, x.ownBlock = some b → b < wa.heap.size) (hwaW : wa.heap.size ≤ W.heap.size)
    (hrow : (Kd.raw 1).R 43 w1 wa.heap.size (fun _ => True) v5' (G.map (fun u => [u]) ++ [[u]])) (hg : W.grownBy w1 v5.ownBlock) (hbase : w.heap.size ≤ wa.heap.size) : BI w wa w1 base V (G ++ [u]) n v5' (k + 1) := by
  have hty := Kd.R_typed h.row
  have hne : ∀ b : Nat, (∃ cells, W.heap[b]? = some (Obj.cells cells 98 (0, 0))) → some b ≠ v5.ownBlock := fun b ⟨c, hc⟩ e => by
    obtain ⟨c', hc'⟩ := hty b e.symm
    rw [hc] at hc'
    injection hc' with hc'
    injection hc' with _ hc'
    exact absurd hc' (by decide)
  have hk : ∀ b : Nat, (∃ cells, W.heap[b]? = some (Obj.cells cells 98 (0, 0))) → w1.heap[b]? = W.heap[b]? := fun b hb => by
    obtain ⟨c, hc⟩ := hb
    exact hg.block b (blkLt hc) (hne b ⟨c, hc⟩)
  have hmv : ∀ {ok : Nat → Prop} {x : Value} {l : List Lab}, kL.R 98 W base ok x l → kL.R 98 w1 base (fun b => some b = x.ownBlock) x l := fun {ok x l} hr => Kd.R_move (Kd.R_tight rfl hr) (fun b hb => hk b (Kd.R_typed hr b hb.symm))
  refine ⟨fun j x hx => ?_, fun j x hm hx => hmv (h.todo j x hm hx), ⟨fun j x hx => ?_, fun j x y hx hy b hb => ?_⟩, by rw [List.map_append]; exact hrow, h.only.grown' hg (fun b hb => .inr (by have := Kd.R_base h.row b hb; omega))⟩
  · exact (h.rd j x hx).same fun b hb => hg.block b (by have := hV x (List.mem_of_getElem? hx) b hb; omega) (fun e => by
      have := Kd.R_base h.row b e.symm
      have := hV x (List.mem_of_getElem? hx) b hb
      omega)
  · rcases Nat.lt_or_ge j G.length with hj | hj
    · rw [List.getElem?_append_left hj] at hx
      exact hmv (h.gs.row j x hx)
    · have hjk : j = G.length := by
        have := (List.getElem?_eq_some_iff.1 hx).1
        rw [List.length_append, List.length_singleton] at this
        omega
      subst hjk
      obtain rfl : u = x := by simpa using hx
      rw [hl]
      exact hmv hR
  · rcases Nat.lt_or_ge j G.length with hj | hj
    · rw [List.getElem?_append_left hj] at hx
      exact h.gs.old j x y hx hy b hb
    · have hjk : j = G.length := by
        have := (List.getElem?_eq_some_iff.1 hx).1
        rw [List.length_append, List.length_singleton] at this
        omega
      subst hjk
      obtain rfl : u = x := by simpa using hx
      rw [hl, hv] at hy
      obtain rfl := Option.some.inj hy
      rcases hu b hb with h1 | h1
      · exact .inl h1
      · exact .inr (by omega)
end Go.Proofs.YtoepbjgldmgaoaaDoor
