/- Lemmas on which the law stands, part 6: Known, Laid. -/
import Derived.Test.YtoepbjgldmgaoaaDoorKKnown3
import Derived.Test.YtoepbjgldmgaoaaDoorKKnown5
import Derived.Test.YtoepbjgldmgaoaaDoorKKnown4
import Derived.Laws.Closers25b
import Derived.Test.YtoepbjgldmgaoaaDoorCards
import Derived.WalkKit
import Derived.ProofKit
set_option linter.unusedVariables false
set_option linter.unusedSimpArgs false
/- RankKnown walked: the chapter's pods, 512 lists of five, seven counts. -/
namespace Go.Proofs.YtoepbjgldmgaoaaDoor
open Go.RowKit Go.Proofs.YtoepbjgldmgaoaaDoorW.PrintWords Go.Proofs.YtoepbjgldmgaoaaDoorW.PrintLast
theorem podV_of (o : Ob) (v4 v27 : Value) (hf : ObFits o) : PodV (o.cells v4 v27) ⟨o.name, o.born, o.node, o.phase, o.ready⟩ := ⟨⟨rfl, rfl, rfl, rfl, rfl, rfl⟩, hf.1⟩
theorem told_obj (o p : Ob) (v4 v27 u4 u27 : Value) (hf : ObFits o) (hg : ObFits p) (hi : ObInts o) (hj : ObInts p) (w : World) :
    Calls Tryd.prog 4 #[.agg (o.cells v4 v27), .agg (p.cells u4 u27)] w fun e w' => e = .returned (.bool true) ∧ Below w.heap.size w w' :=
  told_calls _ _ _ _ _ _ _ _ _ _ _ _ (podV_of o v4 v27 hf).pod (podV_of p u4 u27 hg).pod hf.1 hg.1 (hi o.born (by simp [Ob.ints])) (hj p.born (by simp [Ob.ints])) w
theorem order_obj (o p q : Ob) (v4 v27 u4 u27 t4 t27 : Value) (hf : ObFits o) (hg : ObFits p) (hh : ObFits q) (w : World) :
    Calls Tryd.prog 6 #[.agg (o.cells v4 v27), .agg (p.cells u4 u27), .agg (q.cells t4 t27)] w fun e w' => e = .returned (.bool true) ∧ Below w.heap.size w w' :=
  order_calls _ _ _ _ _ _ (podV_of o v4 v27 hf) (podV_of p u4 u27 hg) (podV_of q t4 t27 hh) w
theorem less_c0 (o p : Ob) (b : Bool) (hf : ObFits o) (hg : ObFits p) (hb : PK.less ⟨o.name, o.born, o.node, o.phase, o.ready⟩ ⟨p.name, p.born, p.node, p.phase, p.ready⟩ = b) : LessIs o.c0 p.c0 b := hb ▸ lessIs (podV_of o _ _ hf) (podV_of p _ _ hg)
theorem five_at {W : World} {g : Nat} (hG : W.heap[g]? = some (.cells ([oA.c0, oB.c0, oC.c0, oD.c0, oE.c0].flatMap Array.toList).toArray 48 (0, 0))) {i : Nat} {o : Ob} (hi : fiveL[i]? = some o) {off : Nat} (ho : off = i * 32) :
    ∀ (j : Nat) (u : Value), o.c0[j]? = some u → W.cell? ((⟨g, off, none⟩ : Addr).add j) = some u := by
  intro j u hu
  subst ho
  rw [add_at, cell_of_row W g _ _ _ _ hG, List.getElem?_toArray]
  refine flatC_at 32 _ (fun cs hc => ?_) i o.c0 ?_ j u hu
  · simp only [List.mem_cons, List.not_mem_nil, or_false] at hc
    rcases hc with rfl | rfl | rfl | rfl | rfl <;> exact c0_size _
  · have : ([oA.c0, oB.c0, oC.c0, oD.c0, oE.c0] : List (Array Value)) = fiveL.map Ob.c0 := rfl
    rw [this, List.getElem?_map, hi]
    rfl
theorem fiveC {W : World} {g : Nat} (hG : W.heap[g]? = some (.cells ([oA.c0, oB.c0, oC.c0, oD.c0, oE.c0].flatMap Array.toList).toArray 48 (0, 0))) : kO.C W (some ⟨g, 0, none⟩) 5 fiveL := C_flat (l := fiveL) 48 (by decide) lists5 hG
theorem ints5 : ∀ o ∈ fiveL, ObFits o ∧ ObInts o := fun o ho => ⟨fits5 o ho, by
  simp only [fiveL, List.mem_cons, List.not_mem_nil, or_false] at ho
  rcases ho with rfl | rfl | rfl | rfl | rfl <;> (unfold ObInts; decide)⟩
def namesC : Array Value := #[Value.string { data := #[119, 101, 98, 45, 57] }, Value.string { data := #[119, 101, 98, 45, 49, 48] }, Value.string { data := #[97] }, Value.string { data := #[119, 101, 98, 45, 57] }, Value.string { data := #[98, 50] }]
theorem names_at (r : Nat) (hr : r < 5) : ∃ s, namesC[r]? = some (.string s) ∧ s.size ≤ 8 := by
  match r, hr with
  | 0, _ => exact ⟨_, rfl, by decide⟩
  | 1, _ => exact ⟨_, rfl, by decide⟩
  | 2, _ => exact ⟨_, rfl, by decide⟩
  | 3, _ => exact ⟨_, rfl, by decide⟩
  | 4, _ => exact ⟨_, rfl, by decide⟩
theorem obK_good (s : ByteArray) (b : Int) (nd : ByteArray) (p : Int) (r e : Bool) (hs : s.size ≤ 8) (hb : True) : ObFits ({ Ob.zero with kind := 1, name := s, born := bits BinOp.and IntKind.i64 b 1, node := nd, phase := bits BinOp.and IntKind.i64 p 1, ready := r, ending := e } : Ob) ∧ ObInts ({ Ob.zero with kind := 1, name := s, born := bits BinOp.and IntKind.i64 b 1, node := nd, phase := bits BinOp.and IntKind.i64 p 1, ready := r, ending := e } : Ob) := by
  refine ⟨⟨Nat.le_trans hs (by decide), Nat.zero_le _, Nat.zero_le _⟩, fun z hz => ?_⟩
  have h1 := bits_within BinOp.and .i64 b 1
  have h2 := bits_within BinOp.and .i64 p 1
  simp only [Ob.ints, Ob.zero, List.mem_cons, List.not_mem_nil, or_false] at hz
  rcases hz with rfl | rfl | rfl | rfl | rfl | rfl | rfl | rfl | rfl | rfl | rfl | rfl | rfl | rfl | rfl | rfl | rfl | rfl | rfl <;> first | exact h1 | exact h2 | decide
theorem obz_good (b p : Int) (hb : -9223372036854775808 ≤ b ∧ b ≤ 9223372036854775807) (hp : -9223372036854775808 ≤ p ∧ p ≤ 9223372036854775807) : ObFits ({ Ob.zero with born := b, phase := p } : Ob) ∧ ObInts ({ Ob.zero with born := b, phase := p } : Ob) := by
  refine ⟨⟨(show (0 : Nat) ≤ 140737488351232 by decide), Nat.zero_le _, Nat.zero_le _⟩, fun z hz => ?_⟩
  simp only [Ob.ints, Ob.zero, List.mem_cons, List.not_mem_nil, or_false] at hz
  rcases hz with rfl | rfl | rfl | rfl | rfl | rfl | rfl | rfl | rfl | rfl | rfl | rfl | rfl | rfl | rfl | rfl | rfl <;> first | exact hb | exact hp | decide
theorem nilC (w : World) : kO.C w none 0 [] := (show ReadsRow _ _ _ _ _ _ from ⟨rfl, by decide, fun h => absurd h (by decide)⟩)
theorem nil_good : ∀ o ∈ ([] : List Ob), ObFits o ∧ ObInts o := by intro o ho; cases ho
theorem obj_keep {w : World} {g n : Nat} {l : List Ob} (h : kO.C w (some ⟨g, 0, none⟩) n l) {i : Nat} {o : Ob} (hi : l[i]? = some o) :
    ∃ v4 v27, Hid (∀ W, Below w.heap.size w W → ∀ (j : Nat) (u : Value), (o.cells v4 v27)[j]? = some u → W.cell? ((⟨g, i * 32, none⟩ : Addr).add j) = some u) := by
  obtain ⟨ad, v4, v27, e, _, _, hc⟩ := obj_at h i o hi
  obtain rfl := Option.some.inj e
  refine ⟨v4, v27, Lib.hid fun W hW j u hu => cell_below hW ?_⟩
  have := hc j u hu
  rw [add_at, Nat.zero_add] at this
  rw [add_at]
  exact this
theorem rankChosen_n {A : Option Addr} {c n : Nat} {l : List Ob} {m : Int} {w : World} (hr : kO.C w A n l) (hl : l.length = n) (hf : ∀ o ∈ l, ObFits o ∧ ObInts o) :
    Calls Tryd.prog 5 #[.slice A n c, .int .i64 m] w fun e w' => e = .returned (.bool true) ∧ Below w.heap.size w w' := by
  subst hl
  exact rankChosen_pure A c l m w hr hf
theorem rankFirst_n {A : Option Addr} {c n : Nat} {l : List Ob} {m : Int} {w : World} (hr : kO.C w A n l) (hl : l.length = n) (hf : ∀ o ∈ l, ObFits o ∧ ObInts o) :
    Calls Tryd.prog 7 #[.slice A n c, .int .i64 m] w fun e w' => e = .returned (.bool true) ∧ Below w.heap.size w w' := by
  subst hl
  exact rankFirst_pure A c l m w hr (fun o ho => (hf o ho).1)
def endsC : Array Value := #[Value.int IntKind.i64 (-9223372036854775808), Value.int IntKind.i64 (-1), Value.int IntKind.i64 0, Value.int IntKind.i64 1, Value.int IntKind.i64 4, Value.int IntKind.i64 5, Value.int IntKind.i64 9223372036854775807]
theorem ends_at (r : Nat) (hr : r < 7) : ∃ z, endsC[r]? = some (.int .i64 z) ∧ -9223372036854775808 ≤ z ∧ z ≤ 9223372036854775807 := by
  match r, hr with
  | 0, _ => exact ⟨_, rfl, by decide, by decide⟩
  | 1, _ => exact ⟨_, rfl, by decide, by decide⟩
  | 2, _ => exact ⟨_, rfl, by decide, by decide⟩
  | 3, _ => exact ⟨_, rfl, by decide, by decide⟩
  | 4, _ => exact ⟨_, rfl, by decide, by decide⟩
  | 5, _ => exact ⟨_, rfl, by decide, by decide⟩
  | 6, _ => exact ⟨_, rfl, by decide, by decide⟩
theorem known_new {w3 wr w4 : World} {v : Value} {xs : List Ob} {g7 : Nat} {z c : Array Value} (hg : g7 = wr.heap.size) (hG : w4.heap[wr.heap.size]? = some (.cells c 48 (0, 0))) (hb : ∀ B w0, Below B w0 (wr.alloc (.cells z 48)) → B ≤ wr.heap.size → Below B w0 w4) (hB : Below w3.heap.size w3 wr)
    (hR : kO.R 48 wr w3.heap.size (fun _ => True) v xs) : w4.heap[g7]? = some (.cells c 48 (0, 0)) ∧ Below w3.heap.size w3 w4 ∧ kO.R 48 w4 w3.heap.size (fun _ => True) v xs ∧ kO.R 48 w4 w3.heap.size (fun k => k < g7) v xs := by
  subst hg
  have h1 := hb wr.heap.size wr (below_alloc (Below.refl _ _) _) (Nat.le_refl _)
  refine ⟨hG, hb _ _ (hB.alloc hB.size _) hB.size, Kd.R_below hR h1, Kd.R_below (Kd.R_mono (Kd.R_bound hR) (fun k hk => hk.2.2.1)) h1⟩
theorem known_old {w3 wr : World} {g7 : Nat} (hg : g7 = wr.heap.size) (hB : Below w3.heap.size w3 wr) : w3.heap.size ≤ g7 := by
  subst hg
  exact hB.size
theorem known_node {w3 w4 w5 : World} {v : Value} {xs : List Ob} {g7 : Nat} {c : Array Value} (hG : w5.heap[g7]? = some (.cells c 48 (0, 0))) (hb : ∀ B w0, Below B w0 w4 → B ≤ g7 → Below B w0 w5) (hB : Below w3.heap.size w3 w4) (hR : kO.R 48 w4 w3.heap.size (fun k => k < g7) v xs) (hg : w3.heap.size ≤ g7)
    (hk : ∀ k, k ≠ g7 → w5.heap[k]? = w4.heap[k]?) (hR0 : kO.R 48 w4 w3.heap.size (fun _ => True) v xs) : w5.heap[g7]? = some (.cells c 48 (0, 0)) ∧ Below w3.heap.size w3 w5 ∧ kO.R 48 w5 w3.heap.size (fun _ => True) v xs ∧ True :=
  ⟨hG, hb _ _ hB hg, Kd.R_mono (Kd.R_move hR (fun k hlt => hk k (by omega))) (fun _ _ => trivial), trivial⟩
theorem known_M {w : World} {base : Nat} {o : Ob} {c : Array Value} (hc : c = o.cells (.slice none 0 0) (.slice none 0 0)) (h1 : o.labels = []) (h2 : o.select = []) : kO.M w base (fun _ => False) o c.toList := ⟨_, _, by rw [hc], by rw [h1]; exact Kd.R_nil _ _ _ _ _, by rw [h2]; exact Kd.R_nil _ _ _ _ _⟩
theorem known_len {xs : List Ob} {i : Nat} (h : xs.length = i) (hi : i < 5) : (xs.length + 1) * 312 ≤ 140737488355328 := by omega
theorem good_snoc {xs : List Ob} {o : Ob} (h : ∀ o ∈ xs, ObFits o ∧ ObInts o) (g : ObFits o ∧ ObInts o) : ∀ p ∈ xs ++ [o], ObFits p ∧ ObInts p := fun p hp => by
  rcases List.mem_append.1 hp with hp | hp
  · exact h p hp
  · rw [List.mem_singleton.1 hp]
    exact g
def rg8_2_T : Bool × List (List Nat × List Nat) := (true, [([], []), ([0], [0]), ([1, 0], [1]), ([2], [2]), ([3, 2], [2, 3]), ([4, 2], [2, 4]), ([2], [2]), ([6, 2], [2, 6]), ([7, 2], [2, 7]), ([5, 8, 2, 2], [2, 5, 8]), ([9, 2], [2, 9]), ([2, 10], [2, 10]), ([11, 9], [11]), ([12], [12]), ([13, 12], [12, 13]), ([14, 12], [12, 14]), ([12], [12]), ([16, 12], [12, 16]), ([17, 12], [12, 17]), ([15, 18, 12, 12], [12, 15, 18]), ([12, 19], [12, 19]), ([20, 19], [20]), ([21], [21]), ([22, 21], [21, 22]), ([23, 21], [21, 23]), ([21], [21]), ([25, 21], [21, 25]), ([26, 21], [21, 26]), ([24, 27, 21, 21], [21, 24, 27]), ([28, 21], [21, 28]), ([21, 29], [21, 29]), ([30, 28], [30]), ([31], [31]), ([32, 31], [31, 32]), ([33, 31], [31, 33]), ([31], [31]), ([35, 31], [31, 35]), ([36, 31], [31, 36]), ([34, 37, 31, 31], [31, 34, 37]), ([38, 31], [31, 38]), ([31, 39], [31, 39])])
def rg8_2_B : List Nat := [0, 1, 3, 7, 15, 31, 7, 71, 199, 511, 1023, 2047, 4095, 8191, 16383, 32767, 8191, 73727, 204799, 524287, 1048575, 2097151, 4194303, 8388607, 16777215, 4194303, 37748735, 104857599, 268435455, 536870911, 1073741823, 2147483647, 4294967295, 8589934591, 17179869183, 4294967295, 38654705663, 107374182399, 274877906943, 549755813887, 1099511627775]
theorem rg8_2_tab : rtab .any (opsOf Tryd.f8 2) = rg8_2_T := by kernel_rfl
theorem rg8_2_bits : waitsOk rg8_2_T.2 rg8_2_B = true := by kernel_rfl
def rg8_18_T : Bool × List (List Nat × List Nat) := (true, [([], []), ([], []), ([1], [1]), ([2], [2]), ([0, 3], [0, 3]), ([4], [4]), ([5, 4], [5]), ([6], [6]), ([7, 6], [6, 7]), ([8, 6], [6, 8]), ([6], [6]), ([10, 6], [6, 10]), ([11, 6], [6, 11]), ([9, 12, 6, 6], [6, 9, 12]), ([13, 6], [6, 13]), ([6, 14], [6, 14]), ([15, 13], [15]), ([16], [16]), ([17, 16], [16, 17]), ([18, 16], [16, 18]), ([16], [16]), ([20, 16], [16, 20]), ([21, 16], [16, 21]), ([19, 22, 16, 16], [16, 19, 22]), ([23, 16], [16, 23]), ([16, 24], [16, 24]), ([25, 23], [25]), ([26], [26]), ([27, 26], [26, 27]), ([28, 26], [26, 28]), ([26], [26]), ([30, 26], [26, 30]), ([31, 26], [26, 31]), ([26], [26]), ([33, 26], [26, 33]), ([34, 26], [26, 34]), ([29, 32, 35, 26, 26], [26, 29, 32, 35]), ([36, 26], [26, 36]), ([26, 37], [26, 37]), ([38, 36], [38]), ([39], [39]), ([39], [39]), ([41, 39], [39, 41]), ([40, 42, 39, 39], [39, 40, 42]), ([43, 39], [39, 43]), ([39, 44], [39, 44])])
def rg8_18_B : List Nat := [0, 0, 2, 6, 15, 31, 63, 127, 255, 511, 127, 1151, 3199, 8191, 16383, 32767, 65535, 131071, 262143, 524287, 131071, 1179647, 3276799, 8388607, 16777215, 33554431, 67108863, 134217727, 268435455, 536870911, 134217727, 1207959551, 3355443199, 134217727, 8724152319, 25904021503, 68719476735, 137438953471, 274877906943, 549755813887, 1099511627775, 1099511627775, 3298534883327, 8796093022207, 17592186044415, 35184372088831]
theorem rg8_18_tab : rtab .any (opsOf Tryd.f8 18) = rg8_18_T := by kernel_rfl
theorem rg8_18_bits : waitsOk rg8_18_T.2 rg8_18_B = true := by kernel_rfl
def rg8_24_T : Bool × List (List Nat × List Nat) := (true, [([], []), ([], []), ([], []), ([1, 2], [1, 2]), ([3], [3]), ([0, 4], [0, 4]), ([5], [5]), ([6, 5], [6]), ([7], [7]), ([7], [7]), ([7], [7]), ([9, 10, 7], [7, 9, 10]), ([11, 7], [7, 11]), ([8, 12, 7, 7], [7, 8, 12]), ([13, 7], [7, 13]), ([7, 14], [7, 14]), ([15, 13], [15]), ([16], [16]), ([16], [16]), ([17, 18, 16], [16, 17, 18]), ([19, 16], [16, 19]), ([16], [16]), ([16], [16]), ([21, 22, 16], [16, 21, 22]), ([23, 16], [16, 23]), ([20, 24, 16], [16, 20, 24]), ([16], [16]), ([25, 26, 16, 16], [16, 25, 26]), ([27, 16], [16, 27]), ([16, 28], [16, 28])])
def rg8_24_B : List Nat := [0, 0, 0, 6, 14, 31, 63, 127, 255, 255, 255, 1791, 3839, 8191, 16383, 32767, 65535, 131071, 131071, 524287, 1048575, 131071, 131071, 6422527, 14811135, 33554431, 131071, 134217727, 268435455, 536870911]
theorem rg8_24_tab : rtab .any (opsOf Tryd.f8 24) = rg8_24_T := by kernel_rfl
theorem rg8_24_bits : waitsOk rg8_24_T.2 rg8_24_B = true := by kernel_rfl
attribute [local irreducible] Ob.c0
set_option maxHeartbeats 4000000 in
set_option maxRecDepth 100000 in
theorem known_calls (w : World) :
    Calls Tryd.prog 8 #[] w fun e w' => e = .returned (.bool true) ∧ Below w.heap.size w w' := by
  have L10 := Lib.hid (less_c0 oB oA true (fits5 _ (by simp [fiveL])) (fits5 _ (by simp [fiveL])) (by kernel_rfl))
  have L01 := Lib.hid (less_c0 oA oB false (fits5 _ (by simp [fiveL])) (fits5 _ (by simp [fiveL])) (by kernel_rfl))
  have L32 := Lib.hid (less_c0 oD oC true (fits5 _ (by simp [fiveL])) (fits5 _ (by simp [fiveL])) (by kernel_rfl))
  have L20 := Lib.hid (less_c0 oC oA true (fits5 _ (by simp [fiveL])) (fits5 _ (by simp [fiveL])) (by kernel_rfl))
  go_enter Tryd.func8, Tryd.ntmps8
  go_upto_region 2 with (first
    | (go_at_call 26; (with_reducible refine (five_calls _).mono ?_); rintro e w1 ⟨g, rfl, hG, hB1⟩; have HB1 := Lib.hid hB1; clear hB1))
  have HW := Lib.hid hG
  have B0 := below_drew (Below.refl w1.heap.size w1)
  have B1 : w1.drew.heap[g]? = some _ := hG
  clear hG
  refine start_ (n := 41) (S := fun w' => w'.heap[g]? = some (.cells ([oA.c0, oB.c0, oC.c0, oD.c0, oE.c0].flatMap Array.toList).toArray 48 (0, 0))) (ds := []) (bs 41 0) (by kernel_rfl) rfl (by kernel_rfl) B1 (fun hHeld => ?_)
  refine with_tabW rg8_2_tab rg8_2_bits (fun HT_ HW_ => ?_)
  refine on1 0 (some 11) (bs 41 1) HT_ rfl rfl (by kernel_rfl) (by decide) (fun K hK => ?_)
  refine goes_ Tryd.func23 (by kernel_rfl) rfl #[] (by rfl) rfl rfl (by (try simp only [List.map_toArray, List.map_cons, List.map_nil]); first | done | rfl) ?_
  with_reducible refine (works_calls _).mono ?_
  rintro e w2 ⟨rfl, hb⟩
  replace B1 := blkB hb B1
  replace B0 := belT B0 hb
  clear hb
  refine ⟨_, rfl, ?_⟩
  refine hK.out _ _ B1 (fun hHeld => ?_)
  clear hK K
  refine nm ⟨_, show Act.put _ (some 11) _ = _ by simp only [Act.put, sA, sB, sC, i64_w, i32_w]; rfl, ?_⟩
  refine pu 1 (some 12) (bs 41 3) HT_ rfl rfl (by kernel_rfl) (fun _ _ _ _ h => h) ⟨_, .inl ⟨by rfl, fun _ => by go_simp; with_reducible rfl⟩, _, by simp only [Act.put, sA, sB, sC, i64_w, i32_w]; rfl, ?_⟩
  refine pu 2 (some 13) (bs 41 7) HT_ rfl rfl (by kernel_rfl) (fun _ _ _ _ h => h) ⟨_, .inl ⟨by rfl, fun _ => by go_simp; with_reducible rfl⟩, _, by simp only [Act.put, sA, sB, sC, i64_w, i32_w]; rfl, ?_⟩
  refine pu 3 (some 14) (bs 41 15) HT_ rfl rfl (by kernel_rfl) (fun _ _ _ _ h => h) ⟨_, .inl ⟨by rfl, fun _ => by go_simp; with_reducible rfl⟩, _, by simp only [Act.put, sA, sB, sC, i64_w, i32_w]; rfl, ?_⟩
  refine pu 4 (some 15) (bs 41 31) HT_ rfl rfl (by kernel_rfl) (fun _ _ _ _ h => h) ⟨_, .inl ⟨by rfl, fun _ => by go_simp; with_reducible rfl⟩, _, by simp only [Act.put, sA, sB, sC, i64_w, i32_w]; rfl, ?_⟩
  refine pu 6 (some 17) (bs 41 95) HT_ rfl rfl (by kernel_rfl) (fun _ _ _ _ h => h) ⟨_, .inl ⟨by rfl, fun _ => by go_simp; with_reducible rfl⟩, _, by simp only [Act.put, sA, sB, sC, i64_w, i32_w]; rfl, ?_⟩
  refine pu 7 (some 18) (bs 41 223) HT_ rfl rfl (by kernel_rfl) (fun _ _ _ _ h => h) ⟨_, .inl ⟨by rfl, fun _ => by go_simp; with_reducible rfl⟩, _, by simp only [Act.put, sA, sB, sC, i64_w, i32_w]; rfl, ?_⟩
  refine tk 5 (some 16) (bs 41 255) HT_ HW_ rfl rfl (by kernel_rfl) (fun _ _ _ _ h => h) hHeld ⟨_, .inl ⟨by rfl, by rintro w' s0; refine load_any_ (x := .tmp 15) (p := ⟨g, 32, none⟩) ?_ ?_ (five_at (i := 1) (o := oB) s0 rfl rfl) Tryd.underlying48 rfl (info_c0 _) <;> rfl⟩, _, by simp only [Act.put, sA, sB, sC, i64_w, i32_w]; rfl, ?_⟩
  refine tk 8 (some 19) (bs 41 511) HT_ HW_ rfl rfl (by kernel_rfl) (fun _ _ _ _ h => h) hHeld ⟨_, .inl ⟨by rfl, by rintro w' s0; refine load_any_ (x := .tmp 18) (p := ⟨g, 0, none⟩) ?_ ?_ (five_at (i := 0) (o := oA) s0 rfl rfl) Tryd.underlying48 rfl (info_c0 _) <;> rfl⟩, _, by simp only [Act.put, sA, sB, sC, i64_w, i32_w]; rfl, ?_⟩
  refine on1 9 (some 20) (bs 41 1023) HT_ rfl rfl (by kernel_rfl) (by decide) (fun K hK => ?_)
  refine goes_ Tryd.func19 (by kernel_rfl) rfl #[.agg oB.c0, .agg oA.c0] (by rfl) rfl rfl (by (try simp only [List.map_toArray, List.map_cons, List.map_nil]); first | done | rfl) ?_
  with_reducible refine (L10.out _).mono ?_
  rintro e w2 ⟨rfl, hb⟩
  replace B1 := blkB hb B1
  replace B0 := belT B0 hb
  clear hb
  refine ⟨_, rfl, ?_⟩
  refine hK.out _ _ B1 (fun hHeld => ?_)
  clear hK K
  refine nm ⟨_, show Act.put _ (some 20) _ = _ by simp only [Act.put, sA, sB, sC, i64_w, i32_w]; rfl, ?_⟩
  refine pu 10 (some 21) (bs 41 2047) HT_ rfl rfl (by kernel_rfl) (fun _ _ _ _ h => h) ⟨_, .inl ⟨by rfl, fun _ => by go_simp; with_reducible rfl⟩, _, by simp only [Act.put, sA, sB, sC, i64_w, i32_w]; rfl, ?_⟩
  refine pu 11 (some 22) (bs 41 4095) HT_ rfl rfl (by kernel_rfl) (fun _ _ _ _ h => h) ⟨_, .inl ⟨by rfl, fun _ => by go_simp; with_reducible rfl⟩, _, by simp only [Act.put, sA, sB, sC, i64_w, i32_w]; rfl, ?_⟩
  refine pu 12 (some 23) (bs 41 8191) HT_ rfl rfl (by kernel_rfl) (fun _ _ _ _ h => h) ⟨_, .inl ⟨by rfl, fun _ => by go_simp; with_reducible rfl⟩, _, by simp only [Act.put, sA, sB, sC, i64_w, i32_w]; rfl, ?_⟩
  refine pu 13 (some 24) (bs 41 16383) HT_ rfl rfl (by kernel_rfl) (fun _ _ _ _ h => h) ⟨_, .inl ⟨by rfl, fun _ => by go_simp; with_reducible rfl⟩, _, by simp only [Act.put, sA, sB, sC, i64_w, i32_w]; rfl, ?_⟩
  refine pu 14 (some 25) (bs 41 32767) HT_ rfl rfl (by kernel_rfl) (fun _ _ _ _ h => h) ⟨_, .inl ⟨by rfl, fun _ => by go_simp; with_reducible rfl⟩, _, by simp only [Act.put, sA, sB, sC, i64_w, i32_w]; rfl, ?_⟩
  refine pu 16 (some 27) (bs 41 98303) HT_ rfl rfl (by kernel_rfl) (fun _ _ _ _ h => h) ⟨_, .inl ⟨by rfl, fun _ => by go_simp; with_reducible rfl⟩, _, by simp only [Act.put, sA, sB, sC, i64_w, i32_w]; rfl, ?_⟩
  refine pu 17 (some 28) (bs 41 229375) HT_ rfl rfl (by kernel_rfl) (fun _ _ _ _ h => h) ⟨_, .inl ⟨by rfl, fun _ => by go_simp; with_reducible rfl⟩, _, by simp only [Act.put, sA, sB, sC, i64_w, i32_w]; rfl, ?_⟩
  refine tk 15 (some 26) (bs 41 262143) HT_ HW_ rfl rfl (by kernel_rfl) (fun _ _ _ _ h => h) hHeld ⟨_, .inl ⟨by rfl, by rintro w' s0; refine load_any_ (x := .tmp 25) (p := ⟨g, 0, none⟩) ?_ ?_ (five_at (i := 0) (o := oA) s0 rfl rfl) Tryd.underlying48 rfl (info_c0 _) <;> rfl⟩, _, by simp only [Act.put, sA, sB, sC, i64_w, i32_w]; rfl, ?_⟩
  refine tk 18 (some 29) (bs 41 524287) HT_ HW_ rfl rfl (by kernel_rfl) (fun _ _ _ _ h => h) hHeld ⟨_, .inl ⟨by rfl, by rintro w' s0; refine load_any_ (x := .tmp 28) (p := ⟨g, 32, none⟩) ?_ ?_ (five_at (i := 1) (o := oB) s0 rfl rfl) Tryd.underlying48 rfl (info_c0 _) <;> rfl⟩, _, by simp only [Act.put, sA, sB, sC, i64_w, i32_w]; rfl, ?_⟩
  refine on1 19 (some 30) (bs 41 1048575) HT_ rfl rfl (by kernel_rfl) (by decide) (fun K hK => ?_)
  refine goes_ Tryd.func19 (by kernel_rfl) rfl #[.agg oA.c0, .agg oB.c0] (by rfl) rfl rfl (by (try simp only [List.map_toArray, List.map_cons, List.map_nil]); first | done | rfl) ?_
  with_reducible refine (L01.out _).mono ?_
  rintro e w2 ⟨rfl, hb⟩
  replace B1 := blkB hb B1
  replace B0 := belT B0 hb
  clear hb
  refine ⟨_, rfl, ?_⟩
  refine hK.out _ _ B1 (fun hHeld => ?_)
  clear hK K
  refine nm ⟨_, show Act.put _ (some 30) _ = _ by simp only [Act.put, sA, sB, sC, i64_w, i32_w]; rfl, ?_⟩
  refine pu 20 (some 31) (bs 41 2097151) HT_ rfl rfl (by kernel_rfl) (fun _ _ _ _ h => h) ⟨_, .inl ⟨by rfl, fun _ => by go_simp; with_reducible rfl⟩, _, by simp only [Act.put, sA, sB, sC, i64_w, i32_w]; rfl, ?_⟩
  refine pu 21 (some 32) (bs 41 4194303) HT_ rfl rfl (by kernel_rfl) (fun _ _ _ _ h => h) ⟨_, .inl ⟨by rfl, fun _ => by go_simp; with_reducible rfl⟩, _, by simp only [Act.put, sA, sB, sC, i64_w, i32_w]; rfl, ?_⟩
  refine pu 22 (some 33) (bs 41 8388607) HT_ rfl rfl (by kernel_rfl) (fun _ _ _ _ h => h) ⟨_, .inl ⟨by rfl, fun _ => by go_simp; with_reducible rfl⟩, _, by simp only [Act.put, sA, sB, sC, i64_w, i32_w]; rfl, ?_⟩
  refine pu 23 (some 34) (bs 41 16777215) HT_ rfl rfl (by kernel_rfl) (fun _ _ _ _ h => h) ⟨_, .inl ⟨by rfl, fun _ => by go_simp; with_reducible rfl⟩, _, by simp only [Act.put, sA, sB, sC, i64_w, i32_w]; rfl, ?_⟩
  refine pu 25 (some 36) (bs 41 50331647) HT_ rfl rfl (by kernel_rfl) (fun _ _ _ _ h => h) ⟨_, .inl ⟨by rfl, fun _ => by go_simp; with_reducible rfl⟩, _, by simp only [Act.put, sA, sB, sC, i64_w, i32_w]; rfl, ?_⟩
  refine pu 26 (some 37) (bs 41 117440511) HT_ rfl rfl (by kernel_rfl) (fun _ _ _ _ h => h) ⟨_, .inl ⟨by rfl, fun _ => by go_simp; with_reducible rfl⟩, _, by simp only [Act.put, sA, sB, sC, i64_w, i32_w]; rfl, ?_⟩
  refine tk 24 (some 35) (bs 41 134217727) HT_ HW_ rfl rfl (by kernel_rfl) (fun _ _ _ _ h => h) hHeld ⟨_, .inl ⟨by rfl, by rintro w' s0; refine load_any_ (x := .tmp 34) (p := ⟨g, 96, none⟩) ?_ ?_ (five_at (i := 3) (o := oD) s0 rfl rfl) Tryd.underlying48 rfl (info_c0 _) <;> rfl⟩, _, by simp only [Act.put, sA, sB, sC, i64_w, i32_w]; rfl, ?_⟩
  refine tk 27 (some 38) (bs 41 268435455) HT_ HW_ rfl rfl (by kernel_rfl) (fun _ _ _ _ h => h) hHeld ⟨_, .inl ⟨by rfl, by rintro w' s0; refine load_any_ (x := .tmp 37) (p := ⟨g, 64, none⟩) ?_ ?_ (five_at (i := 2) (o := oC) s0 rfl rfl) Tryd.underlying48 rfl (info_c0 _) <;> rfl⟩, _, by simp only [Act.put, sA, sB, sC, i64_w, i32_w]; rfl, ?_⟩
  refine on1 28 (some 39) (bs 41 536870911) HT_ rfl rfl (by kernel_rfl) (by decide) (fun K hK => ?_)
  refine goes_ Tryd.func19 (by kernel_rfl) rfl #[.agg oD.c0, .agg oC.c0] (by rfl) rfl rfl (by (try simp only [List.map_toArray, List.map_cons, List.map_nil]); first | done | rfl) ?_
  with_reducible refine (L32.out _).mono ?_
  rintro e w2 ⟨rfl, hb⟩
  replace B1 := blkB hb B1
  replace B0 := belT B0 hb
  clear hb
  refine ⟨_, rfl, ?_⟩
  refine hK.out _ _ B1 (fun hHeld => ?_)
  clear hK K
  refine nm ⟨_, show Act.put _ (some 39) _ = _ by simp only [Act.put, sA, sB, sC, i64_w, i32_w]; rfl, ?_⟩
  refine pu 29 (some 40) (bs 41 1073741823) HT_ rfl rfl (by kernel_rfl) (fun _ _ _ _ h => h) ⟨_, .inl ⟨by rfl, fun _ => by go_simp; with_reducible rfl⟩, _, by simp only [Act.put, sA, sB, sC, i64_w, i32_w]; rfl, ?_⟩
  refine pu 30 (some 41) (bs 41 2147483647) HT_ rfl rfl (by kernel_rfl) (fun _ _ _ _ h => h) ⟨_, .inl ⟨by rfl, fun _ => by go_simp; with_reducible rfl⟩, _, by simp only [Act.put, sA, sB, sC, i64_w, i32_w]; rfl, ?_⟩
  refine pu 31 (some 42) (bs 41 4294967295) HT_ rfl rfl (by kernel_rfl) (fun _ _ _ _ h => h) ⟨_, .inl ⟨by rfl, fun _ => by go_simp; with_reducible rfl⟩, _, by simp only [Act.put, sA, sB, sC, i64_w, i32_w]; rfl, ?_⟩
  refine pu 32 (some 43) (bs 41 8589934591) HT_ rfl rfl (by kernel_rfl) (fun _ _ _ _ h => h) ⟨_, .inl ⟨by rfl, fun _ => by go_simp; with_reducible rfl⟩, _, by simp only [Act.put, sA, sB, sC, i64_w, i32_w]; rfl, ?_⟩
  refine pu 33 (some 44) (bs 41 17179869183) HT_ rfl rfl (by kernel_rfl) (fun _ _ _ _ h => h) ⟨_, .inl ⟨by rfl, fun _ => by go_simp; with_reducible rfl⟩, _, by simp only [Act.put, sA, sB, sC, i64_w, i32_w]; rfl, ?_⟩
  refine pu 35 (some 46) (bs 41 51539607551) HT_ rfl rfl (by kernel_rfl) (fun _ _ _ _ h => h) ⟨_, .inl ⟨by rfl, fun _ => by go_simp; with_reducible rfl⟩, _, by simp only [Act.put, sA, sB, sC, i64_w, i32_w]; rfl, ?_⟩
  refine pu 36 (some 47) (bs 41 120259084287) HT_ rfl rfl (by kernel_rfl) (fun _ _ _ _ h => h) ⟨_, .inl ⟨by rfl, fun _ => by go_simp; with_reducible rfl⟩, _, by simp only [Act.put, sA, sB, sC, i64_w, i32_w]; rfl, ?_⟩
  refine tk 34 (some 45) (bs 41 137438953471) HT_ HW_ rfl rfl (by kernel_rfl) (fun _ _ _ _ h => h) hHeld ⟨_, .inl ⟨by rfl, by rintro w' s0; refine load_any_ (x := .tmp 44) (p := ⟨g, 64, none⟩) ?_ ?_ (five_at (i := 2) (o := oC) s0 rfl rfl) Tryd.underlying48 rfl (info_c0 _) <;> rfl⟩, _, by simp only [Act.put, sA, sB, sC, i64_w, i32_w]; rfl, ?_⟩
  refine tk 37 (some 48) (bs 41 274877906943) HT_ HW_ rfl rfl (by kernel_rfl) (fun _ _ _ _ h => h) hHeld ⟨_, .inl ⟨by rfl, by rintro w' s0; refine load_any_ (x := .tmp 47) (p := ⟨g, 0, none⟩) ?_ ?_ (five_at (i := 0) (o := oA) s0 rfl rfl) Tryd.underlying48 rfl (info_c0 _) <;> rfl⟩, _, by simp only [Act.put, sA, sB, sC, i64_w, i32_w]; rfl, ?_⟩
  refine on1 38 (some 49) (bs 41 549755813887) HT_ rfl rfl (by kernel_rfl) (by decide) (fun K hK => ?_)
  refine goes_ Tryd.func19 (by kernel_rfl) rfl #[.agg oC.c0, .agg oA.c0] (by rfl) rfl rfl (by (try simp only [List.map_toArray, List.map_cons, List.map_nil]); first | done | rfl) ?_
  with_reducible refine (L20.out _).mono ?_
  rintro e w2 ⟨rfl, hb⟩
  replace B1 := blkB hb B1
  replace B0 := belT B0 hb
  clear hb
  refine ⟨_, rfl, ?_⟩
  refine hK.out _ _ B1 (fun hHeld => ?_)
  clear hK K
  refine nm ⟨_, show Act.put _ (some 49) _ = _ by simp only [Act.put, sA, sB, sC, i64_w, i32_w]; rfl, ?_⟩
  refine pu 39 (some 50) (bs 41 1099511627775) HT_ rfl rfl (by kernel_rfl) (fun _ _ _ _ h => h) ⟨_, .inl ⟨by rfl, fun _ => by go_simp; with_reducible rfl⟩, _, by simp only [Act.put, sA, sB, sC, i64_w, i32_w]; rfl, ?_⟩
  refine pu 40 (some 51) (bs 41 2199023255551) HT_ rfl rfl (by kernel_rfl) (fun _ _ _ _ h => h) ⟨_, .inl ⟨by rfl, fun _ => by go_simp; with_reducible rfl⟩, _, by simp only [Act.put, sA, sB, sC, i64_w, i32_w]; rfl, ?_⟩
  refine done_ (done_of HT_.out (by kernel_rfl)) ?_
  have HG := Lib.hid (And.intro (belT HB1.out B0) B1)
  clear B0 B1 HW L10 L01 L32 L20
  go_wp2
  obtain ⟨gn, hgn⟩ : ∃ x, x = w2.heap.size := ⟨_, rfl⟩
  have H3 : Hid (∃ w3, w3 = w2.alloc (.cells namesC 9) ∧ Below w.heap.size w w3 ∧ w3.heap[g]? = some (.cells ([oA.c0, oB.c0, oC.c0, oD.c0, oE.c0].flatMap Array.toList).toArray 48 (0, 0)) ∧ ∀ r : Nat, r < 5 → ∃ s, w3.cell? ⟨gn, r, none⟩ = some (.string s) ∧ s.size ≤ 8) := Lib.hid ⟨_, rfl, HG.out.1.alloc HG.out.1.size _, (heap_alloc_old _ _ (blkLt HG.out.2)).trans HG.out.2, fun r hr => by
    subst hgn
    rw [cell_of_row _ _ r _ _ _ (heap_alloc_new w2 (.cells namesC 9))]
    exact names_at r hr⟩
  obtain ⟨w3, hw3, hb3, hg3, hn3⟩ := H3.out
  have H3 := Lib.hid (And.intro hb3 (And.intro hg3 hn3))
  rw [← hgn]
  rw [show w2.alloc (Obj.cells #[Value.string { data := #[119, 101, 98, 45, 57] }, Value.string { data := #[119, 101, 98, 45, 49, 48] }, Value.string { data := #[97] }, Value.string { data := #[119, 101, 98, 45, 57] }, Value.string { data := #[98, 50] }] 9) = w3 from hw3.symm]
  clear hw3 hb3 hg3 hn3 hgn HG
  go_loopw [3] (fun v3 wr => ∃ n : Nat, n ≤ 512 ∧ v3 = .int .i64 n ∧ Hid (Below w3.heap.size w3 wr)) (fun v3 _ => 512 - (intOf v3).toNat)
  case atStart => exact ⟨0, by omega, rfl, Lib.hid (Below.refl _ _)⟩
  case round =>
    obtain ⟨n, hn, rfl, hI⟩ := hrel
    by_cases hnn : n < 512
    · have hnn' : (n : Int) < 512 := by omega
      go_wp2
      rename World => wo
      go_loopw [4, 5, 6] (fun v4 v5 v6 wr => ∃ i : Nat, i ≤ 5 ∧ v6 = .int .i64 i ∧ ∃ z : Int, v5 = .int .i64 z ∧ ∃ xs : List Ob, Hid (xs.length = i ∧ (∀ o ∈ xs, ObFits o ∧ ObInts o) ∧ kO.R 48 wr w3.heap.size (fun _ => True) v4 xs ∧ Below w3.heap.size w3 wr)) (fun _ _ v6 _ => 5 - (intOf v6).toNat)
      case atStart => exact ⟨0, by omega, rfl, _, rfl, [], Lib.hid ⟨rfl, fun o ho => (List.not_mem_nil ho).elim, Kd.R_nil _ _ _ _ _, hI.out⟩⟩
      case round =>
        obtain ⟨i, hi, rfl, z, rfl, xs, hJ⟩ := hrel
        by_cases hii : i < 5
        · have hii' : (i : Int) < 5 := by omega
          obtain ⟨r, hr5, hrm⟩ : ∃ r : Nat, r < 5 ∧ ((i : Int) + (n : Int)).tmod 5 = (r : Int) := ⟨(i + n) % 5, Nat.mod_lt _ (by decide), by rw [Int.tmod_eq_emod_of_nonneg (by omega)]; omega⟩
          have hri : (r : Int) < 5 := by omega
          have hwi : wrap64 ((i : Int) + (n : Int)) = (i : Int) + (n : Int) := by unfold wrap64; omega
          obtain ⟨s, hs, hs8⟩ := H3.out.2.2 r hr5
          have hs' : wr.cell? ⟨gn, r, none⟩ = some (.string s) := (hJ.out.2.2.2.cell (World.block_lt_of_cell? _ _ hs)).trans hs
          have HS := Lib.hid hs8
          clear hs hs8
          --BEGIN
          cases h4 : (bits BinOp.and IntKind.i64 z 4 != 0) with
          | false =>
            have HF : Hid (ObFits ({ Ob.zero with kind := 1, name := s, born := bits BinOp.and IntKind.i64 (z / 8) 1, node := ⟨#[]⟩, phase := bits BinOp.and IntKind.i64 z 1, ready := (bits BinOp.and IntKind.i64 z 2 != 0), ending := (bits BinOp.and IntKind.i64 z 64 != 0) } : Ob) ∧ ObInts ({ Ob.zero with kind := 1, name := s, born := bits BinOp.and IntKind.i64 (z / 8) 1, node := ⟨#[]⟩, phase := bits BinOp.and IntKind.i64 z 1, ready := (bits BinOp.and IntKind.i64 z 2 != 0), ending := (bits BinOp.and IntKind.i64 z 64 != 0) } : Ob)) := Lib.hid (obK_good _ _ _ _ _ _ HS.out trivial)
            obtain ⟨c1, hc1⟩ : ∃ c : Array Value, c = ({ Ob.zero with kind := 1, name := s, born := bits BinOp.and IntKind.i64 (z / 8) 1, node := ⟨#[]⟩, phase := bits BinOp.and IntKind.i64 z 1, ready := (bits BinOp.and IntKind.i64 z 2 != 0), ending := (bits BinOp.and IntKind.i64 z 64 != 0) } : Ob).cells (.slice none 0 0) (.slice none 0 0) := ⟨_, rfl⟩
            have HC1 := Lib.hid hc1
            clear hc1
            go_wp2_with (first
              | ((with_reducible refine wpList_store_blk rfl 48 (.tmp 7) (.tmp 80) rfl wr.heap.size 48 (Ob.zero.cells (.slice none 0 0) (.slice none 0 0)) c1 ?s1 ?s2 ?s3 ?s4 ?s5 ?s6 ?_); (case s1 => rfl); (case s2 => (rw [HC1.out]; rfl)); (case s3 => exact heap_alloc_new _ _); (case s4 => (rw [HC1.out]; exact infoO1)); (case s5 => (rw [HC1.out]; rfl)); (case s6 => (rw [HC1.out]; exact Ob.cells_one _ rfl rfl)); intro w4 hG hk hb hz; obtain ⟨g7, hg7⟩ : ∃ g7, g7 = wr.heap.size := ⟨_, rfl⟩; rw [← hg7]; have H4 := Lib.hid (known_new hg7 hG hb hJ.out.2.2.2 hJ.out.2.2.1); have hG7 := Lib.hid (known_old hg7 hJ.out.2.2.2); clear hG hk hb hz hg7)
              | ((with_reducible refine wpList_load_blk (op := ⟨some 86, _, _, _, _, _⟩) rfl 48 (.tmp 7) rfl g7 48 ?l1 c1 _ ?l2 Tryd.underlying48 ?l3 ?l4 ?_); (case l1 => rfl); (case l2 => exact H4.out.1); (case l3 => rfl); (case l4 => (rw [HC1.out]; exact infoO1)))
              | ((with_reducible refine wpList_build1 rfl 22 48 (.tmp 86) rfl c1 ?d1 (.agg (Ob.zero.cells (.slice none 0 0) (.slice none 0 0))) 32 312 Tryd.underlying22 infoO ?d2 (by omega) (by omega) rfl ?_); (case d1 => rfl); (case d2 => (rw [HC1.out]; rfl)))
              | (at_builtin; refine Kd.R_append kO (w0 := w3) (W := w4) w3.heap.size rfl (.tmp 85) (.tmp 87) 22 48 (.agg (Ob.zero.cells (.slice none 0 0) (.slice none 0 0))) 312 rfl Tryd.underlying22 infoO rfl (by decide) (by omega) u4 xs ({ Ob.zero with kind := 1, name := s, born := bits BinOp.and IntKind.i64 (z / 8) 1, node := ⟨#[]⟩, phase := bits BinOp.and IntKind.i64 z 1, ready := (bits BinOp.and IntKind.i64 z 2 != 0), ending := (bits BinOp.and IntKind.i64 z 64 != 0) } : Ob) c1.toList (fun _ => True) (fun _ => False) rfl rfl (known_M HC1.out rfl rfl) (fun _ h => h.elim) (fun _ _ => trivial) H4.out.2.2.1 H4.out.2.1 H4.out.2.1.size (known_len hJ.out.1 hii) ?_; intro v1 w6 hR6 hB6 hg6 hat6; have H6 : Hid ((xs ++ [({ Ob.zero with kind := 1, name := s, born := bits BinOp.and IntKind.i64 (z / 8) 1, node := ⟨#[]⟩, phase := bits BinOp.and IntKind.i64 z 1, ready := (bits BinOp.and IntKind.i64 z 2 != 0), ending := (bits BinOp.and IntKind.i64 z 64 != 0) } : Ob)]).length = i + 1 ∧ (∀ o ∈ xs ++ [({ Ob.zero with kind := 1, name := s, born := bits BinOp.and IntKind.i64 (z / 8) 1, node := ⟨#[]⟩, phase := bits BinOp.and IntKind.i64 z 1, ready := (bits BinOp.and IntKind.i64 z 2 != 0), ending := (bits BinOp.and IntKind.i64 z 64 != 0) } : Ob)], ObFits o ∧ ObInts o) ∧ kO.R 48 w6 w3.heap.size (fun _ => True) v1 (xs ++ [({ Ob.zero with kind := 1, name := s, born := bits BinOp.and IntKind.i64 (z / 8) 1, node := ⟨#[]⟩, phase := bits BinOp.and IntKind.i64 z 1, ready := (bits BinOp.and IntKind.i64 z 2 != 0), ending := (bits BinOp.and IntKind.i64 z 64 != 0) } : Ob)]) ∧ Below w3.heap.size w3 w6) := Lib.hid ⟨by rw [List.length_append, hJ.out.1]; rfl, good_snoc hJ.out.2.1 HF.out, hR6, hB6⟩; clear hR6 hB6 hg6 hat6))
            go_roundw
            case rel => exact ⟨i + 1, by omega, by go_num, _, rfl, _, H6⟩
            case measure => simp [intOf]; omega
          | true =>
            have HF : Hid (ObFits ({ Ob.zero with kind := 1, name := s, born := bits BinOp.and IntKind.i64 (z / 8) 1, node := ⟨#[110]⟩, phase := bits BinOp.and IntKind.i64 z 1, ready := (bits BinOp.and IntKind.i64 z 2 != 0), ending := (bits BinOp.and IntKind.i64 z 64 != 0) } : Ob) ∧ ObInts ({ Ob.zero with kind := 1, name := s, born := bits BinOp.and IntKind.i64 (z / 8) 1, node := ⟨#[110]⟩, phase := bits BinOp.and IntKind.i64 z 1, ready := (bits BinOp.and IntKind.i64 z 2 != 0), ending := (bits BinOp.and IntKind.i64 z 64 != 0) } : Ob)) := Lib.hid (obK_good _ _ _ _ _ _ HS.out trivial)
            obtain ⟨c1, hc1⟩ : ∃ c : Array Value, c = ({ Ob.zero with kind := 1, name := s, born := bits BinOp.and IntKind.i64 (z / 8) 1, node := ⟨#[]⟩, phase := bits BinOp.and IntKind.i64 z 1, ready := (bits BinOp.and IntKind.i64 z 2 != 0), ending := (bits BinOp.and IntKind.i64 z 64 != 0) } : Ob).cells (.slice none 0 0) (.slice none 0 0) := ⟨_, rfl⟩
            have HC1 := Lib.hid hc1
            obtain ⟨c2, hc2⟩ : ∃ c : Array Value, c = ({ Ob.zero with kind := 1, name := s, born := bits BinOp.and IntKind.i64 (z / 8) 1, node := ⟨#[110]⟩, phase := bits BinOp.and IntKind.i64 z 1, ready := (bits BinOp.and IntKind.i64 z 2 != 0), ending := (bits BinOp.and IntKind.i64 z 64 != 0) } : Ob).cells (.slice none 0 0) (.slice none 0 0) := ⟨_, rfl⟩
            have HC2 := Lib.hid hc2
            clear hc1 hc2
            go_wp2_with (first
              | ((with_reducible refine wpList_store_blk rfl 48 (.tmp 7) (.tmp 80) rfl wr.heap.size 48 (Ob.zero.cells (.slice none 0 0) (.slice none 0 0)) c1 ?s1 ?s2 ?s3 ?s4 ?s5 ?s6 ?_); (case s1 => rfl); (case s2 => (rw [HC1.out]; rfl)); (case s3 => exact heap_alloc_new _ _); (case s4 => (rw [HC1.out]; exact infoO1)); (case s5 => (rw [HC1.out]; rfl)); (case s6 => (rw [HC1.out]; exact Ob.cells_one _ rfl rfl)); intro w4 hG hk hb hz; obtain ⟨g7, hg7⟩ : ∃ g7, g7 = wr.heap.size := ⟨_, rfl⟩; rw [← hg7]; have H4 := Lib.hid (known_new hg7 hG hb hJ.out.2.2.2 hJ.out.2.2.1); have hG7 := Lib.hid (known_old hg7 hJ.out.2.2.2); clear hG hk hb hz hg7)
              | ((with_reducible refine wpList_store1 rfl 9 (.tmp 84) (.const (.string ⟨#[110]⟩)) rfl g7 13 48 c1 (.string ⟨#[110]⟩) ?n1 ?n2 ?n3 ?n4 ?n5 ?n6 ?n7 ?_); (case n1 => rfl); (case n2 => rfl); (case n3 => rfl); (case n4 => exact H4.out.1); (case n5 => (rw [HC1.out]; exact (show 13 < 32 by decide))); (case n6 => kernel_rfl); (case n7 => rfl); intro w5 hG hk hb hz; have e13 : c1.setIfInBounds 13 (.string ⟨#[110]⟩) = c2 := (by rw [HC1.out, HC2.out]; rfl); rw [e13] at hG; clear e13; have H5 := Lib.hid (known_node hG hb H4.out.2.1 H4.out.2.2.2 hG7.out hk H4.out.2.2.1); clear hG hk hb hz)
              | ((with_reducible refine wpList_load_blk (op := ⟨some 86, _, _, _, _, _⟩) rfl 48 (.tmp 7) rfl g7 48 ?l1 c2 _ ?l2 Tryd.underlying48 ?l3 ?l4 ?_); (case l1 => rfl); (case l2 => exact H5.out.1); (case l3 => rfl); (case l4 => (rw [HC2.out]; exact infoO1)))
              | ((with_reducible refine wpList_build1 rfl 22 48 (.tmp 86) rfl c2 ?d1 (.agg (Ob.zero.cells (.slice none 0 0) (.slice none 0 0))) 32 312 Tryd.underlying22 infoO ?d2 (by omega) (by omega) rfl ?_); (case d1 => rfl); (case d2 => (rw [HC2.out]; rfl)))
              | (at_builtin; refine Kd.R_append kO (w0 := w3) (W := w5) w3.heap.size rfl (.tmp 85) (.tmp 87) 22 48 (.agg (Ob.zero.cells (.slice none 0 0) (.slice none 0 0))) 312 rfl Tryd.underlying22 infoO rfl (by decide) (by omega) u4 xs ({ Ob.zero with kind := 1, name := s, born := bits BinOp.and IntKind.i64 (z / 8) 1, node := ⟨#[110]⟩, phase := bits BinOp.and IntKind.i64 z 1, ready := (bits BinOp.and IntKind.i64 z 2 != 0), ending := (bits BinOp.and IntKind.i64 z 64 != 0) } : Ob) c2.toList (fun _ => True) (fun _ => False) rfl rfl (known_M HC2.out rfl rfl) (fun _ h => h.elim) (fun _ _ => trivial) H5.out.2.2.1 H5.out.2.1 H5.out.2.1.size (known_len hJ.out.1 hii) ?_; intro v1 w6 hR6 hB6 hg6 hat6; have H6 : Hid ((xs ++ [({ Ob.zero with kind := 1, name := s, born := bits BinOp.and IntKind.i64 (z / 8) 1, node := ⟨#[110]⟩, phase := bits BinOp.and IntKind.i64 z 1, ready := (bits BinOp.and IntKind.i64 z 2 != 0), ending := (bits BinOp.and IntKind.i64 z 64 != 0) } : Ob)]).length = i + 1 ∧ (∀ o ∈ xs ++ [({ Ob.zero with kind := 1, name := s, born := bits BinOp.and IntKind.i64 (z / 8) 1, node := ⟨#[110]⟩, phase := bits BinOp.and IntKind.i64 z 1, ready := (bits BinOp.and IntKind.i64 z 2 != 0), ending := (bits BinOp.and IntKind.i64 z 64 != 0) } : Ob)], ObFits o ∧ ObInts o) ∧ kO.R 48 w6 w3.heap.size (fun _ => True) v1 (xs ++ [({ Ob.zero with kind := 1, name := s, born := bits BinOp.and IntKind.i64 (z / 8) 1, node := ⟨#[110]⟩, phase := bits BinOp.and IntKind.i64 z 1, ready := (bits BinOp.and IntKind.i64 z 2 != 0), ending := (bits BinOp.and IntKind.i64 z 64 != 0) } : Ob)]) ∧ Below w3.heap.size w3 w6) := Lib.hid ⟨by rw [List.length_append, hJ.out.1]; rfl, good_snoc hJ.out.2.1 HF.out, hR6, hB6⟩; clear hR6 hB6 hg6 hat6))
            go_roundw
            case rel => exact ⟨i + 1, by omega, by go_num, _, rfl, _, H6⟩
            case measure => simp [intOf]; omega
          --END
        · obtain rfl : i = 5 := by omega
          obtain ⟨g4, c4, e4, _, hlt4, _⟩ := Kd.R_form hJ.out.2.2.1 (by rw [hJ.out.1]; omega)
          rw [hJ.out.1] at e4
          subst e4
          have hC4 := (Kd.R_reads' hJ.out.2.2.1).2.2
          rw [hJ.out.1] at hC4
          obtain ⟨o0, ho0⟩ : ∃ o, xs[0]? = some o := ⟨_, List.getElem?_eq_getElem (by rw [hJ.out.1]; omega)⟩
          obtain ⟨a0, b0, Hc0⟩ := obj_keep hC4 ho0
          have G0 := Lib.hid (hJ.out.2.1 o0 (List.mem_of_getElem? ho0))
          clear ho0
          obtain ⟨o1, ho1⟩ : ∃ o, xs[1]? = some o := ⟨_, List.getElem?_eq_getElem (by rw [hJ.out.1]; omega)⟩
          obtain ⟨a1, b1, Hc1⟩ := obj_keep hC4 ho1
          have G1 := Lib.hid (hJ.out.2.1 o1 (List.mem_of_getElem? ho1))
          clear ho1
          obtain ⟨o2, ho2⟩ : ∃ o, xs[2]? = some o := ⟨_, List.getElem?_eq_getElem (by rw [hJ.out.1]; omega)⟩
          obtain ⟨a2, b2, Hc2⟩ := obj_keep hC4 ho2
          have G2 := Lib.hid (hJ.out.2.1 o2 (List.mem_of_getElem? ho2))
          clear ho2
          obtain ⟨o3, ho3⟩ : ∃ o, xs[3]? = some o := ⟨_, List.getElem?_eq_getElem (by rw [hJ.out.1]; omega)⟩
          obtain ⟨a3, b3, Hc3⟩ := obj_keep hC4 ho3
          have G3 := Lib.hid (hJ.out.2.1 o3 (List.mem_of_getElem? ho3))
          clear ho3
          have HC4 := Lib.hid hC4
          have HB := below_drew (Below.refl wr.heap.size wr)
          have h5 : ¬ (5 : Int) < 5 := by decide
          clear hC4
          go_upto_region 18 with (fail)
          refine start_ (n := 46) (S := fun w' => Below wr.heap.size wr w') (ds := []) (bs 46 0) (by kernel_rfl) rfl (by kernel_rfl) HB (fun hHeld => ?_)
          refine with_tabW rg8_18_tab rg8_18_bits (fun HT_ HW_ => ?_)
          refine pu 0 (some 92) (bs 46 1) HT_ rfl rfl (by kernel_rfl) (fun _ _ _ _ h => h) ⟨_, .inl ⟨by rfl, fun _ => by go_simp; with_reducible rfl⟩, _, by simp only [Act.put, sA, sB, sC, i64_w, i32_w]; rfl, ?_⟩
          refine pu 1 (some 93) (bs 46 3) HT_ rfl rfl (by kernel_rfl) (fun _ _ _ _ h => h) ⟨_, .inl ⟨by rfl, fun _ => by go_simp; with_reducible rfl⟩, _, by simp only [Act.put, sA, sB, sC, i64_w, i32_w]; rfl, ?_⟩
          refine pu 2 (some 94) (bs 46 7) HT_ rfl rfl (by kernel_rfl) (fun _ _ _ _ h => h) ⟨_, .inl ⟨by rfl, fun _ => by go_simp; with_reducible rfl⟩, _, by simp only [Act.put, sA, sB, sC, i64_w, i32_w]; rfl, ?_⟩
          refine pu 3 (some 95) (bs 46 15) HT_ rfl rfl (by kernel_rfl) (fun _ _ _ _ h => h) ⟨_, .inl ⟨by rfl, fun _ => by go_simp; with_reducible rfl⟩, _, by simp only [Act.put, sA, sB, sC, i64_w, i32_w]; rfl, ?_⟩
          refine on1 4 (some 96) (bs 46 31) HT_ rfl rfl (by kernel_rfl) (by decide) (fun K hK => ?_)
          refine goes_ Tryd.func5 (by kernel_rfl) rfl #[.slice (some ⟨g4, 0, none⟩) 5 c4, .int .i64 _] (by rfl) rfl rfl (by (try simp only [List.map_toArray, List.map_cons, List.map_nil]); first | done | rfl) ?_
          with_reducible refine (rankChosen_n (Kd.C_below HC4.out HB) hJ.out.1 hJ.out.2.1).mono ?_
          rintro e w7 ⟨rfl, hb⟩
          replace HB := belT HB hb
          clear hb
          refine ⟨_, rfl, ?_⟩
          refine hK.out _ _ HB (fun hHeld => ?_)
          clear hK K
          refine nm ⟨_, show Act.put _ (some 96) _ = _ by simp only [Act.put, sA, sB, sC, i64_w, i32_w]; rfl, ?_⟩
          refine pu 5 (some 97) (bs 46 63) HT_ rfl rfl (by kernel_rfl) (fun _ _ _ _ h => h) ⟨_, .inl ⟨by rfl, fun _ => by go_simp; with_reducible rfl⟩, _, by simp only [Act.put, sA, sB, sC, i64_w, i32_w]; rfl, ?_⟩
          refine pu 6 (some 98) (bs 46 127) HT_ rfl rfl (by kernel_rfl) (fun _ _ _ _ h => h) ⟨_, .inl ⟨by rfl, fun _ => by go_simp; with_reducible rfl⟩, _, by simp only [Act.put, sA, sB, sC, i64_w, i32_w]; rfl, ?_⟩
          refine pu 7 (some 99) (bs 46 255) HT_ rfl rfl (by kernel_rfl) (fun _ _ _ _ h => h) ⟨_, .inl ⟨by rfl, fun _ => by go_simp; with_reducible rfl⟩, _, by simp only [Act.put, sA, sB, sC, i64_w, i32_w]; rfl, ?_⟩
          refine pu 8 (some 100) (bs 46 511) HT_ rfl rfl (by kernel_rfl) (fun _ _ _ _ h => h) ⟨_, .inl ⟨by rfl, fun _ => by go_simp; with_reducible rfl⟩, _, by simp only [Act.put, sA, sB, sC, i64_w, i32_w]; rfl, ?_⟩
          refine pu 10 (some 102) (bs 46 1535) HT_ rfl rfl (by kernel_rfl) (fun _ _ _ _ h => h) ⟨_, .inl ⟨by rfl, fun _ => by go_simp; with_reducible rfl⟩, _, by simp only [Act.put, sA, sB, sC, i64_w, i32_w]; rfl, ?_⟩
          refine pu 11 (some 103) (bs 46 3583) HT_ rfl rfl (by kernel_rfl) (fun _ _ _ _ h => h) ⟨_, .inl ⟨by rfl, fun _ => by go_simp; with_reducible rfl⟩, _, by simp only [Act.put, sA, sB, sC, i64_w, i32_w]; rfl, ?_⟩
          refine tk 9 (some 101) (bs 46 4095) HT_ HW_ rfl rfl (by kernel_rfl) (fun _ _ _ _ h => h) hHeld ⟨_, .inl ⟨by rfl, by rintro w' s0; refine load_any_ (x := .tmp 100) (p := ⟨g4, 0, none⟩) ?_ ?_ (Hc0.out _ s0) Tryd.underlying48 rfl infoO1 <;> rfl⟩, _, by simp only [Act.put, sA, sB, sC, i64_w, i32_w]; rfl, ?_⟩
          refine tk 12 (some 104) (bs 46 8191) HT_ HW_ rfl rfl (by kernel_rfl) (fun _ _ _ _ h => h) hHeld ⟨_, .inl ⟨by rfl, by rintro w' s0; refine load_any_ (x := .tmp 103) (p := ⟨g4, 32, none⟩) ?_ ?_ (Hc1.out _ s0) Tryd.underlying48 rfl infoO1 <;> rfl⟩, _, by simp only [Act.put, sA, sB, sC, i64_w, i32_w]; rfl, ?_⟩
          refine on1 13 (some 105) (bs 46 16383) HT_ rfl rfl (by kernel_rfl) (by decide) (fun K hK => ?_)
          refine goes_ Tryd.func4 (by kernel_rfl) rfl #[.agg (o0.cells a0 b0), .agg (o1.cells a1 b1)] (by rfl) rfl rfl (by (try simp only [List.map_toArray, List.map_cons, List.map_nil]); first | done | rfl) ?_
          with_reducible refine (told_obj o0 o1 a0 b0 a1 b1 G0.out.1 G1.out.1 G0.out.2 G1.out.2 _).mono ?_
          rintro e w7 ⟨rfl, hb⟩
          replace HB := belT HB hb
          clear hb
          refine ⟨_, rfl, ?_⟩
          refine hK.out _ _ HB (fun hHeld => ?_)
          clear hK K
          refine nm ⟨_, show Act.put _ (some 105) _ = _ by simp only [Act.put, sA, sB, sC, i64_w, i32_w]; rfl, ?_⟩
          refine pu 14 (some 106) (bs 46 32767) HT_ rfl rfl (by kernel_rfl) (fun _ _ _ _ h => h) ⟨_, .inl ⟨by rfl, fun _ => by go_simp; with_reducible rfl⟩, _, by simp only [Act.put, sA, sB, sC, i64_w, i32_w]; rfl, ?_⟩
          refine pu 15 (some 107) (bs 46 65535) HT_ rfl rfl (by kernel_rfl) (fun _ _ _ _ h => h) ⟨_, .inl ⟨by rfl, fun _ => by go_simp; with_reducible rfl⟩, _, by simp only [Act.put, sA, sB, sC, i64_w, i32_w]; rfl, ?_⟩
          refine pu 16 (some 108) (bs 46 131071) HT_ rfl rfl (by kernel_rfl) (fun _ _ _ _ h => h) ⟨_, .inl ⟨by rfl, fun _ => by go_simp; with_reducible rfl⟩, _, by simp only [Act.put, sA, sB, sC, i64_w, i32_w]; rfl, ?_⟩
          refine pu 17 (some 109) (bs 46 262143) HT_ rfl rfl (by kernel_rfl) (fun _ _ _ _ h => h) ⟨_, .inl ⟨by rfl, fun _ => by go_simp; with_reducible rfl⟩, _, by simp only [Act.put, sA, sB, sC, i64_w, i32_w]; rfl, ?_⟩
          refine pu 18 (some 110) (bs 46 524287) HT_ rfl rfl (by kernel_rfl) (fun _ _ _ _ h => h) ⟨_, .inl ⟨by rfl, fun _ => by go_simp; with_reducible rfl⟩, _, by simp only [Act.put, sA, sB, sC, i64_w, i32_w]; rfl, ?_⟩
          refine pu 20 (some 112) (bs 46 1572863) HT_ rfl rfl (by kernel_rfl) (fun _ _ _ _ h => h) ⟨_, .inl ⟨by rfl, fun _ => by go_simp; with_reducible rfl⟩, _, by simp only [Act.put, sA, sB, sC, i64_w, i32_w]; rfl, ?_⟩
          refine pu 21 (some 113) (bs 46 3670015) HT_ rfl rfl (by kernel_rfl) (fun _ _ _ _ h => h) ⟨_, .inl ⟨by rfl, fun _ => by go_simp; with_reducible rfl⟩, _, by simp only [Act.put, sA, sB, sC, i64_w, i32_w]; rfl, ?_⟩
          refine tk 19 (some 111) (bs 46 4194303) HT_ HW_ rfl rfl (by kernel_rfl) (fun _ _ _ _ h => h) hHeld ⟨_, .inl ⟨by rfl, by rintro w' s0; refine load_any_ (x := .tmp 110) (p := ⟨g4, 64, none⟩) ?_ ?_ (Hc2.out _ s0) Tryd.underlying48 rfl infoO1 <;> rfl⟩, _, by simp only [Act.put, sA, sB, sC, i64_w, i32_w]; rfl, ?_⟩
          refine tk 22 (some 114) (bs 46 8388607) HT_ HW_ rfl rfl (by kernel_rfl) (fun _ _ _ _ h => h) hHeld ⟨_, .inl ⟨by rfl, by rintro w' s0; refine load_any_ (x := .tmp 113) (p := ⟨g4, 96, none⟩) ?_ ?_ (Hc3.out _ s0) Tryd.underlying48 rfl infoO1 <;> rfl⟩, _, by simp only [Act.put, sA, sB, sC, i64_w, i32_w]; rfl, ?_⟩
          refine on1 23 (some 115) (bs 46 16777215) HT_ rfl rfl (by kernel_rfl) (by decide) (fun K hK => ?_)
          refine goes_ Tryd.func4 (by kernel_rfl) rfl #[.agg (o2.cells a2 b2), .agg (o3.cells a3 b3)] (by rfl) rfl rfl (by (try simp only [List.map_toArray, List.map_cons, List.map_nil]); first | done | rfl) ?_
          with_reducible refine (told_obj o2 o3 a2 b2 a3 b3 G2.out.1 G3.out.1 G2.out.2 G3.out.2 _).mono ?_
          rintro e w7 ⟨rfl, hb⟩
          replace HB := belT HB hb
          clear hb
          refine ⟨_, rfl, ?_⟩
          refine hK.out _ _ HB (fun hHeld => ?_)
          clear hK K
          refine nm ⟨_, show Act.put _ (some 115) _ = _ by simp only [Act.put, sA, sB, sC, i64_w, i32_w]; rfl, ?_⟩
          refine pu 24 (some 116) (bs 46 33554431) HT_ rfl rfl (by kernel_rfl) (fun _ _ _ _ h => h) ⟨_, .inl ⟨by rfl, fun _ => by go_simp; with_reducible rfl⟩, _, by simp only [Act.put, sA, sB, sC, i64_w, i32_w]; rfl, ?_⟩
          refine pu 25 (some 117) (bs 46 67108863) HT_ rfl rfl (by kernel_rfl) (fun _ _ _ _ h => h) ⟨_, .inl ⟨by rfl, fun _ => by go_simp; with_reducible rfl⟩, _, by simp only [Act.put, sA, sB, sC, i64_w, i32_w]; rfl, ?_⟩
          refine pu 26 (some 118) (bs 46 134217727) HT_ rfl rfl (by kernel_rfl) (fun _ _ _ _ h => h) ⟨_, .inl ⟨by rfl, fun _ => by go_simp; with_reducible rfl⟩, _, by simp only [Act.put, sA, sB, sC, i64_w, i32_w]; rfl, ?_⟩
          refine pu 27 (some 119) (bs 46 268435455) HT_ rfl rfl (by kernel_rfl) (fun _ _ _ _ h => h) ⟨_, .inl ⟨by rfl, fun _ => by go_simp; with_reducible rfl⟩, _, by simp only [Act.put, sA, sB, sC, i64_w, i32_w]; rfl, ?_⟩
          refine pu 28 (some 120) (bs 46 536870911) HT_ rfl rfl (by kernel_rfl) (fun _ _ _ _ h => h) ⟨_, .inl ⟨by rfl, fun _ => by go_simp; with_reducible rfl⟩, _, by simp only [Act.put, sA, sB, sC, i64_w, i32_w]; rfl, ?_⟩
          refine pu 30 (some 122) (bs 46 1610612735) HT_ rfl rfl (by kernel_rfl) (fun _ _ _ _ h => h) ⟨_, .inl ⟨by rfl, fun _ => by go_simp; with_reducible rfl⟩, _, by simp only [Act.put, sA, sB, sC, i64_w, i32_w]; rfl, ?_⟩
          refine pu 31 (some 123) (bs 46 3758096383) HT_ rfl rfl (by kernel_rfl) (fun _ _ _ _ h => h) ⟨_, .inl ⟨by rfl, fun _ => by go_simp; with_reducible rfl⟩, _, by simp only [Act.put, sA, sB, sC, i64_w, i32_w]; rfl, ?_⟩
          refine pu 33 (some 125) (bs 46 12348030975) HT_ rfl rfl (by kernel_rfl) (fun _ _ _ _ h => h) ⟨_, .inl ⟨by rfl, fun _ => by go_simp; with_reducible rfl⟩, _, by simp only [Act.put, sA, sB, sC, i64_w, i32_w]; rfl, ?_⟩
          refine pu 34 (some 126) (bs 46 29527900159) HT_ rfl rfl (by kernel_rfl) (fun _ _ _ _ h => h) ⟨_, .inl ⟨by rfl, fun _ => by go_simp; with_reducible rfl⟩, _, by simp only [Act.put, sA, sB, sC, i64_w, i32_w]; rfl, ?_⟩
          refine tk 29 (some 121) (bs 46 30064771071) HT_ HW_ rfl rfl (by kernel_rfl) (fun _ _ _ _ h => h) hHeld ⟨_, .inl ⟨by rfl, by rintro w' s0; refine load_any_ (x := .tmp 120) (p := ⟨g4, 0, none⟩) ?_ ?_ (Hc0.out _ s0) Tryd.underlying48 rfl infoO1 <;> rfl⟩, _, by simp only [Act.put, sA, sB, sC, i64_w, i32_w]; rfl, ?_⟩
          refine tk 32 (some 124) (bs 46 34359738367) HT_ HW_ rfl rfl (by kernel_rfl) (fun _ _ _ _ h => h) hHeld ⟨_, .inl ⟨by rfl, by rintro w' s0; refine load_any_ (x := .tmp 123) (p := ⟨g4, 32, none⟩) ?_ ?_ (Hc1.out _ s0) Tryd.underlying48 rfl infoO1 <;> rfl⟩, _, by simp only [Act.put, sA, sB, sC, i64_w, i32_w]; rfl, ?_⟩
          refine tk 35 (some 127) (bs 46 68719476735) HT_ HW_ rfl rfl (by kernel_rfl) (fun _ _ _ _ h => h) hHeld ⟨_, .inl ⟨by rfl, by rintro w' s0; refine load_any_ (x := .tmp 126) (p := ⟨g4, 64, none⟩) ?_ ?_ (Hc2.out _ s0) Tryd.underlying48 rfl infoO1 <;> rfl⟩, _, by simp only [Act.put, sA, sB, sC, i64_w, i32_w]; rfl, ?_⟩
          refine on1 36 (some 128) (bs 46 137438953471) HT_ rfl rfl (by kernel_rfl) (by decide) (fun K hK => ?_)
          refine goes_ Tryd.func6 (by kernel_rfl) rfl #[.agg (o0.cells a0 b0), .agg (o1.cells a1 b1), .agg (o2.cells a2 b2)] (by rfl) rfl rfl (by (try simp only [List.map_toArray, List.map_cons, List.map_nil]); first | done | rfl) ?_
          with_reducible refine (order_obj o0 o1 o2 a0 b0 a1 b1 a2 b2 G0.out.1 G1.out.1 G2.out.1 _).mono ?_
          rintro e w7 ⟨rfl, hb⟩
          replace HB := belT HB hb
          clear hb
          refine ⟨_, rfl, ?_⟩
          refine hK.out _ _ HB (fun hHeld => ?_)
          clear hK K
          refine nm ⟨_, show Act.put _ (some 128) _ = _ by simp only [Act.put, sA, sB, sC, i64_w, i32_w]; rfl, ?_⟩
          refine pu 37 (some 129) (bs 46 274877906943) HT_ rfl rfl (by kernel_rfl) (fun _ _ _ _ h => h) ⟨_, .inl ⟨by rfl, fun _ => by go_simp; with_reducible rfl⟩, _, by simp only [Act.put, sA, sB, sC, i64_w, i32_w]; rfl, ?_⟩
          refine pu 38 (some 130) (bs 46 549755813887) HT_ rfl rfl (by kernel_rfl) (fun _ _ _ _ h => h) ⟨_, .inl ⟨by rfl, fun _ => by go_simp; with_reducible rfl⟩, _, by simp only [Act.put, sA, sB, sC, i64_w, i32_w]; rfl, ?_⟩
          refine pu 39 (some 131) (bs 46 1099511627775) HT_ rfl rfl (by kernel_rfl) (fun _ _ _ _ h => h) ⟨_, .inl ⟨by rfl, fun _ => by go_simp; with_reducible rfl⟩, _, by simp only [Act.put, sA, sB, sC, i64_w, i32_w]; rfl, ?_⟩
          refine pu 40 (some 132) (bs 46 2199023255551) HT_ rfl rfl (by kernel_rfl) (fun _ _ _ _ h => h) ⟨_, .inl ⟨by rfl, fun _ => by go_simp; with_reducible rfl⟩, _, by simp only [Act.put, sA, sB, sC, i64_w, i32_w]; rfl, ?_⟩
          refine pu 41 (some 133) (bs 46 4398046511103) HT_ rfl rfl (by kernel_rfl) (fun _ _ _ _ h => h) ⟨_, .inl ⟨by rfl, fun _ => by go_simp; with_reducible rfl⟩, _, by simp only [Act.put, sA, sB, sC, i64_w, i32_w]; rfl, ?_⟩
          refine pu 42 (some 134) (bs 46 8796093022207) HT_ rfl rfl (by kernel_rfl) (fun _ _ _ _ h => h) ⟨_, .inl ⟨by rfl, fun _ => by go_simp; with_reducible rfl⟩, _, by simp only [Act.put, sA, sB, sC, i64_w, i32_w]; rfl, ?_⟩
          refine on1 43 (some 135) (bs 46 17592186044415) HT_ rfl rfl (by kernel_rfl) (by decide) (fun K hK => ?_)
          refine goes_ Tryd.func7 (by kernel_rfl) rfl #[.slice (some ⟨g4, 0, none⟩) 5 c4, .int .i64 _] (by rfl) rfl rfl (by (try simp only [List.map_toArray, List.map_cons, List.map_nil]); first | done | rfl) ?_
          with_reducible refine (rankFirst_n (Kd.C_below HC4.out HB) hJ.out.1 hJ.out.2.1).mono ?_
          rintro e w7 ⟨rfl, hb⟩
          replace HB := belT HB hb
          clear hb
          refine ⟨_, rfl, ?_⟩
          refine hK.out _ _ HB (fun hHeld => ?_)
          clear hK K
          refine nm ⟨_, show Act.put _ (some 135) _ = _ by simp only [Act.put, sA, sB, sC, i64_w, i32_w]; rfl, ?_⟩
          refine pu 44 (some 136) (bs 46 35184372088831) HT_ rfl rfl (by kernel_rfl) (fun _ _ _ _ h => h) ⟨_, .inl ⟨by rfl, fun _ => by go_simp; with_reducible rfl⟩, _, by simp only [Act.put, sA, sB, sC, i64_w, i32_w]; rfl, ?_⟩
          refine pu 45 (some 137) (bs 46 70368744177663) HT_ rfl rfl (by kernel_rfl) (fun _ _ _ _ h => h) ⟨_, .inl ⟨by rfl, fun _ => by go_simp; with_reducible rfl⟩, _, by simp only [Act.put, sA, sB, sC, i64_w, i32_w]; rfl, ?_⟩
          refine done_ (done_of HT_.out (by kernel_rfl)) ?_
          have HN := Lib.hid (hJ.out.2.2.2.trans (HB.mono hJ.out.2.2.2.size))
          clear HB
          go_wp2
          go_roundw
          case rel => exact ⟨n + 1, by omega, by go_num, HN⟩
          case measure => simp [intOf]; omega
    · obtain rfl : n = 512 := by omega
      have h512 : ¬ (512 : Int) < 512 := by decide
      have HI := Lib.hid (And.intro (H3.out.1.trans (hI.out.mono H3.out.1.size)) ((hI.out.block g (blkLt H3.out.2.1)).trans H3.out.2.1))
      go_wp2
      obtain ⟨gE, hgE⟩ : ∃ x, x = wr.heap.size := ⟨_, rfl⟩
      have H5 : Hid (∃ w5, w5 = wr.alloc (.cells endsC 3) ∧ Below w.heap.size w w5 ∧ w5.heap[g]? = some (.cells ([oA.c0, oB.c0, oC.c0, oD.c0, oE.c0].flatMap Array.toList).toArray 48 (0, 0)) ∧ ∀ r : Nat, r < 7 → ∃ z, w5.cell? ⟨gE, r, none⟩ = some (.int .i64 z) ∧ -9223372036854775808 ≤ z ∧ z ≤ 9223372036854775807) := Lib.hid ⟨_, rfl, HI.out.1.alloc HI.out.1.size _, (heap_alloc_old _ _ (blkLt HI.out.2)).trans HI.out.2, fun r hr => by
        subst hgE
        rw [cell_of_row _ _ r _ _ _ (heap_alloc_new wr (.cells endsC 3))]
        exact ends_at r hr⟩
      obtain ⟨w5, hw5, hb5, hg5, hn5⟩ := H5.out
      have H5 := Lib.hid (And.intro hb5 (And.intro hg5 hn5))
      rw [← hgE]
      rw [show wr.alloc (Obj.cells #[Value.int IntKind.i64 (-9223372036854775808), Value.int IntKind.i64 (-1), Value.int IntKind.i64 0, Value.int IntKind.i64 1, Value.int IntKind.i64 4, Value.int IntKind.i64 5, Value.int IntKind.i64 9223372036854775807] 3) = w5 from hw5.symm]
      clear hw5 hb5 hg5 hn5 hgE
      go_loopw [9] (fun v9 wr => ∃ j : Nat, j ≤ 7 ∧ v9 = .int .i64 j ∧ Hid (Below w5.heap.size w5 wr)) (fun v9 _ => 7 - (intOf v9).toNat)
      case atStart => exact ⟨0, by omega, rfl, Lib.hid (Below.refl _ _)⟩
      case round =>
        obtain ⟨j, hj, rfl, hJ⟩ := hrel
        by_cases hjj : j < 7
        · have hjj' : (j : Int) < 7 := by omega
          obtain ⟨z, hz, hz1, hz2⟩ := H5.out.2.2 j hjj
          have HZ := Lib.hid (And.intro hz1 hz2)
          have HZc : Hid (∀ W, Below wr.heap.size wr W → W.cell? ⟨gE, j, none⟩ = some (.int .i64 z)) := Lib.hid (fun W hW => cell_below hW ((hJ.out.cell (World.block_lt_of_cell? _ _ hz)).trans hz))
          have HG5 : Hid (∀ W, Below wr.heap.size wr W → kO.C W (some ⟨g, 0, none⟩) 5 fiveL) := Lib.hid (fun W hW => Kd.C_below (fiveC ((hJ.out.block g (blkLt H5.out.2.1)).trans H5.out.2.1)) hW)
          have HB := below_drew (Below.refl wr.heap.size wr)
          clear hz hz1 hz2
          go_upto_region 24 with (fail)
          refine start_ (n := 30) (S := fun w' => Below wr.heap.size wr w' ∧ w'.cell? ⟨gE, j, none⟩ = some (.int .i64 z)) (ds := []) (bs 30 0) (by kernel_rfl) rfl (by kernel_rfl) ⟨HB, HZc.out _ HB⟩ (fun hHeld => ?_)
          refine with_tabW rg8_24_tab rg8_24_bits (fun HT_ HW_ => ?_)
          refine pu 0 (some 145) (bs 30 1) HT_ rfl rfl (by kernel_rfl) (fun _ _ _ _ h => h) ⟨_, .inl ⟨by rfl, fun _ => by go_simp; with_reducible rfl⟩, _, by simp only [Act.put, sA, sB, sC, i64_w, i32_w]; rfl, ?_⟩
          refine pu 1 (some 146) (bs 30 3) HT_ rfl rfl (by kernel_rfl) (fun _ _ _ _ h => h) ⟨_, .inl ⟨by rfl, fun _ => by go_simp; with_reducible rfl⟩, _, by simp only [Act.put, sA, sB, sC, i64_w, i32_w]; rfl, ?_⟩
          refine pu 2 (some 147) (bs 30 7) HT_ rfl rfl (by kernel_rfl) (fun _ _ _ _ h => h) ⟨_, .inl ⟨by rfl, fun _ => by go_simp; with_reducible rfl⟩, _, by simp only [Act.put, sA, sB, sC, i64_w, i32_w]; rfl, ?_⟩
          refine pu 3 (some 148) (bs 30 15) HT_ rfl rfl (by kernel_rfl) (fun _ _ _ _ h => h) ⟨_, .inl ⟨by rfl, fun _ => by go_simp; with_reducible rfl⟩, _, by simp only [Act.put, sA, sB, sC, i64_w, i32_w]; rfl, ?_⟩
          refine tk 4 (some 149) (bs 30 31) HT_ HW_ rfl rfl (by kernel_rfl) (fun _ _ _ _ h => h) hHeld ⟨_, .inl ⟨by rfl, by rintro w' ⟨s0, s1⟩; go_simp; with_reducible rfl⟩, _, by simp only [Act.put, sA, sB, sC, i64_w, i32_w]; rfl, ?_⟩
          refine on1 5 (some 150) (bs 30 63) HT_ rfl rfl (by kernel_rfl) (by decide) (fun K hK => ?_)
          refine goes_ Tryd.func5 (by kernel_rfl) rfl #[.slice (some ⟨g, 0, none⟩) 5 5, .int .i64 z] (by rfl) rfl rfl (by (try simp only [List.map_toArray, List.map_cons, List.map_nil]); first | done | rfl) ?_
          with_reducible refine (rankChosen_n (HG5.out _ HB) rfl ints5).mono ?_
          rintro e w7 ⟨rfl, hb⟩
          replace HB := belT HB hb
          clear hb
          refine ⟨_, rfl, ?_⟩
          refine hK.out _ _ ⟨HB, HZc.out _ HB⟩ (fun hHeld => ?_)
          clear hK K
          refine nm ⟨_, show Act.put _ (some 150) _ = _ by simp only [Act.put, sA, sB, sC, i64_w, i32_w]; rfl, ?_⟩
          refine pu 6 (some 151) (bs 30 127) HT_ rfl rfl (by kernel_rfl) (fun _ _ _ _ h => h) ⟨_, .inl ⟨by rfl, fun _ => by go_simp; with_reducible rfl⟩, _, by simp only [Act.put, sA, sB, sC, i64_w, i32_w]; rfl, ?_⟩
          refine pu 7 (some 152) (bs 30 255) HT_ rfl rfl (by kernel_rfl) (fun _ _ _ _ h => h) ⟨_, .inl ⟨by rfl, fun _ => by go_simp; with_reducible rfl⟩, _, by simp only [Act.put, sA, sB, sC, i64_w, i32_w]; rfl, ?_⟩
          refine pu 8 (some 153) (bs 30 511) HT_ rfl rfl (by kernel_rfl) (fun _ _ _ _ h => h) ⟨_, .inl ⟨by rfl, fun _ => by go_simp; with_reducible rfl⟩, _, by simp only [Act.put, sA, sB, sC, i64_w, i32_w]; rfl, ?_⟩
          refine pu 9 (some 154) (bs 30 1023) HT_ rfl rfl (by kernel_rfl) (fun _ _ _ _ h => h) ⟨_, .inl ⟨by rfl, fun _ => by go_simp; with_reducible rfl⟩, _, by simp only [Act.put, sA, sB, sC, i64_w, i32_w]; rfl, ?_⟩
          refine pu 10 (some 155) (bs 30 2047) HT_ rfl rfl (by kernel_rfl) (fun _ _ _ _ h => h) ⟨_, .inl ⟨by rfl, fun _ => by go_simp; with_reducible rfl⟩, _, by simp only [Act.put, sA, sB, sC, i64_w, i32_w]; rfl, ?_⟩
          refine pu 11 (some 156) (bs 30 4095) HT_ rfl rfl (by kernel_rfl) (fun _ _ _ _ h => h) ⟨_, .inl ⟨by rfl, fun _ => by go_simp; with_reducible rfl⟩, _, by simp only [Act.put, sA, sB, sC, i64_w, i32_w]; rfl, ?_⟩
          refine tk 12 (some 157) (bs 30 8191) HT_ HW_ rfl rfl (by kernel_rfl) (fun _ _ _ _ h => h) hHeld ⟨_, .inl ⟨by rfl, by rintro w' ⟨s0, s1⟩; go_simp; with_reducible rfl⟩, _, by simp only [Act.put, sA, sB, sC, i64_w, i32_w]; rfl, ?_⟩
          refine on1 13 (some 158) (bs 30 16383) HT_ rfl rfl (by kernel_rfl) (by decide) (fun K hK => ?_)
          refine goes_ Tryd.func7 (by kernel_rfl) rfl #[.slice (some ⟨g, 0, none⟩) 5 5, .int .i64 z] (by rfl) rfl rfl (by (try simp only [List.map_toArray, List.map_cons, List.map_nil]); first | done | rfl) ?_
          with_reducible refine (rankFirst_n (HG5.out _ HB) rfl ints5).mono ?_
          rintro e w7 ⟨rfl, hb⟩
          replace HB := belT HB hb
          clear hb
          refine ⟨_, rfl, ?_⟩
          refine hK.out _ _ ⟨HB, HZc.out _ HB⟩ (fun hHeld => ?_)
          clear hK K
          refine nm ⟨_, show Act.put _ (some 158) _ = _ by simp only [Act.put, sA, sB, sC, i64_w, i32_w]; rfl, ?_⟩
          refine pu 14 (some 159) (bs 30 32767) HT_ rfl rfl (by kernel_rfl) (fun _ _ _ _ h => h) ⟨_, .inl ⟨by rfl, fun _ => by go_simp; with_reducible rfl⟩, _, by simp only [Act.put, sA, sB, sC, i64_w, i32_w]; rfl, ?_⟩
          refine pu 15 (some 160) (bs 30 65535) HT_ rfl rfl (by kernel_rfl) (fun _ _ _ _ h => h) ⟨_, .inl ⟨by rfl, fun _ => by go_simp; with_reducible rfl⟩, _, by simp only [Act.put, sA, sB, sC, i64_w, i32_w]; rfl, ?_⟩
          refine pu 16 (some 161) (bs 30 131071) HT_ rfl rfl (by kernel_rfl) (fun _ _ _ _ h => h) ⟨_, .inl ⟨by rfl, fun _ => by go_simp; with_reducible rfl⟩, _, by simp only [Act.put, sA, sB, sC, i64_w, i32_w]; rfl, ?_⟩
          refine pu 17 (some 162) (bs 30 262143) HT_ rfl rfl (by kernel_rfl) (fun _ _ _ _ h => h) ⟨_, .inl ⟨by rfl, fun _ => by go_simp; with_reducible rfl⟩, _, by simp only [Act.put, sA, sB, sC, i64_w, i32_w]; rfl, ?_⟩
          refine pu 18 (some 163) (bs 30 524287) HT_ rfl rfl (by kernel_rfl) (fun _ _ _ _ h => h) ⟨_, .inl ⟨by rfl, fun _ => by go_simp; with_reducible rfl⟩, _, by simp only [Act.put, sA, sB, sC, i64_w, i32_w]; rfl, ?_⟩
          refine pu 19 (some 164) (bs 30 1048575) HT_ rfl rfl (by kernel_rfl) (fun _ _ _ _ h => h) ⟨_, .inl ⟨by rfl, fun _ => by go_simp; with_reducible rfl⟩, _, by simp only [Act.put, sA, sB, sC, i64_w, i32_w]; rfl, ?_⟩
          refine pu 21 (some 166) (bs 30 3145727) HT_ rfl rfl (by kernel_rfl) (fun _ _ _ _ h => h) ⟨_, .inl ⟨by rfl, fun _ => by go_simp; with_reducible rfl⟩, _, by simp only [Act.put, sA, sB, sC, i64_w, i32_w]; rfl, ?_⟩
          refine pu 22 (some 167) (bs 30 7340031) HT_ rfl rfl (by kernel_rfl) (fun _ _ _ _ h => h) ⟨_, .inl ⟨by rfl, fun _ => by go_simp; with_reducible rfl⟩, _, by simp only [Act.put, sA, sB, sC, i64_w, i32_w]; rfl, ?_⟩
          refine pu 23 (some 168) (bs 30 15728639) HT_ rfl rfl (by kernel_rfl) (fun _ _ _ _ h => h) ⟨_, .inl ⟨by rfl, fun _ => by go_simp; with_reducible rfl⟩, _, by simp only [Act.put, sA, sB, sC, i64_w, i32_w]; rfl, ?_⟩
          refine pu 26 (some 171) (bs 30 82837503) HT_ rfl rfl (by kernel_rfl) (fun _ _ _ _ h => h) ⟨_, .inl ⟨by rfl, fun _ => by go_simp; with_reducible rfl⟩, _, by simp only [Act.put, sA, sB, sC, i64_w, i32_w]; rfl, ?_⟩
          refine tk 20 (some 165) (bs 30 83886079) HT_ HW_ rfl rfl (by kernel_rfl) (fun _ _ _ _ h => h) hHeld ⟨_, .inl ⟨by rfl, by rintro w' ⟨s0, s1⟩; go_simp; with_reducible rfl⟩, _, by simp only [Act.put, sA, sB, sC, i64_w, i32_w]; rfl, ?_⟩
          refine tk 24 (some 169) (bs 30 100663295) HT_ HW_ rfl rfl (by kernel_rfl) (fun _ _ _ _ h => h) hHeld ⟨_, .inl ⟨by rfl, by rintro w' ⟨s0, s1⟩; go_simp; with_reducible rfl⟩, _, by simp only [Act.put, sA, sB, sC, i64_w, i32_w]; rfl, ?_⟩
          refine pu 25 (some 170) (bs 30 134217727) HT_ rfl rfl (by kernel_rfl) (fun _ _ _ _ h => h) ⟨_, .inl ⟨by rfl, fun _ => by go_simp; with_reducible rfl⟩, _, by simp only [Act.put, sA, sB, sC, i64_w, i32_w]; rfl, ?_⟩
          refine on1 27 (some 172) (bs 30 268435455) HT_ rfl rfl (by kernel_rfl) (by decide) (fun K hK => ?_)
          refine goes_ Tryd.func4 (by kernel_rfl) rfl #[.agg (({ Ob.zero with born := z, phase := z } : Ob).cells (.slice none 0 0) (.slice none 0 0)), .agg (({ Ob.zero with born := 0, phase := 1 } : Ob).cells (.slice none 0 0) (.slice none 0 0))] (by rfl) rfl rfl (by (try simp only [List.map_toArray, List.map_cons, List.map_nil]); first | done | rfl) ?_
          with_reducible refine (told_obj ({ Ob.zero with born := z, phase := z } : Ob) ({ Ob.zero with born := 0, phase := 1 } : Ob) (.slice none 0 0) (.slice none 0 0) (.slice none 0 0) (.slice none 0 0) (obz_good z z HZ.out HZ.out).1 (obz_good 0 1 (by decide) (by decide)).1 (obz_good z z HZ.out HZ.out).2 (obz_good 0 1 (by decide) (by decide)).2 _).mono ?_
          rintro e w7 ⟨rfl, hb⟩
          replace HB := belT HB hb
          clear hb
          refine ⟨_, rfl, ?_⟩
          refine hK.out _ _ ⟨HB, HZc.out _ HB⟩ (fun hHeld => ?_)
          clear hK K
          refine nm ⟨_, show Act.put _ (some 172) _ = _ by simp only [Act.put, sA, sB, sC, i64_w, i32_w]; rfl, ?_⟩
          refine pu 28 (some 173) (bs 30 536870911) HT_ rfl rfl (by kernel_rfl) (fun _ _ _ _ h => h) ⟨_, .inl ⟨by rfl, fun _ => by go_simp; with_reducible rfl⟩, _, by simp only [Act.put, sA, sB, sC, i64_w, i32_w]; rfl, ?_⟩
          refine pu 29 (some 174) (bs 30 1073741823) HT_ rfl rfl (by kernel_rfl) (fun _ _ _ _ h => h) ⟨_, .inl ⟨by rfl, fun _ => by go_simp; with_reducible rfl⟩, _, by simp only [Act.put, sA, sB, sC, i64_w, i32_w]; rfl, ?_⟩
          refine done_ (done_of HT_.out (by kernel_rfl)) ?_
          have HN := Lib.hid (hJ.out.trans (HB.mono hJ.out.size))
          clear HB
          go_wp2
          go_roundw
          case rel => exact ⟨j + 1, by omega, by go_num, HN⟩
          case measure => simp [intOf]; omega
        · obtain rfl : j = 7 := by omega
          have h7 : ¬ (7 : Int) < 7 := by decide
          go_wp2_with (first
            | (go_at_call 5; (with_reducible refine (rankChosen_n (A := none) (c := 0) (n := 0) (l := []) (w := wr) (nilC wr) rfl nil_good).mono ?_); rintro e w8 ⟨rfl, hb⟩; have H8 := Lib.hid (belT (H5.out.1.trans (hJ.out.mono H5.out.1.size)) hb); clear hb))
          go_ret
          exact ⟨rfl, H8.out⟩
end Go.Proofs.YtoepbjgldmgaoaaDoor

/- A start for the witness: the settled world, some variables' cells laid as the row says. -/
namespace Go.Proofs.YtoepbjgldmgaoaaDoor
def flat1 : DataW Unit → List Value
  | .lit (.int k n) => [.int k n]
  | _ => []
def flat2 : DataW Unit → List Value
  | .agg l => l.flatMap fun
    | .agg m => m.flatMap flat1
    | x => flat1 x
  | x => flat1 x
def handleCell (h t : Nat) : List Value := [.iface h (.agg #[.pointer (some ⟨3, t, none⟩)])]
def layAt (heap : Array Obj) (x : Nat × List Value) : Array Obj := heap.modify x.1 fun
  | .cells _ t frozen => .cells x.2.toArray t frozen
  | o => o
noncomputable def laidWith (l : List (Nat × List Value)) (os : Os) : World :=
  { World.holding Tryd.prog os ⟨#[], #[], []⟩ with heap := l.foldl layAt (World.holding Tryd.prog os ⟨#[], #[], []⟩).heap }
end Go.Proofs.YtoepbjgldmgaoaaDoor
