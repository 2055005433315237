/- Lemmas on which the law stands, part 6: DrK2, OpenPod, OpenObj, Laid. -/
import Derived.Test.YtoepbjgldmgaoaaDoorKDK4
import Derived.Test.YtoepbjgldmgaoaaDoorKDK5
import Derived.SizedLaws
import Derived.ChangeArms
import Derived.WideShapes
import Derived.OpenShut
import Derived.Deep.SlicePairs
import Derived.ChangeSame
import Derived.Test.YtoepbjgldmgaoaaDoorCards
import Derived.WalkKit
import Derived.ProofKit
set_option linter.unusedVariables false
set_option linter.unusedSimpArgs false
/- DrainKnown walked: the chapter's examples. -/
namespace Go.Proofs.YtoepbjgldmgaoaaDoor
open Go.RowKit Go.Proofs.YtoepbjgldmgaoaaDoorW.PrintWords Go.Proofs.YtoepbjgldmgaoaaDoorW.PrintLast
abbrev qB : ByteArray := ⟨#[98]⟩
abbrev qC : ByteArray := ⟨#[99]⟩
abbrev qD : ByteArray := ⟨#[100]⟩
abbrev qE : ByteArray := ⟨#[101]⟩
abbrev qN3 : ByteArray := ⟨#[110, 51]⟩
abbrev qN4 : ByteArray := ⟨#[110, 52]⟩
abbrev qN10 : ByteArray := ⟨#[110, 49, 48]⟩
def kA : Ob := { podO qA qN1 with ready := true }
def kB : Ob := { podO qB qN1 with phase := 0 }
def kC : Ob := { podO qC qN1 with ending := true }
def kn2 : Ob := { Ob.zero with name := qN2, version := 7, draining := true, beat := 3 }
def kN3 : Ob := { Ob.zero with name := qN3 }
def kn10 : Ob := { kn2 with name := qN10 }
def kD10 : Ob := { podO qD qN2 with node := qN10 }
def kN1b : Ob := { kN1 with name := qN2 }
def nodes1 : List Ob := [kn2, kN1, kN3]
def nodes2 : List Ob := [kn10, kN1, kN3]
def nodes3 : List Ob := [kn10, kN1b, kN3]
def pods1 : List Ob := [kA, kB, kC, podO qD qN2, podO qE qN3]
def pods2 : List Ob := [kA, kB, kC, kD10, podO qE qN3]
def ask1 : List Rq := [evict kB, evict kA, upd kn2, evict (podO qD qN2)]
def ask2 : List Rq := [evict kB, evict kA, upd kn10, evict kD10]
def ask3 : List Rq := [upd kn10, evict kD10]
theorem plan1 : planF nodes1 pods1 = ask1 := by kernel_rfl
theorem plan2 : planF nodes2 pods2 = ask2 := by kernel_rfl
theorem plan3 : planF nodes3 pods2 = ask3 := by kernel_rfl
theorem emp1 : emptyB pods1 qN1 = false := by kernel_rfl
theorem emp4 : emptyB pods1 qN4 = true := by kernel_rfl
theorem set_kA : (podO qA qN1).b0.setIfInBounds 15 (.bool true) = kA.b0 := by kernel_rfl
theorem set_kB : (podO qB qN1).b0.setIfInBounds 14 (.int .i64 0) = kB.b0 := by kernel_rfl
theorem set_kC : (podO qC qN1).b0.setIfInBounds 16 (.bool true) = kC.b0 := by kernel_rfl
theorem set_n2 : kn2.b0.setIfInBounds 7 (.bool true) = (cord kn2).b0 := by kernel_rfl
theorem set_nodes2 : (flatO nodes1).setIfInBounds 1 (.string qN10) = flatO nodes2 := by kernel_rfl
theorem set_pods2 : (flatO pods1).setIfInBounds 109 (.string qN10) = flatO pods2 := by kernel_rfl
theorem set_nodes3 : (flatO nodes2).setIfInBounds 33 (.string qN2) = flatO nodes3 := by kernel_rfl
theorem fn_size : (flatO nodes1).size = 96 ∧ (flatO nodes2).size = 96 ∧ (flatO pods1).size = 160 := ⟨by kernel_rfl, by kernel_rfl, by kernel_rfl⟩
theorem flat_n1 : ([kn2.b0, kN1.b0, kN3.b0].flatMap Array.toList).toArray = flatO nodes1 := by kernel_rfl
theorem flat_p1 : ([kA.b0, kB.b0, kC.b0, (podO qD qN2).b0, (podO qE qN3).b0].flatMap Array.toList).toArray = flatO pods1 := by kernel_rfl
theorem flat_a1 : ([(evict kB).b0, (evict kA).b0, (upd kn2).b0, (evict (podO qD qN2)).b0].flatMap Array.toList).toArray = flatR ask1 := by kernel_rfl
theorem upd_b0 : Tryd.prog.built 66 [(0, .int .i64 1), (1, .agg (cord kn2).b0), (4, .int .i64 7)] = some (upd kn2).b0 := upd_built kn2 _ _
theorem fits_n1 : (∀ o ∈ nodes1, ObFits o) ∧ (∀ o ∈ nodes2, ObFits o) ∧ (∀ o ∈ nodes3, ObFits o) ∧ (∀ o ∈ pods1, ObFits o) ∧ (∀ o ∈ pods2, ObFits o) := by
  refine ⟨?_, ?_, ?_, ?_, ?_⟩ <;> (intro o ho; simp only [nodes1, nodes2, nodes3, pods1, pods2, List.mem_cons, List.not_mem_nil, or_false] at ho; rcases ho with rfl | rfl | rfl | rfl | rfl) <;> exact ⟨by decide, by decide, by decide⟩
theorem bare_n1 : (∀ o ∈ nodes1, o.labels = [] ∧ o.select = []) ∧ (∀ o ∈ nodes2, o.labels = [] ∧ o.select = []) ∧ (∀ o ∈ nodes3, o.labels = [] ∧ o.select = []) ∧ (∀ o ∈ pods1, o.labels = [] ∧ o.select = []) ∧ (∀ o ∈ pods2, o.labels = [] ∧ o.select = []) ∧ (∀ r ∈ ask1, r.ob.labels = [] ∧ r.ob.select = []) := by
  refine ⟨?_, ?_, ?_, ?_, ?_, ?_⟩ <;> (intro o ho; simp only [nodes1, nodes2, nodes3, pods1, pods2, ask1, List.mem_cons, List.not_mem_nil, or_false] at ho; rcases ho with rfl | rfl | rfl | rfl | rfl) <;> exact ⟨rfl, rfl⟩
theorem Mem.store' {w0 w w1 : World} {L : List (Nat × Array Value × TypeId)} (h : Mem w0 w L) (i : Nat) {g : Nat} {c c' : Array Value} {t : TypeId} (hi : L[i]? = some (g, c, t)) (G : w1.heap[g]? = some (.cells c' t (0, 0))) (hk : ∀ k o, k ≠ g → w.heap[k]? = some o → w1.heap[k]? = some o) (hb : ∀ B w2, Below B w2 w → B ≤ g → Below B w2 w1) : Mem w0 w1 (L.set i (g, c', t)) := by
  have hm : (L.set i (g, c', t)).map (·.1) = L.map (·.1) := by
    rw [List.map_set]
    apply List.ext_getElem?
    intro j
    rw [List.getElem?_set]
    by_cases e : i = j
    · subst e
      have hl := (List.getElem?_eq_some_iff.1 hi).1
      rw [if_pos rfl, if_pos (by simpa using hl), List.getElem?_map, hi]
      rfl
    · rw [if_neg e]
  have back : ∀ x ∈ L.set i (g, c', t), ∃ y ∈ L, y.1 = x.1 := fun x hx => by
    obtain ⟨j, hj⟩ := List.mem_iff_getElem?.1 hx
    have h1 : (L.map (·.1))[j]? = some x.1 := by rw [← hm, List.getElem?_map, hj]; rfl
    rw [List.getElem?_map] at h1
    obtain ⟨y, hy, e⟩ := Option.map_eq_some_iff.1 h1
    exact ⟨y, List.mem_of_getElem? hy, e⟩
  refine ⟨fun x hx => ?_, by rw [hm]; exact h.nd, hb _ _ h.bel (h.low _ (List.mem_of_getElem? hi)), fun x hx => by obtain ⟨y, hy, e⟩ := back x hx; rw [← e]; exact h.low y hy⟩
  obtain ⟨j, hj⟩ := List.mem_iff_getElem?.1 hx
  rw [List.getElem?_set] at hj
  by_cases e : i = j
  · rw [if_pos e] at hj
    split at hj
    · injection hj with hj
      rw [← hj]
      exact G
    · cases hj
  · rw [if_neg e] at hj
    have hne : x.1 ≠ g := fun eq => by
      have h1 : (L.map (·.1))[i]? = some g := by rw [List.getElem?_map, hi]; rfl
      have h2 : (L.map (·.1))[j]? = some g := by rw [List.getElem?_map, hj, ← eq]; rfl
      exact e ((List.getElem?_inj (List.getElem?_eq_some_iff.1 h1).1 h.nd).1 (h1.trans h2.symm))
    exact hk _ _ hne (h.at_ x (List.mem_of_getElem? hj))
theorem Mem.more {w0 w W : World} {L : List (Nat × Array Value × TypeId)} {g : Nat} {c : Array Value} {t : TypeId} (h : Mem w0 w L) (G : w.heap[g]? = some (.cells c t (0, 0))) (hl : w0.heap.size ≤ g) (hn : ∀ x ∈ L, x.1 ≠ g) : Mem w0 w (L ++ [(g, c, t)]) := by
  refine ⟨fun x hx => ?_, ?_, h.bel, fun x hx => ?_⟩
  · rcases List.mem_append.1 hx with hx | hx
    · exact h.at_ x hx
    · rw [List.mem_singleton.1 hx]; exact G
  · rw [List.map_append, List.nodup_append]
    refine ⟨h.nd, by simp, fun a ha b hb' e => ?_⟩
    obtain ⟨x, hx, rfl⟩ := List.mem_map.1 ha
    simp only [List.map_cons, List.map_nil, List.mem_singleton] at hb'
    exact hn x hx (e.trans hb')
  · rcases List.mem_append.1 hx with hx | hx
    · exact h.low x hx
    · rw [List.mem_singleton.1 hx]; exact hl
theorem dk_mem {w0 w8 w : World} {L : List (Nat × Array Value × TypeId)} {gn gp gf : Nat} {cn cp cf : Array Value} {tn tp tf : TypeId} (h : Mem w0 w L) (h8 : Mem w0 w8 L) (Gn : w.heap[gn]? = some (.cells cn tn (0, 0))) (Gp : w.heap[gp]? = some (.cells cp tp (0, 0))) (Gf : w.heap[gf]? = some (.cells cf tf (0, 0)))
    (Ln : w8.heap.size ≤ gn) (Lp : w8.heap.size ≤ gp) (Lf : w8.heap.size ≤ gf) (Nnp : gn ≠ gp) (Nnf : gn ≠ gf) (Npf : gp ≠ gf) : Mem w0 w (L ++ [(gn, cn, tn)] ++ [(gp, cp, tp)] ++ [(gf, cf, tf)]) := by
  have h0 := h8.bel.size
  have hx : ∀ x ∈ L, x.1 < w8.heap.size := fun x hx => blkLt (h8.at_ x hx)
  refine Mem.more (W := w) (Mem.more (W := w) (Mem.more (W := w) h Gn (by omega) (fun x hm => by have := hx x hm; omega)) Gp (by omega) (fun x hm => ?_)) Gf (by omega) (fun x hm => ?_)
  · rcases List.mem_append.1 hm with hm | hm
    · have := hx x hm; omega
    · rw [List.mem_singleton.1 hm]; exact Nnp
  · rcases List.mem_append.1 hm with hm | hm
    · rcases List.mem_append.1 hm with hm | hm
      · have := hx x hm; omega
      · rw [List.mem_singleton.1 hm]; exact Nnf
    · rw [List.mem_singleton.1 hm]; exact Npf
section
variable {P : Program}
theorem buildN_ {ops : Array Oper} {op : Oper} {N : Option Tmp} {a : Act} {w : World} {K : Act → World → Prop} {Q : Exit → Act → World → Prop} (hw : Region.wanted op (yielded ops a.tmps) = true) (hN : op.dst = N) (t e : TypeId) (len : Nat) (parts : Array (Nat × Operand)) (ho : op.op = .buildSlice t len parts) (css : List (Array Value)) (hlen : css.length = len)
    (hx : parts.toList.map (fun p => (p.1, a.eval p.2)) = ((css.map Value.agg).zipIdx 0).map fun x => (x.2, x.1))
    (z : Value) (n bytes : Nat) (hu : P.underlying t = some (.slice e)) (hinfo : (P.info? e).map (fun i => (i.zero, i.size, i.bytes)) = some (some z, n, bytes)) (hs : ∀ cs ∈ css, cs.size = n) (h0 : 0 < n) (hl0 : 0 < len) (hn : n ≤ 1000) (hl : len ≤ 1000) (hz : z.cells.size = n) (cs : Array Value) (hcs : (css.flatMap Array.toList).toArray = cs)
    (h : ∀ g w1, g = w.heap.size → w1.heap[g]? = some (.cells cs e (0, 0)) → Below w.heap.size w w1 → K (a.put N (.slice (some ⟨g, 0, none⟩) len len)) w1) : if Region.wanted op (yielded ops a.tmps) = true then Oper.wp P op a w K Q else K (a.put N undef) w := by
  rw [if_pos hw]
  subst hN
  subst hcs
  obtain ⟨i0, hi, hzz⟩ := Option.map_eq_some_iff.1 hinfo
  simp only [Prod.mk.injEq] at hzz
  obtain ⟨hz0, hz1, hz2⟩ := hzz
  have hb : len * n ≤ 1000 * 1000 := Nat.mul_le_mul hl hn
  have hp : 0 < len * n := Nat.mul_pos hl0 h0
  refine wp_buildSlice t e len parts ho _ i0 z hu hi hz0 (by rw [hz1]; omega) (by rw [hz1]; omega) ?_ (h _ _ rfl (heap_alloc_new w _) (Go.Joins.below_alloc1 w _))
  have hf := Great.fill_whole (s := n) h0 (css.map Value.agg) ((Array.range (len * i0.size)).map (z.cells[· % z.cells.size]!)) (fun v hv => by
    obtain ⟨cs, hc, rfl⟩ := List.mem_map.1 hv
    exact hs cs hc) (by simp [hz1, hlen])
  rw [hz1] at hf ⊢
  rw [Array.toList_map]
  rw [show (parts.toList.map fun (i, x) => (i, a.eval x)) = parts.toList.map (fun p => (p.1, a.eval p.2)) from rfl, hx, hf]
  congr 1
  rw [List.flatMap_map]
  rfl
end
theorem nil_plan (w : World) : Calls Tryd.prog 31 #[.agg #[.slice none 0 0, .slice none 0 0, .slice none 0 0, .slice none 0 0]] w fun e w' => ∃ A c, e = .returned (.slice A 0 c) ∧ Below w.heap.size w w' :=
  (plan_calls none none 0 0 0 0 _ _ [] [] w rfl rfl (Kd.C_nil _ _) (Kd.C_nil _ _) (by decide) (by decide) (fun o h => (List.not_mem_nil h).elim) (fun o h => (List.not_mem_nil h).elim)).mono fun e w' ⟨v, h1, h2, h3⟩ => by
    obtain ⟨A, c, e1⟩ := Kd.S_slice h2
    exact ⟨A, c, by rw [h1, e1]; rfl, h3⟩
theorem R_off27 {α : Type} {d : Kd α} {e base g : Nat} {w w1 : World} {v : Value} {xs : List α} (h : d.R e w base (fun _ => True) v xs) (hb : g < base) (hk : ∀ k, k ≠ g → w1.heap[k]? = w.heap[k]?) : d.R e w1 base (fun _ => True) v xs :=
  Kd.R_mono (Kd.R_move (Kd.R_bound h) (fun k hk' => hk k (by have := hk'.2.1; omega))) (fun _ _ => trivial)
def rg10_8_T : Bool × List (List Nat × List Nat) := (true, [([], []), ([], []), ([], []), ([0, 1, 2], [0, 1, 2]), ([], []), ([], []), ([], []), ([], []), ([7], []), ([4, 5, 6, 7, 8], [4, 5, 6, 7, 8]), ([3, 9], [3, 9]), ([], []), ([11, 10, 8, 0, 1, 2, 3, 4, 5, 6, 7, 8, 9, 10, 11], [10, 11])])
def rg10_8_B : List Nat := [0, 0, 0, 7, 0, 0, 0, 0, 128, 496, 1023, 0, 4095]
theorem rg10_8_tab : rtab .any (opsOf Tryd.f10 8) = rg10_8_T := by kernel_rfl
theorem rg10_8_bits : waitsOk rg10_8_T.2 rg10_8_B = true := by kernel_rfl
attribute [local irreducible] Ob.b0 Rq.b0 flatO flatR
theorem dk_name {w : World} {base n c : Nat} {A : Option Addr} {xs : List Rq} (h : kRq.R 66 w base (fun _ => True) (.slice A n c) xs) (i : Nat) (r : Rq) (hi : xs[i]? = some r) : ∃ ad, A = some ad ∧ w.cell? ⟨(ad.add (i * 42)).block, (ad.add (i * 42)).off + 1 + 1, none⟩ = some (.string r.ob.name) := by
  have h3 := Kd.R_reads' h
  obtain ⟨ad, v4, v27, e, _, _, hc⟩ := rq_at h3.2.2 i r hi
  refine ⟨ad, e, ?_⟩
  have := hc 2 (.string r.ob.name) rfl
  rw [add_add, add_field _ _ _ (by decide)] at this
  exact this
set_option maxHeartbeats 16000000 in
set_option maxRecDepth 100000 in
theorem drainKnown_calls (w : World) : Calls Tryd.prog 10 #[] w fun e w' => e = .returned (.bool true) ∧ Below w.heap.size w w' := by
  have M0 := Lib.hid (Mem.nil w)
  go_enter Tryd.func10, Tryd.ntmps10
  go_wp2_with (first
    | (go_at_call 35; (with_reducible refine (pod_calls qA qN1 w).mono ?_); rintro e X1 ⟨rfl, hb⟩; have M1 : Hid (Mem w X1 []) := Lib.hid (M0.out.below hb); clear M0; clear hb)
    | ((with_reducible refine wpList_store_blk rfl 48 (.tmp 1) (.tmp 9) rfl X1.heap.size 48 ?c0y1 ((podO qA qN1).b0) ?c1y1 ?c2y1 ?c3y1 ?c4y1 ?c5y1 ?c6y1 ?_); (case c1y1 => rfl); (case c2y1 => rfl); (case c3y1 => exact heap_alloc_new _ _); (case c4y1 => exact info_b0 _); (case c5y1 => exact Eq.trans (b := 32) rfl (b0_size _).symm); (case c6y1 => exact b0_one _); intro X2 G hk hb hz; obtain ⟨gy1, hgy1⟩ : ∃ g, g = X1.heap.size := ⟨_, rfl⟩; rw [← hgy1]; have M2 : Hid (Mem w X2 [(gy1, (podO qA qN1).b0, 48)]) := Lib.hid (by rw [hgy1]; exact M1.out.made G hb); clear M1; clear G hk hb hz hgy1)
    | ((with_reducible refine wpList_store1 rfl 4 (.tmp 10) (.const (.bool true)) rfl gy1 15 48 ((podO qA qN1).b0) (.bool true) ?s1y2 ?s2y2 ?s3y2 ?s4y2 ?s5y2 ?s6y2 ?s7y2 ?_); (case s1y2 => rfl); (case s2y2 => rfl); (case s3y2 => rfl); (case s4y2 => exact M2.out.get 0 rfl); (case s5y2 => exact (by rw [b0_size]; decide)); (case s6y2 => kernel_rfl); (case s7y2 => rfl); intro X3 G hk hb hz; rw [set_kA] at G; have M3 : Hid (Mem w X3 [(gy1, kA.b0, 48)]) := Lib.hid (M2.out.store 0 rfl G hk hb); clear M2; clear G hk hb hz)
    | (go_at_call 35; (with_reducible refine (pod_calls qB qN1 X3).mono ?_); rintro e X4 ⟨rfl, hb⟩; have M4 : Hid (Mem w X4 [(gy1, kA.b0, 48)]) := Lib.hid (M3.out.below hb); clear M3; clear hb)
    | ((with_reducible refine wpList_store_blk rfl 48 (.tmp 2) (.tmp 11) rfl X4.heap.size 48 ?c0y3 ((podO qB qN1).b0) ?c1y3 ?c2y3 ?c3y3 ?c4y3 ?c5y3 ?c6y3 ?_); (case c1y3 => rfl); (case c2y3 => rfl); (case c3y3 => exact heap_alloc_new _ _); (case c4y3 => exact info_b0 _); (case c5y3 => exact Eq.trans (b := 32) rfl (b0_size _).symm); (case c6y3 => exact b0_one _); intro X5 G hk hb hz; obtain ⟨gy3, hgy3⟩ : ∃ g, g = X4.heap.size := ⟨_, rfl⟩; rw [← hgy3]; have M5 : Hid (Mem w X5 [(gy1, kA.b0, 48), (gy3, (podO qB qN1).b0, 48)]) := Lib.hid (by rw [hgy3]; exact M4.out.made G hb); clear M4; clear G hk hb hz hgy3)
    | ((with_reducible refine wpList_store1 rfl 3 (.tmp 12) (.const (.int .i64 0)) rfl gy3 14 48 ((podO qB qN1).b0) (.int .i64 0) ?s1y4 ?s2y4 ?s3y4 ?s4y4 ?s5y4 ?s6y4 ?s7y4 ?_); (case s1y4 => rfl); (case s2y4 => rfl); (case s3y4 => rfl); (case s4y4 => exact M5.out.get 1 rfl); (case s5y4 => exact (by rw [b0_size]; decide)); (case s6y4 => kernel_rfl); (case s7y4 => rfl); intro X6 G hk hb hz; rw [set_kB] at G; have M6 : Hid (Mem w X6 [(gy1, kA.b0, 48), (gy3, kB.b0, 48)]) := Lib.hid (M5.out.store 1 rfl G hk hb); clear M5; clear G hk hb hz)
    | (go_at_call 35; (with_reducible refine (pod_calls qC qN1 X6).mono ?_); rintro e X7 ⟨rfl, hb⟩; have M7 : Hid (Mem w X7 [(gy1, kA.b0, 48), (gy3, kB.b0, 48)]) := Lib.hid (M6.out.below hb); clear M6; clear hb)
    | ((with_reducible refine wpList_store_blk rfl 48 (.tmp 3) (.tmp 13) rfl X7.heap.size 48 ?c0y5 ((podO qC qN1).b0) ?c1y5 ?c2y5 ?c3y5 ?c4y5 ?c5y5 ?c6y5 ?_); (case c1y5 => rfl); (case c2y5 => rfl); (case c3y5 => exact heap_alloc_new _ _); (case c4y5 => exact info_b0 _); (case c5y5 => exact Eq.trans (b := 32) rfl (b0_size _).symm); (case c6y5 => exact b0_one _); intro X8 G hk hb hz; obtain ⟨gy5, hgy5⟩ : ∃ g, g = X7.heap.size := ⟨_, rfl⟩; rw [← hgy5]; have M8 : Hid (Mem w X8 [(gy1, kA.b0, 48), (gy3, kB.b0, 48), (gy5, (podO qC qN1).b0, 48)]) := Lib.hid (by rw [hgy5]; exact M7.out.made G hb); clear M7; clear G hk hb hz hgy5)
    | ((with_reducible refine wpList_store1 rfl 4 (.tmp 14) (.const (.bool true)) rfl gy5 16 48 ((podO qC qN1).b0) (.bool true) ?s1y6 ?s2y6 ?s3y6 ?s4y6 ?s5y6 ?s6y6 ?s7y6 ?_); (case s1y6 => rfl); (case s2y6 => rfl); (case s3y6 => rfl); (case s4y6 => exact M8.out.get 2 rfl); (case s5y6 => exact (by rw [b0_size]; decide)); (case s6y6 => kernel_rfl); (case s7y6 => rfl); intro X9 G hk hb hz; rw [set_kC] at G; have M9 : Hid (Mem w X9 [(gy1, kA.b0, 48), (gy3, kB.b0, 48), (gy5, kC.b0, 48)]) := Lib.hid (M8.out.store 2 rfl G hk hb); clear M8; clear G hk hb hz)
    | ((with_reducible refine wpList_pure (op := ⟨some 15, _, _, _, _, _⟩) rfl (.agg kn2.b0) ?ry7 ?_); (case ry7 => first | kernel_rfl | (go_simp; rfl)))
    | ((with_reducible refine wpList_store_blk rfl 48 (.tmp 4) (.tmp 15) rfl X9.heap.size 48 ?c0y8 (kn2.b0) ?c1y8 ?c2y8 ?c3y8 ?c4y8 ?c5y8 ?c6y8 ?_); (case c1y8 => rfl); (case c2y8 => rfl); (case c3y8 => exact heap_alloc_new _ _); (case c4y8 => exact info_b0 _); (case c5y8 => exact Eq.trans (b := 32) rfl (b0_size _).symm); (case c6y8 => exact b0_one _); intro X10 G hk hb hz; obtain ⟨gy8, hgy8⟩ : ∃ g, g = X9.heap.size := ⟨_, rfl⟩; rw [← hgy8]; have M10 : Hid (Mem w X10 [(gy1, kA.b0, 48), (gy3, kB.b0, 48), (gy5, kC.b0, 48), (gy8, kn2.b0, 48)]) := Lib.hid (by rw [hgy8]; exact M9.out.made G hb); clear M9; clear G hk hb hz hgy8))
  have H8 := M10
  have HM := H8.out.below (below_drew (Below.refl X10.heap.size X10))
  have HB : Below X10.heap.size X10 X10.drew := below_drew (Below.refl _ _)
  refine start_ (n := 13) (S := fun w' => Mem w w' [(gy1, kA.b0, 48), (gy3, kB.b0, 48), (gy5, kC.b0, 48), (gy8, kn2.b0, 48)]) (ds := [12]) (bs 13 0) (by kernel_rfl) rfl (by kernel_rfl) HM (fun hHeld => ?_)
  refine with_tabW rg10_8_tab rg10_8_bits (fun HT_ HW_ => ?_)
  refine pu 1 (some 17) (bs 13 2) HT_ rfl rfl (by kernel_rfl) (fun _ _ _ _ h => h) ⟨.agg kN1.b0, .inl ⟨by rfl, fun _ => by kernel_rfl⟩, _, by simp only [Act.put, sA, sB, sC, i64_w, i32_w]; rfl, ?_⟩
  refine pu 2 (some 18) (bs 13 6) HT_ rfl rfl (by kernel_rfl) (fun _ _ _ _ h => h) ⟨.agg kN3.b0, .inl ⟨by rfl, fun _ => by kernel_rfl⟩, _, by simp only [Act.put, sA, sB, sC, i64_w, i32_w]; rfl, ?_⟩
  refine tk 0 (some 16) (bs 13 7) HT_ HW_ rfl rfl (by kernel_rfl) (fun _ _ _ _ h => h) hHeld ⟨_, .inl ⟨by rfl, by rintro w' s0; refine load_row (x := .tmp 4) ?_ ?_ (Mem.get s0 3 rfl) Tryd.underlying48 rfl (info_b0 _) <;> rfl⟩, _, by simp only [Act.put, sA, sB, sC, i64_w, i32_w]; rfl, ?_⟩
  refine tk 4 (some 20) (bs 13 23) HT_ HW_ rfl rfl (by kernel_rfl) (fun _ _ _ _ h => h) hHeld ⟨_, .inl ⟨by rfl, by rintro w' s0; refine load_row (x := .tmp 1) ?_ ?_ (Mem.get s0 0 rfl) Tryd.underlying48 rfl (info_b0 _) <;> rfl⟩, _, by simp only [Act.put, sA, sB, sC, i64_w, i32_w]; rfl, ?_⟩
  refine tk 5 (some 21) (bs 13 55) HT_ HW_ rfl rfl (by kernel_rfl) (fun _ _ _ _ h => h) hHeld ⟨_, .inl ⟨by rfl, by rintro w' s0; refine load_row (x := .tmp 2) ?_ ?_ (Mem.get s0 1 rfl) Tryd.underlying48 rfl (info_b0 _) <;> rfl⟩, _, by simp only [Act.put, sA, sB, sC, i64_w, i32_w]; rfl, ?_⟩
  refine tk 6 (some 22) (bs 13 119) HT_ HW_ rfl rfl (by kernel_rfl) (fun _ _ _ _ h => h) hHeld ⟨_, .inl ⟨by rfl, by rintro w' s0; refine load_row (x := .tmp 3) ?_ ?_ (Mem.get s0 2 rfl) Tryd.underlying48 rfl (info_b0 _) <;> rfl⟩, _, by simp only [Act.put, sA, sB, sC, i64_w, i32_w]; rfl, ?_⟩
  refine join_ (σ := Nat × Nat × Nat) 1 (bs 13 4095) (fun s => [(19, .slice (some ⟨s.1, 0, none⟩) 3 3), (23, .agg (podO qD qN2).b0), (24, .agg (podO qE qN3).b0), (25, .slice (some ⟨s.2.1, 0, none⟩) 5 5), (26, .agg #[.slice (some ⟨s.1, 0, none⟩) 3 3, .slice (some ⟨s.2.1, 0, none⟩) 5 5, .slice none 0 0, .slice none 0 0]), (5, .pointer (some ⟨s.2.2, 0, none⟩))]) (fun s w' => Mem w w' ([(gy1, kA.b0, 48), (gy3, kB.b0, 48), (gy5, kC.b0, 48), (gy8, kn2.b0, 48)] ++ [(s.1, flatO nodes1, 48)] ++ [(s.2.1, flatO pods1, 48)] ++ [(s.2.2, #[.slice none 0 0, .slice none 0 0, .slice none 0 0, .slice none 0 0], 59)])) ?_ ?_
  rotate_left
  · intro hCont
    refine three_ (i := 3) (j := 7) (k := 11) (Ni := some 19) (Nj := some 23) (Nk := some 5) (bs 13 127) (bs 13 247) (bs 13 2167) rfl rfl rfl rfl rfl rfl (three_of HT_.out (by kernel_rfl)) (by decide) (by decide) (by decide) (fun K hK => ?_) (fun K hK => ?_) (fun K hK => ?_)
    · skip
      refine buildN_ (by rfl) rfl 22 48 3 _ rfl [kn2.b0, kN1.b0, kN3.b0] rfl rfl (.agg (Ob.zero.cells (.slice none 0 0) (.slice none 0 0))) 32 312 Tryd.underlying22 infoO (by intro cs hc; simp only [List.mem_cons, List.not_mem_nil, or_false] at hc; rcases hc with rfl | rfl | rfl <;> exact b0_size _) (by decide) (by decide) (by decide) (by decide) rfl (flatO nodes1) flat_n1 ?_
      intro gn x1 hgn Gn hb
      have Ln : X10.heap.size ≤ gn := by rw [hgn]; exact HB.size
      replace HM := HM.below hb
      replace HB := belT HB hb
      clear hb
      refine hK.out _ _ HM (fun hHeld => ?_)
      clear hK K
      refine norm_ (a' := ?_) ?_ ?_
      rotate_left
      · show Act.put _ (some 19) _ = _
        simp only [Act.put, List.setIfInBounds_toArray, List.set_cons_zero, List.set_cons_succ, i64_w, i32_w]
        rfl
      refine two_ (i := 7) (j := 11) (Ni := some 23) (Nj := some 5) (bs 13 255) (bs 13 2175) rfl rfl rfl rfl (two_of HT_.out (by kernel_rfl)) (by decide) (by decide) (fun K hK => ?_) (fun K hK => ?_)
      · skip
        refine goes_ Tryd.func35 (by kernel_rfl) rfl #[.string qD, .string qN2] (by rfl) rfl rfl (by (try simp only [List.map_toArray, List.map_cons, List.map_nil]); first | done | rfl) ?_
        with_reducible refine (pod_calls qD qN2 _).mono ?_
        rintro e x1 ⟨rfl, hb⟩
        replace HM := HM.below hb
        replace Gn := (by first | exact blkB hb Gn | exact Gn)
        replace HB := belT HB hb
        clear hb
        refine ⟨_, rfl, ?_⟩
        refine hK.out _ _ HM (fun hHeld => ?_)
        clear hK K
        refine norm_ (a' := ?_) ?_ ?_
        rotate_left
        · show Act.put _ (some 23) _ = _
          simp only [Act.put, List.setIfInBounds_toArray, List.set_cons_zero, List.set_cons_succ, i64_w, i32_w]
          rfl
        refine two_ (i := 8) (j := 11) (Ni := some 24) (Nj := some 5) (bs 13 511) (bs 13 2303) rfl rfl rfl rfl (two_of HT_.out (by kernel_rfl)) (by decide) (by decide) (fun K hK => ?_) (fun K hK => ?_)
        · skip
          refine goes_ Tryd.func35 (by kernel_rfl) rfl #[.string qE, .string qN3] (by rfl) rfl rfl (by (try simp only [List.map_toArray, List.map_cons, List.map_nil]); first | done | rfl) ?_
          with_reducible refine (pod_calls qE qN3 _).mono ?_
          rintro e x1 ⟨rfl, hb⟩
          replace HM := HM.below hb
          replace Gn := (by first | exact blkB hb Gn | exact Gn)
          replace HB := belT HB hb
          clear hb
          refine ⟨_, rfl, ?_⟩
          refine hK.out _ _ HM (fun hHeld => ?_)
          clear hK K
          refine norm_ (a' := ?_) ?_ ?_
          rotate_left
          · show Act.put _ (some 24) _ = _
            simp only [Act.put, List.setIfInBounds_toArray, List.set_cons_zero, List.set_cons_succ, i64_w, i32_w]
            rfl
          refine two_ (i := 9) (j := 11) (Ni := some 25) (Nj := some 5) (bs 13 1023) (bs 13 2559) rfl rfl rfl rfl (two_of HT_.out (by kernel_rfl)) (by decide) (by decide) (fun K hK => ?_) (fun K hK => ?_)
          · skip
            refine buildN_ (by rfl) rfl 22 48 5 _ rfl [kA.b0, kB.b0, kC.b0, (podO qD qN2).b0, (podO qE qN3).b0] rfl rfl (.agg (Ob.zero.cells (.slice none 0 0) (.slice none 0 0))) 32 312 Tryd.underlying22 infoO (by intro cs hc; simp only [List.mem_cons, List.not_mem_nil, or_false] at hc; rcases hc with rfl | rfl | rfl | rfl | rfl <;> exact b0_size _) (by decide) (by decide) (by decide) (by decide) rfl (flatO pods1) flat_p1 ?_
            intro gp x1 hgp Gp hb
            have Lp : X10.heap.size ≤ gp := by rw [hgp]; exact HB.size
            have Nnp : gn ≠ gp := by have := blkLt Gn; omega
            replace HM := HM.below hb
            replace Gn := (by first | exact blkB hb Gn | exact Gn)
            replace HB := belT HB hb
            clear hb
            refine hK.out _ _ HM (fun hHeld => ?_)
            clear hK K
            refine norm_ (a' := ?_) ?_ ?_
            rotate_left
            · show Act.put _ (some 25) _ = _
              simp only [Act.put, List.setIfInBounds_toArray, List.set_cons_zero, List.set_cons_succ, i64_w, i32_w]
              rfl
            refine pu 10 (some 26) (bs 13 2047) HT_ rfl rfl (by kernel_rfl) (fun _ _ _ _ h => h) ⟨.agg #[.slice (some ⟨gn, 0, none⟩) 3 3, .slice (some ⟨gp, 0, none⟩) 5 5, .slice none 0 0, .slice none 0 0], .inl ⟨by rfl, fun _ => by first | (go_simp; done) | (go_simp; rfl)⟩, _, by simp only [Act.put, sA, sB, sC, i64_w, i32_w]; rfl, ?_⟩
            refine one_ (i := 11) (N := some 5) (bs 13 4095) rfl rfl (one_of HT_.out (by kernel_rfl)) (by decide) (fun K hK => ?_)
            refine allocs_ (z := #[.slice none 0 0, .slice none 0 0, .slice none 0 0, .slice none 0 0]) (t := 59) (by rfl) rfl (by first | (go_simp; done) | (go_simp; rfl)) ?_
            intro gf x1 hgf Gf hb
            have Lf : X10.heap.size ≤ gf := by rw [hgf]; exact HB.size
            have Nnf : gn ≠ gf := by have := blkLt Gn; omega
            have Npf : gp ≠ gf := by have := blkLt Gp; omega
            replace HM := HM.below hb
            replace Gn := (by first | exact blkB hb Gn | exact Gn)
            replace Gp := (by first | exact blkB hb Gp | exact Gp)
            replace HB := belT HB hb
            clear hb
            refine hK.out _ _ HM (fun hHeld => ?_)
            clear hK K
            refine norm_ (a' := ?_) ?_ ?_
            rotate_left
            · show Act.put _ (some 5) _ = _
              simp only [Act.put, List.setIfInBounds_toArray, List.set_cons_zero, List.set_cons_succ, i64_w, i32_w]
              rfl
            exact norm_ (by simp only [putAll, Act.put, List.setIfInBounds_toArray, List.set_cons_zero, List.set_cons_succ]) (hCont (gn, gp, gf) _ (dk_mem HM H8.out Gn Gp Gf Ln Lp Lf Nnp Nnf Npf))
          · skip
            refine allocs_ (z := #[.slice none 0 0, .slice none 0 0, .slice none 0 0, .slice none 0 0]) (t := 59) (by rfl) rfl (by first | (go_simp; done) | (go_simp; rfl)) ?_
            intro gf x1 hgf Gf hb
            have Lf : X10.heap.size ≤ gf := by rw [hgf]; exact HB.size
            have Nnf : gn ≠ gf := by have := blkLt Gn; omega
            replace HM := HM.below hb
            replace Gn := (by first | exact blkB hb Gn | exact Gn)
            replace HB := belT HB hb
            clear hb
            refine hK.out _ _ HM (fun hHeld => ?_)
            clear hK K
            refine norm_ (a' := ?_) ?_ ?_
            rotate_left
            · show Act.put _ (some 5) _ = _
              simp only [Act.put, List.setIfInBounds_toArray, List.set_cons_zero, List.set_cons_succ, i64_w, i32_w]
              rfl
            refine one_ (i := 9) (N := some 25) (bs 13 3071) rfl rfl (one_of HT_.out (by kernel_rfl)) (by decide) (fun K hK => ?_)
            refine buildN_ (by rfl) rfl 22 48 5 _ rfl [kA.b0, kB.b0, kC.b0, (podO qD qN2).b0, (podO qE qN3).b0] rfl rfl (.agg (Ob.zero.cells (.slice none 0 0) (.slice none 0 0))) 32 312 Tryd.underlying22 infoO (by intro cs hc; simp only [List.mem_cons, List.not_mem_nil, or_false] at hc; rcases hc with rfl | rfl | rfl | rfl | rfl <;> exact b0_size _) (by decide) (by decide) (by decide) (by decide) rfl (flatO pods1) flat_p1 ?_
            intro gp x1 hgp Gp hb
            have Lp : X10.heap.size ≤ gp := by rw [hgp]; exact HB.size
            have Nnp : gn ≠ gp := by have := blkLt Gn; omega
            have Npf : gp ≠ gf := by have := blkLt Gf; omega
            replace HM := HM.below hb
            replace Gn := (by first | exact blkB hb Gn | exact Gn)
            replace Gf := (by first | exact blkB hb Gf | exact Gf)
            replace HB := belT HB hb
            clear hb
            refine hK.out _ _ HM (fun hHeld => ?_)
            clear hK K
            refine norm_ (a' := ?_) ?_ ?_
            rotate_left
            · show Act.put _ (some 25) _ = _
              simp only [Act.put, List.setIfInBounds_toArray, List.set_cons_zero, List.set_cons_succ, i64_w, i32_w]
              rfl
            refine pu 10 (some 26) (bs 13 4095) HT_ rfl rfl (by kernel_rfl) (fun _ _ _ _ h => h) ⟨.agg #[.slice (some ⟨gn, 0, none⟩) 3 3, .slice (some ⟨gp, 0, none⟩) 5 5, .slice none 0 0, .slice none 0 0], .inl ⟨by rfl, fun _ => by first | (go_simp; done) | (go_simp; rfl)⟩, _, by simp only [Act.put, sA, sB, sC, i64_w, i32_w]; rfl, ?_⟩
            exact norm_ (by simp only [putAll, Act.put, List.setIfInBounds_toArray, List.set_cons_zero, List.set_cons_succ]) (hCont (gn, gp, gf) _ (dk_mem HM H8.out Gn Gp Gf Ln Lp Lf Nnp Nnf Npf))
        · skip
          refine allocs_ (z := #[.slice none 0 0, .slice none 0 0, .slice none 0 0, .slice none 0 0]) (t := 59) (by rfl) rfl (by first | (go_simp; done) | (go_simp; rfl)) ?_
          intro gf x1 hgf Gf hb
          have Lf : X10.heap.size ≤ gf := by rw [hgf]; exact HB.size
          have Nnf : gn ≠ gf := by have := blkLt Gn; omega
          replace HM := HM.below hb
          replace Gn := (by first | exact blkB hb Gn | exact Gn)
          replace HB := belT HB hb
          clear hb
          refine hK.out _ _ HM (fun hHeld => ?_)
          clear hK K
          refine norm_ (a' := ?_) ?_ ?_
          rotate_left
          · show Act.put _ (some 5) _ = _
            simp only [Act.put, List.setIfInBounds_toArray, List.set_cons_zero, List.set_cons_succ, i64_w, i32_w]
            rfl
          refine one_ (i := 8) (N := some 24) (bs 13 2559) rfl rfl (one_of HT_.out (by kernel_rfl)) (by decide) (fun K hK => ?_)
          refine goes_ Tryd.func35 (by kernel_rfl) rfl #[.string qE, .string qN3] (by rfl) rfl rfl (by (try simp only [List.map_toArray, List.map_cons, List.map_nil]); first | done | rfl) ?_
          with_reducible refine (pod_calls qE qN3 _).mono ?_
          rintro e x1 ⟨rfl, hb⟩
          replace HM := HM.below hb
          replace Gn := (by first | exact blkB hb Gn | exact Gn)
          replace Gf := (by first | exact blkB hb Gf | exact Gf)
          replace HB := belT HB hb
          clear hb
          refine ⟨_, rfl, ?_⟩
          refine hK.out _ _ HM (fun hHeld => ?_)
          clear hK K
          refine norm_ (a' := ?_) ?_ ?_
          rotate_left
          · show Act.put _ (some 24) _ = _
            simp only [Act.put, List.setIfInBounds_toArray, List.set_cons_zero, List.set_cons_succ, i64_w, i32_w]
            rfl
          refine one_ (i := 9) (N := some 25) (bs 13 3071) rfl rfl (one_of HT_.out (by kernel_rfl)) (by decide) (fun K hK => ?_)
          refine buildN_ (by rfl) rfl 22 48 5 _ rfl [kA.b0, kB.b0, kC.b0, (podO qD qN2).b0, (podO qE qN3).b0] rfl rfl (.agg (Ob.zero.cells (.slice none 0 0) (.slice none 0 0))) 32 312 Tryd.underlying22 infoO (by intro cs hc; simp only [List.mem_cons, List.not_mem_nil, or_false] at hc; rcases hc with rfl | rfl | rfl | rfl | rfl <;> exact b0_size _) (by decide) (by decide) (by decide) (by decide) rfl (flatO pods1) flat_p1 ?_
          intro gp x1 hgp Gp hb
          have Lp : X10.heap.size ≤ gp := by rw [hgp]; exact HB.size
          have Nnp : gn ≠ gp := by have := blkLt Gn; omega
          have Npf : gp ≠ gf := by have := blkLt Gf; omega
          replace HM := HM.below hb
          replace Gn := (by first | exact blkB hb Gn | exact Gn)
          replace Gf := (by first | exact blkB hb Gf | exact Gf)
          replace HB := belT HB hb
          clear hb
          refine hK.out _ _ HM (fun hHeld => ?_)
          clear hK K
          refine norm_ (a' := ?_) ?_ ?_
          rotate_left
          · show Act.put _ (some 25) _ = _
            simp only [Act.put, List.setIfInBounds_toArray, List.set_cons_zero, List.set_cons_succ, i64_w, i32_w]
            rfl
          refine pu 10 (some 26) (bs 13 4095) HT_ rfl rfl (by kernel_rfl) (fun _ _ _ _ h => h) ⟨.agg #[.slice (some ⟨gn, 0, none⟩) 3 3, .slice (some ⟨gp, 0, none⟩) 5 5, .slice none 0 0, .slice none 0 0], .inl ⟨by rfl, fun _ => by first | (go_simp; done) | (go_simp; rfl)⟩, _, by simp only [Act.put, sA, sB, sC, i64_w, i32_w]; rfl, ?_⟩
          exact norm_ (by simp only [putAll, Act.put, List.setIfInBounds_toArray, List.set_cons_zero, List.set_cons_succ]) (hCont (gn, gp, gf) _ (dk_mem HM H8.out Gn Gp Gf Ln Lp Lf Nnp Nnf Npf))
      · skip
        refine allocs_ (z := #[.slice none 0 0, .slice none 0 0, .slice none 0 0, .slice none 0 0]) (t := 59) (by rfl) rfl (by first | (go_simp; done) | (go_simp; rfl)) ?_
        intro gf x1 hgf Gf hb
        have Lf : X10.heap.size ≤ gf := by rw [hgf]; exact HB.size
        have Nnf : gn ≠ gf := by have := blkLt Gn; omega
        replace HM := HM.below hb
        replace Gn := (by first | exact blkB hb Gn | exact Gn)
        replace HB := belT HB hb
        clear hb
        refine hK.out _ _ HM (fun hHeld => ?_)
        clear hK K
        refine norm_ (a' := ?_) ?_ ?_
        rotate_left
        · show Act.put _ (some 5) _ = _
          simp only [Act.put, List.setIfInBounds_toArray, List.set_cons_zero, List.set_cons_succ, i64_w, i32_w]
          rfl
        refine one_ (i := 7) (N := some 23) (bs 13 2303) rfl rfl (one_of HT_.out (by kernel_rfl)) (by decide) (fun K hK => ?_)
        refine goes_ Tryd.func35 (by kernel_rfl) rfl #[.string qD, .string qN2] (by rfl) rfl rfl (by (try simp only [List.map_toArray, List.map_cons, List.map_nil]); first | done | rfl) ?_
        with_reducible refine (pod_calls qD qN2 _).mono ?_
        rintro e x1 ⟨rfl, hb⟩
        replace HM := HM.below hb
        replace Gn := (by first | exact blkB hb Gn | exact Gn)
        replace Gf := (by first | exact blkB hb Gf | exact Gf)
        replace HB := belT HB hb
        clear hb
        refine ⟨_, rfl, ?_⟩
        refine hK.out _ _ HM (fun hHeld => ?_)
        clear hK K
        refine norm_ (a' := ?_) ?_ ?_
        rotate_left
        · show Act.put _ (some 23) _ = _
          simp only [Act.put, List.setIfInBounds_toArray, List.set_cons_zero, List.set_cons_succ, i64_w, i32_w]
          rfl
        refine one_ (i := 8) (N := some 24) (bs 13 2559) rfl rfl (one_of HT_.out (by kernel_rfl)) (by decide) (fun K hK => ?_)
        refine goes_ Tryd.func35 (by kernel_rfl) rfl #[.string qE, .string qN3] (by rfl) rfl rfl (by (try simp only [List.map_toArray, List.map_cons, List.map_nil]); first | done | rfl) ?_
        with_reducible refine (pod_calls qE qN3 _).mono ?_
        rintro e x1 ⟨rfl, hb⟩
        replace HM := HM.below hb
        replace Gn := (by first | exact blkB hb Gn | exact Gn)
        replace Gf := (by first | exact blkB hb Gf | exact Gf)
        replace HB := belT HB hb
        clear hb
        refine ⟨_, rfl, ?_⟩
        refine hK.out _ _ HM (fun hHeld => ?_)
        clear hK K
        refine norm_ (a' := ?_) ?_ ?_
        rotate_left
        · show Act.put _ (some 24) _ = _
          simp only [Act.put, List.setIfInBounds_toArray, List.set_cons_zero, List.set_cons_succ, i64_w, i32_w]
          rfl
        refine one_ (i := 9) (N := some 25) (bs 13 3071) rfl rfl (one_of HT_.out (by kernel_rfl)) (by decide) (fun K hK => ?_)
        refine buildN_ (by rfl) rfl 22 48 5 _ rfl [kA.b0, kB.b0, kC.b0, (podO qD qN2).b0, (podO qE qN3).b0] rfl rfl (.agg (Ob.zero.cells (.slice none 0 0) (.slice none 0 0))) 32 312 Tryd.underlying22 infoO (by intro cs hc; simp only [List.mem_cons, List.not_mem_nil, or_false] at hc; rcases hc with rfl | rfl | rfl | rfl | rfl <;> exact b0_size _) (by decide) (by decide) (by decide) (by decide) rfl (flatO pods1) flat_p1 ?_
        intro gp x1 hgp Gp hb
        have Lp : X10.heap.size ≤ gp := by rw [hgp]; exact HB.size
        have Nnp : gn ≠ gp := by have := blkLt Gn; omega
        have Npf : gp ≠ gf := by have := blkLt Gf; omega
        replace HM := HM.below hb
        replace Gn := (by first | exact blkB hb Gn | exact Gn)
        replace Gf := (by first | exact blkB hb Gf | exact Gf)
        replace HB := belT HB hb
        clear hb
        refine hK.out _ _ HM (fun hHeld => ?_)
        clear hK K
        refine norm_ (a' := ?_) ?_ ?_
        rotate_left
        · show Act.put _ (some 25) _ = _
          simp only [Act.put, List.setIfInBounds_toArray, List.set_cons_zero, List.set_cons_succ, i64_w, i32_w]
          rfl
        refine pu 10 (some 26) (bs 13 4095) HT_ rfl rfl (by kernel_rfl) (fun _ _ _ _ h => h) ⟨.agg #[.slice (some ⟨gn, 0, none⟩) 3 3, .slice (some ⟨gp, 0, none⟩) 5 5, .slice none 0 0, .slice none 0 0], .inl ⟨by rfl, fun _ => by first | (go_simp; done) | (go_simp; rfl)⟩, _, by simp only [Act.put, sA, sB, sC, i64_w, i32_w]; rfl, ?_⟩
        exact norm_ (by simp only [putAll, Act.put, List.setIfInBounds_toArray, List.set_cons_zero, List.set_cons_succ]) (hCont (gn, gp, gf) _ (dk_mem HM H8.out Gn Gp Gf Ln Lp Lf Nnp Nnf Npf))
    · skip
      refine goes_ Tryd.func35 (by kernel_rfl) rfl #[.string qD, .string qN2] (by rfl) rfl rfl (by (try simp only [List.map_toArray, List.map_cons, List.map_nil]); first | done | rfl) ?_
      with_reducible refine (pod_calls qD qN2 _).mono ?_
      rintro e x1 ⟨rfl, hb⟩
      replace HM := HM.below hb
      replace HB := belT HB hb
      clear hb
      refine ⟨_, rfl, ?_⟩
      refine hK.out _ _ HM (fun hHeld => ?_)
      clear hK K
      refine norm_ (a' := ?_) ?_ ?_
      rotate_left
      · show Act.put _ (some 23) _ = _
        simp only [Act.put, List.setIfInBounds_toArray, List.set_cons_zero, List.set_cons_succ, i64_w, i32_w]
        rfl
      refine three_ (i := 3) (j := 8) (k := 11) (Ni := some 19) (Nj := some 24) (Nk := some 5) (bs 13 255) (bs 13 503) (bs 13 2295) rfl rfl rfl rfl rfl rfl (three_of HT_.out (by kernel_rfl)) (by decide) (by decide) (by decide) (fun K hK => ?_) (fun K hK => ?_) (fun K hK => ?_)
      · skip
        refine buildN_ (by rfl) rfl 22 48 3 _ rfl [kn2.b0, kN1.b0, kN3.b0] rfl rfl (.agg (Ob.zero.cells (.slice none 0 0) (.slice none 0 0))) 32 312 Tryd.underlying22 infoO (by intro cs hc; simp only [List.mem_cons, List.not_mem_nil, or_false] at hc; rcases hc with rfl | rfl | rfl <;> exact b0_size _) (by decide) (by decide) (by decide) (by decide) rfl (flatO nodes1) flat_n1 ?_
        intro gn x1 hgn Gn hb
        have Ln : X10.heap.size ≤ gn := by rw [hgn]; exact HB.size
        replace HM := HM.below hb
        replace HB := belT HB hb
        clear hb
        refine hK.out _ _ HM (fun hHeld => ?_)
        clear hK K
        refine norm_ (a' := ?_) ?_ ?_
        rotate_left
        · show Act.put _ (some 19) _ = _
          simp only [Act.put, List.setIfInBounds_toArray, List.set_cons_zero, List.set_cons_succ, i64_w, i32_w]
          rfl
        refine two_ (i := 8) (j := 11) (Ni := some 24) (Nj := some 5) (bs 13 511) (bs 13 2303) rfl rfl rfl rfl (two_of HT_.out (by kernel_rfl)) (by decide) (by decide) (fun K hK => ?_) (fun K hK => ?_)
        · skip
          refine goes_ Tryd.func35 (by kernel_rfl) rfl #[.string qE, .string qN3] (by rfl) rfl rfl (by (try simp only [List.map_toArray, List.map_cons, List.map_nil]); first | done | rfl) ?_
          with_reducible refine (pod_calls qE qN3 _).mono ?_
          rintro e x1 ⟨rfl, hb⟩
          replace HM := HM.below hb
          replace Gn := (by first | exact blkB hb Gn | exact Gn)
          replace HB := belT HB hb
          clear hb
          refine ⟨_, rfl, ?_⟩
          refine hK.out _ _ HM (fun hHeld => ?_)
          clear hK K
          refine norm_ (a' := ?_) ?_ ?_
          rotate_left
          · show Act.put _ (some 24) _ = _
            simp only [Act.put, List.setIfInBounds_toArray, List.set_cons_zero, List.set_cons_succ, i64_w, i32_w]
            rfl
          refine two_ (i := 9) (j := 11) (Ni := some 25) (Nj := some 5) (bs 13 1023) (bs 13 2559) rfl rfl rfl rfl (two_of HT_.out (by kernel_rfl)) (by decide) (by decide) (fun K hK => ?_) (fun K hK => ?_)
          · skip
            refine buildN_ (by rfl) rfl 22 48 5 _ rfl [kA.b0, kB.b0, kC.b0, (podO qD qN2).b0, (podO qE qN3).b0] rfl rfl (.agg (Ob.zero.cells (.slice none 0 0) (.slice none 0 0))) 32 312 Tryd.underlying22 infoO (by intro cs hc; simp only [List.mem_cons, List.not_mem_nil, or_false] at hc; rcases hc with rfl | rfl | rfl | rfl | rfl <;> exact b0_size _) (by decide) (by decide) (by decide) (by decide) rfl (flatO pods1) flat_p1 ?_
            intro gp x1 hgp Gp hb
            have Lp : X10.heap.size ≤ gp := by rw [hgp]; exact HB.size
            have Nnp : gn ≠ gp := by have := blkLt Gn; omega
            replace HM := HM.below hb
            replace Gn := (by first | exact blkB hb Gn | exact Gn)
            replace HB := belT HB hb
            clear hb
            refine hK.out _ _ HM (fun hHeld => ?_)
            clear hK K
            refine norm_ (a' := ?_) ?_ ?_
            rotate_left
            · show Act.put _ (some 25) _ = _
              simp only [Act.put, List.setIfInBounds_toArray, List.set_cons_zero, List.set_cons_succ, i64_w, i32_w]
              rfl
            refine pu 10 (some 26) (bs 13 2047) HT_ rfl rfl (by kernel_rfl) (fun _ _ _ _ h => h) ⟨.agg #[.slice (some ⟨gn, 0, none⟩) 3 3, .slice (some ⟨gp, 0, none⟩) 5 5, .slice none 0 0, .slice none 0 0], .inl ⟨by rfl, fun _ => by first | (go_simp; done) | (go_simp; rfl)⟩, _, by simp only [Act.put, sA, sB, sC, i64_w, i32_w]; rfl, ?_⟩
            refine one_ (i := 11) (N := some 5) (bs 13 4095) rfl rfl (one_of HT_.out (by kernel_rfl)) (by decide) (fun K hK => ?_)
            refine allocs_ (z := #[.slice none 0 0, .slice none 0 0, .slice none 0 0, .slice none 0 0]) (t := 59) (by rfl) rfl (by first | (go_simp; done) | (go_simp; rfl)) ?_
            intro gf x1 hgf Gf hb
            have Lf : X10.heap.size ≤ gf := by rw [hgf]; exact HB.size
            have Nnf : gn ≠ gf := by have := blkLt Gn; omega
            have Npf : gp ≠ gf := by have := blkLt Gp; omega
            replace HM := HM.below hb
            replace Gn := (by first | exact blkB hb Gn | exact Gn)
            replace Gp := (by first | exact blkB hb Gp | exact Gp)
            replace HB := belT HB hb
            clear hb
            refine hK.out _ _ HM (fun hHeld => ?_)
            clear hK K
            refine norm_ (a' := ?_) ?_ ?_
            rotate_left
            · show Act.put _ (some 5) _ = _
              simp only [Act.put, List.setIfInBounds_toArray, List.set_cons_zero, List.set_cons_succ, i64_w, i32_w]
              rfl
            exact norm_ (by simp only [putAll, Act.put, List.setIfInBounds_toArray, List.set_cons_zero, List.set_cons_succ]) (hCont (gn, gp, gf) _ (dk_mem HM H8.out Gn Gp Gf Ln Lp Lf Nnp Nnf Npf))
          · skip
            refine allocs_ (z := #[.slice none 0 0, .slice none 0 0, .slice none 0 0, .slice none 0 0]) (t := 59) (by rfl) rfl (by first | (go_simp; done) | (go_simp; rfl)) ?_
            intro gf x1 hgf Gf hb
            have Lf : X10.heap.size ≤ gf := by rw [hgf]; exact HB.size
            have Nnf : gn ≠ gf := by have := blkLt Gn; omega
            replace HM := HM.below hb
            replace Gn := (by first | exact blkB hb Gn | exact Gn)
            replace HB := belT HB hb
            clear hb
            refine hK.out _ _ HM (fun hHeld => ?_)
            clear hK K
            refine norm_ (a' := ?_) ?_ ?_
            rotate_left
            · show Act.put _ (some 5) _ = _
              simp only [Act.put, List.setIfInBounds_toArray, List.set_cons_zero, List.set_cons_succ, i64_w, i32_w]
              rfl
            refine one_ (i := 9) (N := some 25) (bs 13 3071) rfl rfl (one_of HT_.out (by kernel_rfl)) (by decide) (fun K hK => ?_)
            refine buildN_ (by rfl) rfl 22 48 5 _ rfl [kA.b0, kB.b0, kC.b0, (podO qD qN2).b0, (podO qE qN3).b0] rfl rfl (.agg (Ob.zero.cells (.slice none 0 0) (.slice none 0 0))) 32 312 Tryd.underlying22 infoO (by intro cs hc; simp only [List.mem_cons, List.not_mem_nil, or_false] at hc; rcases hc with rfl | rfl | rfl | rfl | rfl <;> exact b0_size _) (by decide) (by decide) (by decide) (by decide) rfl (flatO pods1) flat_p1 ?_
            intro gp x1 hgp Gp hb
            have Lp : X10.heap.size ≤ gp := by rw [hgp]; exact HB.size
            have Nnp : gn ≠ gp := by have := blkLt Gn; omega
            have Npf : gp ≠ gf := by have := blkLt Gf; omega
            replace HM := HM.below hb
            replace Gn := (by first | exact blkB hb Gn | exact Gn)
            replace Gf := (by first | exact blkB hb Gf | exact Gf)
            replace HB := belT HB hb
            clear hb
            refine hK.out _ _ HM (fun hHeld => ?_)
            clear hK K
            refine norm_ (a' := ?_) ?_ ?_
            rotate_left
            · show Act.put _ (some 25) _ = _
              simp only [Act.put, List.setIfInBounds_toArray, List.set_cons_zero, List.set_cons_succ, i64_w, i32_w]
              rfl
            refine pu 10 (some 26) (bs 13 4095) HT_ rfl rfl (by kernel_rfl) (fun _ _ _ _ h => h) ⟨.agg #[.slice (some ⟨gn, 0, none⟩) 3 3, .slice (some ⟨gp, 0, none⟩) 5 5, .slice none 0 0, .slice none 0 0], .inl ⟨by rfl, fun _ => by first | (go_simp; done) | (go_simp; rfl)⟩, _, by simp only [Act.put, sA, sB, sC, i64_w, i32_w]; rfl, ?_⟩
            exact norm_ (by simp only [putAll, Act.put, List.setIfInBounds_toArray, List.set_cons_zero, List.set_cons_succ]) (hCont (gn, gp, gf) _ (dk_mem HM H8.out Gn Gp Gf Ln Lp Lf Nnp Nnf Npf))
        · skip
          refine allocs_ (z := #[.slice none 0 0, .slice none 0 0, .slice none 0 0, .slice none 0 0]) (t := 59) (by rfl) rfl (by first | (go_simp; done) | (go_simp; rfl)) ?_
          intro gf x1 hgf Gf hb
          have Lf : X10.heap.size ≤ gf := by rw [hgf]; exact HB.size
          have Nnf : gn ≠ gf := by have := blkLt Gn; omega
          replace HM := HM.below hb
          replace Gn := (by first | exact blkB hb Gn | exact Gn)
          replace HB := belT HB hb
          clear hb
          refine hK.out _ _ HM (fun hHeld => ?_)
          clear hK K
          refine norm_ (a' := ?_) ?_ ?_
          rotate_left
          · show Act.put _ (some 5) _ = _
            simp only [Act.put, List.setIfInBounds_toArray, List.set_cons_zero, List.set_cons_succ, i64_w, i32_w]
            rfl
          refine one_ (i := 8) (N := some 24) (bs 13 2559) rfl rfl (one_of HT_.out (by kernel_rfl)) (by decide) (fun K hK => ?_)
          refine goes_ Tryd.func35 (by kernel_rfl) rfl #[.string qE, .string qN3] (by rfl) rfl rfl (by (try simp only [List.map_toArray, List.map_cons, List.map_nil]); first | done | rfl) ?_
          with_reducible refine (pod_calls qE qN3 _).mono ?_
          rintro e x1 ⟨rfl, hb⟩
          replace HM := HM.below hb
          replace Gn := (by first | exact blkB hb Gn | exact Gn)
          replace Gf := (by first | exact blkB hb Gf | exact Gf)
          replace HB := belT HB hb
          clear hb
          refine ⟨_, rfl, ?_⟩
          refine hK.out _ _ HM (fun hHeld => ?_)
          clear hK K
          refine norm_ (a' := ?_) ?_ ?_
          rotate_left
          · show Act.put _ (some 24) _ = _
            simp only [Act.put, List.setIfInBounds_toArray, List.set_cons_zero, List.set_cons_succ, i64_w, i32_w]
            rfl
          refine one_ (i := 9) (N := some 25) (bs 13 3071) rfl rfl (one_of HT_.out (by kernel_rfl)) (by decide) (fun K hK => ?_)
          refine buildN_ (by rfl) rfl 22 48 5 _ rfl [kA.b0, kB.b0, kC.b0, (podO qD qN2).b0, (podO qE qN3).b0] rfl rfl (.agg (Ob.zero.cells (.slice none 0 0) (.slice none 0 0))) 32 312 Tryd.underlying22 infoO (by intro cs hc; simp only [List.mem_cons, List.not_mem_nil, or_false] at hc; rcases hc with rfl | rfl | rfl | rfl | rfl <;> exact b0_size _) (by decide) (by decide) (by decide) (by decide) rfl (flatO pods1) flat_p1 ?_
          intro gp x1 hgp Gp hb
          have Lp : X10.heap.size ≤ gp := by rw [hgp]; exact HB.size
          have Nnp : gn ≠ gp := by have := blkLt Gn; omega
          have Npf : gp ≠ gf := by have := blkLt Gf; omega
          replace HM := HM.below hb
          replace Gn := (by first | exact blkB hb Gn | exact Gn)
          replace Gf := (by first | exact blkB hb Gf | exact Gf)
          replace HB := belT HB hb
          clear hb
          refine hK.out _ _ HM (fun hHeld => ?_)
          clear hK K
          refine norm_ (a' := ?_) ?_ ?_
          rotate_left
          · show Act.put _ (some 25) _ = _
            simp only [Act.put, List.setIfInBounds_toArray, List.set_cons_zero, List.set_cons_succ, i64_w, i32_w]
            rfl
          refine pu 10 (some 26) (bs 13 4095) HT_ rfl rfl (by kernel_rfl) (fun _ _ _ _ h => h) ⟨.agg #[.slice (some ⟨gn, 0, none⟩) 3 3, .slice (some ⟨gp, 0, none⟩) 5 5, .slice none 0 0, .slice none 0 0], .inl ⟨by rfl, fun _ => by first | (go_simp; done) | (go_simp; rfl)⟩, _, by simp only [Act.put, sA, sB, sC, i64_w, i32_w]; rfl, ?_⟩
          exact norm_ (by simp only [putAll, Act.put, List.setIfInBounds_toArray, List.set_cons_zero, List.set_cons_succ]) (hCont (gn, gp, gf) _ (dk_mem HM H8.out Gn Gp Gf Ln Lp Lf Nnp Nnf Npf))
      · skip
        refine goes_ Tryd.func35 (by kernel_rfl) rfl #[.string qE, .string qN3] (by rfl) rfl rfl (by (try simp only [List.map_toArray, List.map_cons, List.map_nil]); first | done | rfl) ?_
        with_reducible refine (pod_calls qE qN3 _).mono ?_
        rintro e x1 ⟨rfl, hb⟩
        replace HM := HM.below hb
        replace HB := belT HB hb
        clear hb
        refine ⟨_, rfl, ?_⟩
        refine hK.out _ _ HM (fun hHeld => ?_)
        clear hK K
        refine norm_ (a' := ?_) ?_ ?_
        rotate_left
        · show Act.put _ (some 24) _ = _
          simp only [Act.put, List.setIfInBounds_toArray, List.set_cons_zero, List.set_cons_succ, i64_w, i32_w]
          rfl
        refine three_ (i := 3) (j := 9) (k := 11) (Ni := some 19) (Nj := some 25) (Nk := some 5) (bs 13 511) (bs 13 1015) (bs 13 2551) rfl rfl rfl rfl rfl rfl (three_of HT_.out (by kernel_rfl)) (by decide) (by decide) (by decide) (fun K hK => ?_) (fun K hK => ?_) (fun K hK => ?_)
        · skip
          refine buildN_ (by rfl) rfl 22 48 3 _ rfl [kn2.b0, kN1.b0, kN3.b0] rfl rfl (.agg (Ob.zero.cells (.slice none 0 0) (.slice none 0 0))) 32 312 Tryd.underlying22 infoO (by intro cs hc; simp only [List.mem_cons, List.not_mem_nil, or_false] at hc; rcases hc with rfl | rfl | rfl <;> exact b0_size _) (by decide) (by decide) (by decide) (by decide) rfl (flatO nodes1) flat_n1 ?_
          intro gn x1 hgn Gn hb
          have Ln : X10.heap.size ≤ gn := by rw [hgn]; exact HB.size
          replace HM := HM.below hb
          replace HB := belT HB hb
          clear hb
          refine hK.out _ _ HM (fun hHeld => ?_)
          clear hK K
          refine norm_ (a' := ?_) ?_ ?_
          rotate_left
          · show Act.put _ (some 19) _ = _
            simp only [Act.put, List.setIfInBounds_toArray, List.set_cons_zero, List.set_cons_succ, i64_w, i32_w]
            rfl
          refine two_ (i := 9) (j := 11) (Ni := some 25) (Nj := some 5) (bs 13 1023) (bs 13 2559) rfl rfl rfl rfl (two_of HT_.out (by kernel_rfl)) (by decide) (by decide) (fun K hK => ?_) (fun K hK => ?_)
          · skip
            refine buildN_ (by rfl) rfl 22 48 5 _ rfl [kA.b0, kB.b0, kC.b0, (podO qD qN2).b0, (podO qE qN3).b0] rfl rfl (.agg (Ob.zero.cells (.slice none 0 0) (.slice none 0 0))) 32 312 Tryd.underlying22 infoO (by intro cs hc; simp only [List.mem_cons, List.not_mem_nil, or_false] at hc; rcases hc with rfl | rfl | rfl | rfl | rfl <;> exact b0_size _) (by decide) (by decide) (by decide) (by decide) rfl (flatO pods1) flat_p1 ?_
            intro gp x1 hgp Gp hb
            have Lp : X10.heap.size ≤ gp := by rw [hgp]; exact HB.size
            have Nnp : gn ≠ gp := by have := blkLt Gn; omega
            replace HM := HM.below hb
            replace Gn := (by first | exact blkB hb Gn | exact Gn)
            replace HB := belT HB hb
            clear hb
            refine hK.out _ _ HM (fun hHeld => ?_)
            clear hK K
            refine norm_ (a' := ?_) ?_ ?_
            rotate_left
            · show Act.put _ (some 25) _ = _
              simp only [Act.put, List.setIfInBounds_toArray, List.set_cons_zero, List.set_cons_succ, i64_w, i32_w]
              rfl
            refine pu 10 (some 26) (bs 13 2047) HT_ rfl rfl (by kernel_rfl) (fun _ _ _ _ h => h) ⟨.agg #[.slice (some ⟨gn, 0, none⟩) 3 3, .slice (some ⟨gp, 0, none⟩) 5 5, .slice none 0 0, .slice none 0 0], .inl ⟨by rfl, fun _ => by first | (go_simp; done) | (go_simp; rfl)⟩, _, by simp only [Act.put, sA, sB, sC, i64_w, i32_w]; rfl, ?_⟩
            refine one_ (i := 11) (N := some 5) (bs 13 4095) rfl rfl (one_of HT_.out (by kernel_rfl)) (by decide) (fun K hK => ?_)
            refine allocs_ (z := #[.slice none 0 0, .slice none 0 0, .slice none 0 0, .slice none 0 0]) (t := 59) (by rfl) rfl (by first | (go_simp; done) | (go_simp; rfl)) ?_
            intro gf x1 hgf Gf hb
            have Lf : X10.heap.size ≤ gf := by rw [hgf]; exact HB.size
            have Nnf : gn ≠ gf := by have := blkLt Gn; omega
            have Npf : gp ≠ gf := by have := blkLt Gp; omega
            replace HM := HM.below hb
            replace Gn := (by first | exact blkB hb Gn | exact Gn)
            replace Gp := (by first | exact blkB hb Gp | exact Gp)
            replace HB := belT HB hb
            clear hb
            refine hK.out _ _ HM (fun hHeld => ?_)
            clear hK K
            refine norm_ (a' := ?_) ?_ ?_
            rotate_left
            · show Act.put _ (some 5) _ = _
              simp only [Act.put, List.setIfInBounds_toArray, List.set_cons_zero, List.set_cons_succ, i64_w, i32_w]
              rfl
            exact norm_ (by simp only [putAll, Act.put, List.setIfInBounds_toArray, List.set_cons_zero, List.set_cons_succ]) (hCont (gn, gp, gf) _ (dk_mem HM H8.out Gn Gp Gf Ln Lp Lf Nnp Nnf Npf))
          · skip
            refine allocs_ (z := #[.slice none 0 0, .slice none 0 0, .slice none 0 0, .slice none 0 0]) (t := 59) (by rfl) rfl (by first | (go_simp; done) | (go_simp; rfl)) ?_
            intro gf x1 hgf Gf hb
            have Lf : X10.heap.size ≤ gf := by rw [hgf]; exact HB.size
            have Nnf : gn ≠ gf := by have := blkLt Gn; omega
            replace HM := HM.below hb
            replace Gn := (by first | exact blkB hb Gn | exact Gn)
            replace HB := belT HB hb
            clear hb
            refine hK.out _ _ HM (fun hHeld => ?_)
            clear hK K
            refine norm_ (a' := ?_) ?_ ?_
            rotate_left
            · show Act.put _ (some 5) _ = _
              simp only [Act.put, List.setIfInBounds_toArray, List.set_cons_zero, List.set_cons_succ, i64_w, i32_w]
              rfl
            refine one_ (i := 9) (N := some 25) (bs 13 3071) rfl rfl (one_of HT_.out (by kernel_rfl)) (by decide) (fun K hK => ?_)
            refine buildN_ (by rfl) rfl 22 48 5 _ rfl [kA.b0, kB.b0, kC.b0, (podO qD qN2).b0, (podO qE qN3).b0] rfl rfl (.agg (Ob.zero.cells (.slice none 0 0) (.slice none 0 0))) 32 312 Tryd.underlying22 infoO (by intro cs hc; simp only [List.mem_cons, List.not_mem_nil, or_false] at hc; rcases hc with rfl | rfl | rfl | rfl | rfl <;> exact b0_size _) (by decide) (by decide) (by decide) (by decide) rfl (flatO pods1) flat_p1 ?_
            intro gp x1 hgp Gp hb
            have Lp : X10.heap.size ≤ gp := by rw [hgp]; exact HB.size
            have Nnp : gn ≠ gp := by have := blkLt Gn; omega
            have Npf : gp ≠ gf := by have := blkLt Gf; omega
            replace HM := HM.below hb
            replace Gn := (by first | exact blkB hb Gn | exact Gn)
            replace Gf := (by first | exact blkB hb Gf | exact Gf)
            replace HB := belT HB hb
            clear hb
            refine hK.out _ _ HM (fun hHeld => ?_)
            clear hK K
            refine norm_ (a' := ?_) ?_ ?_
            rotate_left
            · show Act.put _ (some 25) _ = _
              simp only [Act.put, List.setIfInBounds_toArray, List.set_cons_zero, List.set_cons_succ, i64_w, i32_w]
              rfl
            refine pu 10 (some 26) (bs 13 4095) HT_ rfl rfl (by kernel_rfl) (fun _ _ _ _ h => h) ⟨.agg #[.slice (some ⟨gn, 0, none⟩) 3 3, .slice (some ⟨gp, 0, none⟩) 5 5, .slice none 0 0, .slice none 0 0], .inl ⟨by rfl, fun _ => by first | (go_simp; done) | (go_simp; rfl)⟩, _, by simp only [Act.put, sA, sB, sC, i64_w, i32_w]; rfl, ?_⟩
            exact norm_ (by simp only [putAll, Act.put, List.setIfInBounds_toArray, List.set_cons_zero, List.set_cons_succ]) (hCont (gn, gp, gf) _ (dk_mem HM H8.out Gn Gp Gf Ln Lp Lf Nnp Nnf Npf))
        · skip
          refine buildN_ (by rfl) rfl 22 48 5 _ rfl [kA.b0, kB.b0, kC.b0, (podO qD qN2).b0, (podO qE qN3).b0] rfl rfl (.agg (Ob.zero.cells (.slice none 0 0) (.slice none 0 0))) 32 312 Tryd.underlying22 infoO (by intro cs hc; simp only [List.mem_cons, List.not_mem_nil, or_false] at hc; rcases hc with rfl | rfl | rfl | rfl | rfl <;> exact b0_size _) (by decide) (by decide) (by decide) (by decide) rfl (flatO pods1) flat_p1 ?_
          intro gp x1 hgp Gp hb
          have Lp : X10.heap.size ≤ gp := by rw [hgp]; exact HB.size
          replace HM := HM.below hb
          replace HB := belT HB hb
          clear hb
          refine hK.out _ _ HM (fun hHeld => ?_)
          clear hK K
          refine norm_ (a' := ?_) ?_ ?_
          rotate_left
          · show Act.put _ (some 25) _ = _
            simp only [Act.put, List.setIfInBounds_toArray, List.set_cons_zero, List.set_cons_succ, i64_w, i32_w]
            rfl
          refine two_ (i := 3) (j := 11) (Ni := some 19) (Nj := some 5) (bs 13 1023) (bs 13 3063) rfl rfl rfl rfl (two_of HT_.out (by kernel_rfl)) (by decide) (by decide) (fun K hK => ?_) (fun K hK => ?_)
          · skip
            refine buildN_ (by rfl) rfl 22 48 3 _ rfl [kn2.b0, kN1.b0, kN3.b0] rfl rfl (.agg (Ob.zero.cells (.slice none 0 0) (.slice none 0 0))) 32 312 Tryd.underlying22 infoO (by intro cs hc; simp only [List.mem_cons, List.not_mem_nil, or_false] at hc; rcases hc with rfl | rfl | rfl <;> exact b0_size _) (by decide) (by decide) (by decide) (by decide) rfl (flatO nodes1) flat_n1 ?_
            intro gn x1 hgn Gn hb
            have Ln : X10.heap.size ≤ gn := by rw [hgn]; exact HB.size
            have Nnp : gn ≠ gp := by have := blkLt Gp; omega
            replace HM := HM.below hb
            replace Gp := (by first | exact blkB hb Gp | exact Gp)
            replace HB := belT HB hb
            clear hb
            refine hK.out _ _ HM (fun hHeld => ?_)
            clear hK K
            refine norm_ (a' := ?_) ?_ ?_
            rotate_left
            · show Act.put _ (some 19) _ = _
              simp only [Act.put, List.setIfInBounds_toArray, List.set_cons_zero, List.set_cons_succ, i64_w, i32_w]
              rfl
            refine pu 10 (some 26) (bs 13 2047) HT_ rfl rfl (by kernel_rfl) (fun _ _ _ _ h => h) ⟨.agg #[.slice (some ⟨gn, 0, none⟩) 3 3, .slice (some ⟨gp, 0, none⟩) 5 5, .slice none 0 0, .slice none 0 0], .inl ⟨by rfl, fun _ => by first | (go_simp; done) | (go_simp; rfl)⟩, _, by simp only [Act.put, sA, sB, sC, i64_w, i32_w]; rfl, ?_⟩
            refine one_ (i := 11) (N := some 5) (bs 13 4095) rfl rfl (one_of HT_.out (by kernel_rfl)) (by decide) (fun K hK => ?_)
            refine allocs_ (z := #[.slice none 0 0, .slice none 0 0, .slice none 0 0, .slice none 0 0]) (t := 59) (by rfl) rfl (by first | (go_simp; done) | (go_simp; rfl)) ?_
            intro gf x1 hgf Gf hb
            have Lf : X10.heap.size ≤ gf := by rw [hgf]; exact HB.size
            have Nnf : gn ≠ gf := by have := blkLt Gn; omega
            have Npf : gp ≠ gf := by have := blkLt Gp; omega
            replace HM := HM.below hb
            replace Gn := (by first | exact blkB hb Gn | exact Gn)
            replace Gp := (by first | exact blkB hb Gp | exact Gp)
            replace HB := belT HB hb
            clear hb
            refine hK.out _ _ HM (fun hHeld => ?_)
            clear hK K
            refine norm_ (a' := ?_) ?_ ?_
            rotate_left
            · show Act.put _ (some 5) _ = _
              simp only [Act.put, List.setIfInBounds_toArray, List.set_cons_zero, List.set_cons_succ, i64_w, i32_w]
              rfl
            exact norm_ (by simp only [putAll, Act.put, List.setIfInBounds_toArray, List.set_cons_zero, List.set_cons_succ]) (hCont (gn, gp, gf) _ (dk_mem HM H8.out Gn Gp Gf Ln Lp Lf Nnp Nnf Npf))
          · skip
            refine allocs_ (z := #[.slice none 0 0, .slice none 0 0, .slice none 0 0, .slice none 0 0]) (t := 59) (by rfl) rfl (by first | (go_simp; done) | (go_simp; rfl)) ?_
            intro gf x1 hgf Gf hb
            have Lf : X10.heap.size ≤ gf := by rw [hgf]; exact HB.size
            have Npf : gp ≠ gf := by have := blkLt Gp; omega
            replace HM := HM.below hb
            replace Gp := (by first | exact blkB hb Gp | exact Gp)
            replace HB := belT HB hb
            clear hb
            refine hK.out _ _ HM (fun hHeld => ?_)
            clear hK K
            refine norm_ (a' := ?_) ?_ ?_
            rotate_left
            · show Act.put _ (some 5) _ = _
              simp only [Act.put, List.setIfInBounds_toArray, List.set_cons_zero, List.set_cons_succ, i64_w, i32_w]
              rfl
            refine one_ (i := 3) (N := some 19) (bs 13 3071) rfl rfl (one_of HT_.out (by kernel_rfl)) (by decide) (fun K hK => ?_)
            refine buildN_ (by rfl) rfl 22 48 3 _ rfl [kn2.b0, kN1.b0, kN3.b0] rfl rfl (.agg (Ob.zero.cells (.slice none 0 0) (.slice none 0 0))) 32 312 Tryd.underlying22 infoO (by intro cs hc; simp only [List.mem_cons, List.not_mem_nil, or_false] at hc; rcases hc with rfl | rfl | rfl <;> exact b0_size _) (by decide) (by decide) (by decide) (by decide) rfl (flatO nodes1) flat_n1 ?_
            intro gn x1 hgn Gn hb
            have Ln : X10.heap.size ≤ gn := by rw [hgn]; exact HB.size
            have Nnp : gn ≠ gp := by have := blkLt Gp; omega
            have Nnf : gn ≠ gf := by have := blkLt Gf; omega
            replace HM := HM.below hb
            replace Gp := (by first | exact blkB hb Gp | exact Gp)
            replace Gf := (by first | exact blkB hb Gf | exact Gf)
            replace HB := belT HB hb
            clear hb
            refine hK.out _ _ HM (fun hHeld => ?_)
            clear hK K
            refine norm_ (a' := ?_) ?_ ?_
            rotate_left
            · show Act.put _ (some 19) _ = _
              simp only [Act.put, List.setIfInBounds_toArray, List.set_cons_zero, List.set_cons_succ, i64_w, i32_w]
              rfl
            refine pu 10 (some 26) (bs 13 4095) HT_ rfl rfl (by kernel_rfl) (fun _ _ _ _ h => h) ⟨.agg #[.slice (some ⟨gn, 0, none⟩) 3 3, .slice (some ⟨gp, 0, none⟩) 5 5, .slice none 0 0, .slice none 0 0], .inl ⟨by rfl, fun _ => by first | (go_simp; done) | (go_simp; rfl)⟩, _, by simp only [Act.put, sA, sB, sC, i64_w, i32_w]; rfl, ?_⟩
            exact norm_ (by simp only [putAll, Act.put, List.setIfInBounds_toArray, List.set_cons_zero, List.set_cons_succ]) (hCont (gn, gp, gf) _ (dk_mem HM H8.out Gn Gp Gf Ln Lp Lf Nnp Nnf Npf))
        · skip
          refine allocs_ (z := #[.slice none 0 0, .slice none 0 0, .slice none 0 0, .slice none 0 0]) (t := 59) (by rfl) rfl (by first | (go_simp; done) | (go_simp; rfl)) ?_
          intro gf x1 hgf Gf hb
          have Lf : X10.heap.size ≤ gf := by rw [hgf]; exact HB.size
          replace HM := HM.below hb
          replace HB := belT HB hb
          clear hb
          refine hK.out _ _ HM (fun hHeld => ?_)
          clear hK K
          refine norm_ (a' := ?_) ?_ ?_
          rotate_left
          · show Act.put _ (some 5) _ = _
            simp only [Act.put, List.setIfInBounds_toArray, List.set_cons_zero, List.set_cons_succ, i64_w, i32_w]
            rfl
          refine two_ (i := 3) (j := 9) (Ni := some 19) (Nj := some 25) (bs 13 2559) (bs 13 3063) rfl rfl rfl rfl (two_of HT_.out (by kernel_rfl)) (by decide) (by decide) (fun K hK => ?_) (fun K hK => ?_)
          · skip
            refine buildN_ (by rfl) rfl 22 48 3 _ rfl [kn2.b0, kN1.b0, kN3.b0] rfl rfl (.agg (Ob.zero.cells (.slice none 0 0) (.slice none 0 0))) 32 312 Tryd.underlying22 infoO (by intro cs hc; simp only [List.mem_cons, List.not_mem_nil, or_false] at hc; rcases hc with rfl | rfl | rfl <;> exact b0_size _) (by decide) (by decide) (by decide) (by decide) rfl (flatO nodes1) flat_n1 ?_
            intro gn x1 hgn Gn hb
            have Ln : X10.heap.size ≤ gn := by rw [hgn]; exact HB.size
            have Nnf : gn ≠ gf := by have := blkLt Gf; omega
            replace HM := HM.below hb
            replace Gf := (by first | exact blkB hb Gf | exact Gf)
            replace HB := belT HB hb
            clear hb
            refine hK.out _ _ HM (fun hHeld => ?_)
            clear hK K
            refine norm_ (a' := ?_) ?_ ?_
            rotate_left
            · show Act.put _ (some 19) _ = _
              simp only [Act.put, List.setIfInBounds_toArray, List.set_cons_zero, List.set_cons_succ, i64_w, i32_w]
              rfl
            refine one_ (i := 9) (N := some 25) (bs 13 3071) rfl rfl (one_of HT_.out (by kernel_rfl)) (by decide) (fun K hK => ?_)
            refine buildN_ (by rfl) rfl 22 48 5 _ rfl [kA.b0, kB.b0, kC.b0, (podO qD qN2).b0, (podO qE qN3).b0] rfl rfl (.agg (Ob.zero.cells (.slice none 0 0) (.slice none 0 0))) 32 312 Tryd.underlying22 infoO (by intro cs hc; simp only [List.mem_cons, List.not_mem_nil, or_false] at hc; rcases hc with rfl | rfl | rfl | rfl | rfl <;> exact b0_size _) (by decide) (by decide) (by decide) (by decide) rfl (flatO pods1) flat_p1 ?_
            intro gp x1 hgp Gp hb
            have Lp : X10.heap.size ≤ gp := by rw [hgp]; exact HB.size
            have Nnp : gn ≠ gp := by have := blkLt Gn; omega
            have Npf : gp ≠ gf := by have := blkLt Gf; omega
            replace HM := HM.below hb
            replace Gn := (by first | exact blkB hb Gn | exact Gn)
            replace Gf := (by first | exact blkB hb Gf | exact Gf)
            replace HB := belT HB hb
            clear hb
            refine hK.out _ _ HM (fun hHeld => ?_)
            clear hK K
            refine norm_ (a' := ?_) ?_ ?_
            rotate_left
            · show Act.put _ (some 25) _ = _
              simp only [Act.put, List.setIfInBounds_toArray, List.set_cons_zero, List.set_cons_succ, i64_w, i32_w]
              rfl
            refine pu 10 (some 26) (bs 13 4095) HT_ rfl rfl (by kernel_rfl) (fun _ _ _ _ h => h) ⟨.agg #[.slice (some ⟨gn, 0, none⟩) 3 3, .slice (some ⟨gp, 0, none⟩) 5 5, .slice none 0 0, .slice none 0 0], .inl ⟨by rfl, fun _ => by first | (go_simp; done) | (go_simp; rfl)⟩, _, by simp only [Act.put, sA, sB, sC, i64_w, i32_w]; rfl, ?_⟩
            exact norm_ (by simp only [putAll, Act.put, List.setIfInBounds_toArray, List.set_cons_zero, List.set_cons_succ]) (hCont (gn, gp, gf) _ (dk_mem HM H8.out Gn Gp Gf Ln Lp Lf Nnp Nnf Npf))
          · skip
            refine buildN_ (by rfl) rfl 22 48 5 _ rfl [kA.b0, kB.b0, kC.b0, (podO qD qN2).b0, (podO qE qN3).b0] rfl rfl (.agg (Ob.zero.cells (.slice none 0 0) (.slice none 0 0))) 32 312 Tryd.underlying22 infoO (by intro cs hc; simp only [List.mem_cons, List.not_mem_nil, or_false] at hc; rcases hc with rfl | rfl | rfl | rfl | rfl <;> exact b0_size _) (by decide) (by decide) (by decide) (by decide) rfl (flatO pods1) flat_p1 ?_
            intro gp x1 hgp Gp hb
            have Lp : X10.heap.size ≤ gp := by rw [hgp]; exact HB.size
            have Npf : gp ≠ gf := by have := blkLt Gf; omega
            replace HM := HM.below hb
            replace Gf := (by first | exact blkB hb Gf | exact Gf)
            replace HB := belT HB hb
            clear hb
            refine hK.out _ _ HM (fun hHeld => ?_)
            clear hK K
            refine norm_ (a' := ?_) ?_ ?_
            rotate_left
            · show Act.put _ (some 25) _ = _
              simp only [Act.put, List.setIfInBounds_toArray, List.set_cons_zero, List.set_cons_succ, i64_w, i32_w]
              rfl
            refine one_ (i := 3) (N := some 19) (bs 13 3071) rfl rfl (one_of HT_.out (by kernel_rfl)) (by decide) (fun K hK => ?_)
            refine buildN_ (by rfl) rfl 22 48 3 _ rfl [kn2.b0, kN1.b0, kN3.b0] rfl rfl (.agg (Ob.zero.cells (.slice none 0 0) (.slice none 0 0))) 32 312 Tryd.underlying22 infoO (by intro cs hc; simp only [List.mem_cons, List.not_mem_nil, or_false] at hc; rcases hc with rfl | rfl | rfl <;> exact b0_size _) (by decide) (by decide) (by decide) (by decide) rfl (flatO nodes1) flat_n1 ?_
            intro gn x1 hgn Gn hb
            have Ln : X10.heap.size ≤ gn := by rw [hgn]; exact HB.size
            have Nnp : gn ≠ gp := by have := blkLt Gp; omega
            have Nnf : gn ≠ gf := by have := blkLt Gf; omega
            replace HM := HM.below hb
            replace Gp := (by first | exact blkB hb Gp | exact Gp)
            replace Gf := (by first | exact blkB hb Gf | exact Gf)
            replace HB := belT HB hb
            clear hb
            refine hK.out _ _ HM (fun hHeld => ?_)
            clear hK K
            refine norm_ (a' := ?_) ?_ ?_
            rotate_left
            · show Act.put _ (some 19) _ = _
              simp only [Act.put, List.setIfInBounds_toArray, List.set_cons_zero, List.set_cons_succ, i64_w, i32_w]
              rfl
            refine pu 10 (some 26) (bs 13 4095) HT_ rfl rfl (by kernel_rfl) (fun _ _ _ _ h => h) ⟨.agg #[.slice (some ⟨gn, 0, none⟩) 3 3, .slice (some ⟨gp, 0, none⟩) 5 5, .slice none 0 0, .slice none 0 0], .inl ⟨by rfl, fun _ => by first | (go_simp; done) | (go_simp; rfl)⟩, _, by simp only [Act.put, sA, sB, sC, i64_w, i32_w]; rfl, ?_⟩
            exact norm_ (by simp only [putAll, Act.put, List.setIfInBounds_toArray, List.set_cons_zero, List.set_cons_succ]) (hCont (gn, gp, gf) _ (dk_mem HM H8.out Gn Gp Gf Ln Lp Lf Nnp Nnf Npf))
      · skip
        refine allocs_ (z := #[.slice none 0 0, .slice none 0 0, .slice none 0 0, .slice none 0 0]) (t := 59) (by rfl) rfl (by first | (go_simp; done) | (go_simp; rfl)) ?_
        intro gf x1 hgf Gf hb
        have Lf : X10.heap.size ≤ gf := by rw [hgf]; exact HB.size
        replace HM := HM.below hb
        replace HB := belT HB hb
        clear hb
        refine hK.out _ _ HM (fun hHeld => ?_)
        clear hK K
        refine norm_ (a' := ?_) ?_ ?_
        rotate_left
        · show Act.put _ (some 5) _ = _
          simp only [Act.put, List.setIfInBounds_toArray, List.set_cons_zero, List.set_cons_succ, i64_w, i32_w]
          rfl
        refine two_ (i := 3) (j := 8) (Ni := some 19) (Nj := some 24) (bs 13 2303) (bs 13 2551) rfl rfl rfl rfl (two_of HT_.out (by kernel_rfl)) (by decide) (by decide) (fun K hK => ?_) (fun K hK => ?_)
        · skip
          refine buildN_ (by rfl) rfl 22 48 3 _ rfl [kn2.b0, kN1.b0, kN3.b0] rfl rfl (.agg (Ob.zero.cells (.slice none 0 0) (.slice none 0 0))) 32 312 Tryd.underlying22 infoO (by intro cs hc; simp only [List.mem_cons, List.not_mem_nil, or_false] at hc; rcases hc with rfl | rfl | rfl <;> exact b0_size _) (by decide) (by decide) (by decide) (by decide) rfl (flatO nodes1) flat_n1 ?_
          intro gn x1 hgn Gn hb
          have Ln : X10.heap.size ≤ gn := by rw [hgn]; exact HB.size
          have Nnf : gn ≠ gf := by have := blkLt Gf; omega
          replace HM := HM.below hb
          replace Gf := (by first | exact blkB hb Gf | exact Gf)
          replace HB := belT HB hb
          clear hb
          refine hK.out _ _ HM (fun hHeld => ?_)
          clear hK K
          refine norm_ (a' := ?_) ?_ ?_
          rotate_left
          · show Act.put _ (some 19) _ = _
            simp only [Act.put, List.setIfInBounds_toArray, List.set_cons_zero, List.set_cons_succ, i64_w, i32_w]
            rfl
          refine one_ (i := 8) (N := some 24) (bs 13 2559) rfl rfl (one_of HT_.out (by kernel_rfl)) (by decide) (fun K hK => ?_)
          refine goes_ Tryd.func35 (by kernel_rfl) rfl #[.string qE, .string qN3] (by rfl) rfl rfl (by (try simp only [List.map_toArray, List.map_cons, List.map_nil]); first | done | rfl) ?_
          with_reducible refine (pod_calls qE qN3 _).mono ?_
          rintro e x1 ⟨rfl, hb⟩
          replace HM := HM.below hb
          replace Gn := (by first | exact blkB hb Gn | exact Gn)
          replace Gf := (by first | exact blkB hb Gf | exact Gf)
          replace HB := belT HB hb
          clear hb
          refine ⟨_, rfl, ?_⟩
          refine hK.out _ _ HM (fun hHeld => ?_)
          clear hK K
          refine norm_ (a' := ?_) ?_ ?_
          rotate_left
          · show Act.put _ (some 24) _ = _
            simp only [Act.put, List.setIfInBounds_toArray, List.set_cons_zero, List.set_cons_succ, i64_w, i32_w]
            rfl
          refine one_ (i := 9) (N := some 25) (bs 13 3071) rfl rfl (one_of HT_.out (by kernel_rfl)) (by decide) (fun K hK => ?_)
          refine buildN_ (by rfl) rfl 22 48 5 _ rfl [kA.b0, kB.b0, kC.b0, (podO qD qN2).b0, (podO qE qN3).b0] rfl rfl (.agg (Ob.zero.cells (.slice none 0 0) (.slice none 0 0))) 32 312 Tryd.underlying22 infoO (by intro cs hc; simp only [List.mem_cons, List.not_mem_nil, or_false] at hc; rcases hc with rfl | rfl | rfl | rfl | rfl <;> exact b0_size _) (by decide) (by decide) (by decide) (by decide) rfl (flatO pods1) flat_p1 ?_
          intro gp x1 hgp Gp hb
          have Lp : X10.heap.size ≤ gp := by rw [hgp]; exact HB.size
          have Nnp : gn ≠ gp := by have := blkLt Gn; omega
          have Npf : gp ≠ gf := by have := blkLt Gf; omega
          replace HM := HM.below hb
          replace Gn := (by first | exact blkB hb Gn | exact Gn)
          replace Gf := (by first | exact blkB hb Gf | exact Gf)
          replace HB := belT HB hb
          clear hb
          refine hK.out _ _ HM (fun hHeld => ?_)
          clear hK K
          refine norm_ (a' := ?_) ?_ ?_
          rotate_left
          · show Act.put _ (some 25) _ = _
            simp only [Act.put, List.setIfInBounds_toArray, List.set_cons_zero, List.set_cons_succ, i64_w, i32_w]
            rfl
          refine pu 10 (some 26) (bs 13 4095) HT_ rfl rfl (by kernel_rfl) (fun _ _ _ _ h => h) ⟨.agg #[.slice (some ⟨gn, 0, none⟩) 3 3, .slice (some ⟨gp, 0, none⟩) 5 5, .slice none 0 0, .slice none 0 0], .inl ⟨by rfl, fun _ => by first | (go_simp; done) | (go_simp; rfl)⟩, _, by simp only [Act.put, sA, sB, sC, i64_w, i32_w]; rfl, ?_⟩
          exact norm_ (by simp only [putAll, Act.put, List.setIfInBounds_toArray, List.set_cons_zero, List.set_cons_succ]) (hCont (gn, gp, gf) _ (dk_mem HM H8.out Gn Gp Gf Ln Lp Lf Nnp Nnf Npf))
        · skip
          refine goes_ Tryd.func35 (by kernel_rfl) rfl #[.string qE, .string qN3] (by rfl) rfl rfl (by (try simp only [List.map_toArray, List.map_cons, List.map_nil]); first | done | rfl) ?_
          with_reducible refine (pod_calls qE qN3 _).mono ?_
          rintro e x1 ⟨rfl, hb⟩
          replace HM := HM.below hb
          replace Gf := (by first | exact blkB hb Gf | exact Gf)
          replace HB := belT HB hb
          clear hb
          refine ⟨_, rfl, ?_⟩
          refine hK.out _ _ HM (fun hHeld => ?_)
          clear hK K
          refine norm_ (a' := ?_) ?_ ?_
          rotate_left
          · show Act.put _ (some 24) _ = _
            simp only [Act.put, List.setIfInBounds_toArray, List.set_cons_zero, List.set_cons_succ, i64_w, i32_w]
            rfl
          refine two_ (i := 3) (j := 9) (Ni := some 19) (Nj := some 25) (bs 13 2559) (bs 13 3063) rfl rfl rfl rfl (two_of HT_.out (by kernel_rfl)) (by decide) (by decide) (fun K hK => ?_) (fun K hK => ?_)
          · skip
            refine buildN_ (by rfl) rfl 22 48 3 _ rfl [kn2.b0, kN1.b0, kN3.b0] rfl rfl (.agg (Ob.zero.cells (.slice none 0 0) (.slice none 0 0))) 32 312 Tryd.underlying22 infoO (by intro cs hc; simp only [List.mem_cons, List.not_mem_nil, or_false] at hc; rcases hc with rfl | rfl | rfl <;> exact b0_size _) (by decide) (by decide) (by decide) (by decide) rfl (flatO nodes1) flat_n1 ?_
            intro gn x1 hgn Gn hb
            have Ln : X10.heap.size ≤ gn := by rw [hgn]; exact HB.size
            have Nnf : gn ≠ gf := by have := blkLt Gf; omega
            replace HM := HM.below hb
            replace Gf := (by first | exact blkB hb Gf | exact Gf)
            replace HB := belT HB hb
            clear hb
            refine hK.out _ _ HM (fun hHeld => ?_)
            clear hK K
            refine norm_ (a' := ?_) ?_ ?_
            rotate_left
            · show Act.put _ (some 19) _ = _
              simp only [Act.put, List.setIfInBounds_toArray, List.set_cons_zero, List.set_cons_succ, i64_w, i32_w]
              rfl
            refine one_ (i := 9) (N := some 25) (bs 13 3071) rfl rfl (one_of HT_.out (by kernel_rfl)) (by decide) (fun K hK => ?_)
            refine buildN_ (by rfl) rfl 22 48 5 _ rfl [kA.b0, kB.b0, kC.b0, (podO qD qN2).b0, (podO qE qN3).b0] rfl rfl (.agg (Ob.zero.cells (.slice none 0 0) (.slice none 0 0))) 32 312 Tryd.underlying22 infoO (by intro cs hc; simp only [List.mem_cons, List.not_mem_nil, or_false] at hc; rcases hc with rfl | rfl | rfl | rfl | rfl <;> exact b0_size _) (by decide) (by decide) (by decide) (by decide) rfl (flatO pods1) flat_p1 ?_
            intro gp x1 hgp Gp hb
            have Lp : X10.heap.size ≤ gp := by rw [hgp]; exact HB.size
            have Nnp : gn ≠ gp := by have := blkLt Gn; omega
            have Npf : gp ≠ gf := by have := blkLt Gf; omega
            replace HM := HM.below hb
            replace Gn := (by first | exact blkB hb Gn | exact Gn)
            replace Gf := (by first | exact blkB hb Gf | exact Gf)
            replace HB := belT HB hb
            clear hb
            refine hK.out _ _ HM (fun hHeld => ?_)
            clear hK K
            refine norm_ (a' := ?_) ?_ ?_
            rotate_left
            · show Act.put _ (some 25) _ = _
              simp only [Act.put, List.setIfInBounds_toArray, List.set_cons_zero, List.set_cons_succ, i64_w, i32_w]
              rfl
            refine pu 10 (some 26) (bs 13 4095) HT_ rfl rfl (by kernel_rfl) (fun _ _ _ _ h => h) ⟨.agg #[.slice (some ⟨gn, 0, none⟩) 3 3, .slice (some ⟨gp, 0, none⟩) 5 5, .slice none 0 0, .slice none 0 0], .inl ⟨by rfl, fun _ => by first | (go_simp; done) | (go_simp; rfl)⟩, _, by simp only [Act.put, sA, sB, sC, i64_w, i32_w]; rfl, ?_⟩
            exact norm_ (by simp only [putAll, Act.put, List.setIfInBounds_toArray, List.set_cons_zero, List.set_cons_succ]) (hCont (gn, gp, gf) _ (dk_mem HM H8.out Gn Gp Gf Ln Lp Lf Nnp Nnf Npf))
          · skip
            refine buildN_ (by rfl) rfl 22 48 5 _ rfl [kA.b0, kB.b0, kC.b0, (podO qD qN2).b0, (podO qE qN3).b0] rfl rfl (.agg (Ob.zero.cells (.slice none 0 0) (.slice none 0 0))) 32 312 Tryd.underlying22 infoO (by intro cs hc; simp only [List.mem_cons, List.not_mem_nil, or_false] at hc; rcases hc with rfl | rfl | rfl | rfl | rfl <;> exact b0_size _) (by decide) (by decide) (by decide) (by decide) rfl (flatO pods1) flat_p1 ?_
            intro gp x1 hgp Gp hb
            have Lp : X10.heap.size ≤ gp := by rw [hgp]; exact HB.size
            have Npf : gp ≠ gf := by have := blkLt Gf; omega
            replace HM := HM.below hb
            replace Gf := (by first | exact blkB hb Gf | exact Gf)
            replace HB := belT HB hb
            clear hb
            refine hK.out _ _ HM (fun hHeld => ?_)
            clear hK K
            refine norm_ (a' := ?_) ?_ ?_
            rotate_left
            · show Act.put _ (some 25) _ = _
              simp only [Act.put, List.setIfInBounds_toArray, List.set_cons_zero, List.set_cons_succ, i64_w, i32_w]
              rfl
            refine one_ (i := 3) (N := some 19) (bs 13 3071) rfl rfl (one_of HT_.out (by kernel_rfl)) (by decide) (fun K hK => ?_)
            refine buildN_ (by rfl) rfl 22 48 3 _ rfl [kn2.b0, kN1.b0, kN3.b0] rfl rfl (.agg (Ob.zero.cells (.slice none 0 0) (.slice none 0 0))) 32 312 Tryd.underlying22 infoO (by intro cs hc; simp only [List.mem_cons, List.not_mem_nil, or_false] at hc; rcases hc with rfl | rfl | rfl <;> exact b0_size _) (by decide) (by decide) (by decide) (by decide) rfl (flatO nodes1) flat_n1 ?_
            intro gn x1 hgn Gn hb
            have Ln : X10.heap.size ≤ gn := by rw [hgn]; exact HB.size
            have Nnp : gn ≠ gp := by have := blkLt Gp; omega
            have Nnf : gn ≠ gf := by have := blkLt Gf; omega
            replace HM := HM.below hb
            replace Gp := (by first | exact blkB hb Gp | exact Gp)
            replace Gf := (by first | exact blkB hb Gf | exact Gf)
            replace HB := belT HB hb
            clear hb
            refine hK.out _ _ HM (fun hHeld => ?_)
            clear hK K
            refine norm_ (a' := ?_) ?_ ?_
            rotate_left
            · show Act.put _ (some 19) _ = _
              simp only [Act.put, List.setIfInBounds_toArray, List.set_cons_zero, List.set_cons_succ, i64_w, i32_w]
              rfl
            refine pu 10 (some 26) (bs 13 4095) HT_ rfl rfl (by kernel_rfl) (fun _ _ _ _ h => h) ⟨.agg #[.slice (some ⟨gn, 0, none⟩) 3 3, .slice (some ⟨gp, 0, none⟩) 5 5, .slice none 0 0, .slice none 0 0], .inl ⟨by rfl, fun _ => by first | (go_simp; done) | (go_simp; rfl)⟩, _, by simp only [Act.put, sA, sB, sC, i64_w, i32_w]; rfl, ?_⟩
            exact norm_ (by simp only [putAll, Act.put, List.setIfInBounds_toArray, List.set_cons_zero, List.set_cons_succ]) (hCont (gn, gp, gf) _ (dk_mem HM H8.out Gn Gp Gf Ln Lp Lf Nnp Nnf Npf))
    · skip
      refine allocs_ (z := #[.slice none 0 0, .slice none 0 0, .slice none 0 0, .slice none 0 0]) (t := 59) (by rfl) rfl (by first | (go_simp; done) | (go_simp; rfl)) ?_
      intro gf x1 hgf Gf hb
      have Lf : X10.heap.size ≤ gf := by rw [hgf]; exact HB.size
      replace HM := HM.below hb
      replace HB := belT HB hb
      clear hb
      refine hK.out _ _ HM (fun hHeld => ?_)
      clear hK K
      refine norm_ (a' := ?_) ?_ ?_
      rotate_left
      · show Act.put _ (some 5) _ = _
        simp only [Act.put, List.setIfInBounds_toArray, List.set_cons_zero, List.set_cons_succ, i64_w, i32_w]
        rfl
      refine two_ (i := 3) (j := 7) (Ni := some 19) (Nj := some 23) (bs 13 2175) (bs 13 2295) rfl rfl rfl rfl (two_of HT_.out (by kernel_rfl)) (by decide) (by decide) (fun K hK => ?_) (fun K hK => ?_)
      · skip
        refine buildN_ (by rfl) rfl 22 48 3 _ rfl [kn2.b0, kN1.b0, kN3.b0] rfl rfl (.agg (Ob.zero.cells (.slice none 0 0) (.slice none 0 0))) 32 312 Tryd.underlying22 infoO (by intro cs hc; simp only [List.mem_cons, List.not_mem_nil, or_false] at hc; rcases hc with rfl | rfl | rfl <;> exact b0_size _) (by decide) (by decide) (by decide) (by decide) rfl (flatO nodes1) flat_n1 ?_
        intro gn x1 hgn Gn hb
        have Ln : X10.heap.size ≤ gn := by rw [hgn]; exact HB.size
        have Nnf : gn ≠ gf := by have := blkLt Gf; omega
        replace HM := HM.below hb
        replace Gf := (by first | exact blkB hb Gf | exact Gf)
        replace HB := belT HB hb
        clear hb
        refine hK.out _ _ HM (fun hHeld => ?_)
        clear hK K
        refine norm_ (a' := ?_) ?_ ?_
        rotate_left
        · show Act.put _ (some 19) _ = _
          simp only [Act.put, List.setIfInBounds_toArray, List.set_cons_zero, List.set_cons_succ, i64_w, i32_w]
          rfl
        refine one_ (i := 7) (N := some 23) (bs 13 2303) rfl rfl (one_of HT_.out (by kernel_rfl)) (by decide) (fun K hK => ?_)
        refine goes_ Tryd.func35 (by kernel_rfl) rfl #[.string qD, .string qN2] (by rfl) rfl rfl (by (try simp only [List.map_toArray, List.map_cons, List.map_nil]); first | done | rfl) ?_
        with_reducible refine (pod_calls qD qN2 _).mono ?_
        rintro e x1 ⟨rfl, hb⟩
        replace HM := HM.below hb
        replace Gn := (by first | exact blkB hb Gn | exact Gn)
        replace Gf := (by first | exact blkB hb Gf | exact Gf)
        replace HB := belT HB hb
        clear hb
        refine ⟨_, rfl, ?_⟩
        refine hK.out _ _ HM (fun hHeld => ?_)
        clear hK K
        refine norm_ (a' := ?_) ?_ ?_
        rotate_left
        · show Act.put _ (some 23) _ = _
          simp only [Act.put, List.setIfInBounds_toArray, List.set_cons_zero, List.set_cons_succ, i64_w, i32_w]
          rfl
        refine one_ (i := 8) (N := some 24) (bs 13 2559) rfl rfl (one_of HT_.out (by kernel_rfl)) (by decide) (fun K hK => ?_)
        refine goes_ Tryd.func35 (by kernel_rfl) rfl #[.string qE, .string qN3] (by rfl) rfl rfl (by (try simp only [List.map_toArray, List.map_cons, List.map_nil]); first | done | rfl) ?_
        with_reducible refine (pod_calls qE qN3 _).mono ?_
        rintro e x1 ⟨rfl, hb⟩
        replace HM := HM.below hb
        replace Gn := (by first | exact blkB hb Gn | exact Gn)
        replace Gf := (by first | exact blkB hb Gf | exact Gf)
        replace HB := belT HB hb
        clear hb
        refine ⟨_, rfl, ?_⟩
        refine hK.out _ _ HM (fun hHeld => ?_)
        clear hK K
        refine norm_ (a' := ?_) ?_ ?_
        rotate_left
        · show Act.put _ (some 24) _ = _
          simp only [Act.put, List.setIfInBounds_toArray, List.set_cons_zero, List.set_cons_succ, i64_w, i32_w]
          rfl
        refine one_ (i := 9) (N := some 25) (bs 13 3071) rfl rfl (one_of HT_.out (by kernel_rfl)) (by decide) (fun K hK => ?_)
        refine buildN_ (by rfl) rfl 22 48 5 _ rfl [kA.b0, kB.b0, kC.b0, (podO qD qN2).b0, (podO qE qN3).b0] rfl rfl (.agg (Ob.zero.cells (.slice none 0 0) (.slice none 0 0))) 32 312 Tryd.underlying22 infoO (by intro cs hc; simp only [List.mem_cons, List.not_mem_nil, or_false] at hc; rcases hc with rfl | rfl | rfl | rfl | rfl <;> exact b0_size _) (by decide) (by decide) (by decide) (by decide) rfl (flatO pods1) flat_p1 ?_
        intro gp x1 hgp Gp hb
        have Lp : X10.heap.size ≤ gp := by rw [hgp]; exact HB.size
        have Nnp : gn ≠ gp := by have := blkLt Gn; omega
        have Npf : gp ≠ gf := by have := blkLt Gf; omega
        replace HM := HM.below hb
        replace Gn := (by first | exact blkB hb Gn | exact Gn)
        replace Gf := (by first | exact blkB hb Gf | exact Gf)
        replace HB := belT HB hb
        clear hb
        refine hK.out _ _ HM (fun hHeld => ?_)
        clear hK K
        refine norm_ (a' := ?_) ?_ ?_
        rotate_left
        · show Act.put _ (some 25) _ = _
          simp only [Act.put, List.setIfInBounds_toArray, List.set_cons_zero, List.set_cons_succ, i64_w, i32_w]
          rfl
        refine pu 10 (some 26) (bs 13 4095) HT_ rfl rfl (by kernel_rfl) (fun _ _ _ _ h => h) ⟨.agg #[.slice (some ⟨gn, 0, none⟩) 3 3, .slice (some ⟨gp, 0, none⟩) 5 5, .slice none 0 0, .slice none 0 0], .inl ⟨by rfl, fun _ => by first | (go_simp; done) | (go_simp; rfl)⟩, _, by simp only [Act.put, sA, sB, sC, i64_w, i32_w]; rfl, ?_⟩
        exact norm_ (by simp only [putAll, Act.put, List.setIfInBounds_toArray, List.set_cons_zero, List.set_cons_succ]) (hCont (gn, gp, gf) _ (dk_mem HM H8.out Gn Gp Gf Ln Lp Lf Nnp Nnf Npf))
      · skip
        refine goes_ Tryd.func35 (by kernel_rfl) rfl #[.string qD, .string qN2] (by rfl) rfl rfl (by (try simp only [List.map_toArray, List.map_cons, List.map_nil]); first | done | rfl) ?_
        with_reducible refine (pod_calls qD qN2 _).mono ?_
        rintro e x1 ⟨rfl, hb⟩
        replace HM := HM.below hb
        replace Gf := (by first | exact blkB hb Gf | exact Gf)
        replace HB := belT HB hb
        clear hb
        refine ⟨_, rfl, ?_⟩
        refine hK.out _ _ HM (fun hHeld => ?_)
        clear hK K
        refine norm_ (a' := ?_) ?_ ?_
        rotate_left
        · show Act.put _ (some 23) _ = _
          simp only [Act.put, List.setIfInBounds_toArray, List.set_cons_zero, List.set_cons_succ, i64_w, i32_w]
          rfl
        refine two_ (i := 3) (j := 8) (Ni := some 19) (Nj := some 24) (bs 13 2303) (bs 13 2551) rfl rfl rfl rfl (two_of HT_.out (by kernel_rfl)) (by decide) (by decide) (fun K hK => ?_) (fun K hK => ?_)
        · skip
          refine buildN_ (by rfl) rfl 22 48 3 _ rfl [kn2.b0, kN1.b0, kN3.b0] rfl rfl (.agg (Ob.zero.cells (.slice none 0 0) (.slice none 0 0))) 32 312 Tryd.underlying22 infoO (by intro cs hc; simp only [List.mem_cons, List.not_mem_nil, or_false] at hc; rcases hc with rfl | rfl | rfl <;> exact b0_size _) (by decide) (by decide) (by decide) (by decide) rfl (flatO nodes1) flat_n1 ?_
          intro gn x1 hgn Gn hb
          have Ln : X10.heap.size ≤ gn := by rw [hgn]; exact HB.size
          have Nnf : gn ≠ gf := by have := blkLt Gf; omega
          replace HM := HM.below hb
          replace Gf := (by first | exact blkB hb Gf | exact Gf)
          replace HB := belT HB hb
          clear hb
          refine hK.out _ _ HM (fun hHeld => ?_)
          clear hK K
          refine norm_ (a' := ?_) ?_ ?_
          rotate_left
          · show Act.put _ (some 19) _ = _
            simp only [Act.put, List.setIfInBounds_toArray, List.set_cons_zero, List.set_cons_succ, i64_w, i32_w]
            rfl
          refine one_ (i := 8) (N := some 24) (bs 13 2559) rfl rfl (one_of HT_.out (by kernel_rfl)) (by decide) (fun K hK => ?_)
          refine goes_ Tryd.func35 (by kernel_rfl) rfl #[.string qE, .string qN3] (by rfl) rfl rfl (by (try simp only [List.map_toArray, List.map_cons, List.map_nil]); first | done | rfl) ?_
          with_reducible refine (pod_calls qE qN3 _).mono ?_
          rintro e x1 ⟨rfl, hb⟩
          replace HM := HM.below hb
          replace Gn := (by first | exact blkB hb Gn | exact Gn)
          replace Gf := (by first | exact blkB hb Gf | exact Gf)
          replace HB := belT HB hb
          clear hb
          refine ⟨_, rfl, ?_⟩
          refine hK.out _ _ HM (fun hHeld => ?_)
          clear hK K
          refine norm_ (a' := ?_) ?_ ?_
          rotate_left
          · show Act.put _ (some 24) _ = _
            simp only [Act.put, List.setIfInBounds_toArray, List.set_cons_zero, List.set_cons_succ, i64_w, i32_w]
            rfl
          refine one_ (i := 9) (N := some 25) (bs 13 3071) rfl rfl (one_of HT_.out (by kernel_rfl)) (by decide) (fun K hK => ?_)
          refine buildN_ (by rfl) rfl 22 48 5 _ rfl [kA.b0, kB.b0, kC.b0, (podO qD qN2).b0, (podO qE qN3).b0] rfl rfl (.agg (Ob.zero.cells (.slice none 0 0) (.slice none 0 0))) 32 312 Tryd.underlying22 infoO (by intro cs hc; simp only [List.mem_cons, List.not_mem_nil, or_false] at hc; rcases hc with rfl | rfl | rfl | rfl | rfl <;> exact b0_size _) (by decide) (by decide) (by decide) (by decide) rfl (flatO pods1) flat_p1 ?_
          intro gp x1 hgp Gp hb
          have Lp : X10.heap.size ≤ gp := by rw [hgp]; exact HB.size
          have Nnp : gn ≠ gp := by have := blkLt Gn; omega
          have Npf : gp ≠ gf := by have := blkLt Gf; omega
          replace HM := HM.below hb
          replace Gn := (by first | exact blkB hb Gn | exact Gn)
          replace Gf := (by first | exact blkB hb Gf | exact Gf)
          replace HB := belT HB hb
          clear hb
          refine hK.out _ _ HM (fun hHeld => ?_)
          clear hK K
          refine norm_ (a' := ?_) ?_ ?_
          rotate_left
          · show Act.put _ (some 25) _ = _
            simp only [Act.put, List.setIfInBounds_toArray, List.set_cons_zero, List.set_cons_succ, i64_w, i32_w]
            rfl
          refine pu 10 (some 26) (bs 13 4095) HT_ rfl rfl (by kernel_rfl) (fun _ _ _ _ h => h) ⟨.agg #[.slice (some ⟨gn, 0, none⟩) 3 3, .slice (some ⟨gp, 0, none⟩) 5 5, .slice none 0 0, .slice none 0 0], .inl ⟨by rfl, fun _ => by first | (go_simp; done) | (go_simp; rfl)⟩, _, by simp only [Act.put, sA, sB, sC, i64_w, i32_w]; rfl, ?_⟩
          exact norm_ (by simp only [putAll, Act.put, List.setIfInBounds_toArray, List.set_cons_zero, List.set_cons_succ]) (hCont (gn, gp, gf) _ (dk_mem HM H8.out Gn Gp Gf Ln Lp Lf Nnp Nnf Npf))
        · skip
          refine goes_ Tryd.func35 (by kernel_rfl) rfl #[.string qE, .string qN3] (by rfl) rfl rfl (by (try simp only [List.map_toArray, List.map_cons, List.map_nil]); first | done | rfl) ?_
          with_reducible refine (pod_calls qE qN3 _).mono ?_
          rintro e x1 ⟨rfl, hb⟩
          replace HM := HM.below hb
          replace Gf := (by first | exact blkB hb Gf | exact Gf)
          replace HB := belT HB hb
          clear hb
          refine ⟨_, rfl, ?_⟩
          refine hK.out _ _ HM (fun hHeld => ?_)
          clear hK K
          refine norm_ (a' := ?_) ?_ ?_
          rotate_left
          · show Act.put _ (some 24) _ = _
            simp only [Act.put, List.setIfInBounds_toArray, List.set_cons_zero, List.set_cons_succ, i64_w, i32_w]
            rfl
          refine two_ (i := 3) (j := 9) (Ni := some 19) (Nj := some 25) (bs 13 2559) (bs 13 3063) rfl rfl rfl rfl (two_of HT_.out (by kernel_rfl)) (by decide) (by decide) (fun K hK => ?_) (fun K hK => ?_)
          · skip
            refine buildN_ (by rfl) rfl 22 48 3 _ rfl [kn2.b0, kN1.b0, kN3.b0] rfl rfl (.agg (Ob.zero.cells (.slice none 0 0) (.slice none 0 0))) 32 312 Tryd.underlying22 infoO (by intro cs hc; simp only [List.mem_cons, List.not_mem_nil, or_false] at hc; rcases hc with rfl | rfl | rfl <;> exact b0_size _) (by decide) (by decide) (by decide) (by decide) rfl (flatO nodes1) flat_n1 ?_
            intro gn x1 hgn Gn hb
            have Ln : X10.heap.size ≤ gn := by rw [hgn]; exact HB.size
            have Nnf : gn ≠ gf := by have := blkLt Gf; omega
            replace HM := HM.below hb
            replace Gf := (by first | exact blkB hb Gf | exact Gf)
            replace HB := belT HB hb
            clear hb
            refine hK.out _ _ HM (fun hHeld => ?_)
            clear hK K
            refine norm_ (a' := ?_) ?_ ?_
            rotate_left
            · show Act.put _ (some 19) _ = _
              simp only [Act.put, List.setIfInBounds_toArray, List.set_cons_zero, List.set_cons_succ, i64_w, i32_w]
              rfl
            refine one_ (i := 9) (N := some 25) (bs 13 3071) rfl rfl (one_of HT_.out (by kernel_rfl)) (by decide) (fun K hK => ?_)
            refine buildN_ (by rfl) rfl 22 48 5 _ rfl [kA.b0, kB.b0, kC.b0, (podO qD qN2).b0, (podO qE qN3).b0] rfl rfl (.agg (Ob.zero.cells (.slice none 0 0) (.slice none 0 0))) 32 312 Tryd.underlying22 infoO (by intro cs hc; simp only [List.mem_cons, List.not_mem_nil, or_false] at hc; rcases hc with rfl | rfl | rfl | rfl | rfl <;> exact b0_size _) (by decide) (by decide) (by decide) (by decide) rfl (flatO pods1) flat_p1 ?_
            intro gp x1 hgp Gp hb
            have Lp : X10.heap.size ≤ gp := by rw [hgp]; exact HB.size
            have Nnp : gn ≠ gp := by have := blkLt Gn; omega
            have Npf : gp ≠ gf := by have := blkLt Gf; omega
            replace HM := HM.below hb
            replace Gn := (by first | exact blkB hb Gn | exact Gn)
            replace Gf := (by first | exact blkB hb Gf | exact Gf)
            replace HB := belT HB hb
            clear hb
            refine hK.out _ _ HM (fun hHeld => ?_)
            clear hK K
            refine norm_ (a' := ?_) ?_ ?_
            rotate_left
            · show Act.put _ (some 25) _ = _
              simp only [Act.put, List.setIfInBounds_toArray, List.set_cons_zero, List.set_cons_succ, i64_w, i32_w]
              rfl
            refine pu 10 (some 26) (bs 13 4095) HT_ rfl rfl (by kernel_rfl) (fun _ _ _ _ h => h) ⟨.agg #[.slice (some ⟨gn, 0, none⟩) 3 3, .slice (some ⟨gp, 0, none⟩) 5 5, .slice none 0 0, .slice none 0 0], .inl ⟨by rfl, fun _ => by first | (go_simp; done) | (go_simp; rfl)⟩, _, by simp only [Act.put, sA, sB, sC, i64_w, i32_w]; rfl, ?_⟩
            exact norm_ (by simp only [putAll, Act.put, List.setIfInBounds_toArray, List.set_cons_zero, List.set_cons_succ]) (hCont (gn, gp, gf) _ (dk_mem HM H8.out Gn Gp Gf Ln Lp Lf Nnp Nnf Npf))
          · skip
            refine buildN_ (by rfl) rfl 22 48 5 _ rfl [kA.b0, kB.b0, kC.b0, (podO qD qN2).b0, (podO qE qN3).b0] rfl rfl (.agg (Ob.zero.cells (.slice none 0 0) (.slice none 0 0))) 32 312 Tryd.underlying22 infoO (by intro cs hc; simp only [List.mem_cons, List.not_mem_nil, or_false] at hc; rcases hc with rfl | rfl | rfl | rfl | rfl <;> exact b0_size _) (by decide) (by decide) (by decide) (by decide) rfl (flatO pods1) flat_p1 ?_
            intro gp x1 hgp Gp hb
            have Lp : X10.heap.size ≤ gp := by rw [hgp]; exact HB.size
            have Npf : gp ≠ gf := by have := blkLt Gf; omega
            replace HM := HM.below hb
            replace Gf := (by first | exact blkB hb Gf | exact Gf)
            replace HB := belT HB hb
            clear hb
            refine hK.out _ _ HM (fun hHeld => ?_)
            clear hK K
            refine norm_ (a' := ?_) ?_ ?_
            rotate_left
            · show Act.put _ (some 25) _ = _
              simp only [Act.put, List.setIfInBounds_toArray, List.set_cons_zero, List.set_cons_succ, i64_w, i32_w]
              rfl
            refine one_ (i := 3) (N := some 19) (bs 13 3071) rfl rfl (one_of HT_.out (by kernel_rfl)) (by decide) (fun K hK => ?_)
            refine buildN_ (by rfl) rfl 22 48 3 _ rfl [kn2.b0, kN1.b0, kN3.b0] rfl rfl (.agg (Ob.zero.cells (.slice none 0 0) (.slice none 0 0))) 32 312 Tryd.underlying22 infoO (by intro cs hc; simp only [List.mem_cons, List.not_mem_nil, or_false] at hc; rcases hc with rfl | rfl | rfl <;> exact b0_size _) (by decide) (by decide) (by decide) (by decide) rfl (flatO nodes1) flat_n1 ?_
            intro gn x1 hgn Gn hb
            have Ln : X10.heap.size ≤ gn := by rw [hgn]; exact HB.size
            have Nnp : gn ≠ gp := by have := blkLt Gp; omega
            have Nnf : gn ≠ gf := by have := blkLt Gf; omega
            replace HM := HM.below hb
            replace Gp := (by first | exact blkB hb Gp | exact Gp)
            replace Gf := (by first | exact blkB hb Gf | exact Gf)
            replace HB := belT HB hb
            clear hb
            refine hK.out _ _ HM (fun hHeld => ?_)
            clear hK K
            refine norm_ (a' := ?_) ?_ ?_
            rotate_left
            · show Act.put _ (some 19) _ = _
              simp only [Act.put, List.setIfInBounds_toArray, List.set_cons_zero, List.set_cons_succ, i64_w, i32_w]
              rfl
            refine pu 10 (some 26) (bs 13 4095) HT_ rfl rfl (by kernel_rfl) (fun _ _ _ _ h => h) ⟨.agg #[.slice (some ⟨gn, 0, none⟩) 3 3, .slice (some ⟨gp, 0, none⟩) 5 5, .slice none 0 0, .slice none 0 0], .inl ⟨by rfl, fun _ => by first | (go_simp; done) | (go_simp; rfl)⟩, _, by simp only [Act.put, sA, sB, sC, i64_w, i32_w]; rfl, ?_⟩
            exact norm_ (by simp only [putAll, Act.put, List.setIfInBounds_toArray, List.set_cons_zero, List.set_cons_succ]) (hCont (gn, gp, gf) _ (dk_mem HM H8.out Gn Gp Gf Ln Lp Lf Nnp Nnf Npf))
  rintro ⟨gn, gp, gf⟩ x4 HM
  simp only at HM
  refine norm_ (a' := ?_) ?_ ?_
  rotate_left
  · simp only [putAll, Act.put, List.setIfInBounds_toArray, List.set_cons_zero, List.set_cons_succ]
    rfl
  refine la1 12 (none) (bs 13 8191) HT_ rfl rfl (by kernel_rfl) (by decide) (fun K hK => ?_)
  refine stores_ (cs := #[.slice (some ⟨gn, 0, none⟩) 3 3, .slice (some ⟨gp, 0, none⟩) 5 5, .slice none 0 0, .slice none 0 0]) (x := .tmp 5) (y := .tmp 26) (by rfl) rfl rfl rfl rfl (HM.get 6 rfl) (by kernel_rfl) rfl (by simp [Value.oneCell']) ?_
  intro x9 G9 hk9 hb9
  refine hK.out _ _ ?_
  clear hK K
  refine done_ (done_of HT_.out (by kernel_rfl)) ?_
  have M9 : Hid (Mem w x9 [(gy1, kA.b0, 48), (gy3, kB.b0, 48), (gy5, kC.b0, 48), (gy8, kn2.b0, 48), (gn, flatO nodes1, 48), (gp, flatO pods1, 48), (gf, #[.slice (some ⟨gn, 0, none⟩) 3 3, .slice (some ⟨gp, 0, none⟩) 5 5, .slice none 0 0, .slice none 0 0], 59)]) := Lib.hid (HM.store' 6 rfl G9 hk9 hb9)
  clear HM HB H8 G9 hk9 hb9
  go_wp2_with (first
    | ((with_reducible refine wpList_store1 rfl 4 (.tmp 27) (.const (.bool true)) rfl gy8 7 48 (kn2.b0) (.bool true) ?s1y9 ?s2y9 ?s3y9 ?s4y9 ?s5y9 ?s6y9 ?s7y9 ?_); (case s1y9 => rfl); (case s2y9 => rfl); (case s3y9 => rfl); (case s4y9 => exact M9.out.get 3 rfl); (case s5y9 => exact (by rw [b0_size]; decide)); (case s6y9 => kernel_rfl); (case s7y9 => rfl); intro X11 G hk hb hz; rw [set_n2] at G; have M11 : Hid (Mem w X11 [(gy1, kA.b0, 48), (gy3, kB.b0, 48), (gy5, kC.b0, 48), (gy8, (cord kn2).b0, 48), (gn, flatO nodes1, 48), (gp, flatO pods1, 48), (gf, #[.slice (some ⟨gn, 0, none⟩) 3 3, .slice (some ⟨gp, 0, none⟩) 5 5, .slice none 0 0, .slice none 0 0], 59)]) := Lib.hid (M9.out.store 3 rfl G hk hb); clear M9; clear G hk hb hz)
    | ((with_reducible refine wpList_pure (op := ⟨some 28, _, _, _, _, _⟩) rfl (.agg (evict kB).b0) ?ry10 ?_); (case ry10 => first | kernel_rfl | (go_simp; rfl)))
    | ((with_reducible refine wpList_pure (op := ⟨some 29, _, _, _, _, _⟩) rfl (.agg (evict kA).b0) ?ry11 ?_); (case ry11 => first | kernel_rfl | (go_simp; rfl)))
    | ((with_reducible refine wpList_load_blk_w (op := ⟨some 30, _, _, _, _, _⟩) 48 (.tmp 4) rfl gy8 48 ?l0y12 ?l1y12 ((cord kn2).b0) _ ?l2y12 Tryd.underlying48 ?l3y12 ?l4y12 ?_); (case l0y12 => rfl); (case l1y12 => rfl); (case l2y12 => exact M11.out.get 3 rfl); (case l3y12 => rfl); (case l4y12 => exact info_b0 _))
    | ((with_reducible refine gate_ (.build 66 #[(0, .const (.int .i64 1)), (1, .tmp 30), (4, .const (.int .i64 7))]) rfl ?_); refine wpList_builtL rfl 66 [(0, .const (.int .i64 1)), (1, .tmp 30), (4, .const (.int .i64 7))] rfl (some 31) rfl [(0, .int .i64 1), (1, .agg (cord kn2).b0), (4, .int .i64 7)] rfl (upd kn2).b0 upd_b0 ?_)
    | ((with_reducible refine wpList_pure (op := ⟨some 32, _, _, _, _, _⟩) rfl (.agg (evict (podO qD qN2)).b0) ?ry13 ?_); (case ry13 => first | kernel_rfl | (go_simp; rfl)))
    | ((with_reducible refine wpList_buildN (op := ⟨some 33, _, _, _, _, _⟩) rfl 63 66 4 _ rfl [(evict kB).b0, (evict kA).b0, (upd kn2).b0, (evict (podO qD qN2)).b0] ?b0y14 ?b1y14 ((.agg (Rq.zero.cells (.slice none 0 0) (.slice none 0 0)))) 42 416 Tryd.underlying63 ?b2y14 ?b3y14 (by omega) (by omega) (by omega) (by omega) ?b4y14 ?_); (case b0y14 => rfl); (case b1y14 => rfl); (case b2y14 => exact infoRq); (case b3y14 => (intro cs hcs; simp only [List.mem_cons, List.not_mem_nil, or_false] at hcs; rcases hcs with rfl | rfl | rfl | rfl <;> exact rb0_size _)); (case b4y14 => rfl); obtain ⟨gy14, hgy14⟩ : ∃ g, g = X11.heap.size := ⟨_, rfl⟩; rw [← hgy14]; obtain ⟨X12, hX12⟩ : ∃ x, x = X11.alloc (.cells (([(evict kB).b0, (evict kA).b0, (upd kn2).b0, (evict (podO qD qN2)).b0].flatMap Array.toList).toArray) 66) := ⟨_, rfl⟩; rw [← hX12]; have M12 : Hid (Mem w X12 [(gy1, kA.b0, 48), (gy3, kB.b0, 48), (gy5, kC.b0, 48), (gy8, (cord kn2).b0, 48), (gn, flatO nodes1, 48), (gp, flatO pods1, 48), (gf, #[.slice (some ⟨gn, 0, none⟩) 3 3, .slice (some ⟨gp, 0, none⟩) 5 5, .slice none 0 0, .slice none 0 0], 59), (gy14, flatR ask1, 66)]) := Lib.hid (by rw [hX12, hgy14]; rw [← flat_a1]; exact M11.out.alloc _ _); clear M11; clear hX12 hgy14)
    | (go_at_call 27; (with_reducible refine (works27_calls X12).mono ?_); rintro e X13 ⟨rfl, hb⟩; have M13 : Hid (Mem w X13 [(gy1, kA.b0, 48), (gy3, kB.b0, 48), (gy5, kC.b0, 48), (gy8, (cord kn2).b0, 48), (gn, flatO nodes1, 48), (gp, flatO pods1, 48), (gf, #[.slice (some ⟨gn, 0, none⟩) 3 3, .slice (some ⟨gp, 0, none⟩) 5 5, .slice none 0 0, .slice none 0 0], 59), (gy14, flatR ask1, 66)]) := Lib.hid (M12.out.below hb); clear M12; clear hb)
    | ((with_reducible refine wpList_load_blk_w (op := ⟨some 37, _, _, _, _, _⟩) 59 (.tmp 5) rfl gf 59 ?l0y15 ?l1y15 (#[.slice (some ⟨gn, 0, none⟩) 3 3, .slice (some ⟨gp, 0, none⟩) 5 5, .slice none 0 0, .slice none 0 0]) _ ?l2y15 Tryd.underlying59 ?l3y15 ?l4y15 ?_); (case l0y15 => rfl); (case l1y15 => rfl); (case l2y15 => exact M13.out.get 6 rfl); (case l3y15 => rfl); (case l4y15 => exact infoF5))
    | (go_at_call 31; (with_reducible refine ((plan_calls (some ⟨gn, 0, none⟩) (some ⟨gp, 0, none⟩) 3 5 3 5 _ _ nodes1 pods1 X13 rfl rfl (C_flatO (M13.out.get 4 rfl) rfl (by decide) bare_n1.1) (C_flatO (M13.out.get 5 rfl) rfl (by decide) bare_n1.2.2.2.1) (by decide) (by decide) fits_n1.1 fits_n1.2.2.2.1)).mono ?_); rintro e X14 ⟨v8, rfl, hS8, hb⟩; rw [plan1] at hS8; obtain ⟨A8, c8, rfl, hC8⟩ := S_form_n (n := 4) hS8 rfl; have HS8 := Lib.hid hC8; clear hS8 hC8; have M14 : Hid (Mem w X14 [(gy1, kA.b0, 48), (gy3, kB.b0, 48), (gy5, kC.b0, 48), (gy8, (cord kn2).b0, 48), (gn, flatO nodes1, 48), (gp, flatO pods1, 48), (gf, #[.slice (some ⟨gn, 0, none⟩) 3 3, .slice (some ⟨gp, 0, none⟩) 5 5, .slice none 0 0, .slice none 0 0], 59), (gy14, flatR ask1, 66)]) := Lib.hid (M13.out.below hb); clear M13; clear hb)
    | (go_at_call 36; (with_reducible refine ((sameReqs_n (A := A8) (B := some ⟨gy14, 0, none⟩) (l := ask1) (m := ask1) (n := 4) (c := c8) (d := 4) (w := X14) HS8.out (C_flatR (M14.out.get 7 rfl) rfl (by decide) bare_n1.2.2.2.2.2) (by decide))).mono ?_); rintro e X15 ⟨he, hb⟩; rw [decide_eq_true rfl] at he; subst he; have M15 : Hid (Mem w X15 [(gy1, kA.b0, 48), (gy3, kB.b0, 48), (gy5, kC.b0, 48), (gy8, (cord kn2).b0, 48), (gn, flatO nodes1, 48), (gp, flatO pods1, 48), (gf, #[.slice (some ⟨gn, 0, none⟩) 3 3, .slice (some ⟨gp, 0, none⟩) 5 5, .slice none 0 0, .slice none 0 0], 59), (gy14, flatR ask1, 66)]) := Lib.hid (M14.out.below hb); clear M14; clear hb)
    | ((with_reducible refine wpList_load_blk_w (op := ⟨some 44, _, _, _, _, _⟩) 59 (.tmp 5) rfl gf 59 ?l0y16 ?l1y16 (#[.slice (some ⟨gn, 0, none⟩) 3 3, .slice (some ⟨gp, 0, none⟩) 5 5, .slice none 0 0, .slice none 0 0]) _ ?l2y16 Tryd.underlying59 ?l3y16 ?l4y16 ?_); (case l0y16 => rfl); (case l1y16 => rfl); (case l2y16 => exact M15.out.get 6 rfl); (case l3y16 => rfl); (case l4y16 => exact infoF5))
    | (go_at_call 34; (with_reducible refine ((emptyD_calls _ _ _ (some ⟨gp, 0, none⟩) 5 5 qN1 pods1 X15 rfl rfl rfl (C_flatO (M15.out.get 5 rfl) rfl (by decide) bare_n1.2.2.2.1) (by decide))).mono ?_); rintro e X16 ⟨he, hb⟩; rw [emp1] at he; subst he; have M16 : Hid (Mem w X16 [(gy1, kA.b0, 48), (gy3, kB.b0, 48), (gy5, kC.b0, 48), (gy8, (cord kn2).b0, 48), (gn, flatO nodes1, 48), (gp, flatO pods1, 48), (gf, #[.slice (some ⟨gn, 0, none⟩) 3 3, .slice (some ⟨gp, 0, none⟩) 5 5, .slice none 0 0, .slice none 0 0], 59), (gy14, flatR ask1, 66)]) := Lib.hid (M15.out.below hb); clear M15; clear hb)
    | ((with_reducible refine wpList_load_blk_w (op := ⟨some 48, _, _, _, _, _⟩) 59 (.tmp 5) rfl gf 59 ?l0y17 ?l1y17 (#[.slice (some ⟨gn, 0, none⟩) 3 3, .slice (some ⟨gp, 0, none⟩) 5 5, .slice none 0 0, .slice none 0 0]) _ ?l2y17 Tryd.underlying59 ?l3y17 ?l4y17 ?_); (case l0y17 => rfl); (case l1y17 => rfl); (case l2y17 => exact M16.out.get 6 rfl); (case l3y17 => rfl); (case l4y17 => exact infoF5))
    | (go_at_call 34; (with_reducible refine ((emptyD_calls _ _ _ (some ⟨gp, 0, none⟩) 5 5 qN4 pods1 X16 rfl rfl rfl (C_flatO (M16.out.get 5 rfl) rfl (by decide) bare_n1.2.2.2.1) (by decide))).mono ?_); rintro e X17 ⟨he, hb⟩; rw [emp4] at he; subst he; have M17 : Hid (Mem w X17 [(gy1, kA.b0, 48), (gy3, kB.b0, 48), (gy5, kC.b0, 48), (gy8, (cord kn2).b0, 48), (gn, flatO nodes1, 48), (gp, flatO pods1, 48), (gf, #[.slice (some ⟨gn, 0, none⟩) 3 3, .slice (some ⟨gp, 0, none⟩) 5 5, .slice none 0 0, .slice none 0 0], 59), (gy14, flatR ask1, 66)]) := Lib.hid (M16.out.below hb); clear M16; clear hb)
    | ((with_reducible refine wpList_pure (op := ⟨some 53, _, _, _, _, _⟩) rfl (.agg #[.slice none 0 0, .slice none 0 0, .slice none 0 0, .slice none 0 0]) ?ry18 ?_); (case ry18 => first | kernel_rfl | (go_simp; rfl)))
    | (go_at_call 31; (with_reducible refine (nil_plan X17).mono ?_); rintro e X18 ⟨A54, c54, rfl, hb⟩; have M18 : Hid (Mem w X18 [(gy1, kA.b0, 48), (gy3, kB.b0, 48), (gy5, kC.b0, 48), (gy8, (cord kn2).b0, 48), (gn, flatO nodes1, 48), (gp, flatO pods1, 48), (gf, #[.slice (some ⟨gn, 0, none⟩) 3 3, .slice (some ⟨gp, 0, none⟩) 5 5, .slice none 0 0, .slice none 0 0], 59), (gy14, flatR ask1, 66)]) := Lib.hid (M17.out.below hb); clear M17; clear hb)
    | ((with_reducible refine wpList_load1_w (op := ⟨some 59, _, _, _, _, _⟩) 22 (.tmp 58) rfl ⟨gf, 0, none⟩ ?q0y19 ?q1y19 (.slice (some ⟨gn, 0, none⟩) 3 3) _ ?q2y19 Tryd.underlying22 rfl ?_); (case q0y19 => rfl); (case q1y19 => rfl); (case q2y19 => exact (cell_of_row _ _ 0 _ _ _ (M18.out.get 6 rfl)).trans rfl))
    | ((with_reducible refine wpList_store1 rfl 9 (.tmp 61) (.const (.string ⟨#[110, 49, 48]⟩)) rfl gn 1 48 (flatO nodes1) (.string qN10) ?s1y20 ?s2y20 ?s3y20 ?s4y20 ?s5y20 ?s6y20 ?s7y20 ?_); (case s1y20 => rfl); (case s2y20 => rfl); (case s3y20 => rfl); (case s4y20 => exact M18.out.get 4 rfl); (case s5y20 => exact (by rw [fn_size.1]; decide)); (case s6y20 => kernel_rfl); (case s7y20 => rfl); intro X19 G hk hb hz; rw [set_nodes2] at G; have M19 : Hid (Mem w X19 [(gy1, kA.b0, 48), (gy3, kB.b0, 48), (gy5, kC.b0, 48), (gy8, (cord kn2).b0, 48), (gn, flatO nodes2, 48), (gp, flatO pods1, 48), (gf, #[.slice (some ⟨gn, 0, none⟩) 3 3, .slice (some ⟨gp, 0, none⟩) 5 5, .slice none 0 0, .slice none 0 0], 59), (gy14, flatR ask1, 66)]) := Lib.hid (M18.out.store 4 rfl G hk hb); clear M18; clear G hk hb hz)
    | ((with_reducible refine wpList_load1_w (op := ⟨some 63, _, _, _, _, _⟩) 22 (.tmp 62) rfl ⟨gf, 1, none⟩ ?q0y21 ?q1y21 (.slice (some ⟨gp, 0, none⟩) 5 5) _ ?q2y21 Tryd.underlying22 rfl ?_); (case q0y21 => rfl); (case q1y21 => rfl); (case q2y21 => exact (cell_of_row _ _ 1 _ _ _ (M19.out.get 6 rfl)).trans rfl))
    | ((with_reducible refine wpList_store1 rfl 9 (.tmp 65) (.const (.string ⟨#[110, 49, 48]⟩)) rfl gp 109 48 (flatO pods1) (.string qN10) ?s1y22 ?s2y22 ?s3y22 ?s4y22 ?s5y22 ?s6y22 ?s7y22 ?_); (case s1y22 => rfl); (case s2y22 => rfl); (case s3y22 => rfl); (case s4y22 => exact M19.out.get 5 rfl); (case s5y22 => exact (by rw [fn_size.2.2]; decide)); (case s6y22 => kernel_rfl); (case s7y22 => rfl); intro X20 G hk hb hz; rw [set_pods2] at G; have M20 : Hid (Mem w X20 [(gy1, kA.b0, 48), (gy3, kB.b0, 48), (gy5, kC.b0, 48), (gy8, (cord kn2).b0, 48), (gn, flatO nodes2, 48), (gp, flatO pods2, 48), (gf, #[.slice (some ⟨gn, 0, none⟩) 3 3, .slice (some ⟨gp, 0, none⟩) 5 5, .slice none 0 0, .slice none 0 0], 59), (gy14, flatR ask1, 66)]) := Lib.hid (M19.out.store 5 rfl G hk hb); clear M19; clear G hk hb hz)
    | ((with_reducible refine wpList_load_blk_w (op := ⟨some 66, _, _, _, _, _⟩) 59 (.tmp 5) rfl gf 59 ?l0y23 ?l1y23 (#[.slice (some ⟨gn, 0, none⟩) 3 3, .slice (some ⟨gp, 0, none⟩) 5 5, .slice none 0 0, .slice none 0 0]) _ ?l2y23 Tryd.underlying59 ?l3y23 ?l4y23 ?_); (case l0y23 => rfl); (case l1y23 => rfl); (case l2y23 => exact M20.out.get 6 rfl); (case l3y23 => rfl); (case l4y23 => exact infoF5))
    | (go_at_call 31; (with_reducible refine ((plan_calls (some ⟨gn, 0, none⟩) (some ⟨gp, 0, none⟩) 3 5 3 5 _ _ nodes2 pods2 X20 rfl rfl (C_flatO (M20.out.get 4 rfl) rfl (by decide) bare_n1.2.1) (C_flatO (M20.out.get 5 rfl) rfl (by decide) bare_n1.2.2.2.2.1) (by decide) (by decide) fits_n1.2.1 fits_n1.2.2.2.2)).mono ?_); rintro e X21 ⟨v67, rfl, hS67, hb⟩; rw [plan2] at hS67; obtain ⟨A67, c67, e67⟩ := Kd.S_slice hS67; rw [show ask2.length = 4 from rfl] at e67; subst e67; have HR7 := Lib.hid (Kd.S_R hS67); have HL7 : Hid (gn < X20.heap.size) := Lib.hid (blkLt (M20.out.get 4 rfl)); clear hS67; have M21 : Hid (Mem w X21 [(gy1, kA.b0, 48), (gy3, kB.b0, 48), (gy5, kC.b0, 48), (gy8, (cord kn2).b0, 48), (gn, flatO nodes2, 48), (gp, flatO pods2, 48), (gf, #[.slice (some ⟨gn, 0, none⟩) 3 3, .slice (some ⟨gp, 0, none⟩) 5 5, .slice none 0 0, .slice none 0 0], 59), (gy14, flatR ask1, 66)]) := Lib.hid (M20.out.below hb); clear M20; clear hb)
    | ((with_reducible refine wpList_load1_w (op := ⟨some 69, _, _, _, _, _⟩) 22 (.tmp 68) rfl ⟨gf, 0, none⟩ ?q0y24 ?q1y24 (.slice (some ⟨gn, 0, none⟩) 3 3) _ ?q2y24 Tryd.underlying22 rfl ?_); (case q0y24 => rfl); (case q1y24 => rfl); (case q2y24 => exact (cell_of_row _ _ 0 _ _ _ (M21.out.get 6 rfl)).trans rfl))
    | ((with_reducible refine wpList_store1 rfl 9 (.tmp 71) (.const (.string ⟨#[110, 50]⟩)) rfl gn 33 48 (flatO nodes2) (.string qN2) ?s1y25 ?s2y25 ?s3y25 ?s4y25 ?s5y25 ?s6y25 ?s7y25 ?_); (case s1y25 => rfl); (case s2y25 => rfl); (case s3y25 => rfl); (case s4y25 => exact M21.out.get 4 rfl); (case s5y25 => exact (by rw [fn_size.2.1]; decide)); (case s6y25 => kernel_rfl); (case s7y25 => rfl); intro X22 G hk hb hz; rw [set_nodes3] at G; have M22 : Hid (Mem w X22 [(gy1, kA.b0, 48), (gy3, kB.b0, 48), (gy5, kC.b0, 48), (gy8, (cord kn2).b0, 48), (gn, flatO nodes3, 48), (gp, flatO pods2, 48), (gf, #[.slice (some ⟨gn, 0, none⟩) 3 3, .slice (some ⟨gp, 0, none⟩) 5 5, .slice none 0 0, .slice none 0 0], 59), (gy14, flatR ask1, 66)]) := Lib.hid (M21.out.store 4 rfl G hk hb); clear M21; replace HR7 := Lib.hid (R_off27 HR7.out HL7.out hk); clear G hk hb hz)
    | ((with_reducible refine wpList_load_blk_w (op := ⟨some 72, _, _, _, _, _⟩) 59 (.tmp 5) rfl gf 59 ?l0y26 ?l1y26 (#[.slice (some ⟨gn, 0, none⟩) 3 3, .slice (some ⟨gp, 0, none⟩) 5 5, .slice none 0 0, .slice none 0 0]) _ ?l2y26 Tryd.underlying59 ?l3y26 ?l4y26 ?_); (case l0y26 => rfl); (case l1y26 => rfl); (case l2y26 => exact M22.out.get 6 rfl); (case l3y26 => rfl); (case l4y26 => exact infoF5))
    | (go_at_call 31; (with_reducible refine ((plan_calls (some ⟨gn, 0, none⟩) (some ⟨gp, 0, none⟩) 3 5 3 5 _ _ nodes3 pods2 X22 rfl rfl (C_flatO (M22.out.get 4 rfl) rfl (by decide) bare_n1.2.2.1) (C_flatO (M22.out.get 5 rfl) rfl (by decide) bare_n1.2.2.2.2.1) (by decide) (by decide) fits_n1.2.2.1 fits_n1.2.2.2.2)).mono ?_); rintro e X23 ⟨v73, rfl, hS73, hb⟩; rw [plan3] at hS73; obtain ⟨A73, c73, e73⟩ := Kd.S_slice hS73; rw [show ask3.length = 2 from rfl] at e73; subst e73; have HR8 := Lib.hid (Kd.S_R hS73); replace HR7 := Lib.hid (Kd.R_below HR7.out hb); obtain ⟨ad7, hA7, hE7⟩ := dk_name HR7.out 2 (upd kn10) rfl; obtain ⟨ad8, hA8, hE8⟩ := dk_name HR8.out 0 (upd kn10) rfl; subst hA7; subst hA8; have hD7 := Lib.hid hE7; have hD8 := Lib.hid hE8; clear hS73 hE7 hE8; have M23 : Hid (Mem w X23 [(gy1, kA.b0, 48), (gy3, kB.b0, 48), (gy5, kC.b0, 48), (gy8, (cord kn2).b0, 48), (gn, flatO nodes3, 48), (gp, flatO pods2, 48), (gf, #[.slice (some ⟨gn, 0, none⟩) 3 3, .slice (some ⟨gp, 0, none⟩) 5 5, .slice none 0 0, .slice none 0 0], 59), (gy14, flatR ask1, 66)]) := Lib.hid (M22.out.below hb); clear M22; clear hb)
    | ((with_reducible refine wpList_load1_w (op := ⟨some 82, _, _, _, _, _⟩) 9 (.tmp 81) rfl ?qpy27 ?qay27 ?qby27 (.string qN10) _ ?qcy27 Tryd.underlying9 rfl ?_); (case qby27 => rfl); (case qay27 => rfl); (case qcy27 => exact hD7.out))
    | ((with_reducible refine wpList_load1_w (op := ⟨some 95, _, _, _, _, _⟩) 9 (.tmp 94) rfl ?qpy28 ?qay28 ?qby28 (.string qN10) _ ?qcy28 Tryd.underlying9 rfl ?_); (case qby28 => rfl); (case qay28 => rfl); (case qcy28 => exact hD8.out)))
  go_ret
  exact ⟨rfl, M23.out.bel⟩
end Go.Proofs.YtoepbjgldmgaoaaDoor

/- An object that is an argument, opened: the parts that rank.Less looks at. -/
namespace Go.Proofs.YtoepbjgldmgaoaaDoor
open Go.ChangeShapes Go.WideShapes Go.RowKit
end Go.Proofs.YtoepbjgldmgaoaaDoor

/- Objects, and lists of objects, that are arguments: opened. -/
namespace Go.Proofs.YtoepbjgldmgaoaaDoor
set_option maxRecDepth 100000
open Go.ChangeShapes Go.WideShapes Go.RowKit Go.Proofs.YtoepbjgldmgaoaaDoorW.PrintWords
section
variable {H : Type} {enc : TypeId × Value → H} {W : World} {base : Nat} {spare : Nat → Bool} {held : Bool}
def Ob.ints (o : Ob) : List Int := [o.kind, o.version, o.born, o.roomC, o.roomM, o.beat, o.phase, o.needC, o.needM, o.rise, o.fall, o.count, o.surge, o.slack, o.least, o.term, o.till]
def ObInts (o : Ob) : Prop := ∀ z ∈ o.ints, -9223372036854775808 ≤ z ∧ z ≤ 9223372036854775807
end
end Go.Proofs.YtoepbjgldmgaoaaDoor

/- A start for the witness: the settled world, some variables' cells laid as the row says. -/
namespace Go.Proofs.YtoepbjgldmgaoaaDoor
def flat1 : DataW Unit → List Value
  | .lit (.int k n) => [.int k n]
  | _ => []
def flat2 : DataW Unit → List Value
  | .agg l => l.flatMap fun
    | .agg m => m.flatMap flat1
    | x => flat1 x
  | x => flat1 x
def handleCell (h t : Nat) : List Value := [.iface h (.agg #[.pointer (some ⟨3, t, none⟩)])]
def layAt (heap : Array Obj) (x : Nat × List Value) : Array Obj := heap.modify x.1 fun
  | .cells _ t frozen => .cells x.2.toArray t frozen
  | o => o
noncomputable def laidWith (l : List (Nat × List Value)) (os : Os) : World :=
  { World.holding Tryd.prog os ⟨#[], #[], []⟩ with heap := l.foldl layAt (World.holding Tryd.prog os ⟨#[], #[], []⟩).heap }
end Go.Proofs.YtoepbjgldmgaoaaDoor
