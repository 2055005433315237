/- Lemmas on which the law stands, part 3: Iter, DevN, Last, Lasts, OpenE. -/
import Derived.Shelf.SlIter.Nil
import Derived.Shelf.SortM.Plain
import Derived.Shelf.SortM.SortNone
import Derived.Ground.GgzProg
import Derived.Ground.SlgmProg
import Derived.Test.YtnmbkaccoaeijaaProg
import Derived.Test.YtnmbkaccoaeijaaKDL2
import Derived.Deep.Matrix
import Derived.Deep.Grids
set_option linter.unusedVariables false
set_option linter.unusedSimpArgs false
/- The library's contracts on the sorted keys of a map, laid at this program by the kit's own two commands (lay-iter, lay-plain). -/
namespace Go.Proofs
open Go.Shelf
def Try.keys29_ren : Go.Shelf.Ren := ⟨fun | 7 => 29 | 10 => 35 | n => n, fun | 23 => 46 | 26 => 9 | 3 => 51 | 28 => 61 | 0 => 0 | 27 => 60 | 33 => 49 | 4 => 4 | n => n, fun | n => n⟩
theorem Try.keys29 : Go.Proofs.SlLaysZ.n7 Try.prog Try.keys29_ren := {
  mixed := by kernel_rfl
  f7 := ⟨Try.f29.name, by decide, Try.func29.trans (congrArg some (by kernel_rfl))⟩
  f10 := ⟨Try.f35.name, by decide, Try.func35.trans (congrArg some (by kernel_rfl))⟩
  t0 := Try.underlying0
  a0 := Try.isAgg0
  z0 := Try.sizeOf0
  v0 := Try.zeroValue0
  t4 := Try.underlying4
  a4 := Try.isAgg4
  z4 := Try.sizeOf4
  v4 := Try.zeroValue4
  t23 := Try.underlying46
  a23 := Try.isAgg46
  z23 := Try.sizeOf46
  v23 := Try.zeroValue46
  t26 := Try.underlying9
  a26 := Try.isAgg9
  z26 := Try.sizeOf9
  v26 := Try.zeroValue9
  t27 := Try.underlying60
  a27 := Try.isAgg60
  z27 := Try.sizeOf60
  v27 := Try.zeroValue60
  t28 := Try.underlying61
  a28 := Try.isAgg61
  z28 := Try.sizeOf61
  v28 := Try.zeroValue61
  t33 := Try.underlying49
  a33 := Try.isAgg49
  z33 := Try.sizeOf49
  v33 := Try.zeroValue49 }
def Try.sorted28_ren : Go.Shelf.Ren := ⟨fun | 6 => 28 | 8 => 33 | 9 => 34 | 11 => 36 | 13 => 38 | 12 => 37 | 23 => 48 | 24 => 49 | 14 => 39 | 15 => 40 | 16 => 41 | 17 => 42 | 18 => 43 | 19 => 44 | 20 => 45 | 21 => 46 | 22 => 47 | 25 => 50 | 26 => 51 | 27 => 52 | 28 => 53 | 29 => 54 | 30 => 55 | 31 => 56 | n => n, fun | 26 => 9 | 28 => 61 | 24 => 22 | 0 => 0 | 3 => 3 | 37 => 82 | 48 => 93 | 50 => 95 | 4 => 4 | 40 => 85 | 39 => 84 | 45 => 90 | 5 => 5 | 9 => 9 | 51 => 96 | 55 => 100 | 57 => 102 | 58 => 103 | 33 => 49 | n => n, fun | n => n⟩
theorem Try.sorted28 : Go.Proofs.SlLaysZ.n6 Try.prog Try.sorted28_ren := {
  mixed := by kernel_rfl
  f6 := ⟨Try.f28.name, by decide, Try.func28.trans (congrArg some (by kernel_rfl))⟩
  f8 := ⟨Try.f33.name, by decide, Try.func33.trans (congrArg some (by kernel_rfl))⟩
  f11 := ⟨Try.f36.name, by decide, Try.func36.trans (congrArg some (by kernel_rfl))⟩
  t0 := Try.underlying0
  a0 := Try.isAgg0
  z0 := Try.sizeOf0
  v0 := Try.zeroValue0
  t24 := Try.underlying22
  a24 := Try.isAgg22
  z24 := Try.sizeOf22
  v24 := Try.zeroValue22
  t26 := Try.underlying9
  a26 := Try.isAgg9
  z26 := Try.sizeOf9
  v26 := Try.zeroValue9
  t28 := Try.underlying61
  a28 := Try.isAgg61
  z28 := Try.sizeOf61
  v28 := Try.zeroValue61
  i26 := by kernel_rfl }
def Try.sort34_ren : Go.Shelf.Ren := ⟨fun | 6 => 34 | 8 => 38 | 9 => 37 | 19 => 48 | 20 => 49 | 21 => 39 | 22 => 40 | 23 => 41 | 24 => 42 | 25 => 43 | 26 => 44 | 27 => 45 | 28 => 46 | 29 => 47 | 36 => 50 | 31 => 51 | 32 => 52 | 37 => 53 | 38 => 54 | 39 => 55 | 41 => 56 | n => n, fun | 27 => 22 | 29 => 9 | 3 => 3 | 32 => 82 | 26 => 22 | 0 => 0 | 44 => 93 | 46 => 95 | 4 => 4 | 36 => 85 | 35 => 84 | 41 => 90 | 5 => 5 | 9 => 9 | 53 => 96 | 57 => 100 | 63 => 102 | 64 => 103 | n => n, fun | n => n⟩
theorem Try.sort34 : Go.Proofs.SlLaysM.n6 Try.prog Try.sort34_ren := {
  mixed := by kernel_rfl
  f6 := ⟨Try.f34.name, by decide, Try.func34.trans (congrArg some (by kernel_rfl))⟩
  f8 := Try.func38.trans (congrArg some (by kernel_rfl))
  f9 := ⟨Try.f37.name, by decide, Try.func37.trans (congrArg some (by kernel_rfl))⟩
  f19 := Try.func48.trans (congrArg some (by kernel_rfl))
  f20 := Try.func49.trans (congrArg some (by kernel_rfl))
  f21 := ⟨Try.f39.name, by decide, Try.func39.trans (congrArg some (by kernel_rfl))⟩
  f22 := ⟨Try.f40.name, by decide, Try.func40.trans (congrArg some (by kernel_rfl))⟩
  f23 := ⟨Try.f41.name, by decide, Try.func41.trans (congrArg some (by kernel_rfl))⟩
  f24 := ⟨Try.f42.name, by decide, Try.func42.trans (congrArg some (by kernel_rfl))⟩
  f25 := ⟨Try.f43.name, by decide, Try.func43.trans (congrArg some (by kernel_rfl))⟩
  f26 := ⟨Try.f44.name, by decide, Try.func44.trans (congrArg some (by kernel_rfl))⟩
  f27 := ⟨Try.f45.name, by decide, Try.func45.trans (congrArg some (by kernel_rfl))⟩
  f28 := ⟨Try.f46.name, by decide, Try.func46.trans (congrArg some (by kernel_rfl))⟩
  f29 := ⟨Try.f47.name, by decide, Try.func47.trans (congrArg some (by kernel_rfl))⟩
  f31 := Try.func51.trans (congrArg some (by kernel_rfl))
  f32 := Try.func52.trans (congrArg some (by kernel_rfl))
  f36 := ⟨Try.f50.name, by decide, Try.func50.trans (congrArg some (by kernel_rfl))⟩
  f37 := ⟨Try.f53.name, by decide, Try.func53.trans (congrArg some (by kernel_rfl))⟩
  f38 := ⟨Try.f54.name, by decide, Try.func54.trans (congrArg some (by kernel_rfl))⟩
  f39 := ⟨Try.f55.name, by decide, Try.func55.trans (congrArg some (by kernel_rfl))⟩
  f41 := ⟨Try.f56.name, by decide, Try.func56.trans (congrArg some (by kernel_rfl))⟩
  t0 := Try.underlying0
  a0 := Try.isAgg0
  z0 := Try.sizeOf0
  v0 := Try.zeroValue0
  t3 := Try.underlying3
  a3 := Try.isAgg3
  z3 := Try.sizeOf3
  v3 := Try.zeroValue3
  t4 := Try.underlying4
  a4 := Try.isAgg4
  z4 := Try.sizeOf4
  v4 := Try.zeroValue4
  t5 := Try.underlying5
  a5 := Try.isAgg5
  z5 := Try.sizeOf5
  v5 := Try.zeroValue5
  t9 := Try.underlying9
  a9 := Try.isAgg9
  z9 := Try.sizeOf9
  v9 := Try.zeroValue9
  t26 := Try.underlying22
  a26 := Try.isAgg22
  z26 := Try.sizeOf22
  v26 := Try.zeroValue22
  t27 := Try.underlying22
  a27 := Try.isAgg22
  z27 := Try.sizeOf22
  v27 := Try.zeroValue22
  t29 := Try.underlying9
  a29 := Try.isAgg9
  z29 := Try.sizeOf9
  v29 := Try.zeroValue9
  t32 := Try.underlying82
  a32 := Try.isAgg82
  z32 := Try.sizeOf82
  v32 := Try.zeroValue82
  t35 := Try.underlying84
  a35 := Try.isAgg84
  z35 := Try.sizeOf84
  v35 := Try.zeroValue84
  t36 := Try.underlying85
  a36 := Try.isAgg85
  z36 := Try.sizeOf85
  v36 := Try.zeroValue85
  t41 := Try.underlying90
  a41 := Try.isAgg90
  z41 := Try.sizeOf90
  v41 := Try.zeroValue90
  t44 := Try.underlying93
  a44 := Try.isAgg93
  z44 := Try.sizeOf93
  v44 := Try.zeroValue93
  t46 := Try.underlying95
  a46 := Try.isAgg95
  z46 := Try.sizeOf95
  v46 := Try.zeroValue95
  t53 := Try.underlying96
  a53 := Try.isAgg96
  z53 := Try.sizeOf96
  v53 := Try.zeroValue96
  t57 := Try.underlying100
  a57 := Try.isAgg100
  z57 := Try.sizeOf100
  v57 := Try.zeroValue100
  t63 := Try.underlying102
  a63 := Try.isAgg102
  z63 := Try.sizeOf102
  v63 := Try.zeroValue102
  t64 := Try.underlying103
  a64 := Try.isAgg103
  z64 := Try.sizeOf103
  v64 := Try.zeroValue103 }
end Go.Proofs
namespace Go.Proofs
open Go.RowKit Go.Maps Go.Sort Go.Shelf
theorem Try.sorts28 (m : Nat) : AnyZ.SortsIn Try.prog Try.sorted28_ren Fence.wide m :=
  ⟨fun blk off cap ss W hH hblk hsz => callsIn_wide.2 (AnyM.slices_Sort_string Try.sort34 blk off cap ss W hH hblk hsz),
   fun p cap W => callsIn_wide.2 (AnyM.slices_Sort_string_none Try.sort34 p cap W)⟩
theorem Try.maps_Keys_29 (mb : Option Nat) (W : World) : CallsIn Fence.wide 5 Try.prog 29 #[.map mb] W fun e w' => e = .returned (.func (.func 35) #[] #[.pointer (some ⟨W.heap.size, 0, none⟩)]) ∧ w' = W.alloc (.cells #[.map mb] 46) :=
  AnyZ.keys_in Try.keys29 Fence.wide 5 trivial rfl mb W
set_option maxHeartbeats 1000000 in
theorem Try.slices_Sorted_keys_28_29 {H : Type} (b nn : Nat) (D0 : DataW H) (R : Value → Option (DataW H × List MemPlace)) (w : World) (hown : w.ownsMap Try.prog 9 R b nn D0) (hmax : Maps.size D0 ≤ maxLen) (hbytes : Maps.size D0 * 16 ≤ 140737488355328) :
    CallsIn Fence.wide 5 Try.prog 28 #[.func (.func 35) #[] #[.pointer (some ⟨w.heap.size, 0, none⟩)]] (w.alloc (.cells #[.map (some b)] 46)) fun e w' => ∃ (v : Value) (ss : List (List UInt8)), e = .returned v ∧ ss.Perm (strKeys D0) ∧
      w'.ownsRow (w.alloc (.cells #[.map (some b)] 46)).heap.size 9 1 v ss.length ((ss.mergeSort (fun x y => decide (x ≤ y))).map encStr) ∧ (v = .slice none 0 0 ↔ ss = []) ∧ Below (w.alloc (.cells #[.map (some b)] 46)).heap.size (w.alloc (.cells #[.map (some b)] 46)) w' := by
  have hbl := hown.lt
  have hseq : SeqGives Fence.wide 2 Try.prog 35 #[.pointer (some ⟨w.heap.size, 0, none⟩)] encStr (fun ss => ss.Perm (strKeys D0)) (Maps.size D0) (w.alloc (.cells #[.map (some b)] 46)) :=
    AnyZ.keys_gives (ρ := Try.keys29_ren) { Try.keys29 with } Fence.wide _ trivial rfl (by omega) w.heap.size b nn D0 _ (by simp) (by simp) (by
      obtain ⟨es, clock, hb, Ft, hs, hD⟩ := hown
      exact ⟨es, clock, (Below.heap_alloc _ _ b hbl).trans hb, Ft, hs, hD⟩)
  exact AnyZ.sorted_in Try.sorted28 Fence.wide 5 trivial trivial trivial trivial rfl (by omega) (Try.sorts28 _) (enters_of Try.func34 (by kernel_rfl) rfl) 35 #[.pointer (some ⟨w.heap.size, 0, none⟩)] trivial (enters_of Try.func35 (by kernel_rfl) rfl) _ _ hmax hbytes _ hseq
end Go.Proofs

/- The device's methods walked: Names: the files' names, in order. -/
namespace Go.Proofs.Ytnmbkaccoaeijaa
open Go.RowKit Go.Maps Go.Sort Go.Proofs.YtnmbkaccoaeijaaW.PrintWords Go.Proofs.YtnmbkaccoaeijaaW.PrintLast
def txOf (x : List UInt8) : ByteArray := ⟨x.toArray⟩
theorem txOf_list (s : ByteArray) : txOf s.data.toList = s := by cases s; simp [txOf]
theorem list_txOf (x : List UInt8) : (txOf x).data.toList = x := by simp [txOf]
def IsNames (S : DevS) (l : List ByteArray) : Prop := l.Pairwise (fun a b => a.data.toList < b.data.toList) ∧ (∀ s, s ∈ l ↔ (S.file s).isSome = true) ∧ l.length = S.count
theorem sorted_names {ss : List (List UInt8)} (hn : ss.Nodup) : (ss.mergeSort (fun x y => decide (x ≤ y))).Pairwise (fun a b => a < b) := by
  have h1 := List.pairwise_mergeSort (le := fun x y : List UInt8 => decide (x ≤ y)) (fun a b c h1 h2 => by
    simp only [decide_eq_true_eq] at *
    exact List.le_trans h1 h2) (fun a b => by
    simp only [Bool.or_eq_true, decide_eq_true_eq]
    exact List.le_total a b) ss
  have h2 : (ss.mergeSort (fun x y => decide (x ≤ y))).Nodup := (List.mergeSort_perm ss _).nodup_iff.2 hn
  refine (h1.and h2).imp ?_
  rintro a b ⟨h3, h4⟩
  simp only [decide_eq_true_eq] at h3
  exact Classical.byContradiction fun h5 => h4 (List.le_antisymm h3 h5)
theorem MapS.keyList {P : Program} {sT : TypeId} {w : World} {b c : Nat} {M : ByteArray → Option Value} (hs : P.underlying sT = some .string) (h : MapS P sT w b M c) :
    ∃ D n, w.ownsMap P sT hR b n D ∧ Maps.size D = c ∧ c ≤ maxLen ∧ (strKeys D).Nodup ∧ (strKeys D).length = c ∧ ∀ x : List UInt8, x ∈ strKeys D ↔ (M (txOf x)).isSome = true := by
  obtain ⟨D, n, h, h1, h2, h3, h4⟩ := h
  have hK := string_keyed (P := P) hs
  have hle := h.size_le
  obtain ⟨es, clock, hb, F, hsz, hD⟩ := h
  have hst : ∀ p ∈ (es.toList.map (Go.WideElems.rg P sT hR)).foldr DataW.insert [], ∃ x, p.1 = .string x := by
    intro p hp
    obtain ⟨e, he, rfl⟩ := List.mem_map.1 (mem_sorted.1 hp)
    obtain ⟨y, hy⟩ := F.reads e he
    obtain ⟨s, _, hs', _⟩ := ky_inv hs (Go.WideElems.rd_key hy)
    exact ⟨s.data.toList, by rw [Go.WideElems.rg_of hy, hs']; rfl⟩
  obtain ⟨es', hes, hpw, hkl⟩ := World.ownsMap.entries (w := w) ⟨es, clock, hb, F, hsz, hD⟩ hK
  rw [hD] at hes
  injection hes with hes
  have hmem : ∀ x : List UInt8, x ∈ strKeys D ↔ Maps.has D (.string x) = true := by
    intro x
    subst hD
    simp only [strKeys, Maps.has, List.mem_map, List.any_eq_true]
    constructor
    · rintro ⟨p, hp, rfl⟩
      obtain ⟨y, hy⟩ := hst p hp
      refine ⟨p, hp, ?_⟩
      rw [hy]
      exact WideAt.sameKey_self trivial
    · rintro ⟨p, hp, hq⟩
      obtain ⟨y, hy⟩ := hst p hp
      refine ⟨p, hp, ?_⟩
      have := WideAt.sameKey_eq hq
      rw [hy] at this ⊢
      injection this with this
  refine ⟨D, n, ⟨es, clock, hb, F, hsz, hD⟩, h3, by omega, ?_, ?_, fun x => ?_⟩
  · subst hD
    show List.Nodup (List.map _ _)
    refine List.Pairwise.map _ ?_ (List.Pairwise.and_mem.1 (hes ▸ hpw))
    rintro p q ⟨hp, hq, hne⟩ he
    obtain ⟨x, hx⟩ := hst p hp
    obtain ⟨y, hy⟩ := hst q hq
    refine hne ?_
    rw [hx, hy] at he ⊢
    have he' : x = y := he
    rw [he']
  · subst hD
    rw [← h3]
    simp [strKeys, Maps.size]
  · rw [hmem x, ← (h4 (txOf x)).1]
    unfold kyL
    rw [list_txOf]
set_option maxHeartbeats 2000000 in
set_option maxRecDepth 100000 in
theorem names_calls (w : World) (base d mb : Nat) (G : ByteArray → Option (Nat × Value)) (S : DevS) (hD : DevG w base d mb G S) (hc : S.count ≤ 64) :
    Calls Try.prog 17 #[.pointer (some ⟨d, 0, none⟩)] w fun e w' => ∃ v l, e = .returned v ∧ IsNames S l ∧ w'.ownsRow w.heap.size sT 1 v l.length (l.map Value.string) ∧ (v = .slice none 0 0 ↔ l = []) ∧ Below w.heap.size w w' := by
  obtain ⟨D, n, hown, hsz, hmx, hnd, hlen, hmem⟩ := hD.map.keyList Try.underlying9
  have C0 : w.cell? ⟨d, 0, none⟩ = some (.map (some mb)) := (cell_of_row _ _ 0 _ _ _ hD.cell).trans rfl
  have HK := Lib.hid ((callsIn_wide (n := 5)).1 (Try.maps_Keys_29 (some mb) w))
  have HS := Lib.hid ((callsIn_wide (n := 5)).1 (Try.slices_Sorted_keys_28_29 mb n D hR w hown (by rw [hsz]; exact hmx) (by rw [hsz]; omega)))
  have HD := Lib.hid (And.intro hnd (And.intro hlen (And.intro hmem hD)))
  clear hown hsz hmx hnd hlen hmem hD hc
  go_enter Try.func17, Try.ntmps17
  go_wp2_with (first
    | (go_at_call 29; (with_reducible refine HK.out.mono ?_); rintro e w1 ⟨rfl, hw1⟩; rw [hw1]; clear hw1)
    | (go_at_call 28; (with_reducible refine HS.out.mono ?_); rintro e w2 ⟨v, ss, rfl, hp, hrow, hnil, hb⟩; have H2 := Lib.hid (And.intro hp (And.intro hrow (And.intro hnil hb))); clear hp hrow hnil hb))
  go_ret
  obtain ⟨hp, hrow, hnil, hb⟩ := H2.out
  obtain ⟨hnd, hlen, hmem, hD⟩ := HD.out
  have hperm := List.mergeSort_perm ss (fun x y => decide (x ≤ y))
  have hl1 : ss.length = (ss.mergeSort (fun x y => decide (x ≤ y))).length := hperm.length_eq.symm
  refine ⟨v, (ss.mergeSort (fun x y => decide (x ≤ y))).map txOf, rfl, ⟨?_, fun s => ?_, ?_⟩, ?_, ?_, (below_alloc (Below.refl _ _) _).trans (hb.mono (by simp))⟩
  · rw [List.pairwise_map]
    refine (sorted_names (hp.nodup_iff.2 hnd)).imp ?_
    intro a b h
    rw [list_txOf, list_txOf]
    exact h
  · have e1 : s ∈ (ss.mergeSort (fun x y => decide (x ≤ y))).map txOf ↔ s.data.toList ∈ strKeys D := by
      rw [← hp.mem_iff, ← hperm.mem_iff, List.mem_map]
      constructor
      · rintro ⟨x, hx, rfl⟩
        rw [list_txOf]
        exact hx
      · intro h
        exact ⟨_, h, txOf_list s⟩
    rw [e1, hmem, txOf_list]
    cases hG : G s with
    | none => rw [hD.absent s hG]; simp
    | some p =>
      obtain ⟨f, hf, _⟩ := hD.file s p hG
      rw [hf]
      simp
  · rw [List.length_map, ← hl1, hp.length_eq, hlen]
  · rw [List.length_map, ← hl1, List.map_map]
    exact ownsRow_base_a (base' := w.heap.size) hrow (by simp)
  · rw [hnil]
    constructor
    · rintro rfl
      rw [List.eq_nil_of_length_eq_zero (l := ([] : List (List UInt8)).mergeSort (fun x y => decide (x ≤ y))) (by simp)]
      rfl
    · intro h
      have : (ss.mergeSort (fun x y => decide (x ≤ y))) = [] := by simpa using h
      rw [this] at hl1
      exact List.eq_nil_of_length_eq_zero hl1
end Go.Proofs.Ytnmbkaccoaeijaa

/- DeviceLasts: the plain law of a round; a device in memory beside two rows of bytes. -/
namespace Go.Proofs.Ytnmbkaccoaeijaa
open Go.RowKit Go.Proofs.YtnmbkaccoaeijaaW.PrintWords Go.Proofs.YtnmbkaccoaeijaaW.PrintLast
def txL : ByteArray := ⟨#[108, 111, 103]⟩
structure LastS (S : DevS) (all syn : List Int) (k : Nat) : Prop where
  fine : Fine S
  ops : S.ops ≤ 2 * k
  len : all.length ≤ 500 * k
  pre : syn <+: all
  file : (S.file txL = none ∧ all = [] ∧ syn = [] ∧ S.count = 0) ∨ (S.file txL = some ⟨all, syn.length⟩ ∧ S.count = 1)
theorem txL_ok : nameOk txL = true := by decide
theorem LastS.start (n : Int) (h : -1 ≤ n ∧ n ≤ 1000000) : LastS (cutS DevS.new n) [] [] 0 := by
  refine ⟨Fine.new.cut n (by omega), ?_, Nat.le_refl _, List.prefix_refl _, Or.inl ⟨?_, rfl, rfl, ?_⟩⟩
  · unfold cutS; split <;> exact Int.le_refl _
  · unfold cutS; split <;> rfl
  · unfold cutS; split <;> rfl
theorem LastS.app {S : DevS} {all syn : List Int} {k : Nat} (h : LastS S all syn k) (x : List Int) (hx : x.length ≤ 500) (hk : k ≤ 100) :
    ((appS S txL x).1 = 0 ∧ Fine (appS S txL x).2 ∧ (appS S txL x).2.ops ≤ 2 * k + 1 ∧ (all ++ x).length ≤ 500 * (k + 1) ∧ syn <+: all ++ x ∧ (appS S txL x).2.file txL = some ⟨all ++ x, syn.length⟩ ∧ (appS S txL x).2.count = 1) ∨ ((appS S txL x).1 = 30 ∧ (appS S txL x).2 = S) := by
  have hops := h.ops
  have hF := h.fine.app txL x (by omega)
  have hlen := h.len
  have hfull : ¬ S.isFull txL x.length := by
    unfold DevS.isFull
    rcases h.file with ⟨h1, h2, h3, h4⟩ | ⟨h1, h4⟩
    · rw [h4]
      unfold DevS.got
      rw [h1]
      simp
      omega
    · unfold DevS.got
      rw [h1]
      simp
      omega
  have e1 : appS S txL x = if S.left = 0 then (30, S) else (0, S.step.put txL ⟨(S.got txL).bytes ++ x, (S.got txL).synced⟩) := by
    unfold appS
    rw [if_neg (by rw [txL_ok]; decide), if_neg hfull]
  by_cases h0 : S.left = 0
  · rw [if_pos h0] at e1
    exact Or.inr ⟨by rw [e1], by rw [e1]⟩
  · rw [if_neg h0] at e1
    left
    rw [e1] at hF ⊢
    have hgot : (S.got txL).bytes = all ∧ (S.got txL).synced = syn.length ∧ (S.step.put txL ⟨(S.got txL).bytes ++ x, (S.got txL).synced⟩).count = 1 := by
      unfold DevS.got
      rcases h.file with ⟨h1, h2, h3, h4⟩ | ⟨h1, h4⟩
      · rw [h1, h2, h3]
        refine ⟨rfl, rfl, ?_⟩
        show (if (S.file txL).isSome then S.count else S.count + 1) = 1
        rw [h1, h4]
        rfl
      · rw [h1]
        refine ⟨rfl, rfl, ?_⟩
        show (if (S.file txL).isSome then S.count else S.count + 1) = 1
        rw [h1, h4]
        rfl
    refine ⟨rfl, hF, ?_, ?_, h.pre.trans (List.prefix_append _ _), ?_, hgot.2.2⟩
    · show S.ops + 1 ≤ _
      omega
    · rw [List.length_append]
      omega
    · show (if txL = txL then some _ else S.file txL) = _
      rw [if_pos rfl, hgot.1, hgot.2.1]
structure MidS (S : DevS) (all syn : List Int) (k : Nat) : Prop where
  fine : Fine S
  ops : S.ops ≤ 2 * k + 1
  len : all.length ≤ 500 * (k + 1)
  pre : syn <+: all
  file : (S.file txL = none ∧ all = [] ∧ syn = [] ∧ S.count = 0) ∨ (S.file txL = some ⟨all, syn.length⟩ ∧ S.count = 1)
theorem LastS.mid {S : DevS} {all syn : List Int} {k : Nat} (h : LastS S all syn k) : MidS S all syn k := ⟨h.fine, by have := h.ops; omega, by have := h.len; omega, h.pre, h.file⟩
theorem LastS.app2 {S : DevS} {all syn : List Int} {k : Nat} (h : LastS S all syn k) (x : List Int) (hx : x.length ≤ 500) (hk : k ≤ 100) :
    ((appS S txL x).1 = 0 ∧ MidS (appS S txL x).2 (all ++ x) syn k) ∨ ((appS S txL x).1 = 30 ∧ MidS (appS S txL x).2 all syn k) := by
  rcases h.app x hx hk with ⟨h1, h2, h3, h4, h5, h6, h7⟩ | ⟨h1, h2⟩
  · exact Or.inl ⟨h1, h2, by omega, h4, h5, Or.inr ⟨h6, h7⟩⟩
  · exact Or.inr ⟨h1, by rw [h2]; exact h.mid⟩
theorem MidS.next {S : DevS} {all syn : List Int} {k : Nat} (h : MidS S all syn k) : LastS S all syn (k + 1) := ⟨h.fine, by have := h.ops; omega, h.len, h.pre, h.file⟩
theorem MidS.syn {S : DevS} {all syn : List Int} {k : Nat} (h : MidS S all syn k) (hk : k ≤ 100) :
    ((synS S txL).1 = 0 ∧ LastS (synS S txL).2 all all (k + 1)) ∨ (((synS S txL).1 = 10 ∨ (synS S txL).1 = 30) ∧ LastS (synS S txL).2 all syn (k + 1)) := by
  have hops := h.ops
  have hF := h.fine.syn txL (by omega)
  rcases h.file with ⟨h1, h2, h3, h4⟩ | ⟨h1, h4⟩
  · have e1 : synS S txL = (10, S) := by unfold synS; rw [h1]
    right
    rw [e1]
    exact ⟨Or.inl rfl, h.next⟩
  · have e1 : synS S txL = if S.left = 0 then (30, S) else (0, S.step.put txL ⟨all, all.length⟩) := by unfold synS; rw [h1]
    by_cases h0 : S.left = 0
    · rw [if_pos h0] at e1
      right
      rw [e1]
      exact ⟨Or.inr rfl, h.next⟩
    · rw [if_neg h0] at e1
      left
      rw [e1] at hF ⊢
      refine ⟨rfl, hF, ?_, h.len, List.prefix_refl _, Or.inr ⟨?_, ?_⟩⟩
      · show S.ops + 1 ≤ _
        omega
      · show (if txL = txL then some _ else S.file txL) = _
        rw [if_pos rfl]
      · show (if (S.file txL).isSome then S.count else S.count + 1) = 1
        rw [h1, h4]
        rfl
theorem LastS.rest {S : DevS} {all syn : List Int} {k : Nat} (h : LastS S all syn k) (hk : k ≤ 100) (hf : S.file txL ≠ none) (q : Int) (hq : 0 ≤ q ∧ q ≤ 1000) :
    ∃ n : Nat, n ≤ all.length ∧ syn.length ≤ n ∧ (n : Int) = min ((syn.length : Int) + q) all.length ∧ Fine (restS S q) ∧ (restS S q).file txL = some ⟨all.take n, n⟩ ∧ syn <+: all.take n ∧ (appS (restS S q) txL [1]).1 = 0 := by
  have hle := h.pre.length_le
  have hlen := h.len
  have hops := h.ops
  rcases h.file with ⟨h1, _⟩ | ⟨h1, h4⟩
  · exact absurd h1 hf
  · refine ⟨(restN q ⟨all, syn.length⟩).toNat, ?_, ?_, ?_, h.fine.rest q, ?_, ?_, ?_⟩
    · unfold restN; simp only; omega
    · unfold restN; simp only; omega
    · unfold restN; simp only; omega
    · show Option.map _ (S.file txL) = _
      rw [h1]
      show some (restF q _) = _
      unfold restF
      congr 2
      unfold restN; simp only; omega
    · refine (List.prefix_iff_eq_take.2 ?_)
      rw [List.take_take, Nat.min_eq_left (by unfold restN; simp only; omega)]
      exact List.prefix_iff_eq_take.1 h.pre
    · have e1 : (restS S q).file txL = some (restF q ⟨all, syn.length⟩) := by
        show Option.map _ (S.file txL) = _
        rw [h1]
        rfl
      have hfull : ¬ (restS S q).isFull txL ([1] : List Int).length := by
        unfold DevS.isFull DevS.got
        rw [e1]
        simp [restF]
        omega
      have e2 : ¬ (restS S q).left = 0 := by show ¬ (-1 : Int) = 0; decide
      unfold appS
      rw [if_neg (by rw [txL_ok]; decide), if_neg hfull, if_neg e2]
def ArgB (w0 : World) (v : Value) (bs : List Int) : Prop := (v = .slice none 0 0 ∧ bs = []) ∨ ∃ a c, v = .slice (some a) bs.length c ∧ (0 < bs.length → a.block < w0.heap.size) ∧ ∀ j u, (bs.map bc)[j]? = some u → w0.cell? (a.add j) = some u
theorem ArgB.read {w0 w : World} {v : Value} {bs : List Int} (h : ArgB w0 v bs) (hb : Below w0.heap.size w0 w) (own : Nat → Prop) (ho : ∀ k, own k → w0.heap.size ≤ k) : ReadB w own v bs := by
  rcases h with h | ⟨a, c, h1, h2, h3⟩
  · exact Or.inl h
  · exact Or.inr ⟨a, c, h1, fun e0 => ⟨fun e => by have := ho _ e; have := h2 e0; omega, Nat.lt_of_lt_of_le (h2 e0) hb.size⟩, fun j u hu => cell_below hb (h3 j u hu)⟩
def LastM (w0 w : World) (d : Nat) (S : DevS) (va vs : Value) (all syn : List Int) : Prop :=
  ∃ mb G, DevG w w0.heap.size d mb G S ∧ BytesAt bT w w0.heap.size va all ∧ BytesAt bT w w0.heap.size vs syn ∧ (∀ k, OwnD d mb G k → va.ownBlock ≠ some k ∧ vs.ownBlock ≠ some k) ∧ (va.ownBlock = none ∨ va.ownBlock ≠ vs.ownBlock) ∧ Below w0.heap.size w0 w
section
variable {w0 w w' : World} {d : Nat} {S S' : DevS} {va vs : Value} {all syn : List Int}
theorem LastM.bel (h : LastM w0 w d S va vs all syn) : Below w0.heap.size w0 w := by
  obtain ⟨_, _, _, _, _, _, _, h⟩ := h
  exact h
theorem LastM.dev (h : LastM w0 w d S va vs all syn) : DevAt w0 w d S := by
  obtain ⟨mb, G, h1, _, _, _, _, h⟩ := h
  exact ⟨mb, G, h1, h⟩
theorem LastM.start (h : DevAt w0 w d S) : LastM w0 w d S (.slice none 0 0) (.slice none 0 0) [] [] := by
  obtain ⟨mb, G, h1, h⟩ := h
  exact ⟨mb, G, h1, BytesAt.nil _ _ _, BytesAt.nil _ _ _, fun k _ => ⟨by simp [Value.ownBlock], by simp [Value.ownBlock]⟩, Or.inl rfl, h⟩
theorem LastM.didM {mb : Nat} {G : ByteArray → Option (Nat × Value)} {v : Value} {e : Ending} (h1 : DevG w w0.heap.size d mb G S) (h2 : BytesAt bT w w0.heap.size va all) (h3 : BytesAt bT w w0.heap.size vs syn) (h4 : ∀ k, OwnD d mb G k → va.ownBlock ≠ some k ∧ vs.ownBlock ≠ some k) (h5 : va.ownBlock = none ∨ va.ownBlock ≠ vs.ownBlock) (h6 : Below w0.heap.size w0 w)
    (hd : Did w w0.heap.size d mb G v S' e w') : e = .returned v ∧ LastM w0 w' d S' va vs all syn := by
  obtain ⟨he, G', r1, r2, r3⟩ := hd
  refine ⟨he, mb, G', r1, h2.same (fun g hg => ?_), h3.same (fun g hg => ?_), fun k hk => ?_, h5, h6.trans (r2.below h1.own_base h6.size)⟩
  · exact r2.block g (h2.own g hg).2.1 (fun ho => (h4 g ho).1 hg)
  · exact r2.block g (h3.own g hg).2.1 (fun ho => (h4 g ho).2 hg)
  · rcases r3 k hk with h | h
    · exact h4 k h
    · exact ⟨fun e => by have := (h2.own k e).2.1; omega, fun e => by have := (h3.own k e).2.1; omega⟩
theorem LastM.stepM (h : LastM w0 w d S va vs all syn) (hb : Below w.heap.size w w') : LastM w0 w' d S va vs all syn := by
  obtain ⟨mb, G, h1, h2, h3, h4, h5, h6⟩ := h
  exact ⟨mb, G, h1.below hb, h2.same (fun g hg => hb.block g (h2.own g hg).2.1), h3.same (fun g hg => hb.block g (h3.own g hg).2.1), h4, h5, h6.trans (hb.mono h6.size)⟩
theorem LastM.appM (h : LastM w0 w d S va vs all syn) (s : ByteArray) (bv : Value) (bs : List Int) (hF : Fine S) (hl : bs.length ≤ 1000000) (hR : ArgB w0 bv bs) :
    Calls Try.prog 7 #[.pointer (some ⟨d, 0, none⟩), .string s, bv] w fun e w' => e = .returned (errV (appS S s bs).1) ∧ LastM w0 w' d (appS S s bs).2 va vs all syn := by
  obtain ⟨mb, G, h1, h2, h3, h4, h5, h6⟩ := h
  refine (append_calls w w0.heap.size d mb G S s bv bs h1 hF (hR.read h6 _ h1.own_base) hl h6.size).mono ?_
  intro e w' hd
  exact LastM.didM h1 h2 h3 h4 h5 h6 hd
theorem LastM.synM (h : LastM w0 w d S va vs all syn) (s : ByteArray) (hF : Fine S) (hs : s.size ≤ maxLen) :
    Calls Try.prog 11 #[.pointer (some ⟨d, 0, none⟩), .string s] w fun e w' => e = .returned (errV (synS S s).1) ∧ LastM w0 w' d (synS S s).2 va vs all syn := by
  obtain ⟨mb, G, h1, h2, h3, h4, h5, h6⟩ := h
  refine (sync_calls w w0.heap.size d mb G S s h1 hF hs).mono ?_
  intro e w' hd
  exact LastM.didM h1 h2 h3 h4 h5 h6 hd
theorem LastM.restM (h : LastM w0 w d S va vs all syn) (q : Int) (hF : Fine S) (hq : -4611686018427387904 ≤ q ∧ q ≤ 4611686018427387904) :
    Calls Try.prog 19 #[.pointer (some ⟨d, 0, none⟩), .int .i64 q] w fun e w' => e = .returned (.tuple #[]) ∧ LastM w0 w' d (restS S q) va vs all syn := by
  obtain ⟨mb, G, h1, h2, h3, h4, h5, h6⟩ := h
  refine (restart_calls w w0.heap.size d mb G S q h1 hF hq).mono ?_
  intro e w' hd
  exact LastM.didM h1 h2 h3 h4 h5 h6 hd
theorem LastM.allM (h : LastM w0 w d S va vs all syn) (bv : Value) (bs : List Int) (hR : ArgB w0 bv bs) (hl : all.length + bs.length ≤ 70368744177664) (ty : TypeId) :
    ∃ v' w1, (Builtin.append_ #[29, 29] ty #[va, bv]).run Try.prog w = .ok v' w1 ∧ LastM w0 w1 d S v' vs (all ++ bs) syn := by
  obtain ⟨mb, G, h1, h2, h3, h4, h5, h6⟩ := h
  obtain ⟨v', w1, hrun, hB1, hg1, ho1⟩ := append_read (own := fun k => w0.heap.size ≤ k) ty h2 (hR.read h6 _ (fun k h => h)) hl h6.size
  have hlt : ∀ k, OwnD d mb G k → k < w.heap.size := h1.own_lt
  refine ⟨v', w1, hrun, mb, G, h1.same (fun k hk => hg1.block k (hlt k hk) (fun e => (h4 k hk).1 e.symm)), hB1, h3.same (fun g hg => hg1.block g (h3.own g hg).2.1 (fun e => ?_)), fun k hk => ⟨fun e => ?_, (h4 k hk).2⟩, ?_, grown_below h6 hg1 (fun k hk => (h2.own k hk).1) h6.size⟩
  · rcases h5 with h5 | h5
    · rw [h5] at e; cases e
    · exact h5 (e.symm.trans hg.symm)
  · rcases ho1 with h | h
    · rw [h] at e; exact (h4 k hk).1 e
    · rw [h] at e
      have := Option.some.inj e
      have := hlt k hk
      omega
  · rcases ho1 with h | h
    · rw [h]; exact h5
    · right
      rw [h]
      intro e
      have := (h3.own _ e.symm).2.1
      omega
theorem LastM.copyM (h : LastM w0 w d S va vs all syn) (hl : all.length ≤ 1000000) :
    Calls Try.prog 15 #[va] w fun e w' => ∃ v', e = .returned v' ∧ LastM w0 w' d S va v' all all := by
  obtain ⟨mb, G, h1, h2, h3, h4, h5, h6⟩ := h
  refine (copyBytes_calls h2.row hl).mono ?_
  rintro e w' ⟨v', rfl, hB, hb⟩
  have hlt : ∀ k, OwnD d mb G k → k < w.heap.size := h1.own_lt
  refine ⟨v', rfl, mb, G, h1.below hb, h2.same (fun g hg => hb.block g (h2.own g hg).2.1), ?_, fun k hk => ⟨(h4 k hk).1, fun e => ?_⟩, ?_, h6.trans (hb.mono h6.size)⟩
  · rcases hB with h | ⟨g, cap, cur, e1, e2, r⟩
    · exact Or.inl h
    · exact Or.inr ⟨g, cap, cur, e1, Nat.le_trans h6.size e2, r⟩
  · have := (hB.own k e).1
    have := hlt k hk
    omega
  · cases hv : va.ownBlock with
    | none => exact Or.inl rfl
    | some k =>
      right
      intro e
      have := (hB.own k e.symm).1
      have := (h2.own k hv).2.1
      omega
theorem LastM.readM (h : LastM w0 w d S va vs all syn) (s : ByteArray) (hF : Fine S) (hs : s.size ≤ maxLen) :
    Calls Try.prog 16 #[.pointer (some ⟨d, 0, none⟩), .string s] w fun e w' => ∃ v, e = .returned (.tuple #[v, errV (readNo S s)]) ∧ BytesAt bT w' w.heap.size v (S.got s).bytes ∧ LastM w0 w' d S va vs all syn ∧ Below w.heap.size w w' := by
  obtain ⟨mb, G, h1, h2, h3, h4, h5, h6⟩ := id h
  refine (read_calls w w0.heap.size d mb G S s h1 hF hs).mono ?_
  rintro e w' ⟨v, rfl, hB, hb⟩
  exact ⟨v, rfl, hB, h.stepM hb, hb⟩
theorem LastM.namesM (h : LastM w0 w d S va vs all syn) (hF : Fine S) (h0 : S.count = 0) :
    Calls Try.prog 17 #[.pointer (some ⟨d, 0, none⟩)] w fun e w' => e = .returned (.slice none 0 0) ∧ Below w.heap.size w w' := by
  obtain ⟨mb, G, h1, h2, h3, h4, h5, h6⟩ := id h
  refine (names_calls w w0.heap.size d mb G S h1 hF.count).mono ?_
  rintro e w' ⟨v, l, rfl, hN, _, hnil, hb⟩
  have : l = [] := List.eq_nil_of_length_eq_zero (hN.2.2.trans h0)
  exact ⟨by rw [hnil.2 this], hb⟩
theorem LastM.rows (h : LastM w0 w d S va vs all syn) : RowB w va all ∧ RowB w vs syn := by
  obtain ⟨mb, G, h1, h2, h3, h4, h5, h6⟩ := h
  exact ⟨h2.row, h3.row⟩
theorem LastM.forms (h : LastM w0 w d S va vs all syn) : (∃ A c, va = .slice A all.length c ∧ all.length ≤ c) ∧ ∃ A c, vs = .slice A syn.length c ∧ syn.length ≤ c := by
  obtain ⟨mb, G, h1, h2, h3, h4, h5, h6⟩ := h
  exact ⟨h2.form, h3.form⟩
end
set_option maxHeartbeats 2000000 in
set_option maxRecDepth 100000 in
theorem begins_calls {w : World} {A : Option Addr} {n c : Nat} {u : Value} {a b : List Int} (h : RowB w (.slice A n c) a) (hc : a.length ≤ c) (g : RowB w u b) (hp : b <+: a) (hl : a.length ≤ 1000000) :
    Calls Try.prog 20 #[.slice A n c, u] w fun e w' => e = .returned (.bool true) ∧ Below w.heap.size w w' := by
  obtain ⟨A1, c1, e1, h⟩ := h
  injection e1 with e1 e2 e3
  subst e1 e3
  have hle := hp.length_le
  obtain ⟨m, hm⟩ : ∃ x, x = b.length := ⟨_, rfl⟩
  have hr1 : RowB w (.slice A m c) (a.take m) := by
    refine ⟨A, c, by rw [List.length_take, Nat.min_eq_left (by omega)], fun j x hx => ?_⟩
    rw [List.getElem?_take] at hx
    split at hx
    · exact h j x hx
    · cases hx
  have ht : a.take m = b := by rw [hm]; exact (List.prefix_iff_eq_take.1 hp).symm
  rw [ht] at hr1
  have HS := Lib.hid (sameBytes_calls hr1 g (by omega) (by omega))
  obtain ⟨B, c2, rfl, _⟩ := g
  rw [← hm] at HS ⊢
  have d1 : m ≤ n := by omega
  have d2 : m ≤ c := by omega
  clear h hp hr1 ht hm hle hl e2 hc
  go_enter Try.func20, Try.ntmps20
  go_wp2_with (go_at_call 18; (with_reducible refine HS.out.mono ?_); rintro e w2 ⟨rfl, hb2⟩; rw [decide_eq_true rfl]; have H2 := Lib.hid hb2; clear hb2)
  go_ret
  exact ⟨by trivial, H2.out⟩
end Go.Proofs.Ytnmbkaccoaeijaa

/- DeviceLasts walked: true, whatever the rows, what is synced, the cut, what is kept. -/
namespace Go.Proofs.Ytnmbkaccoaeijaa
open Go.RowKit Go.Proofs.YtnmbkaccoaeijaaW.PrintWords Go.Proofs.YtnmbkaccoaeijaaW.PrintLast
def RowsB (w : World) (A : Option Addr) (l : List (List Int)) : Prop := ∀ (k : Nat) (x : List Int), l[k]? = some x → ∃ a v, A = some a ∧ w.cell? (a.add k) = some v ∧ ArgB w v x
def BoolsB (w : World) (A : Option Addr) (l : List Bool) : Prop := ∀ (k : Nat) (b : Bool), l[k]? = some b → ∃ a, A = some a ∧ w.cell? (a.add k) = some (.bool b)
theorem ArgB.form {w : World} {v : Value} {x : List Int} (h : ArgB w v x) : ∃ B c, v = .slice B x.length c := by
  rcases h with ⟨rfl, rfl⟩ | ⟨a, c, rfl, _⟩
  · exact ⟨none, 0, rfl⟩
  · exact ⟨some a, c, rfl⟩
def LastR (w wr : World) (d : Nat) (va vs : Value) (k : Nat) : Prop := ∃ S all syn, LastM w wr d S va vs all syn ∧ LastS S all syn k
set_option maxHeartbeats 8000000 in
set_option maxRecDepth 100000 in
theorem lasts_calls (A0 : Option Addr) (c0 n : Nat) (l : List (List Int)) (A1 : Option Addr) (c1 m : Nat) (bs : List Bool) (z2 z3 : Int) (w : World) (hn : l.length = n) (hl : n ≤ 9007199254740992) (hR : RowsB w A0 l) (hm : bs.length = m) (hml : m ≤ 9007199254740992) (hB : BoolsB w A1 bs)
    (hz2 : -9223372036854775808 ≤ z2 ∧ z2 ≤ 9223372036854775807) (hz3 : -9223372036854775808 ≤ z3 ∧ z3 ≤ 9223372036854775807) (hlen : ∀ x ∈ l, x.length ≤ 9223372036854775807) :
    Calls Try.prog 4 #[.slice A0 n c0, .slice A1 m c1, .int .i64 z2, .int .i64 z3] w fun e w' => e = .returned (.bool true) ∧ Below w.heap.size w w' := by
  have H := Lib.hid (And.intro hn (And.intro hR (And.intro hm (And.intro hB (And.intro hz2 (And.intro hz3 hlen))))))
  clear hn hR hm hB hz2 hz3 hlen
  by_cases h100 : (100 : Int) < (n : Int)
  · have d100 : decide ((100 : Int) < (n : Int)) = true := decide_eq_true h100
    go_enter Try.func4, Try.ntmps4
    go_wp2_with (go_at_call 5; refine (works_calls w).mono ?_; rintro e w1 ⟨rfl, h1⟩; have H1 := Lib.hid h1; clear h1)
    go_ret
    exact ⟨by trivial, H1.out⟩
  · have d100 : decide ((100 : Int) < (n : Int)) = false := decide_eq_false h100
    have e1 := eqNN
    have e2 := eqIN
    have e3 := neNN
    have e4 := neIN
    go_enter Try.func4, Try.ntmps4
    go_wp2_with (first
      | (go_at_call 5; refine (works_calls w).mono ?_; rintro e w1 ⟨rfl, h1⟩; have H1 := Lib.hid h1; clear h1)
      | (go_at_call 6; refine (new_at (w0 := w) H1.out).mono ?_; rintro e w2 ⟨d, rfl, h2⟩; have H2 := Lib.hid h2; clear h2)
      | (go_at_call 8; refine (pick_calls z2 210 _ H.out.2.2.2.2.1 (by decide)).mono ?_; rintro e w4 ⟨⟨L, hL0, hL1, rfl⟩, hw4⟩; rw [hw4]; clear hw4)
      | (go_at_call 9; refine (cut_at L H2.out).mono ?_; rintro e w5 ⟨rfl, h5⟩; have H5 := Lib.hid h5; clear h5))
    go_loopw [10, 11, 12] (fun v10 v11 v12 wr => ∃ k : Nat, v12 = .int .i64 k ∧ k ≤ n ∧ Hid (LastR w wr d v10 v11 k)) (fun _ _ v12 _ => n - (intOf v12).toNat)
    case atStart => exact ⟨0, rfl, Nat.zero_le _, Lib.hid ⟨_, _, _, LastM.start H5.out, LastS.start L (by omega)⟩⟩
    case round =>
      clear hL0 hL1
      obtain ⟨k, rfl, hk, HI0⟩ := hrel
      obtain ⟨va, hva⟩ : ∃ x, x = u10 := ⟨_, rfl⟩
      obtain ⟨vs, hvs⟩ : ∃ x, x = u11 := ⟨_, rfl⟩
      rw [← hva, ← hvs] at HI0 ⊢
      clear hva u10 hvs u11
      obtain ⟨S, all, syn, hM, hS⟩ := HI0.out
      have HI := Lib.hid (And.intro hM hS)
      clear HI0 hM hS
      by_cases hlt : k < n
      · obtain ⟨x, hx⟩ : ∃ x, l[k]? = some x := ⟨_, List.getElem?_eq_getElem (by have := H.out.1; omega)⟩
        obtain ⟨a, bv, rfl, hca, hab⟩ := H.out.2.1 k x hx
        have hxl := H.out.2.2.2.2.2.2 x (List.mem_of_getElem? hx)
        obtain ⟨B, cx, hbv⟩ := hab.form
        obtain ⟨xn, hxn⟩ : ∃ q, q = x.length := ⟨_, rfl⟩
        rw [← hxn] at hbv hxl
        subst hbv
        have hcr : wr.cell? (a.add k) = some (.slice B xn cx) := cell_below HI.out.1.bel hca
        have HX := Lib.hid (And.intro hca (And.intro hab hxn))
        clear hx hca hab hxn
        by_cases h500 : (500 : Int) < (xn : Int)
        · have d500 : decide ((500 : Int) < (xn : Int)) = true := decide_eq_true h500
          go_wp2
          go_ret
          exact ⟨by trivial, HI.out.1.bel⟩
        · have d500 : decide ((500 : Int) < (xn : Int)) = false := decide_eq_false h500
          have hx500 : x.length ≤ 500 := by have := HX.out.2.2; omega
          have HA0 := Lib.hid (HI.out.2.app2 x hx500 (by omega))
          have hlall : all.length + x.length ≤ 70368744177664 := by have := HI.out.2.len; omega
          have HLL := Lib.hid hlall
          have HL5 := Lib.hid hx500
          clear hx500 hlall hxl
          rcases HA0.out with ⟨hA1, hA2⟩ | ⟨hA1, hA2⟩
          · skip
            have HA : Hid (errV (appS S txL x).1 = .nilIface ∧ MidS (appS S txL x).2 (all ++ x) syn k) := Lib.hid ⟨by rw [hA1]; rfl, hA2⟩
            clear hA1 hA2
            by_cases hkm : k < m
            · obtain ⟨b, hb⟩ : ∃ b, bs[k]? = some b := ⟨_, List.getElem?_eq_getElem (by have := H.out.2.2.1; omega)⟩
              obtain ⟨a1, rfl, hcb⟩ := H.out.2.2.2.1 k b hb
              have HCB := Lib.hid hcb
              clear hb hcb
              cases b with
              | false =>
                go_wp2_with (first
                  | (go_at_call 7; (refine (HI.out.1.appM txL (.slice B xn cx) x HI.out.2.fine (Nat.le_trans HL5.out (by decide)) HX.out.2.1).mono ?_); rintro e w7 ⟨rfl, h7⟩; rw [HA.out.1]; have H7 := Lib.hid h7; have hc7 : w7.cell? (a.add k) = some (.slice B xn cx) := cell_below H7.out.bel HX.out.1; clear h7; clear hcr)
                  | (at_builtin; obtain ⟨v8, w8, hrun, h8⟩ := H7.out.allM (.slice B xn cx) x HX.out.2.1 HLL.out 29; refine wpList_appB rfl (.tmp 46) (.tmp 50) 29 rfl va (.slice B xn cx) rfl rfl hrun ?_; have H8 := Lib.hid h8; clear h8 hrun; have hb1 : w8.cell? (a1.add k) = some (.bool false) := cell_below H8.out.bel HCB.out; clear hc7))
                go_roundw
                case rel => exact ⟨k + 1, by go_num, by omega, Lib.hid ⟨_, _, _, H8.out, HA.out.2.next⟩⟩
                case measure => simp [intOf]; omega
              | true =>
                rcases HA.out.2.syn (by omega) with ⟨hs1, hs2⟩ | ⟨hs1', hs2⟩
                · have HS : Hid (errV (synS (appS S txL x).2 txL).1 = .nilIface ∧ _) := Lib.hid ⟨by rw [hs1]; rfl, hs2⟩
                  clear hs1 hs2
                  go_wp2_with (first
                    | (go_at_call 7; (refine (HI.out.1.appM txL (.slice B xn cx) x HI.out.2.fine (Nat.le_trans HL5.out (by decide)) HX.out.2.1).mono ?_); rintro e w7 ⟨rfl, h7⟩; rw [HA.out.1]; have H7 := Lib.hid h7; have hc7 : w7.cell? (a.add k) = some (.slice B xn cx) := cell_below H7.out.bel HX.out.1; clear h7; clear hcr)
                    | (at_builtin; obtain ⟨v8, w8, hrun, h8⟩ := H7.out.allM (.slice B xn cx) x HX.out.2.1 HLL.out 29; refine wpList_appB rfl (.tmp 46) (.tmp 50) 29 rfl va (.slice B xn cx) rfl rfl hrun ?_; have H8 := Lib.hid h8; clear h8 hrun; have hb1 : w8.cell? (a1.add k) = some (.bool true) := cell_below H8.out.bel HCB.out; clear hc7)
                    | (go_at_call 11; (refine (H8.out.synM txL HA.out.2.fine (by decide)).mono ?_); rintro e w9 ⟨rfl, h9⟩; rw [HS.out.1]; have H9 := Lib.hid h9; clear h9)
                    | (go_at_call 15; (with_reducible refine (H9.out.copyM (Nat.le_trans HA.out.2.len (by omega))).mono ?_); rintro e w10 ⟨v10, rfl, h10⟩; have H10 := Lib.hid h10; clear h10))
                  go_roundw
                  case rel => exact ⟨k + 1, by go_num, by omega, Lib.hid ⟨_, _, _, H10.out, HS.out.2⟩⟩
                  case measure => simp [intOf]; omega
                · obtain ⟨cc, hcc⟩ : ∃ q, q = (synS (appS S txL x).2 txL).1 := ⟨_, rfl⟩
                  have hc0 : cc ≠ 0 := by omega
                  have HS : Hid (errV (synS (appS S txL x).2 txL).1 = .iface 50 (.int .i64 cc) ∧ _) := Lib.hid ⟨by rw [← hcc]; exact errV_pos cc hc0, hs2⟩
                  clear hcc hc0 hs1' hs2
                  go_wp2_with (first
                    | (go_at_call 7; (refine (HI.out.1.appM txL (.slice B xn cx) x HI.out.2.fine (Nat.le_trans HL5.out (by decide)) HX.out.2.1).mono ?_); rintro e w7 ⟨rfl, h7⟩; rw [HA.out.1]; have H7 := Lib.hid h7; have hc7 : w7.cell? (a.add k) = some (.slice B xn cx) := cell_below H7.out.bel HX.out.1; clear h7; clear hcr)
                    | (at_builtin; obtain ⟨v8, w8, hrun, h8⟩ := H7.out.allM (.slice B xn cx) x HX.out.2.1 HLL.out 29; refine wpList_appB rfl (.tmp 46) (.tmp 50) 29 rfl va (.slice B xn cx) rfl rfl hrun ?_; have H8 := Lib.hid h8; clear h8 hrun; have hb1 : w8.cell? (a1.add k) = some (.bool true) := cell_below H8.out.bel HCB.out; clear hc7)
                    | (go_at_call 11; (refine (H8.out.synM txL HA.out.2.fine (by decide)).mono ?_); rintro e w9 ⟨rfl, h9⟩; rw [HS.out.1]; have H9 := Lib.hid h9; clear h9))
                  go_roundw
                  case rel => exact ⟨k + 1, by go_num, by omega, Lib.hid ⟨_, _, _, H9.out, HS.out.2⟩⟩
                  case measure => simp [intOf]; omega
            · skip
              go_wp2_with (first
                | (go_at_call 7; (refine (HI.out.1.appM txL (.slice B xn cx) x HI.out.2.fine (Nat.le_trans HL5.out (by decide)) HX.out.2.1).mono ?_); rintro e w7 ⟨rfl, h7⟩; rw [HA.out.1]; have H7 := Lib.hid h7; have hc7 : w7.cell? (a.add k) = some (.slice B xn cx) := cell_below H7.out.bel HX.out.1; clear h7; clear hcr)
                | (at_builtin; obtain ⟨v8, w8, hrun, h8⟩ := H7.out.allM (.slice B xn cx) x HX.out.2.1 HLL.out 29; refine wpList_appB rfl (.tmp 46) (.tmp 50) 29 rfl va (.slice B xn cx) rfl rfl hrun ?_; have H8 := Lib.hid h8; clear h8 hrun; clear hc7))
              go_roundw
              case rel => exact ⟨k + 1, by go_num, by omega, Lib.hid ⟨_, _, _, H8.out, HA.out.2.next⟩⟩
              case measure => simp [intOf]; omega
          · skip
            have HA : Hid (errV (appS S txL x).1 = .iface 50 (.int .i64 30) ∧ MidS (appS S txL x).2 all syn k) := Lib.hid ⟨by rw [hA1]; rfl, hA2⟩
            clear hA1 hA2
            by_cases hkm : k < m
            · obtain ⟨b, hb⟩ : ∃ b, bs[k]? = some b := ⟨_, List.getElem?_eq_getElem (by have := H.out.2.2.1; omega)⟩
              obtain ⟨a1, rfl, hcb⟩ := H.out.2.2.2.1 k b hb
              have HCB := Lib.hid hcb
              clear hb hcb
              cases b with
              | false =>
                go_wp2_with (first
                  | (go_at_call 7; (refine (HI.out.1.appM txL (.slice B xn cx) x HI.out.2.fine (Nat.le_trans HL5.out (by decide)) HX.out.2.1).mono ?_); rintro e w7 ⟨rfl, h7⟩; rw [HA.out.1]; have H7 := Lib.hid h7; have hc7 : w7.cell? (a.add k) = some (.slice B xn cx) := cell_below H7.out.bel HX.out.1; clear h7; have hb1 : w7.cell? (a1.add k) = some (.bool false) := cell_below H7.out.bel HCB.out; clear hcr))
                go_roundw
                case rel => exact ⟨k + 1, by go_num, by omega, Lib.hid ⟨_, _, _, H7.out, HA.out.2.next⟩⟩
                case measure => simp [intOf]; omega
              | true =>
                rcases HA.out.2.syn (by omega) with ⟨hs1, hs2⟩ | ⟨hs1', hs2⟩
                · have HS : Hid (errV (synS (appS S txL x).2 txL).1 = .nilIface ∧ _) := Lib.hid ⟨by rw [hs1]; rfl, hs2⟩
                  clear hs1 hs2
                  go_wp2_with (first
                    | (go_at_call 7; (refine (HI.out.1.appM txL (.slice B xn cx) x HI.out.2.fine (Nat.le_trans HL5.out (by decide)) HX.out.2.1).mono ?_); rintro e w7 ⟨rfl, h7⟩; rw [HA.out.1]; have H7 := Lib.hid h7; have hc7 : w7.cell? (a.add k) = some (.slice B xn cx) := cell_below H7.out.bel HX.out.1; clear h7; have hb1 : w7.cell? (a1.add k) = some (.bool true) := cell_below H7.out.bel HCB.out; clear hcr)
                    | (go_at_call 11; (refine (H7.out.synM txL HA.out.2.fine (by decide)).mono ?_); rintro e w9 ⟨rfl, h9⟩; rw [HS.out.1]; have H9 := Lib.hid h9; clear h9)
                    | (go_at_call 15; (with_reducible refine (H9.out.copyM (Nat.le_trans HA.out.2.len (by omega))).mono ?_); rintro e w10 ⟨v10, rfl, h10⟩; have H10 := Lib.hid h10; clear h10))
                  go_roundw
                  case rel => exact ⟨k + 1, by go_num, by omega, Lib.hid ⟨_, _, _, H10.out, HS.out.2⟩⟩
                  case measure => simp [intOf]; omega
                · obtain ⟨cc, hcc⟩ : ∃ q, q = (synS (appS S txL x).2 txL).1 := ⟨_, rfl⟩
                  have hc0 : cc ≠ 0 := by omega
                  have HS : Hid (errV (synS (appS S txL x).2 txL).1 = .iface 50 (.int .i64 cc) ∧ _) := Lib.hid ⟨by rw [← hcc]; exact errV_pos cc hc0, hs2⟩
                  clear hcc hc0 hs1' hs2
                  go_wp2_with (first
                    | (go_at_call 7; (refine (HI.out.1.appM txL (.slice B xn cx) x HI.out.2.fine (Nat.le_trans HL5.out (by decide)) HX.out.2.1).mono ?_); rintro e w7 ⟨rfl, h7⟩; rw [HA.out.1]; have H7 := Lib.hid h7; have hc7 : w7.cell? (a.add k) = some (.slice B xn cx) := cell_below H7.out.bel HX.out.1; clear h7; have hb1 : w7.cell? (a1.add k) = some (.bool true) := cell_below H7.out.bel HCB.out; clear hcr)
                    | (go_at_call 11; (refine (H7.out.synM txL HA.out.2.fine (by decide)).mono ?_); rintro e w9 ⟨rfl, h9⟩; rw [HS.out.1]; have H9 := Lib.hid h9; clear h9))
                  go_roundw
                  case rel => exact ⟨k + 1, by go_num, by omega, Lib.hid ⟨_, _, _, H9.out, HS.out.2⟩⟩
                  case measure => simp [intOf]; omega
            · skip
              go_wp2_with (first
                | (go_at_call 7; (refine (HI.out.1.appM txL (.slice B xn cx) x HI.out.2.fine (Nat.le_trans HL5.out (by decide)) HX.out.2.1).mono ?_); rintro e w7 ⟨rfl, h7⟩; rw [HA.out.1]; have H7 := Lib.hid h7; have hc7 : w7.cell? (a.add k) = some (.slice B xn cx) := cell_below H7.out.bel HX.out.1; clear h7; clear hcr))
              go_roundw
              case rel => exact ⟨k + 1, by go_num, by omega, Lib.hid ⟨_, _, _, H7.out, HA.out.2.next⟩⟩
              case measure => simp [intOf]; omega
      · obtain rfl : k = n := by omega
        have hk100 : k ≤ 100 := by omega
        by_cases hf : S.file txL = none
        · have hall : all = [] ∧ S.count = 0 := by
            rcases HI.out.2.file with ⟨_, h1, _, h2⟩ | ⟨h1, _⟩
            · exact ⟨h1, h2⟩
            · rw [hf] at h1; cases h1
          have hr : errV (readNo S txL) = .iface 50 (.int .i64 10) := by unfold readNo; rw [hf]; rfl
          obtain ⟨A, c, hva, _⟩ := HI.out.1.forms.1
          rw [hall.1] at hva
          have hva' : va = .slice A 0 c := hva
          subst hva'
          have HQ := Lib.hid (And.intro hr (And.intro hall.2 HI.out))
          clear hva hr hall hf HI
          go_wp2_with (first
            | (go_at_call 16; refine (HQ.out.2.2.1.readM txL HQ.out.2.2.2.fine (by decide)).mono ?_; rintro e w7 ⟨v7, rfl, hB, h7, hb7⟩; rw [HQ.out.1]; have H7 := Lib.hid h7; clear hB h7 hb7)
            | (go_at_call 17; refine (H7.out.namesM HQ.out.2.2.2.fine HQ.out.2.1).mono ?_; rintro e w8 ⟨rfl, hb8⟩; have H8 := Lib.hid (H7.out.stepM hb8); clear hb8))
          go_ret
          exact ⟨by trivial, H8.out.bel⟩
        · have hfile : S.file txL = some ⟨all, syn.length⟩ := by
            rcases HI.out.2.file with ⟨h1, _⟩ | ⟨h1, _⟩
            · exact absurd h1 hf
            · exact h1
          have hr : errV (readNo S txL) = .nilIface := by unfold readNo; rw [hfile]; rfl
          have hg : (S.got txL).bytes = all := by unfold DevS.got; rw [hfile]; rfl
          have hlen : all.length ≤ 50000 := by have := HI.out.2.len; omega
          have HQ := Lib.hid (And.intro hr (And.intro hg (And.intro hf (And.intro hlen HI.out))))
          clear hr hg hf hfile hlen HI
          go_upto_region 24 with (first
            | (go_at_call 16; refine (HQ.out.2.2.2.2.1.readM txL HQ.out.2.2.2.2.2.fine (by decide)).mono ?_; rintro e w7 ⟨v7, rfl, hB, h7, hb7⟩; rw [HQ.out.1]; have H7 := Lib.hid (And.intro hB h7); clear hB h7 hb7)
            | (go_at_call 18; refine (sameBytes_calls H7.out.1.row H7.out.2.rows.1 (by rw [HQ.out.2.1]; exact Nat.le_trans HQ.out.2.2.2.1 (by decide)) (Nat.le_trans HQ.out.2.2.2.1 (by decide))).mono ?_; rintro e w8 ⟨rfl, hb8⟩; rw [HQ.out.2.1, decide_eq_true rfl]; have H8 := Lib.hid (H7.out.2.stepM hb8); clear hb8)
            | (go_at_call 8; refine (pick_calls z3 600 _ H.out.2.2.2.2.2.1 (by decide)).mono ?_; rintro e w9 ⟨⟨q, hq0, hq1, rfl⟩, hw9⟩; rw [hw9]; clear hw9))
          obtain ⟨n1, r1, r2, r3, r4, r5, r6, r7⟩ := HQ.out.2.2.2.2.2.rest hk100 HQ.out.2.2.1 q (by omega)
          have rr : errV (readNo (restS S q) txL) = .nilIface := by unfold readNo; rw [r5]; rfl
          have rg : ((restS S q).got txL).bytes = all.take n1 := by unfold DevS.got; rw [r5]; rfl
          have ra : errV (appS (restS S q) txL [1]).1 = .nilIface := by rw [r7]; rfl
          have hll : all.length ≤ 1000000 := Nat.le_trans HQ.out.2.2.2.1 (by decide)
          obtain ⟨⟨A, c, hva, hvc⟩, B, c2, hvs, hvc2⟩ := HQ.out.2.2.2.2.1.forms
          obtain ⟨al, hal⟩ : ∃ x, x = all.length := ⟨_, rfl⟩
          obtain ⟨sl, hsl⟩ : ∃ x, x = syn.length := ⟨_, rfl⟩
          have hln : (all.take n1).length = n1 := by rw [List.length_take]; omega
          rw [← hal] at hva hvc hll
          rw [← hsl] at hvs hvc2
          have s1 : sl ≤ al := by omega
          have s2 : n1 ≤ al := by omega
          have s3 : (n1 : Int) = min ((sl : Int) + q) al := by rw [r3, hsl, hal]
          have HZ := Lib.hid (And.intro rr (And.intro rg (And.intro ra (And.intro r4 (And.intro r6 (And.intro hal (And.intro hsl hln)))))))
          have HF := Lib.hid (And.intro hvc hvc2)
          subst hva hvs
          clear r1 r2 r3 r4 r5 r6 r7 rr rg ra hal hsl hln hvc hvc2
          have hpre : Hid (syn <+: all.take n1 ∧ all.take n1 <+: all) := Lib.hid ⟨HZ.out.2.2.2.2.1, List.take_prefix _ _⟩
          have d3 : ((n1 : Int) = min ((sl : Int) + q) (al : Int)) = True := eq_true s3
          have d4 : ((n1 : Int) == min ((sl : Int) + q) (al : Int)) = true := beq_iff_eq.2 s3
          clear s3
          go_upto_region 26 with (first
            | (go_at_call 19; refine (H8.out.restM q HQ.out.2.2.2.2.2.fine (by omega)).mono ?_; rintro e w10 ⟨rfl, h10⟩; have H10 := Lib.hid h10; clear h10)
            | (go_at_call 16; refine (H10.out.readM txL HZ.out.2.2.2.1 (by decide)).mono ?_; rintro e w11 ⟨v11, rfl, hB, h11, hb11⟩; rw [HZ.out.1]; have H11 := Lib.hid (And.intro hB h11); clear hB h11 hb11))
          obtain ⟨D, cd, hv11, hcd⟩ := H11.out.1.form
          rw [HZ.out.2.1, HZ.out.2.2.2.2.2.2.2] at hv11 hcd
          subst hv11
          have HB : Hid (RowB w11 (.slice D n1 cd) (all.take n1) ∧ n1 ≤ cd) := Lib.hid ⟨by have := H11.out.1.row; rwa [HZ.out.2.1] at this, hcd⟩
          clear hcd
          go_wp2_with (first
            | (go_at_call 20; (with_reducible refine (begins_calls (n := n1) HB.out.1 (by rw [HZ.out.2.2.2.2.2.2.2]; exact HB.out.2) H11.out.2.rows.2 hpre.out.1 (by rw [HZ.out.2.2.2.2.2.2.2]; omega)).mono ?_); rintro e w12 ⟨rfl, hb12⟩; have H12 := Lib.hid (And.intro (H11.out.2.stepM hb12) (HB.out.1.below hb12)); clear hb12)
            | (go_at_call 20; (with_reducible refine (begins_calls (n := al) H12.out.1.rows.1 (by rw [← HZ.out.2.2.2.2.2.1]; exact HF.out.1) H12.out.2 hpre.out.2 (by rw [← HZ.out.2.2.2.2.2.1]; omega)).mono ?_); rintro e w13 ⟨rfl, hb13⟩; have H13 := Lib.hid (H12.out.1.stepM hb13); clear hb13)
            | (go_at_call 7; refine (append_lit txL [1] H13.out.dev HZ.out.2.2.2.1 (by decide)).mono ?_; rintro e w14 ⟨rfl, h14⟩; rw [HZ.out.2.2.1]; have H14 := Lib.hid h14; clear h14))
          go_ret
          exact ⟨by trivial, H14.out.bel⟩
end Go.Proofs.Ytnmbkaccoaeijaa

/- Arguments opened: rows of bytes, bools. -/
namespace Go.Proofs.Ytnmbkaccoaeijaa
set_option maxRecDepth 100000
open Go.ChangeShapes Go.WideShapes Go.RowKit
section
variable {H : Type} {enc : TypeId × Value → H} {W : World} {base : Nat} {held : Bool}
theorem open_rowsD {v : Value} {d : DataW H} {ps : List MemPlace} (hok : ∃ a len cap, v = .slice a len cap) (hw : ∀ n ∈ d.weights Try.prog 38, n ≤ reachBytes) (h : DataW.Trod enc Try.prog W base (fun _ => true) held 38 v d ps) :
    ∃ A c l, v = .slice A l.length c ∧ RowsB W A l ∧ l.length ≤ 8796093022208 ∧ ∀ x ∈ l, x.length ≤ 9223372036854775807 := by
  obtain ⟨a0, len, cap, rfl⟩ := hok
  obtain ⟨fuel, hf⟩ := h
  rcases Deep.open_int_rows Try.underlying38 Try.underlying29 Try.underlying5 (by kernel_rfl) (by kernel_rfl) hf with ⟨hcs, hx⟩ | ⟨a, len', cap', A, L, C, Z, hcs, _, hl, hm, hx, hcell⟩
  · have e : Value.slice a0 len cap = .slice none 0 0 := by simpa [Value.cells] using hcs
    exact ⟨none, 0, [], by rw [e]; rfl, fun k s hk => by simp at hk, by simp, by simp⟩
  · have e : Value.slice a0 len cap = .slice (some a) len' cap' := by simpa [Value.cells] using hcs
    have z : len' * Try.prog.bytesOf 29 ≤ reachBytes := by
      have h1 := congrArg Prod.fst hx
      simp only at h1
      have h2 := hw (len' * Try.prog.bytesOf 29 + (cap' - len') * Try.prog.bytesOf 29) (by
        rw [h1]
        unfold DataW.weights
        rw [Try.underlying38]
        simp [Nat.add_mul])
      omega
    rw [show Try.prog.bytesOf 29 = 24 by kernel_rfl] at z
    unfold reachBytes at z
    have hZ : ∀ r, r < len' → ((Z r).take (L r)).length = L r := fun r hr => by
      obtain ⟨_, h1, h2, h3, _⟩ := hcell r (by omega)
      rw [List.length_take, h3]
      omega
    refine ⟨some a, cap', (List.range len').map fun r => (Z r).take (L r), by rw [e, List.length_map, List.length_range], fun k x hk => ?_, by rw [List.length_map, List.length_range]; omega, fun x hx => ?_⟩
    · have hk1 : k < len' := by
        have := (List.getElem?_eq_some_iff.1 hk).1
        simpa using this
      have hx1 : (Z k).take (L k) = x := by simpa [List.getElem?_range hk1] using hk
      obtain ⟨h1, h2, h3, h4, h5, h6, h7⟩ := hcell k (by omega)
      refine ⟨a, _, rfl, h1, ?_⟩
      rw [← hx1]
      cases hA : A k with
      | none =>
        have hc := h6 hA
        have hL : L k = 0 := by omega
        rw [hc, hL]
        exact Or.inl ⟨rfl, rfl⟩
      | some a' =>
        obtain ⟨h8, h9⟩ := h7 a' hA
        have hcells : ∀ (j : Nat) (u : Value), (((Z k).take (L k)).map bc)[j]? = some u → W.cell? (a'.add j) = some u := fun j u hu => by
          have hj : j < L k := by
            have := (List.getElem?_eq_some_iff.1 hu).1
            rw [List.length_map, hZ k hk1] at this
            exact this
          have hjz : j < (Z k).length := by omega
          rw [h9 j (by omega)]
          have hu2 : bc ((Z k)[j]'hjz) = u := by
            rw [List.getElem?_map, List.getElem?_take, if_pos hj, List.getElem?_eq_getElem hjz] at hu
            exact Option.some.inj hu
          rw [← hu2, List.getD_eq_getElem?_getD, List.getElem?_eq_getElem hjz]
          rfl
        refine Or.inr ⟨a', C k, by rw [hZ k hk1], fun hp => ?_, hcells⟩
        have h0 : 0 < (((Z k).take (L k)).map bc).length := by rw [List.length_map]; exact hp
        have := World.block_lt_of_cell? W _ (hcells 0 _ (List.getElem?_eq_getElem h0))
        rwa [add_block] at this
    · obtain ⟨r, hr, rfl⟩ := List.mem_map.1 hx
      have hr1 := List.mem_range.1 hr
      obtain ⟨_, h1, h2, _⟩ := hcell r (by omega)
      rw [hZ r hr1]
      unfold maxLen at h2
      omega
theorem open_boolsD {v : Value} {d : DataW H} {ps : List MemPlace} (hok : ∃ a len cap, v = .slice a len cap) (hw : ∀ n ∈ d.weights Try.prog 39, n ≤ reachBytes) (h : DataW.Trod enc Try.prog W base (fun _ => true) held 39 v d ps) :
    ∃ A c l, v = .slice A l.length c ∧ BoolsB W A l ∧ l.length ≤ 9007199254740992 := by
  obtain ⟨a0, len, cap, rfl⟩ := hok
  obtain ⟨fuel, hf⟩ := h
  rcases Deep.open_bools Try.underlying39 Try.underlying4 (by kernel_rfl) hf with ⟨hcs, hx⟩ | ⟨a, len', cap', B, hcs, _, hl, hm, hx, hcell⟩
  · have e : Value.slice a0 len cap = .slice none 0 0 := by simpa [Value.cells] using hcs
    exact ⟨none, 0, [], by rw [e]; rfl, fun k s hk => by simp at hk, by simp⟩
  · have e : Value.slice a0 len cap = .slice (some a) len' cap' := by simpa [Value.cells] using hcs
    have z : len' * Try.prog.bytesOf 4 ≤ reachBytes := by
      have h1 := congrArg Prod.fst hx
      simp only at h1
      have h2 := hw (len' * Try.prog.bytesOf 4 + (cap' - len') * Try.prog.bytesOf 4) (by
        rw [h1]
        unfold DataW.weights Deep.boolRow
        rw [Try.underlying39]
        simp [Nat.add_mul])
      omega
    rw [show Try.prog.bytesOf 4 = 1 by kernel_rfl] at z
    unfold reachBytes at z
    refine ⟨some a, cap', (List.range len').map B, by rw [e, List.length_map, List.length_range], fun k b hk => ?_, by rw [List.length_map, List.length_range]; omega⟩
    have hk1 : k < len' := by
      have := (List.getElem?_eq_some_iff.1 hk).1
      simpa using this
    have hb : B k = b := by simpa [List.getElem?_range hk1] using hk
    exact ⟨a, rfl, by rw [hcell k (by omega), hb]⟩
end
end Go.Proofs.Ytnmbkaccoaeijaa
